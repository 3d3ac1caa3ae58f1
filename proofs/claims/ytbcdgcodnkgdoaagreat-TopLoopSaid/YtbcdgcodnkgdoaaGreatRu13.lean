/- The runner for closed calls: an ordered statement. Conditions: none. -/
import Derived.Test.YtbcdgcodnkgdoaaGreatRu12
set_option linter.unusedVariables false
set_option linter.unusedSimpArgs false
set_option maxRecDepth 10000
namespace Go.Proofs.YtbcdgcodnkgdoaaGreat.Run
open Go Go.RowKit

theorem kindOp_le (op : Op) : kindOp op ≤ 5 := by
  cases op <;> simp [kindOp]
  · simp only [kindCv]; split <;> simp
  · rename_i c
    obtain ⟨cl, args, ats⟩ := c
    cases cl with
    | value f => simp [kindC]
    | invoke r m => simp [kindC]
    | builtin bt => simp only [kindC]; cases bt <;> simp [kindB]
theorem putD_ok {N : Nat} {fr fr' : T V} {d : Option Nat} {v : V} (e : putD N fr d v = .ok fr') : (d = none ∧ fr' = fr) ∨ ∃ k, d = some k ∧ k < N ∧ fr' = fset N fr k v := by
  cases d with
  | none => exact .inl ⟨rfl, (R.ok.inj e).symm⟩
  | some k =>
    obtain ⟨h1, h2⟩ := when_ok e
    exact .inr ⟨k, rfl, blt_lt h1, (R.ok.inj h2).symm⟩
theorem FrR.putD {σ : Sg} {N : Nat} {fr fr' : T V} {a : Act} {d : Option Nat} {v : V} {x : Value} (h : FrR σ N fr a.tmps) (e : Run.putD N fr d v = .ok fr') (hv : den σ v = some x) : FrR σ N fr' (a.put d x).tmps := by
  rcases putD_ok e with ⟨rfl, rfl⟩ | ⟨k, rfl, hk, rfl⟩
  · exact h
  · exact h.put hk hv
theorem put_defers (a : Act) (d : Option Nat) (x : Value) : (a.put d x).defers = a.defers := by cases d <;> rfl
def At (σ : Sg) (N : Nat) (fr : T V) (tmps : Array Value) (k : Nat) : Prop := ∀ v, fget N fr k = some v → ∃ x, den σ v = some x ∧ tmps[k]? = some x
theorem wants_ok {σ : Sg} {N : Nat} {fr : T V} {tmps : Array Value} {ops : List Oper} {o : Oper} {b : Bool} (h : wants N fr (guardOf ops o) = some b) (ha : ∀ k j, guardOf ops o = some (some k, j) → At σ N fr tmps k) : Region.wanted o (yielded ops.toArray tmps) = b := by
  unfold guardOf at h ha
  unfold Region.wanted
  split at h
  · rename_i hg
    rw [hg]
    exact Option.some.inj h
  · rename_i j wn hg
    rw [hg] at ha ⊢
    simp only at ha ⊢
    cases ho : ops[j]? with
    | none => rw [ho] at h; cases h
    | some o' =>
      rw [ho] at h ha
      simp only at h ha
      cases hd : o'.dst with
      | none => rw [hd] at h; cases h
      | some d =>
        rw [hd] at h ha
        have ha' := ha d wn rfl
        unfold wants at h
        simp only at h
        cases hf : fget N fr d with
        | none => rw [hf] at h; cases h
        | some v =>
          rw [hf] at h
          obtain ⟨x, h1, h2⟩ := ha' v hf
          have hy : yielded ops.toArray tmps j = (match x with | .bool b => some b | _ => none) := by
            unfold yielded
            simp only [List.getElem?_toArray, ho, Option.bind_some, hd, h2]
            cases x <;> rfl
          rw [hy]
          cases v with
          | b c =>
            obtain rfl := den_b h1
            obtain rfl := Option.some.inj h
            cases c <;> cases wn <;> rfl
          | t l =>
            obtain ⟨a, _, rfl⟩ := den_t h1
            obtain rfl := Option.some.inj h
            cases wn <;> rfl
          | _ => cases h
theorem stepO_ok {cf : CF} {rc : RC} {rnd : Bool} {N : Nat} {g : Option (Option Nat × Bool)} {d : Option Nat} {op : Op} {x : X} {q : VX} (e : stepO cf rc rnd N g d op x = .ok q) :
    (wants N x.fr g = some false ∧ putD N x.fr d (.t []) = .ok q.x.fr ∧ q.v = .t [] ∧ q.x.h = x.h ∧ q.x.ds = x.ds) ∨
    (wants N x.fr g = some true ∧ ∃ p : AD, opS cf rc rnd N x.fr x.h x.ds op = .ok p ∧ putD N x.fr d p.v = .ok q.x.fr ∧ q.v = p.v ∧ q.x.h = p.h ∧ q.x.ds = p.ds) := by
  obtain ⟨fr, h, ds⟩ := x
  have e0 : stepO cf rc rnd N g d op ⟨fr, h, ds⟩ = Option.rec (motive := fun _ => R VX) (.er [152]) (fun b => Bool.rec (motive := fun _ => R VX) (stepA N fr d (.ok ⟨.t [], h, ds⟩)) (stepA N fr d (opS cf rc rnd N fr h ds op)) b) (wants N fr g) := rfl
  rw [e0] at e
  cases hw : wants N fr g with
  | none => rw [hw] at e; cases e
  | some b =>
    rw [hw] at e
    cases b with
    | false =>
      obtain ⟨p, e1, e2⟩ := bind_ok (show (R.ok (⟨.t [], h, ds⟩ : AD)).bind _ = .ok q from e)
      obtain rfl := R.ok.inj e1
      obtain ⟨fr', e3, e4⟩ := bind_ok (show (putD N fr d (.t [])).bind _ = .ok q from e2)
      obtain rfl := R.ok.inj e4
      exact .inl ⟨rfl, e3, rfl, rfl, rfl⟩
    | true =>
      obtain ⟨p, e1, e2⟩ := bind_ok (show (opS cf rc rnd N fr h ds op).bind _ = .ok q from e)
      obtain ⟨v, h', ds'⟩ := p
      obtain ⟨fr', e3, e4⟩ := bind_ok (show (putD N fr d v).bind _ = .ok q from e2)
      obtain rfl := R.ok.inj e4
      exact .inr ⟨rfl, _, e1, e3, rfl, rfl, rfl⟩
theorem exO_ok {w0 : World} {r : Option Nat} {rnd : Bool} {N : Nat} {cf : CF} {rc : RC} (hr : rnd = r.isSome) (hcf : CFok w0 cf) (hrc : RCok w0 rc) {ops : List Oper} : ∀ {l : List Oper} {acc : List Nat} {x q : X}, exO cf rc rnd N (dig ops l acc) x = .ok q →
    ∀ (n : Nat) (σ : Sg) (a : Act) (w : World) (Q : Exit → Act → World → Prop), FrR σ N x.fr a.tmps → DsR σ x.ds a.defers → Den w0 σ x.h w →
    (∀ σ' a' w', σ.le σ' → FrR σ' N q.fr a'.tmps → DsR σ' q.ds a'.defers → Den w0 σ' q.h w' → Q .normal a' w') → wpListIn (FW r) n PG ops.toArray Q l a w := by
  intro l
  induction l with
  | nil =>
    intro acc x q e n σ a w Q hf hd H k
    obtain rfl := R.ok.inj (show R.ok x = .ok q from e)
    exact k σ a w (Sg.le.refl σ) hf hd H
  | cons o l ih =>
    intro acc x q e n σ a w Q hf hd H k
    have e0 : exO cf rc rnd N (dig ops (o :: l) acc) x = (R.tag (match o.dst with | some d => 1000 + d | none => 999) (stepO cf rc rnd N (guardOf ops o) o.dst o.op x)).bind fun q => VX.rec (motive := fun _ => R X) (fun _ x => exO cf rc rnd N (dig ops l (acc ++ [maskOf acc o])) x) q := rfl
    rw [e0] at e
    obtain ⟨p, e1, e2⟩ := bind_ok e
    obtain ⟨pv, px⟩ := p
    replace e1 := tag_ok e1
    unfold wpListIn
    rcases stepO_ok e1 with ⟨h1, h2, h3, h4, h5⟩ | ⟨h1, p, h2, h3, h4, h5, h6⟩
    · rw [if_neg (by rw [wants_ok h1 (fun k _ _ => hf.at_ k)]; simp)]
      refine ⟨fun f _ => fw_fn r f, ?_⟩
      simp only at h2 h3 h4 h5
      refine ih e2 n σ _ w Q (hf.putD h2 den_undef) ?_ (by rw [h4]; exact H) k
      rw [put_defers, h5]; exact hd
    · rw [if_pos (by rw [wants_ok h1 (fun k _ _ => hf.at_ k)])]
      simp only at h3 h4 h5 h6
      obtain ⟨dst, op, ty, pos, af, g⟩ := o
      refine opS_ok hr hcf hrc (kindOp_le _) h2 n σ a w _ Q dst ty pos af g (hf.ev _) hd H ?_
      intro σ' y w' dd le hy hdd H'
      refine ih e2 n σ' _ w' Q ?_ ?_ (by rw [h5]; exact H') (fun σ2 a2 w2 le2 => k σ2 a2 w2 (le.trans le2))
      · exact FrR.putD (a := { a with defers := dd }) (hf.mono le) h3 hy
      · rw [put_defers, h6]; exact hdd
end Go.Proofs.YtbcdgcodnkgdoaaGreat.Run
