/- The runner for closed calls: states cut down, and their names told anew. Conditions: none. -/
import Derived.Test.YtbcdgcodnkgdoaaGreatRu20
set_option linter.unusedVariables false
set_option linter.unusedSimpArgs false
set_option maxRecDepth 10000
namespace Go.Proofs.YtbcdgcodnkgdoaaGreat.Run
open Go Go.RowKit

noncomputable def ix (m : Nat) (l : List Nat) : Nat := List.rec (motive := fun _ => Nat) 0 (fun a _ ih => Bool.rec (motive := fun _ => Nat) (Nat.succ ih) 0 (Nat.beq a m)) l
theorem ix_ok {m : Nat} : ∀ {l : List Nat}, ix m l < l.length → l.getD (ix m l) 0 = m := by
  intro l
  induction l with
  | nil => intro h; simp at h
  | cons a l ih =>
    intro h
    have e0 : ix m (a :: l) = Bool.rec (motive := fun _ => Nat) (Nat.succ (ix m l)) 0 (Nat.beq a m) := rfl
    rw [e0] at h ⊢
    cases hb : Nat.beq a m with
    | true => simp; exact Nat.eq_of_beq_eq_true hb
    | false =>
      rw [hb] at h
      simp only [List.length_cons] at h
      have := ih (by simpa using h)
      simpa using this
noncomputable def dn (ρ : List Nat) (v : V) : V := match v with
  | .p m o => .p (ix m ρ) o
  | .l m f o n => .l (ix m ρ) f o n
  | v => v
def pl (n : Nat) : V → Bool
  | .b _ => true
  | .i _ _ => true
  | .p0 => true
  | .l0 => true
  | .i0 => true
  | .p m _ => Nat.blt m n
  | .l m _ _ _ => Nat.blt m n
  | _ => false
def plB (n : Nat) : B → Bool
  | .cells c _ => c.all (pl n)
  | .buf c _ => c.all (pl n)
  | _ => false
noncomputable def dnB (ρ : List Nat) (b : B) : B := match b with
  | .cells c t => .cells (c.map (dn ρ)) t
  | .buf c t => .buf (c.map (dn ρ)) t
  | b => b
def sg (σ : Sg) (ρ : List Nat) : Sg := fun k => if k < ρ.length then σ (ρ.getD k 0) else none
theorem dn_den {σ : Sg} {ρ : List Nat} {v : V} {x : Value} (h : den σ v = some x) (hp : pl ρ.length (dn ρ v) = true) : den (sg σ ρ) (dn ρ v) = some x := by
  unfold dn at hp ⊢
  split at hp
  · rename_i m o
    have hl := blt_lt hp
    rw [den] at h ⊢
    unfold sg
    rw [if_pos hl, ix_ok hl]
    exact h
  · rename_i m f o n
    have hl := blt_lt hp
    rw [den] at h ⊢
    unfold sg
    rw [if_pos hl, ix_ok hl]
    exact h
  · cases v <;> first | (cases hp; done) | (rw [den] at h ⊢; exact h) | (rename_i hh _; exact (hh _ _ rfl).elim) | (rename_i hh; exact (hh _ _ _ _ rfl).elim)
theorem dn_denL {σ : Sg} {ρ : List Nat} : ∀ {l : List V} {xs : List Value}, denL σ l = some xs → ((l.map (dn ρ)).all (pl ρ.length)) = true → denL (sg σ ρ) (l.map (dn ρ)) = some xs := by
  intro l
  induction l with
  | nil => intro xs h _; exact h
  | cons v l ih =>
    intro xs h hp
    obtain ⟨x, b, h1, h2, rfl⟩ := denL_cons.1 h
    simp only [List.map_cons, List.all_cons, Bool.and_eq_true] at hp
    exact denL_cons.2 ⟨x, b, dn_den h1 hp.1, ih h2 hp.2, rfl⟩
theorem dn_obj {σ : Sg} {ρ : List Nat} {b : B} {q : Nat × Nat} {o : Obj} (h : obj σ b q o) (hp : plB ρ.length (dnB ρ b) = true) : obj (sg σ ρ) (dnB ρ b) q o := by
  cases b with
  | cells c t =>
    obtain ⟨c', fz, h1, h2, h3, h4⟩ := h
    exact ⟨c', fz, dn_denL h1 hp, h2, h3, by simpa using h4⟩
  | buf c t =>
    obtain ⟨c', rest, fz, sz, h0, h1, h2⟩ := h
    exact ⟨c', rest, fz, sz, h0, dn_denL h1 hp, h2⟩
  | _ => cases hp
def nodupN : List Nat → Bool
  | [] => true
  | a :: l => l.all (fun b => !(Nat.beq a b)) && nodupN l
theorem nodupN_ok : ∀ {l : List Nat} {i j : Nat}, nodupN l = true → i < l.length → j < l.length → l.getD i 0 = l.getD j 0 → i = j := by
  intro l
  induction l with
  | nil => intro i j _ h; simp at h
  | cons a l ih =>
    intro i j h hi hj e
    unfold nodupN at h
    simp only [Bool.and_eq_true, List.all_eq_true] at h
    have key : ∀ k, k < l.length → a = l.getD k 0 → False := fun k hk e => by
      have := h.1 (l.getD k 0) (by rw [List.getD_eq_getElem?_getD, List.getElem?_eq_getElem hk]; exact List.getElem_mem hk)
      rw [← e, Nat.beq_refl] at this
      cases this
    cases i with
    | zero => cases j with
      | zero => rfl
      | succ j => exact (key j (by simpa using hj) (by simpa using e)).elim
    | succ i => cases j with
      | zero => exact (key i (by simpa using hi) (by simpa using e.symm)).elim
      | succ j => exact congrArg Nat.succ (ih h.2 (Nat.lt_of_succ_lt_succ hi) (Nat.lt_of_succ_lt_succ hj) (by simpa using e))
inductive Nm where
  | old (k : Nat)
  | at_ (t : Nat)
noncomputable def nmOf (N : Nat) (fr : T V) : Nm → Nat
  | .old k => k
  | .at_ t => match fget N fr t with
    | some (.l m _ _ _) => m
    | some (.p m _) => m
    | _ => 0
structure Pk where
  e : Xt
  fr : List (Option V)
  hp : List (Option B)
  ds : List Df
  nd : Bool
noncomputable def mo {α β : Type} (f : α → β) (o : Option α) : Option β := match o with
  | some x => some (f x)
  | none => none
noncomputable def prk (N : Nat) (ns : List Nm) (fs hs : List Nat) (r : R (Xt × X)) : Option Pk := match r with
  | .ok (e, x) => some ⟨e, fs.map (fun k => mo (dn (ns.map (nmOf N x.fr))) (fget N x.fr k)), hs.map (fun k => mo (dnB (ns.map (nmOf N x.fr))) (x.h.get ((ns.map (nmOf N x.fr)).getD k 0))), x.ds, nodupN (ns.map (nmOf N x.fr))⟩
  | .er _ => none
structure Goes2 (cf : CF) (fuel N : Nat) (fn : FuncId) (c : Code) (ns : List Nm) (a : Ck) (e : Xt) (b : Ck) : Prop where
  run : prk N ns (b.fr.map (·.1)) (b.hp.map (·.1)) (exC cf fuel false N fn c (a.x N)) = some ⟨e, b.fr.map (some ·.2), b.hp.map (some ·.2), [], true⟩
  low : (b.fr.all fun p => Nat.blt p.1 N && pl b.n p.2) = true
  hp : (b.hp.all fun p => Nat.blt p.1 b.n && plB b.n p.2) = true
  n : ns.length = b.n
/-- What a piece of code does, from a state kept to a state kept. -/
def Thru (w0 : World) (N : Nat) (c : Code) (a : Ck) (e : Xt) (b : Ck) : Prop := ∀ (n : Nat) (σ : Sg) (ac : Act) (w : World) (Q : Exit → Act → World → Prop), FrR σ N (a.x N).fr ac.tmps → ac.defers = [] → Den w0 σ (a.x N).h w →
  (∀ σ' a' w', FrR σ' N (b.x N).fr a'.tmps → a'.defers = [] → Den w0 σ' (b.x N).h w' → Q (xt e) a' w') → c.wpIn (FW none) n PG Q ac w
theorem DsR.nil {σ : Sg} {dd : List Deferred} (h : DsR σ [] dd) : dd = [] := by
  cases dd with
  | nil => rfl
  | cons d r => exact h.elim
theorem thru_of {w0 : World} {N : Nat} {c : Code} {a b : Ck} {e : Xt} (h : CodeOk w0 none N c (a.x N) (e, b.x N)) : Thru w0 N c a e b := fun n σ ac w Q hf hd H k =>
  h n σ ac w Q hf (by rw [hd]; trivial) H fun σ' a' w' _ hf' hd' H' => k σ' a' w' hf' hd'.nil H'
theorem Thru.seq {w0 : World} {N : Nat} {c d : Code} {a b b' : Ck} {e : Xt} (h1 : Thru w0 N c a .nrm b) (h2 : Thru w0 N d b e b') : Thru w0 N (.seq c d) a e b' := fun n σ ac w Q hf hd H k =>
  wpIn_seq (h1 n σ ac w _ hf hd H fun σ1 a1 w1 hf1 hd1 H1 => h2 n σ1 a1 w1 Q hf1 hd1 H1 k)
theorem mo_some {α β : Type} {f : α → β} {o : Option α} {y : β} (h : mo f o = some y) : ∃ x, o = some x ∧ f x = y := by
  cases o with
  | none => cases h
  | some x => exact ⟨x, rfl, Option.some.inj h⟩
theorem map_mem2 {β : Type} {f : Nat → Option β} {l : List (Nat × β)} (h : (l.map (·.1)).map f = l.map (some ·.2)) {k : Nat} {b : β} (hm : (k, b) ∈ l) : f k = some b := map_mem (α := Unit) h hm
theorem thru2 {w0 : World} {cf : CF} (hcf : CFok w0 cf) {fuel N : Nat} {fn : FuncId} {c : Code} {ns : List Nm} {a b : Ck} {e : Xt} (h : Goes2 cf fuel N fn c ns a e b) : Thru w0 N c a e b := by
  obtain ⟨h, hl, hh, hn⟩ := h
  cases hr : exC cf fuel false N fn c (a.x N) with
  | er l => rw [hr] at h; cases h
  | ok q =>
    obtain ⟨e', x⟩ := q
    rw [hr] at h
    simp only [prk, Option.some.injEq, Pk.mk.injEq] at h
    obtain ⟨rfl, h1, h2, h3, h4⟩ := h
    intro n σ ac w Q hf hd H k
    refine exC_ok hcf fuel (r := none) rfl hr n σ ac w Q hf (by rw [hd]; trivial) H fun σ' a' w' le hf' hd' H' => ?_
    simp only at hf' hd' H'
    rw [h3] at hd'
    have hlen : (ns.map (nmOf N x.fr)).length = b.n := by rw [List.length_map, hn]
    generalize (ns.map (nmOf N x.fr)) = ρ at h1 h2 h4 hlen
    simp only [List.all_eq_true, Bool.and_eq_true] at hl hh
    have hget : ∀ j bj, (⟨ckT b.hp, b.n⟩ : Hp).get j = some bj → j < ρ.length ∧ ∃ ob, x.h.get (ρ.getD j 0) = some ob ∧ dnB ρ ob = bj ∧ plB ρ.length bj = true := fun j bj hj => by
      have hm := ckT_get hj
      have g1 := hh _ hm
      obtain ⟨ob, g2, g3⟩ := mo_some (map_mem2 h2 hm)
      exact ⟨by rw [hlen]; exact blt_lt g1.1, ob, g2, g3, by rw [hlen]; exact g1.2⟩
    have hsg : ∀ j, j < ρ.length → sg σ' ρ j = σ' (ρ.getD j 0) := fun j hj => by unfold sg; rw [if_pos hj]
    refine k (sg σ' ρ) a' w' ⟨hf'.size, fun t v hv => ?_⟩ hd'.nil ⟨⟨H'.g.kp, fun j q hj => ?_, fun j bj hj => ?_, fun i j bi bj q r hi hj hq hr e => ?_⟩, fun j hj => ?_⟩
    · have hm := ckF_get (N := N) (l := b.fr) (by simp only [List.all_eq_true]; exact fun p hp => (hl p hp).1) hv
      obtain ⟨u, g1, rfl⟩ := mo_some (map_mem2 h1 hm)
      obtain ⟨y, g2, g3⟩ := hf'.at_ t u g1
      exact ⟨y, dn_den g2 (by rw [hlen]; exact (hl _ hm).2), g3⟩
    · unfold sg at hj
      split at hj
      · exact H'.g.low _ q hj
      · cases hj
    · obtain ⟨g0, ob, g1, rfl, g3⟩ := hget j bj hj
      obtain ⟨q, o, k1, k2, k3⟩ := H'.g.obj _ _ g1
      exact ⟨q, o, by rw [hsg j g0]; exact k1, k2, dn_obj k3 g3⟩
    · obtain ⟨gi, oi, i1, _, _⟩ := hget i bi hi
      obtain ⟨gj, oj, j1, _, _⟩ := hget j bj hj
      rw [hsg i gi] at hq
      rw [hsg j gj] at hr
      exact nodupN_ok h4 gi gj (H'.g.inj _ _ _ _ q r i1 j1 hq hr e)
    · unfold sg
      rw [if_neg (by rw [hlen]; exact Nat.not_lt.2 hj)]
end Go.Proofs.YtbcdgcodnkgdoaaGreat.Run
