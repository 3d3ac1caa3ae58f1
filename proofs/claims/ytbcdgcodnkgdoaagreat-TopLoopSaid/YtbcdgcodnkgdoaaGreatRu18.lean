/- The runner for closed calls: code. Conditions: none. -/
import Derived.Test.YtbcdgcodnkgdoaaGreatRu17
set_option linter.unusedVariables false
set_option linter.unusedSimpArgs false
set_option maxRecDepth 10000
namespace Go.Proofs.YtbcdgcodnkgdoaaGreat.Run
open Go Go.RowKit

/-- A block of one's own is turned, and its name is dropped. -/
theorem DenG.gone {w0 w w' : World} {σ : Sg} {g g' : Nat → Option B} {k : Nat} {b : B} {q : Nat × Nat} {o : Obj} (H : DenG w0 σ g w) (hk : g k = some b) (hq : σ k = some q) (ht : Turns w w' q.1 o)
    (hg : ∀ j c, g' j = some c → j ≠ k ∧ g j = some c) : DenG w0 σ g' w' := by
  have hlow := H.low k q hq
  refine ⟨⟨ht.os.trans H.kp.os, ht.tape.trans H.kp.tape, ht.output.trans H.kp.output, by rw [ht.size]; exact H.kp.size, fun i hi hn => by rw [ht.block i (by omega)]; exact H.kp.block i hi hn⟩, fun j r hr => by rw [ht.size]; exact H.low j r hr, fun j c hj => ?_, fun i j a c r s hi hj hr hs e => ?_⟩
  · obtain ⟨hne, hj⟩ := hg j c hj
    obtain ⟨r, o', h1, h2, h3⟩ := H.obj j c hj
    refine ⟨r, o', h1, ?_, h3⟩
    rw [ht.block r.1 (fun e => hne (H.inj j k c b r q hj hk h1 hq e))]
    exact h2
  · exact H.inj i j a c r s (hg i a hi).2 (hg j c hj).2 hr hs e
theorem Den.gone {w0 w w' : World} {σ : Sg} {h : Hp} {k : Nat} {b : B} {q : Nat × Nat} {o : Obj} (H : Den w0 σ h w) (hk : h.get k = some b) (hq : σ k = some q) (ht : Turns w w' q.1 o) : Den w0 σ (h.del k) w' :=
  ⟨H.g.gone hk hq ht (fun _ _ => Hp.get_del), H.up⟩
theorem mixed : PG.follows .mixedOrders = true := by kernel_rfl
theorem drew_eq (w : World) : { w with drawn := w.drawn + 1 } = w.drew := rfl
theorem xt_then {K : Act → World → Prop} {Q : Exit → Act → World → Prop} {e : Xt} {a : Act} {w : World} (he : e ≠ .nrm) (h : Q (xt e) a w) : Exit.then K Q (xt e) a w := by
  cases e with
  | nrm => exact absurd rfl he
  | ret => exact h
  | exi j => exact h
section
variable {w0 : World} {cf : CF}
/-- A statement. -/
theorem reg_ok {rc : RC} {rnd : Bool} {r : Option Nat} {N : Nat} (hr : rnd = r.isSome) (hcf : CFok w0 cf) (hrc : RCok w0 rc) {id : Nat} {ops : Array Oper} {dr : Bool} {x : X} {q : Xt × X} (e : cReg cf rc rnd N (dig ops.toList ops.toList []) dr x = .ok q) : CodeOk w0 r N (.region id ops dr) x q := by
  intro n σ a w Q hf hd H k
  cases dr with
  | false =>
    obtain ⟨x', e1, e2⟩ := bind_ok (show (exO cf rc rnd N (dig ops.toList ops.toList []) x).bind _ = .ok q from e)
    obtain rfl := R.ok.inj e2
    exact wpIn_region_list (exO_ok hr hcf hrc e1 n σ a w Q hf hd H k)
  | true =>
    obtain ⟨e0, e3⟩ := when_ok (show R.when 164 _ _ = .ok q from e)
    obtain ⟨s, e1, e2⟩ := bind_ok e3
    obtain rfl := R.ok.inj e2
    refine wpIn_region_any mixed ?_
    rw [drew_eq]
    have := exA_ok hr hcf hrc e0 e1 n σ a w.drew Q hf hd H.drew k
    simpa using this
/-- A range over a function. -/
theorem range_ok {rnd : Bool} {r : Option Nat} {N : Nat} (hr : rnd = r.isSome) (hcf : CFok w0 cf) {fn : FuncId} {f : Operand} {ps : Array Tmp} {asg body : Code} {x : X} {q : Xt × X} (e : cRange cf rnd N fn (xe N x.fr f) ps asg body x = .ok q) : CodeOk w0 r N (.rangeFunc f ps asg body) x q := by
  intro n σ a w Q hf hd H k
  unfold cRange at e
  split at e
  · rename_i g pre caps hfv
    cases r with
    | some l => cases hr
    | none =>
    obtain ⟨p, e1, e2⟩ := bind_ok e
    unfold cRange2 at e2
    split at e2
    · rename_i fr' N' ps' asg' body' fn' d' hg
      obtain rfl := R.ok.inj e2
      obtain ⟨h1, h2⟩ := hcf _ _ _ _ e1
      have hev := hf.ev #[f] f (by simp) _ hfv
      obtain ⟨pa, ca, h3, h4, h5⟩ := den_f hev
      refine wpIn_rangeFunc fun fnm hfn => ?_
      -- the two blocks
      obtain ⟨le1, H1⟩ := H.new (b := .dfr) (o := .deferred (some [])) (cap := 0) rfl
      have hs1 : σ.add x.h.n (w.heap.size, 0) x.h.n = some (w.heap.size, 0) := Sg.add_self _ _ _
      obtain ⟨le2, H2⟩ := H1.new (b := .loop true x.fr N ps.toList asg body fn x.h.n) (cap := 0) (o := .loop { state := .ready, pending := none, fn := fnm, tmps := a.tmps, params := ps, assign := asg, body := body, defers := w.heap.size })
        ⟨a.tmps, (w.heap.size, 0), fnm, hf.mono (le1.trans (Sg.le_add (H1.up _ (Nat.le_refl _)))), (Sg.le_add (H1.up _ (Nat.le_refl _))) _ _ hs1, by simp⟩
      have hsz : (w.alloc (.deferred (some []))).heap.size = w.heap.size + 1 := heap_alloc_size _ _
      rw [hsz] at le2 H2
      have hn1 : (x.h.new .dfr).n = x.h.n + 1 := rfl
      rw [hn1] at le2 H2
      generalize hσ2 : (σ.add x.h.n (w.heap.size, 0)).add (x.h.n + 1) (w.heap.size + 1, 0) = σ2 at le2 H2
      have hy : σ2 (x.h.n + 1) = some (w.heap.size + 1, 0) := by rw [← hσ2]; exact Sg.add_self _ _ _
      have hm : σ2 x.h.n = some (w.heap.size, 0) := le2 _ _ hs1
      have hden : denL σ2 (pre ++ [.y (Nat.succ x.h.n)] ++ caps) = some (pa ++ [Value.func (.yield (w.heap.size + 1)) #[] #[]] ++ ca) := by
        refine denL_append (denL_append (denL_mono (le1.trans le2) _ _ h3) ?_) (denL_mono (le1.trans le2) _ _ h4)
        refine denL_cons.2 ⟨_, [], ?_, denL_nil, rfl⟩
        rw [den, hy]
      have hent := run_enterLoop_outer (P := PG) (w := w) fnm a.tmps ps asg body
      generalize ((w.alloc (.deferred (some []))).alloc (.loop { state := .ready, pending := none, fn := fnm, tmps := a.tmps, params := ps, assign := asg, body := body, defers := w.heap.size })) = W at H2 hent
      refine ⟨w.heap.size + 1, [{ target := .collected w.heap.size, args := #[] }], W, { target := .fn (.func g) ca.toArray, args := pa.toArray ++ #[Value.func (.yield (w.heap.size + 1)) #[] #[]] }, W, g, (pa ++ [Value.func (.yield (w.heap.size + 1)) #[] #[]] ++ ca).toArray, W, hent, ?_, fun f' _ => fw_fn none f', ?_, fun hh => (by cases hh), ?_⟩
      · simp only [resolve, h5, Deferred.ofValue, Sem.run_pure]
        simp [Act.eval, Result.andThen]
      · rw [← h1 (pa ++ [Value.func (.yield (w.heap.size + 1)) #[] #[]] ++ ca).toArray W]
        simp [invoke]
      · refine h2 (n - 1) σ2 _ _ _ hden H2 (fun σ3 v w3 le3 hv H3 => ?_)
        obtain ⟨q', o', g1, g2, tmps', dq', fn'', g3, g4, rfl⟩ := H3.g.obj _ _ hg
        have hy3 := le3 _ _ hy
        have hm3 := le3 _ _ hm
        obtain rfl : (w.heap.size + 1, 0) = q' := Option.some.inj (hy3.symm.trans g1)
        refine ⟨none, _, run_endLoop g2 (by simp), ?_⟩
        have hlow := (H3.g.low _ _ hy3).2
        refine k σ3 { a with defers := _ } _ ((le1.trans le2).trans le3) (hf.mono ((le1.trans le2).trans le3)) ?_ (H3.gone hg hy3 (turns_setObj hlow))
        exact ⟨⟨_, hm3, rfl⟩, hd.mono ((le1.trans le2).trans le3)⟩
    · cases e2
  · cases e
/-- Code. -/
theorem exC_ok (hcf : CFok w0 cf) : ∀ (fuel : Nat) {rnd : Bool} {r : Option Nat} {N : Nat} {fn : FuncId} {c : Code} {x : X} {q : Xt × X}, rnd = r.isSome → exC cf fuel rnd N fn c x = .ok q → CodeOk w0 r N c x q := by
  intro fuel
  induction fuel using Nat.strongRecOn with
  | _ fuel ih =>
  cases fuel with
  | zero => intro rnd r N fn c x q hr e; cases e
  | succ fuel =>
  intro rnd r N fn c x q hr e
  have IH : ∀ {rnd : Bool} {r : Option Nat} {N : Nat} {fn : FuncId} {c : Code} {x : X} {q : Xt × X}, rnd = r.isSome → exC cf fuel rnd N fn c x = .ok q → CodeOk w0 r N c x q := ih fuel (Nat.lt_succ_self _)
  have hrc : RCok w0 (fun N c x => exC cf fuel true N fn c x) := fun N c x q e l => IH (r := some l) rfl e
  have e0 : exC1 cf (exC cf fuel) rnd N fn c x = .ok q := e
  cases c with
  | skip =>
    obtain rfl := R.ok.inj (show R.ok (Xt.nrm, x) = .ok q from e0)
    intro n σ a w Q hf hd H k
    exact wpIn_skip (k σ a w (Sg.le.refl σ) hf hd H)
  | region id ops dr => exact reg_ok hr hcf hrc (tag_ok (show R.tag (10000 + id) _ = .ok q from e0))
  | seq b c =>
    obtain ⟨p, e1, e2⟩ := bind_ok (show (exC cf fuel rnd N fn b x).bind (cSeq (exC cf fuel) rnd N fn c) = .ok q from e0)
    intro n σ a w Q hf hd H k
    refine wpIn_seq (IH hr e1 n σ a w _ hf hd H fun σ1 a1 w1 le1 hf1 hd1 H1 => ?_)
    obtain ⟨t, y⟩ := p
    cases t with
    | nrm => exact IH hr (show exC cf fuel rnd N fn c y = .ok q from e2) n σ1 a1 w1 Q hf1 hd1 H1 fun σ2 a2 w2 le2 => k σ2 a2 w2 (le1.trans le2)
    | ret =>
      obtain rfl := R.ok.inj (show R.ok (Xt.ret, y) = .ok q from e2)
      exact k σ1 a1 w1 le1 hf1 hd1 H1
    | exi j =>
      obtain rfl := R.ok.inj (show R.ok (Xt.exi j, y) = .ok q from e2)
      exact k σ1 a1 w1 le1 hf1 hd1 H1
  | cond v b c =>
    intro n σ a w Q hf hd H k
    have e1 : cCond (exC cf fuel) rnd N fn (xe N x.fr v) b c x = .ok q := e0
    unfold cCond at e1
    split at e1
    · rename_i hv
      refine wpIn_cond_true ?_ (IH hr e1 n σ a w Q hf hd H k)
      exact den_b (hf.ev #[v] v (by simp) _ hv)
    · rename_i hv
      refine wpIn_cond_false ?_ (IH hr e1 n σ a w Q hf hd H k)
      exact den_b (hf.ev #[v] v (by simp) _ hv)
    · cases e1
  | block id c =>
    obtain ⟨p, e1, e2⟩ := bind_ok (show (exC cf fuel rnd N fn c x).bind (cBlock id) = .ok q from e0)
    intro n σ a w Q hf hd H k
    refine wpIn_block (IH hr e1 n σ a w _ hf hd H fun σ1 a1 w1 le1 hf1 hd1 H1 => ?_)
    obtain ⟨t, y⟩ := p
    cases t with
    | nrm =>
      obtain rfl := R.ok.inj (show R.ok (Xt.nrm, y) = .ok q from e2)
      exact k σ1 a1 w1 le1 hf1 hd1 H1
    | ret =>
      obtain rfl := R.ok.inj (show R.ok (Xt.ret, y) = .ok q from e2)
      exact k σ1 a1 w1 le1 hf1 hd1 H1
    | exi j =>
      obtain rfl := R.ok.inj (show R.ok (iteB (Nat.beq j id) Xt.nrm (.exi j), y) = .ok q from e2)
      show (if j = id then Q .normal a1 w1 else Q (.exit j) a1 w1)
      have kk := k σ1 a1 w1 le1 hf1 hd1 H1
      cases hb : Nat.beq j id with
      | true =>
        rw [hb] at kk
        rw [if_pos (Nat.eq_of_beq_eq_true hb)]
        exact kk
      | false =>
        rw [hb] at kk
        rw [if_neg (fun h => by subst h; rw [Nat.beq_refl] at hb; cases hb)]
        exact kk
  | loop c =>
    intro n σ a w Q hf hd H k
    refine wpIn_loop_ghost (fun m a w => ∃ σ' x', m ≤ fuel + 1 ∧ σ.le σ' ∧ exC cf m rnd N fn (.loop c) x' = .ok q ∧ FrR σ' N x'.fr a.tmps ∧ DsR σ' x'.ds a.defers ∧ Den w0 σ' x'.h w) (fuel + 1) ⟨σ, x, Nat.le_refl _, Sg.le.refl σ, e, hf, hd, H⟩ ?_
    intro m a w hI
    obtain ⟨σ', x', hm, le, em, hf, hd, H⟩ := hI
    cases m with
    | zero => cases em
    | succ m =>
    obtain ⟨p, e1, e2⟩ := bind_ok (show (exC cf m rnd N fn c x').bind (cSeq (exC cf m) rnd N fn (.loop c)) = .ok q from em)
    refine ih m (by omega) hr e1 n σ' a w _ hf hd H fun σ1 a1 w1 le1 hf1 hd1 H1 => ?_
    obtain ⟨t, y⟩ := p
    cases t with
    | nrm => exact ⟨m, Nat.lt_succ_self _, σ1, y, by omega, le.trans le1, e2, hf1, hd1, H1⟩
    | ret =>
      obtain rfl := R.ok.inj (show R.ok (Xt.ret, y) = .ok q from e2)
      exact k σ1 a1 w1 (le.trans le1) hf1 hd1 H1
    | exi j =>
      obtain rfl := R.ok.inj (show R.ok (Xt.exi j, y) = .ok q from e2)
      exact k σ1 a1 w1 (le.trans le1) hf1 hd1 H1
  | rangeFunc f ps asg body => exact range_ok hr hcf (show cRange cf rnd N fn (xe N x.fr f) ps asg body x = .ok q from e0)
  | exit id =>
    obtain rfl := R.ok.inj (show R.ok (Xt.exi id, x) = .ok q from e0)
    intro n σ a w Q hf hd H k
    exact wpIn_exit (k σ a w (Sg.le.refl σ) hf hd H)
  | scope b => cases e0
  | label l =>
    obtain rfl := R.ok.inj (show R.ok (Xt.nrm, x) = .ok q from e0)
    intro n σ a w Q hf hd H k
    exact wpIn_label (k σ a w (Sg.le.refl σ) hf hd H)
  | goto l => cases e0
  | ret =>
    obtain rfl := R.ok.inj (show R.ok (Xt.ret, x) = .ok q from e0)
    intro n σ a w Q hf hd H k
    exact wpIn_ret (k σ a w (Sg.le.refl σ) hf hd H)
  | _ => cases e0
end
end Go.Proofs.YtbcdgcodnkgdoaaGreat.Run
