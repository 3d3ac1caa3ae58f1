/- The runner for closed calls: leaving, calls, the whole. Conditions: none. -/
import Derived.Test.YtbcdgcodnkgdoaaGreatRu18
set_option linter.unusedVariables false
set_option linter.unusedSimpArgs false
set_option maxRecDepth 10000
namespace Go.Proofs.YtbcdgcodnkgdoaaGreat.Run
open Go Go.RowKit

theorem tat_e (k : Nat) : (T.e : T V).at k = none := rfl
theorem fget_e {N k : Nat} {v : V} (h : fget N .e k = some v) : False := by
  obtain ⟨_, h⟩ := iteB_none h
  rw [tat_e] at h; cases h
theorem setAt {tmps : Array Value} {i : Nat} {x : Value} (h : tmps[i]? = some x) : tmps.setIfInBounds i x = tmps := by
  apply Array.ext_getElem?
  intro j
  by_cases hj : i = j
  · subst hj
    have := (Array.getElem?_eq_some_iff.1 h).1
    rw [h]; simp [this]
  · rw [Array.getElem?_setIfInBounds_ne hj]
theorem args0_ok {σ : Sg} {N : Nat} {tmps : Array Value} : ∀ {vs : List V} {xs : List Value} {i : Nat} {t : T V}, denL σ vs = some xs → i + vs.length ≤ N → FrR σ N t tmps → (∀ j x, xs[j]? = some x → tmps[i + j]? = some x) → FrR σ N (args0 N i vs t) tmps := by
  intro vs
  induction vs with
  | nil => intro xs i t _ _ H _; exact H
  | cons v r ih =>
    intro xs i t hx hl H ha
    obtain ⟨x, b, h1, h2, rfl⟩ := denL_cons.1 hx
    simp only [List.length_cons] at hl
    have hi := ha 0 x rfl
    have := H.put (d := i) (v := v) (x := x) (by omega) h1
    rw [Nat.add_zero] at hi
    rw [setAt hi] at this
    refine ih h2 (i := Nat.succ i) (by omega) this fun j y hj => ?_
    have := ha (j + 1) y (by simpa using hj)
    rw [show Nat.succ i + j = i + (j + 1) by omega]
    exact this
theorem enter_ok {σ : Sg} {N : Nat} {vs : List V} {xs : List Value} (hx : denL σ vs = some xs) (hl : vs.length ≤ N) : FrR σ N (args0 N 0 vs .e) (xs.toArray ++ Array.replicate (N - xs.toArray.size) undef) := by
  have hlen := denL_len hx
  refine args0_ok hx (by omega) ⟨by simp; omega, fun k v h => (fget_e h).elim⟩ fun j x hj => ?_
  have := (List.getElem?_eq_some_iff.1 hj).1
  rw [Nat.zero_add, Array.getElem?_append_left (by simpa using this)]
  simpa using hj
/-- The results. -/
def res1 (tmps : Array Value) : ResultVar → Sem Value
  | .tmp t => pure (tmps.getD t undef)
  | .cell a t => do loadVar t (← asAddr (tmps.getD a undef))
theorem resV_ok {w0 w : World} {σ : Sg} {h : Hp} {N : Nat} {fr : T V} {tmps : Array Value} (H : DenG w0 σ h.get w) (hf : FrR σ N fr tmps) : ∀ {rs : List ResultVar} {vs : List V}, resV N fr h rs = .ok vs →
    ∃ xs, denL σ vs = some xs ∧ (rs.mapM (res1 tmps)).run PG w = .ok xs w := by
  intro rs
  induction rs with
  | nil => intro vs e; obtain rfl := R.ok.inj (show R.ok [] = .ok vs from e); exact ⟨[], denL_nil, by simp⟩
  | cons r rs ih =>
    intro vs e
    have getD : ∀ k v, fget N fr k = some v → den σ v = some (tmps.getD k undef) := fun k v hv => by
      obtain ⟨x, h1, h2⟩ := hf.at_ k v hv
      rw [Array.getD_eq_getD_getElem?, h2]; exact h1
    cases r with
    | tmp t =>
      have e0 : resV N fr h (.tmp t :: rs) = (match fget N fr t with
        | some v => (resV N fr h rs).bind fun l => .ok (v :: l)
        | none => .er [178]) := rfl
      rw [e0] at e
      split at e
      · rename_i v hv
        obtain ⟨l, e1, e2⟩ := bind_ok e
        obtain rfl := R.ok.inj e2
        obtain ⟨xs, h1, h2⟩ := ih e1
        refine ⟨_ :: xs, denL_cons.2 ⟨_, _, getD _ _ hv, h1, rfl⟩, ?_⟩
        simp [List.mapM_cons, res1, h2, Result.andThen]
      · cases e
    | cell a t =>
      have e0 : resV N fr h (.cell a t :: rs) = (match fget N fr a with
        | some p => (rd h t p).bind fun v => (resV N fr h rs).bind fun l => .ok (v :: l)
        | none => .er [179]) := rfl
      rw [e0] at e
      split at e
      · rename_i p hp
        obtain ⟨v, e0, e⟩ := bind_ok e
        obtain ⟨l, e1, e2⟩ := bind_ok e
        obtain rfl := R.ok.inj e2
        obtain ⟨xs, h1, h2⟩ := ih e1
        obtain ⟨A, y, g1, g2, g3⟩ := rd_ok H e0 (getD _ _ hp)
        refine ⟨y :: xs, denL_cons.2 ⟨_, _, g2, h1, rfl⟩, ?_⟩
        simp [List.mapM_cons, res1, h2, g1, asAddr, g3, Result.andThen]
      · cases e
theorem tup_den {σ : Sg} {vs : List V} {xs : List Value} (h : denL σ vs = some xs) : den σ (tupV vs) = some (if h : xs.toArray.size = 1 then xs.toArray[0] else .tuple xs.toArray) := by
  cases vs with
  | nil =>
    obtain rfl := Option.some.inj (denL_nil.symm.trans h)
    simp [tupV, den]
  | cons v r =>
    obtain ⟨x, b, h1, h2, rfl⟩ := denL_cons.1 h
    cases r with
    | nil =>
      obtain rfl := Option.some.inj (denL_nil.symm.trans h2)
      simp [tupV, h1]
    | cons u r =>
      obtain ⟨y, c, h3, h4, rfl⟩ := denL_cons.1 h2
      show den σ (.t (v :: u :: r)) = _
      rw [den, h]; simp
theorem results_ok {w0 w : World} {σ : Sg} {h : Hp} {fr : T V} {fn : Func} {tmps : Array Value} {vs : List V} (H : DenG w0 σ h.get w) (hf : FrR σ fn.ntmps fr tmps) (e : resV fn.ntmps fr h fn.results.toList = .ok vs) :
    ∃ x, den σ (tupV vs) = some x ∧ (results fn tmps).run PG w = .ok x w := by
  obtain ⟨xs, h1, h2⟩ := resV_ok H hf e
  refine ⟨_, tup_den h1, ?_⟩
  have : results fn tmps = (do let vs ← fn.results.mapM (res1 tmps); pure (if h : vs.size = 1 then vs[0] else .tuple vs)) := by
    unfold results
    congr 1
  rw [this]
  have hm : (fn.results.mapM (res1 tmps)).run PG w = .ok xs.toArray w := by
    rw [Array.mapM_eq_mapM_toList]
    show Sem.run PG ((List.mapM (res1 tmps) fn.results.toList) >>= fun x => pure x.toArray) w = _
    rw [Sem.run_bind, h2]
    rfl
  rw [Sem.run_bind, hm]
  rfl
theorem callFunc_ok {g : FuncId} {fn : Func} {c : Code} (hf : PG.funcs[g]? = some fn) (hb : fn.body = some c) (hn : (fn.name == "runtime.NumGoroutine") = false) (args : Array Value) (w : World) : (callFunc g args).run PG w = .ok (.enter g args) w := by
  have hn' : ¬ fn.name = "runtime.NumGoroutine" := by simpa using hn
  simp [callFunc, hf, hb, hn']
section
variable {w0 : World} {cf : CF}
theorem exD2_ok {q : Xt × X} {h' : Hp} (e : exD2 q = .ok h') : (q.1 = .nrm ∨ q.1 = .ret) ∧ q.2.ds = [] ∧ q.2.h = h' := by
  unfold exD2 at e
  split at e
  · rename_i h1 h2; exact ⟨.inl h1, h2, R.ok.inj e⟩
  · rename_i h1 h2; exact ⟨.inr h1, h2, R.ok.inj e⟩
  · cases e
/-- A deferred call behind a return. -/
theorem exD_ok (hcf : CFok w0 cf) {fuel : Nat} {g : FuncId} {args : List V} {h h' : Hp} (e : exD cf fuel g args h = .ok h') : (∀ args w, (callFunc g args).run PG w = .ok (.enter g args) w) ∧
    ∀ (n : Nat) (σ : Sg) (w : World) (args' : List Value) (R : Ending → FrameMode → World → Prop), denL σ args = some args' → Den w0 σ h w → (∀ σ' x w', σ.le σ' → Den w0 σ' h' w' → R (.returned x) .returning w') → CallsDIn (FW none) n PG g args'.toArray .returning w R := by
  unfold exD at e
  cases hf : PG.funcs[g]? with
  | none => rw [hf] at e; cases e
  | some fn =>
  rw [hf] at e
  obtain ⟨hn, e⟩ := when_ok e
  have hn : (fn.name == "runtime.NumGoroutine") = false := by simpa using hn
  unfold exD0 at e
  split at e
  · rename_i id ops y hb hrs
    unfold exD1 at e
    split at e
    · rename_i d0 as0 ats ty0 pos0 af0 d1 d2 ty1 pos1 af1 hops
      obtain ⟨hc, e⟩ := when_ok e
      simp only [Bool.and_eq_true] at hc
      obtain ⟨⟨⟨⟨c1, c2⟩, c3⟩, c4⟩, c5⟩ := hc
      obtain ⟨q, e1, e2⟩ := bind_ok e
      obtain ⟨hq, hds, rfl⟩ := exD2_ok e2
      obtain rfl := Nat.eq_of_beq_eq_true c1
      have l0 := blt_lt c2
      have l1 := blt_lt c3
      have l4 := Nat.le_of_ble_eq_true c4
      have has : as0 = #[] := by
        cases hh : as0.toList with
        | nil => exact Array.toList_eq_nil_iff.1 hh
        | cons x r => rw [hh] at c5; cases c5
      subst has
      have hops' : ops = [_, _].toArray := (Array.toArray_toList (xs := ops)).symm.trans (congrArg List.toArray hops)
      subst hops'
      refine ⟨callFunc_ok hf hb hn, fun n σ w args' R hx H k => callsDIn_of_wpSIn hf hb (fw_fn none g) fun c₀ cs hc₀ => wpSIn_seq (wpSIn_region ?_)⟩
      have hfr := enter_ok (N := fn.ntmps) hx l4
      have hrec : recoverD (c₀ :: cs) = none := by simp [recoverD, hc₀]
      have hsame : ({ c₀ with mode := .returning } : Frame) = c₀ := by cases c₀; simp_all
      have hput := (hfr.put (d := d0) (v := .i0) (x := .nilIface) l0 (by rw [den])).put (d := d1) (v := .i0) (x := .nilIface) l1 (by rw [den])
      have hy := exC_ok hcf fuel (r := none) rfl e1
      have step : y.wpSIn (FW none) n PG (bodyPostS PG fn c₀ cs R) { tmps := ((args'.toArray ++ Array.replicate (fn.ntmps - args'.toArray.size) undef).setIfInBounds d0 .nilIface).setIfInBounds d1 .nilIface, defers := [] } (c₀ :: cs) w := by
        refine wpSIn_of_wpIn rfl (hy n σ _ w _ hput trivial H fun σ' a' w' le hf' hd' H' => ?_)
        rw [hds] at hd'
        have hdd : a'.defers = [] := by
          cases hh : a'.defers with
          | nil => rfl
          | cons d r => rw [hh] at hd'; exact hd'.elim
        have hr0 : (results fn a'.tmps).run PG w' = .ok (.tuple #[]) w' := results_none (Array.toList_eq_nil_iff.1 hrs) _ _ _
        rcases hq with hq | hq
        · rw [hq]; exact ⟨hdd, .returning, by rw [hsame], _, hr0, k σ' _ w' le H'⟩
        · rw [hq]; exact ⟨hdd, .returning, by rw [hsame], _, hr0, k σ' _ w' le H'⟩
      have hlt : d0 < (args'.toArray ++ Array.replicate (fn.ntmps - args'.toArray.size) undef).size := by rw [hfr.size]; exact l0
      have hget : ((args'.toArray ++ Array.replicate (fn.ntmps - args'.toArray.size) undef).setIfInBounds d0 Value.nilIface).getD d0 undef = .nilIface := by
        rw [Array.getD_eq_getD_getElem?, Array.getElem?_setIfInBounds]
        rw [if_pos rfl, if_pos hlt]; rfl
      generalize (args'.toArray ++ Array.replicate (fn.ntmps - args'.toArray.size) undef) = tm at step hget
      show wpOpsSIn (FW none) n PG _ _ [0, 1] _ _ _
      simp only [wpOpsSIn, List.getElem?_toArray, List.getElem?_cons_zero, List.getElem?_cons_succ]
      refine ⟨fun f _ => fw_fn none f, ?_⟩
      rw [if_pos (by simp [Region.wanted])]
      have hr1 : (execOp ({ tmps := tm, defers := [] } : Act).eval ⟨some d0, .call ⟨.builtin .recover, #[], ats⟩, ty0, pos0, af0, none⟩).run PG w = .ok .recover w := by
        simp [execOp, resolve, invoke, Deferred.ofValue, Result.andThen, builtin]
      rw [hr1]
      simp only [hrec]
      refine ⟨fun f _ => fw_fn none f, ?_⟩
      rw [if_pos (by simp [Region.wanted])]
      have hr2 : (execOp (({ tmps := tm, defers := [] } : Act).put (some d0) .nilIface).eval ⟨some d1, .assign (.tmp d0), ty1, pos1, af1, none⟩).run PG w = .ok (.value .nilIface) w := by
        simp [execOp, Act.eval, Act.put, hget]
      rw [hr2]
      exact step
    · cases e
  · cases e
theorem leave_ok (hcf : CFok w0 cf) {fuel : Nat} {fn : Func} {tmps : Array Value} : ∀ {ds : List Df} {dd : List Deferred} {h h' : Hp}, leave cf fuel ds h = .ok h' → ∀ (n : Nat) (σ : Sg) (w : World) (R : Ending → World → Prop), DsR σ ds dd → Den w0 σ h w →
    (∀ σ' w', σ.le σ' → Den w0 σ' h' w' → ∃ v, (results fn tmps).run PG w' = .ok v w' ∧ R (.returned v) w') → LeavesInM (FW none) n PG fn tmps R dd .returning w := by
  intro ds
  induction ds with
  | nil =>
    intro dd h h' e n σ w R hd H k
    obtain rfl := Run.R.ok.inj (show Run.R.ok h = .ok h' from e)
    cases dd with
    | nil => exact k σ w (Sg.le.refl σ) H
    | cons d q => exact hd.elim
  | cons d r ih =>
    intro dd h h' e n σ w R hd H k
    cases dd with
    | nil => cases d <;> exact hd.elim
    | cons y q =>
    cases d with
    | fn g caps args =>
      obtain ⟨⟨c, a, h1, h2, rfl⟩, hd⟩ := hd
      obtain ⟨h1', e1, e2⟩ := bind_ok (show (exD cf fuel g (args ++ caps) h).bind (fun h' => leave cf fuel r h') = .ok h' from e)
      obtain ⟨g1, g2⟩ := exD_ok hcf e1
      refine ⟨by simp, .inr ⟨fun hh => (by cases hh), .func g, c.toArray, g, (a ++ c).toArray, rfl, ?_, fun f _ => fw_fn none f, ?_⟩⟩
      · rw [← g1 (a ++ c).toArray w]
        simp [invoke]
      · exact g2 (n - 1) σ w _ _ (denL_append h2 h1) H fun σ' x w' le H' => ih e2 n σ' w' R (hd.mono le) H' fun σ2 w2 le2 => k σ2 w2 (le.trans le2)
    | mark m =>
      obtain ⟨⟨p, h1, rfl⟩, hd⟩ := hd
      have e0 : leave cf fuel (.mark m :: r) h = (match h.get m with
        | some .dfr => leave cf fuel r (h.del m)
        | _ => .er [185]) := rfl
      rw [e0] at e
      split at e
      · rename_i hg
        obtain ⟨p', o, g1, g2, g3⟩ := H.g.obj _ _ hg
        obtain rfl := Option.some.inj (h1.symm.trans g1)
        obtain rfl : o = .deferred (some []) := g3
        exact ⟨by simp, .inl ⟨_, _, rfl, run_takeDeferred g2, ih e n σ _ R hd (H.gone hg h1 (turns_setObj (H.g.low _ _ h1).2)) k⟩⟩
      · cases e
theorem exF_ok (hcf : CFok w0 cf) {fuel : Nat} {g : FuncId} {fn : Func} {c : Code} {args : List V} {h : Hp} {q : A} (hf : PG.funcs[g]? = some fn) (hb : fn.body = some c) (e : exF cf fuel g fn.name fn.ntmps fn.results.toList c args h = .ok q) :
    (∀ args w, (callFunc g args).run PG w = .ok (.enter g args) w) ∧
    ∀ (n : Nat) (σ : Sg) (w : World) (args' : List Value) (R : Ending → World → Prop), denL σ args = some args' → Den w0 σ h w → (∀ σ' x w', σ.le σ' → den σ' q.v = some x → Den w0 σ' q.h w' → R (.returned x) w') → CallsIn Fence.wide n PG g args'.toArray w R := by
  obtain ⟨hc, e⟩ := when_ok e
  simp only [Bool.and_eq_true] at hc
  obtain ⟨p, e1, e⟩ := bind_ok e
  obtain ⟨h', e2, e⟩ := bind_ok e
  obtain ⟨vs, e3, e4⟩ := bind_ok e
  obtain rfl := R.ok.inj e4
  refine ⟨callFunc_ok hf hb (by simpa using hc.1), fun n σ w args' R hx H k => ?_⟩
  have hfr := enter_ok (N := fn.ntmps) hx (Nat.le_of_ble_eq_true hc.2)
  refine callsIn_of_wp_marks (F := FW none) hf hb (fw_fn none g) (exC_ok hcf fuel (r := none) rfl e1 n σ _ w _ hfr trivial H fun σ' a' w' le hf' hd' H' => ?_)
  have key : ∀ {R' : Ending → World → Prop}, leave cf fuel p.2.ds p.2.h = .ok h' → LeavesInM (FW none) n PG fn a'.tmps R a'.defers .returning w' := fun {R'} e2 =>
    leave_ok hcf e2 n σ' w' R hd' H' fun σ2 w2 le2 H2 => by
      obtain ⟨x, h1, h2⟩ := results_ok H2.g (hf'.mono le2) e3
      exact ⟨x, h2, k σ2 x w2 (le.trans le2) h1 H2⟩
  unfold leave1 at e2
  cases hp : p.1 with
  | nrm => rw [hp] at e2; exact key (R' := R) e2
  | ret => rw [hp] at e2; exact key (R' := R) e2
  | exi j => rw [hp] at e2; cases e2
end
/-- The runner answers as the program does. -/
theorem exN_ok (w0 : World) (fuel : Nat) : ∀ d, CFok w0 (exN fuel d) := by
  intro d
  induction d with
  | zero => intro g args h q e; cases e
  | succ d ih =>
    intro g args h q e
    have e := tag_ok (show R.tag (100000 + g) (exF1 (exN fuel d) fuel g PG.funcs[g]? args h) = .ok q from e)
    unfold exF1 at e
    cases hf : PG.funcs[g]? with
    | none => rw [hf] at e; cases e
    | some fn =>
    rw [hf] at e
    simp only at e
    split at e
    · rename_i c hb; exact exF_ok ih hf hb e
    · cases e
theorem den_start (w : World) : Den w (fun _ => none) ⟨.e, 0⟩ w := by
  refine ⟨⟨Keeps.refl No w, fun k q h => (by cases h), fun k b h => ?_, fun j k a b q r h => ?_⟩, fun _ _ => rfl⟩
  · obtain ⟨_, h⟩ := iteB_none (show iteB (Nat.blt k 4096) ((T.e : T B).at k) none = some b from h)
    cases h
  · obtain ⟨_, h⟩ := iteB_none (show iteB (Nat.blt j 4096) ((T.e : T B).at j) none = some a from h)
    cases h
/-- A closed call whose answer is no block. -/
theorem exN_ret {fuel d : Nat} {g : FuncId} {q : A} {x : Value} (e : exN fuel d g [] ⟨.e, 0⟩ = .ok q) (hx : ∀ σ y, den σ q.v = some y → y = x) (w : World) : CallsIn Fence.wide 0 PG g #[] w (fun e w' => e = .returned x ∧ Keeps No w w') :=
  (exN_ok w fuel d g [] _ q e).2 0 (fun _ => none) w [] _ denL_nil (den_start w) fun σ' y w' _ hy H => ⟨by rw [hx σ' y hy], H.g.kp⟩
/-- The answer is 'true'. -/
noncomputable def R.isTrue (r : R A) : Bool := match r with
  | .ok ⟨.b x, _⟩ => x
  | _ => false
theorem isTrue_ok {r : R A} (h : r.isTrue = true) : ∃ q, r = .ok q ∧ q.v = .b true := by
  cases r with
  | er l => cases h
  | ok q =>
    obtain ⟨v, h'⟩ := q
    cases v with
    | b x => cases x with
      | true => exact ⟨_, rfl, rfl⟩
      | false => cases h
    | _ => cases h
end Go.Proofs.YtbcdgcodnkgdoaaGreat.Run
