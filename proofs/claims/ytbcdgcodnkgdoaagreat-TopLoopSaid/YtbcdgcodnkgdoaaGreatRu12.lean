/- The runner for closed calls: one operation, an ordered statement. Conditions: none. -/
import Derived.Test.YtbcdgcodnkgdoaaGreatRu11
import Derived.RangeFuncRecord
import Derived.TacticsIn
import Derived.OrdersIn
import Derived.RecoverIn
set_option linter.unusedVariables false
set_option linter.unusedSimpArgs false
set_option maxRecDepth 10000
namespace Go.Proofs.YtbcdgcodnkgdoaaGreat.Run
open Go Go.RowKit

def FW (r : Option Nat) : Fence := { Fence.wide with round := r }
theorem fw_fn (r : Option Nat) (f : FuncId) : (FW r).fn f := trivial
theorem fw_depth (r : Option Nat) : (FW r).depth = none := rfl
def DsR (σ : Sg) : List Df → List Deferred → Prop
  | [], [] => True
  | .fn g caps args :: r, d :: q => (∃ c a, denL σ caps = some c ∧ denL σ args = some a ∧ d = { target := .fn (.func g) c.toArray, args := a.toArray }) ∧ DsR σ r q
  | .mark m :: r, d :: q => (∃ p, σ m = some p ∧ d = { target := .collected p.1, args := #[] }) ∧ DsR σ r q
  | _, _ => False
theorem DsR.mono {σ τ : Sg} (le : σ.le τ) : ∀ {ds : List Df} {dd : List Deferred}, DsR σ ds dd → DsR τ ds dd := by
  intro ds
  induction ds with
  | nil => intro dd h; cases dd <;> exact h
  | cons d r ih =>
    intro dd h
    cases dd with
    | nil => cases d <;> exact h.elim
    | cons e q =>
      cases d with
      | fn g caps args => obtain ⟨⟨c, a, h1, h2, h3⟩, h4⟩ := h; exact ⟨⟨c, a, denL_mono le _ _ h1, denL_mono le _ _ h2, h3⟩, ih h4⟩
      | mark m => obtain ⟨⟨p, h1, h3⟩, h4⟩ := h; exact ⟨⟨p, le _ _ h1, h3⟩, ih h4⟩
def xt : Xt → Exit
  | .nrm => .normal
  | .ret => .ret
  | .exi j => .exit j
/-- What a piece of code does, told by its run. -/
def CodeOk (w0 : World) (r : Option Nat) (N : Nat) (c : Code) (x : X) (q : Xt × X) : Prop := ∀ (n : Nat) (σ : Sg) (a : Act) (w : World) (Q : Exit → Act → World → Prop), FrR σ N x.fr a.tmps → DsR σ x.ds a.defers → Den w0 σ x.h w →
  (∀ σ' a' w', σ.le σ' → FrR σ' N q.2.fr a'.tmps → DsR σ' q.2.ds a'.defers → Den w0 σ' q.2.h w' → Q (xt q.1) a' w') → c.wpIn (FW r) n PG Q a w
def CFok (w0 : World) (cf : CF) : Prop := ∀ g args h q, cf g args h = .ok q → (∀ args w, (callFunc g args).run PG w = .ok (.enter g args) w) ∧
  ∀ (n : Nat) (σ : Sg) (w : World) (args' : List Value) (R : Ending → World → Prop), denL σ args = some args' → Den w0 σ h w → (∀ σ' x w', σ.le σ' → den σ' q.v = some x → Den w0 σ' q.h w' → R (.returned x) w') → CallsIn Fence.wide n PG g args'.toArray w R
def RCok (w0 : World) (rc : RC) : Prop := ∀ N c x q, rc N c x = .ok q → ∀ l, CodeOk w0 (some l) N c x q
/-- What one operation does. -/
def OpOk (w0 : World) (r : Option Nat) (N : Nat) (fr : T V) (h : Hp) (ds : List Df) (op : Op) (q : AD) : Prop := ∀ (n : Nat) (σ : Sg) (a : Act) (w : World) (K : Act → World → Prop) (Q : Exit → Act → World → Prop) (dst : Option Nat) (ty : TypeId) (pos : String) (af : Array Edge) (g : Option (Nat × Bool)),
  EvO σ N fr a.eval op.operands → DsR σ ds a.defers → Den w0 σ h w → (∀ σ' x w' dd, σ.le σ' → den σ' q.v = some x → DsR σ' q.ds dd → Den w0 σ' q.h w' → K (({ a with defers := dd } : Act).put dst x) w') → (⟨dst, op, ty, pos, af, g⟩ : Oper).wpIn (FW r) n PG a w K Q
theorem FrR.ev {σ : Sg} {N : Nat} {fr : T V} {a : Act} (h : FrR σ N fr a.tmps) (l : Array Operand) : EvO σ N fr a.eval l := by
  intro x _ v hv
  cases x with
  | tmp t =>
    obtain ⟨y, h1, h2⟩ := h.at_ t v hv
    simp [Act.eval, Array.getD_eq_getD_getElem?, h2, h1]
  | const c => exact ofV_den hv
  | global g => cases hv
  | func f =>
    obtain rfl := Option.some.inj (show some (V.f f [] []) = some v from hv)
    simp [den, Act.eval]
theorem sem_plain {r : Option Nat} {ρ : Operand → Value} {o : Oper} (h : ∀ c, o.op ≠ .defer c) : Oper.semAt (FW r).round ρ o = execOp ρ o := by
  cases r with
  | none => exact Oper.semAt_none _ _
  | some l => exact Oper.semAt_some l ρ o h
theorem wpIn_yl {r : Option Nat} {n : Nat} {o : Oper} {a : Act} {w w' : World} {K : Act → World → Prop} {Q : Exit → Act → World → Prop} {x : Value} (h : ∀ c, o.op ≠ .defer c) (hy : Yl ((execOp a.eval o).run PG w) x w') (k : K (a.put o.dst x) w') : o.wpIn (FW r) n PG a w K Q := by
  refine ⟨fun f _ => fw_fn r f, ?_⟩
  rw [sem_plain h]
  rcases hy with hy | ⟨hy, rfl⟩
  · rw [hy]; exact k
  · rw [hy]; exact k
/-- Plain operations hand the memory back. -/
theorem pure_h {N : Nat} {fr : T V} {h : Hp} {op : Op} {q : A} (hk : kindOp op = 0 ∨ kindOp op = 1) (e : opL N fr h op = .ok q) : q.h = h := by
  have w_ : ∀ {r : R V} {q : A}, with_ h r = .ok q → q.h = h := fun e => by obtain ⟨v, _, rfl⟩ := with_ok e; rfl
  have o_ : ∀ {k : Nat} {r : Option V} {q : A}, o1 h k r = .ok q → q.h = h := fun e => by obtain ⟨v, _, rfl⟩ := o1_ok e; rfl
  cases op <;> first
    | (cases e; done)
    | (exact o_ e)
    | (simp [kindOp] at hk; done)
    | skip
  · change oPick N fr h _ _ _ = _ at e
    unfold oPick at e
    split at e
    · exact o_ e
    · exact o_ e
    · cases e
  · change oBuild h _ _ = _ at e
    unfold oBuild at e
    split at e
    · split at e
      · obtain rfl := R.ok.inj e; rfl
      · cases e
    · cases e
  · rename_i t x
    change oLoad h t (xe N fr x) = _ at e
    cases hx : xe N fr x with
    | none => rw [hx] at e; cases e
    | some u => rw [hx] at e; exact w_ e
  · change oNil h _ = _ at e
    unfold oNil at e
    split at e
    · obtain rfl := R.ok.inj e; rfl
    · obtain rfl := R.ok.inj e; rfl
    · cases e
  · change oBin h _ _ _ _ _ = _ at e
    unfold oBin at e
    split at e
    · exact w_ e
    · cases e
  · change oUn h _ _ = _ at e
    unfold oUn at e
    split at e
    · obtain rfl := R.ok.inj e; rfl
    · obtain rfl := R.ok.inj e; rfl
    · exact w_ e
    · cases e
  · change oConv h _ _ _ = _ at e
    unfold oConv at e
    split at e
    · obtain rfl := R.ok.inj e; rfl
    · split at e
      · obtain ⟨_, e⟩ := when_ok e; obtain rfl := R.ok.inj e; rfl
      · cases e
    · cases e
  · change oFunc h _ _ _ = _ at e
    unfold oFunc at e
    split at e
    · obtain rfl := R.ok.inj e; rfl
    · cases e
  · change oSlice N fr h _ _ _ _ _ = _ at e
    unfold oSlice at e
    split at e
    · exact w_ e
    · split at e
      · exact w_ e
      · cases e
    · split at e
      · exact w_ e
      · cases e
    · cases e
  · change oFieldA h _ _ = _ at e
    unfold oFieldA at e
    split at e
    · obtain rfl := R.ok.inj e; rfl
    · cases e
  · change oField h _ _ _ = _ at e
    unfold oField at e
    split at e
    · split at e
      · exact w_ e
      · cases e
    · cases e
  · change oIdxA h _ _ _ = _ at e
    unfold oIdxA at e
    split at e
    · obtain ⟨_, _, _, _, rfl⟩ := pIdxA2 e; rfl
    · obtain ⟨_, _, _, _, rfl⟩ := pIdxA2 e; rfl
    · cases e
  · change oIdx h _ _ _ = _ at e
    unfold oIdx at e
    split at e
    · obtain ⟨_, e⟩ := when_ok e
      split at e
      · obtain rfl := R.ok.inj e; rfl
      · cases e
    · split at e
      · obtain ⟨_, e⟩ := when_ok e; exact w_ e
      · cases e
    · cases e
  · change oLook h _ _ _ _ = _ at e
    unfold oLook at e
    split at e
    · exact w_ e
    · cases e
  · change oExt h _ _ = _ at e
    unfold oExt at e
    split at e
    · exact o_ e
    · cases e
  · rename_i c
    obtain ⟨cl, args, ats⟩ := c
    cases cl with
    | value f => simp [kindOp, kindC] at hk
    | invoke r m => cases e
    | builtin bt =>
      change oBuiltin h bt (xes N fr args.toList) ats.toList = .ok q at e
      unfold oBuiltin at e
      split at e
      · unfold oLen at e
        split at e
        · obtain rfl := R.ok.inj e; rfl
        · obtain rfl := R.ok.inj e; rfl
        · obtain rfl := R.ok.inj e; rfl
        · cases e
      · simp [kindOp, kindC, kindB] at hk
      · obtain rfl := R.ok.inj e; rfl
      · cases e
/-- Every plain operation. -/
theorem opL_ok {w0 : World} {r : Option Nat} {N : Nat} {fr : T V} {h : Hp} {ds : List Df} {op : Op} {q : A} (hd : ∀ c, op ≠ .defer c) (hk : kindOp op ≤ 3) (e : opL N fr h op = .ok q) : OpOk w0 r N fr h ds op ⟨q.v, q.h, ds⟩ := by
  intro n σ a w K Q dst ty pos af g he hds H k
  have hself : ({ a with defers := a.defers } : Act) = a := rfl
  rcases (show (kindOp op = 0 ∨ kindOp op = 1) ∨ kindOp op = 2 ∨ kindOp op = 3 by omega) with h0 | h2 | h3
  · obtain ⟨x, h1, h2⟩ := pure_ok (dst := dst) (ty := ty) (pos := pos) (af := af) (g := g) h0 e he (fun c => rfl) (fun _ => H.g)
    exact wpIn_yl hd (.val h1) (k σ x w a.defers (Sg.le.refl σ) h2 hds (by rw [pure_h h0 e]; exact H))
  · obtain ⟨b, hb, hl⟩ := new_ok h2 e
    obtain ⟨cap, x, o, h1, h3, h4⟩ := hl (w := w) (dst := dst) (ty := ty) (pos := pos) (af := af) (g := g) he (H.up _ (Nat.le_refl _))
    obtain ⟨le, hden⟩ := H.new h4
    exact wpIn_yl hd (.val h1) (k _ x _ a.defers le h3 (hds.mono le) (by show Den w0 _ q.h _; rw [hb]; exact hden))
  · obtain ⟨σ', x, w', le, h1, h4, h5⟩ := touch_ok (w0 := w0) h3 e (dst := dst) (ty := ty) (pos := pos) (af := af) (g := g) he H
    exact wpIn_yl hd h1 (k σ' x w' a.defers le h4 (hds.mono le) h5)
theorem withD_ok {ds : List Df} {r : R A} {q : AD} (e : withD ds r = .ok q) : ∃ p, r = .ok p ∧ q = ⟨p.v, p.h, ds⟩ := by
  obtain ⟨p, h1, h2⟩ := bind_ok e
  exact ⟨p, h1, (R.ok.inj h2).symm⟩
theorem den_y {σ : Sg} {m : Nat} {x : Value} (h : den σ (.y m) = some x) : ∃ q, σ m = some q ∧ x = .func (.yield q.1) #[] #[] := by
  rw [den] at h
  cases hm : σ m with
  | none => rw [hm] at h; cases h
  | some q => rw [hm] at h; exact ⟨q, rfl, (Option.some.inj h).symm⟩
theorem putAll_ok {σ : Sg} {N : Nat} : ∀ {ps : List Nat} {vs : List V} {fr fr1 : T V} {tmps : Array Value} {xs : List Value}, putAll N ps vs fr = .ok fr1 → FrR σ N fr tmps → denL σ vs = some xs →
    ps.length = vs.length ∧ FrR σ N fr1 ((ps.zip xs).foldl (fun tmps (x : Nat × Value) => tmps.setIfInBounds x.1 x.2) tmps) := by
  intro ps
  induction ps with
  | nil =>
    intro vs fr fr1 tmps xs e H hx
    cases vs with
    | nil => obtain rfl := R.ok.inj e; exact ⟨rfl, by simpa using H⟩
    | cons v r => cases e
  | cons d ps ih =>
    intro vs fr fr1 tmps xs e H hx
    cases vs with
    | nil => cases e
    | cons v r =>
      obtain ⟨h1, h2⟩ := when_ok e
      obtain ⟨x, b, h3, h4, rfl⟩ := denL_cons.1 hx
      obtain ⟨h5, h6⟩ := ih h2 (H.put (blt_lt h1) h3) h4
      exact ⟨by simp [h5], h6⟩
/-- A call. -/
theorem call_ok {w0 : World} {r : Option Nat} {N : Nat} {fr : T V} {h : Hp} {ds : List Df} {cf : CF} {rc : RC} {f : Operand} {args : Array Operand} {ats : Array TypeId} {q : A} (hcf : CFok w0 cf) (hrc : RCok w0 rc)
    (e : callV cf rc h (xe N fr f) (xes N fr args.toList) = .ok q) : OpOk w0 r N fr h ds (.call ⟨.value f, args, ats⟩) ⟨q.v, q.h, ds⟩ := by
  intro n σ a w K Q dst ty pos af g he hds H k
  unfold callV at e
  split at e
  · rename_i gf pre caps vs hf hvs
    obtain ⟨h1, h2⟩ := hcf _ _ _ _ e
    obtain ⟨pa, ca, h3, h4, h5⟩ := den_f (he f (by simp [Op.operands, Call.operands]) _ hf)
    have h6 := EvO.list (fun x hx => he x (by simp [Op.operands, Call.operands]; exact .inr (by simpa using hx))) hvs
    refine ⟨fun f _ => fw_fn r f, ?_⟩
    rw [sem_plain (by intro c hc; cases hc)]
    have hrun : (execOp a.eval ⟨dst, .call ⟨.value f, args, ats⟩, ty, pos, af, g⟩).run PG w = .ok (.enter gf (pa ++ args.toList.map a.eval ++ ca).toArray) w := by
      have : pa.toArray ++ args.map a.eval ++ ca.toArray = (pa ++ args.toList.map a.eval ++ ca).toArray := by rw [← Array.toList_inj]; simp
      simp [execOp, resolve, h5, Deferred.ofValue, invoke, h1, this]
    rw [hrun]
    refine ⟨fun hh => (by cases hh), ?_⟩
    have := h2 (n - 1) σ w _ (fun
      | .returned v, w'' => K (a.put dst v) w''
      | .panicked chain, w'' => Q (.panic chain) a w''
      | .outgrown, _ => LetsOut Q) (denL_append (denL_append h3 h6) h4) H (fun σ' x w' le hx hd => k σ' x w' a.defers le hx (hds.mono le) hd)
    exact this
  · rename_i m vs hf hvs
    have h6 := EvO.list (fun x hx => he x (by simp [Op.operands, Call.operands]; exact .inr (by simpa using hx))) hvs
    obtain ⟨p, hm, h5⟩ := den_y (he f (by simp [Op.operands, Call.operands]) _ hf)
    unfold yieldV at e
    split at e
    · rename_i frl Nl ps asg body fn d hg
      obtain ⟨fr1, e1, e⟩ := bind_ok e
      obtain ⟨q1, e2, e⟩ := bind_ok e
      obtain ⟨p', o, g1, g2, tmps, dq, fnl, g3, g4, rfl⟩ := H.g.obj _ _ hg
      rw [hm] at g1; obtain rfl := Option.some.inj g1
      obtain ⟨hl, hfr⟩ := putAll_ok e1 g3 h6
      refine ⟨fun f _ => fw_fn r f, ?_⟩
      rw [sem_plain (by intro c hc; cases hc)]
      have hsz : (args.map a.eval).size = ps.toArray.size := by
        have := denL_len h6
        simp at this ⊢; omega
      have hy := run_yield (P := PG) (args := args.map a.eval) g2 hsz
      have hrun : (execOp a.eval ⟨dst, .call ⟨.value f, args, ats⟩, ty, pos, af, g⟩).run PG w = (Instr.yield p.1 (args.map a.eval)).run PG w := by
        simp only [execOp, resolve, h5, Deferred.ofValue, invoke, Sem.run_bind, Sem.run_pure, Result.andThen]
        rw [show (#[] : Array Value) ++ args.map a.eval = args.map a.eval from by simp]
      rw [hrun, hy]
      refine ⟨fun hh => (by cases hh), roundIn_of_wpIn (F := FW r) (fw_fn r _) ?_⟩
      have e3 : (ps.toArray.zip (args.map a.eval)).foldl (fun tmps (x : Tmp × Value) => tmps.setIfInBounds x.1 x.2) tmps = (ps.zip (args.toList.map a.eval)).foldl (fun tmps (x : Nat × Value) => tmps.setIfInBounds x.1 x.2) tmps := by
        rw [← Array.foldl_toList]; simp
      refine hrc _ _ _ _ e2 p.1 (n - 1) σ { tmps := _, defers := [] } w _ (by show FrR σ Nl fr1 ((ps.toArray.zip (args.map a.eval)).foldl (fun tmps (x : Tmp × Value) => tmps.setIfInBounds x.1 x.2) tmps); rw [e3]; exact hfr) trivial H ?_
      intro σ1 a1 w1 le1 hfr1 hds1 H1
      unfold yield2 at e
      split at e
      · rename_i fr2 N2 ps2 asg2 body2 fn2 d2 hq1 hg2
        obtain ⟨q2, e4, e⟩ := bind_ok e
        obtain ⟨p1, o1, k1, k2, tmps2, dq2, fnl2, k3, k4, rfl⟩ := H1.g.obj _ _ hg2
        have hm1 := le1 _ _ hm
        rw [hm1] at k1; obtain rfl := Option.some.inj k1
        have hlow1 := (H1.g.low _ _ hm1).2
        rw [hq1]
        refine ⟨_, run_beginRound k2 rfl, ?_⟩
        have H2 := H1.turn (b' := .loop false fr2 N2 ps2 asg2 body2 fn2 d2) hg2 hm1 (turns_setObj (o := .loop { state := .busy, pending := none, fn := fnl2, tmps := tmps2, params := ps2.toArray, assign := asg2, body := body2, defers := dq2.1 }) hlow1) ⟨tmps2, dq2, fnl2, k3, k4, rfl⟩
        refine hrc _ _ _ _ e4 p.1 (n - 1) σ1 a1 _ _ hfr1 hds1 H2 ?_
        intro σ2 a2 w2 le2 hfr2 hds2 H3
        unfold yield3 at e
        split at e
        · rename_i fr3 N3 ps3 asg3 body3 fn3 d3 hq2 hg3
          obtain rfl := R.ok.inj e
          obtain ⟨p2, o2, m1, m2, tmps3, dq3, fnl3, m3, m4, rfl⟩ := H3.g.obj _ _ hg3
          have hm2 := le2 _ _ hm1
          rw [hm2] at m1; obtain rfl := Option.some.inj m1
          have hlow2 := (H3.g.low _ _ hm2).2
          rw [hq2]
          refine ⟨_, _, run_endRound none m2, ?_⟩
          have H4 := H3.turn (b' := .loop true fr3 N3 ps3 asg3 body3 fn3 d3) hg3 hm2 (turns_setObj (o := .loop { state := .ready, pending := none, fn := fnl3, tmps := tmps3, params := ps3.toArray, assign := asg3, body := body3, defers := dq3.1 }) hlow2) ⟨tmps3, dq3, fnl3, m3, m4, rfl⟩
          exact k σ2 (.bool true) _ a.defers (le1.trans le2) den_bB (hds.mono (le1.trans le2)) H4
        · cases e
      · cases e
    · cases e
  · cases e
theorem kindC_le (c : Call) (hc : ∀ f args ats, c = ⟨.value f, args, ats⟩ → False) : kindOp (.call c) ≤ 3 := by
  obtain ⟨cl, args, ats⟩ := c
  cases cl with
  | value f => exact (hc f args ats rfl).elim
  | invoke r m => simp [kindOp, kindC]
  | builtin bt => simp only [kindOp, kindC]; cases bt <;> simp [kindB]
/-- An operation, whatever it is. -/
theorem opS_ok {w0 : World} {r : Option Nat} {rnd : Bool} {N : Nat} {fr : T V} {h : Hp} {ds : List Df} {cf : CF} {rc : RC} {op : Op} {q : AD} (hr : rnd = r.isSome) (hcf : CFok w0 cf) (hrc : RCok w0 rc) (hk : kindOp op ≤ 5)
    (e : opS cf rc rnd N fr h ds op = .ok q) : OpOk w0 r N fr h ds op q := by
  unfold opS at e
  split at e
  · rename_i c
    unfold oCallS at e
    split at e
    · obtain ⟨p, e1, rfl⟩ := withD_ok e
      exact call_ok hcf hrc e1
    · rename_i c hc
      obtain ⟨p, e1, rfl⟩ := withD_ok e
      exact opL_ok (by intro c hcc; cases hcc) (kindC_le _ hc) e1
  · rename_i c
    unfold oDefer at e
    split at e
    · rename_i f args ats
      split at e
      · rename_i gf caps vs hf hvs
        obtain rfl := R.ok.inj e
        intro n σ a w K Q dst ty pos af g he hds H k
        cases r with
        | some l => cases hr
        | none =>
          obtain ⟨pa, ca, h3, h4, h5⟩ := den_f (he f (by simp [Op.operands, Call.operands]) _ hf)
          simp only [denL_nil, Option.some.injEq] at h3
          subst h3
          have h6 := EvO.list (fun x hx => he x (by simp [Op.operands, Call.operands]; exact .inr (by simpa using hx))) hvs
          refine ⟨fun f _ => fw_fn none f, ?_⟩
          have hrun : (Oper.semAt (FW none).round a.eval ⟨dst, .defer ⟨.value f, args, ats⟩, ty, pos, af, g⟩).run PG w = .ok (.defer { target := .fn (.func gf) ca.toArray, args := (args.toList.map a.eval).toArray }) w := by
            rw [show (FW none).round = none from rfl, Oper.semAt_none]
            simp [execOp, resolve, h5, Deferred.ofValue, Result.andThen]
            rw [← Array.toList_inj]; simp
          rw [hrun]
          exact k σ undef w _ (Sg.le.refl σ) den_undef ⟨⟨ca, _, h4, h6, rfl⟩, hds⟩ H
      · cases e
    · cases e
  · rename_i hc hd
    obtain ⟨p, e1, rfl⟩ := withD_ok e
    refine opL_ok hd ?_ e1
    revert hc hd
    cases op <;> simp [kindOp]
    · simp only [kindCv]; split <;> simp
end Go.Proofs.YtbcdgcodnkgdoaaGreat.Run
