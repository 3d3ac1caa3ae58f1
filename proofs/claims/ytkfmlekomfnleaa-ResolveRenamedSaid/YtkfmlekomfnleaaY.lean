/- The calculus, fifteenth part: deferred calls, recover. Conditions: none; everything holds over any program. -/
import Derived.Test.YtkfmlekomfnleaaR13
import Derived.Recover
set_option linter.unusedVariables false
set_option linter.unusedSimpArgs false
namespace Go.Proofs.Ytkfmlekomfnleaa
open Go Go.RowKit

structure RetD (P : Program) (fn : Func) (R : Ending → World → Prop) (a : Act) (w : World) : Prop where
  out : bodyPostD P fn R .ret a w
structure PanD (P : Program) (fn : Func) (R : Ending → World → Prop) (c : List PanicEntry) (a : Act) (w : World) : Prop where
  out : bodyPostD P fn R (.panic c) a w
@[reducible] def finD (P : Program) (fn : Func) (R : Ending → World → Prop) : Pst :=
  ⟨RetD P fn R, RetD P fn R, fun _ _ _ => False, fun _ _ _ => False, fun c => PanD P fn R c, bodyPostD P fn R .outgrown⟩
section
variable {P : Program} {E : Env} {ops : Array Oper} {Q : Pst} {K : Act → World → Prop} {rest : List Oper} {G : List (Nat × Value)} {H : List HP}
theorem frame0 {args : List Value} {N n : Nat} (hN : n = N) (hle : Nat.ble args.length N = true) : Fr N [] { tmps := args.toArray ++ Array.replicate (n - args.toArray.size) undef, defers := [] } (idx 0 args) := by
  refine ⟨?_, rfl, fun i v hi => ?_⟩
  · have : args.length ≤ N := by simpa [Nat.ble_eq] using hle
    simp [hN]; omega
  · obtain ⟨_, h2⟩ := look_idx _ _ _ _ hi
    have hlt : i < args.length := by
      have := (List.getElem?_eq_some_iff.1 h2).1
      omega
    rw [Array.getElem?_append_left (by simpa using hlt)]
    simpa using h2
theorem Calls.enterD {f : FuncId} {fn : Func} {c : Code} {args : List Value} {w : World} {S : Nat → Prop} {R : Ending → World → Prop} (hf : P.funcs[f]? = some fn) (hb : fn.body = some c) (N : Nat) (hN : fn.ntmps = N) (hle : Nat.ble args.length N = true)
    (hst : Sep H w S) (k : CW P ⟨N, [], w, S⟩ c (finD P fn R) (idx 0 args) H) : Calls P f args.toArray w R :=
  calls_of_wp_defers hf hb (wp_mono (k _ _ (frame0 hN hle) (St.start hst)) (fun e a w h => by cases e <;> first | exact h.out | exact h | exact h.elim))
section
variable {ty : TypeId} {pos : String} {af : Array Edge} {t : TypeId} {z v : Value} {sz by_ : Nat} {x y fv : Operand} {l : List Operand} {vs caps : List Value} {at_ : Array TypeId} {dst : Nat}
theorem RW.defer {f : FuncId} {dst : Option Nat} (hdst : dst = none) (hfv : ev G fv = some (.func (.func f) #[] caps.toArray)) (hl : evs G l = some vs)
    (kk : RW P ⟨E.N, { target := .fn (.func f) caps.toArray, args := vs.toArray } :: E.ds, E.w0, E.S⟩ ops Q rest G H) : RW P E ops Q (⟨dst, .defer ⟨.value fv, l.toArray, at_⟩, ty, pos, af, none⟩ :: rest) G H := by
  subst hdst
  exact RW.step rfl (fun a w hf hw => by
    have hrun : (execOp a.eval ⟨none, .defer ⟨.value fv, l.toArray, at_⟩, ty, pos, af, none⟩).run P w = .ok (.defer { target := .fn (.func f) caps.toArray, args := vs.toArray }) w := by
      simp [execOp, resolve, hf.eval hfv, Deferred.ofValue, hf.evals hl, Result.andThen]
    rw [hrun]
    exact kk _ _ ⟨hf.size, by show _ :: a.defers = _; rw [hf.defers], hf.at_⟩ hw)
/-- A call of a function value, what happens at a panic left open. -/
theorem RW.callwD {f : FuncId} {pre : List Value} {α β : Type} {sp : Ex α} {V : α → β → Value} {c : α → β → List HP} (C : List HP) {r : List HP}
    (hcall : ∀ args w, (callFunc f args).run P w = .ok (.enter f args) w) (hfv : ev G fv = some (.func (.func f) pre.toArray caps.toArray)) (hl : evs G l = some vs)
    (hc : ∀ w F, St E.w0 E.S (C ++ r) w → (∀ b, F b → E.S b ∨ E.w0.heap.size ≤ b) → Sep C w F → RetE P f (pre ++ (vs ++ caps)) w F sp V c) (hN : Nat.blt dst E.N = true)
    (hpan : ∀ er, sp = .error er → ∀ a w, Fr E.N E.ds a G → St E.w0 E.S r w → Q.pan [{ v := evF er, recovered := false }] a w)
    (kk : ∀ x y, sp = .ok x → RW P E ops Q rest ((dst, V x y) :: G) (c x y ++ r)) : RW P E ops Q (⟨some dst, .call ⟨.value fv, l.toArray, at_⟩, ty, pos, af, none⟩ :: rest) G (C ++ r) :=
  RW.callw_gen hcall hfv hl (fun a w hf hw => by
    obtain ⟨F, hF, h1, h2⟩ := Sep.split hw.sep
    refine (hc w F hw (fun b hb => (hF b hb).1) h1).mono ?_
    intro e w' he
    unfold XP at he
    cases sp with
    | error er =>
      obtain ⟨rfl, hx⟩ := he
      exact hpan er rfl a w' hf (St.turnF hw.kp hF h2 hx)
    | ok x =>
      obtain ⟨y, rfl, hx⟩ := he
      exact kk x y rfl _ _ (hf.put hN _) (St.turnF hw.kp hF h2 hx))
theorem RW.neqNil {ms : Array (String × TypeId)} {t' : TypeId} [T : Ty P t (.interface ms) z sz by_] {ti : TypeId} (hx : ev G x = some (.iface ti v)) (hy : ev G y = some .nilIface) (hN : Nat.blt dst E.N = true)
    (kk : RW P E ops Q rest ((dst, .bool true) :: G) H) : RW P E ops Q (⟨some dst, .binOp .neq t x y t', ty, pos, af, none⟩ :: rest) G H :=
  RW.val hN (fun a w hf hw => by
    have h1 : (eqGuard .neq t x y (.iface ti v) .nilIface).run P w = .ok () w := by unfold eqGuard; rfl
    have h2 : ∀ d, (Op.equalIn (d + 1) t (.iface ti v) .nilIface).run P w = .ok false w := fun d => by simp [Op.equalIn, T.runUnd, Result.andThen]
    have h2' : (Op.equalIn Op.maxDepth t (.iface ti v) .nilIface).run P w = .ok false w := h2 9999
    have h3 : (binOp .neq t (.iface ti v) .nilIface).run P w = .ok (.bool true) w := by
      simp only [binOp]
      simp only [Op.equal, Sem.run_bind, h2', Result.andThen, Sem.run_pure, Bool.not_false, Bool.not_true]
    simp [execOp, hf.eval hx, hf.eval hy, h1, h3, Result.andThen]) kk
theorem RW.neqNilF {ms : Array (String × TypeId)} {t' : TypeId} [T : Ty P t (.interface ms) z sz by_] (hx : ev G x = some .nilIface) (hy : y = .const .nilIface) (hN : Nat.blt dst E.N = true)
    (kk : RW P E ops Q rest ((dst, .bool false) :: G) H) : RW P E ops Q (⟨some dst, .binOp .neq t x y t', ty, pos, af, none⟩ :: rest) G H := by
  subst hy
  exact RW.val hN (fun a w hf hw => by
    have h1 : (eqGuard .neq t x (.const .nilIface) .nilIface .nilIface).run P w = .ok () w := by simp [eqGuard]
    have h2 : ∀ d, (Op.equalIn (d + 1) t .nilIface .nilIface).run P w = .ok true w := fun d => by simp [Op.equalIn, T.runUnd, Result.andThen]
    have h2' : (Op.equalIn Op.maxDepth t .nilIface .nilIface).run P w = .ok true w := h2 9999
    have h3 : (binOp .neq t .nilIface .nilIface).run P w = .ok (.bool false) w := by
      simp only [binOp]
      simp only [Op.equal, Sem.run_bind, h2', Result.andThen, Sem.run_pure, Bool.not_false, Bool.not_true]
    have h4 : a.eval (.const .nilIface) = .nilIface := rfl
    simp [execOp, hf.eval hx, h4, h1, h3, Result.andThen]) kk
/-- A type assertion that holds. -/
theorem RW.assertOk {d : TypeDesc} {ti : TypeId} [T : Ty P t d z sz by_] (hd : (match d with | .interface _ => false | _ => true) = true) (hx : ev G x = some (.iface t v)) (hN : Nat.blt dst E.N = true)
    (kk : RW P E ops Q rest ((dst, .tuple #[v, .bool true]) :: G) H) : RW P E ops Q (⟨some dst, .typeAssert x ti t true, ty, pos, af, none⟩ :: rest) G H :=
  RW.val hN (fun a w hf hw => by
    have h1 : (Instr.typeAssert (.iface t v) ti t true).run P w = .ok (.tuple #[v, .bool true]) w := by
      cases d <;> first | (cases hd; done) | simp [Instr.typeAssert, T.runUnd, Result.andThen]
    simp [execOp, hf.eval hx, h1, Result.andThen]) kk
end
/-- What is asked at the end of a deferred call that has recovered. -/
structure RetS (P : Program) (fn : Func) (c0 : Frame) (cs cs' : List Frame) (R : Ending → FrameMode → World → Prop) (e : Exit) (a : Act) (w : World) : Prop where
  out : bodyPostS P fn c0 cs R e a cs' w
@[reducible] def finS (P : Program) (fn : Func) (c0 : Frame) (cs cs' : List Frame) (R : Ending → FrameMode → World → Prop) : Pst :=
  ⟨RetS P fn c0 cs cs' R .normal, RetS P fn c0 cs cs' R .ret, fun _ _ _ => False, fun _ _ _ => False, fun c => RetS P fn c0 cs cs' R (.panic c), fun a w => bodyPostS P fn c0 cs R .outgrown a cs' w⟩
theorem PW.retS {fn : Func} {c0 : Frame} {cs cs' : List Frame} {R : Ending → FrameMode → World → Prop} {u : FrameMode} {rs : List ResultVar} {vs : List Value} (hr : fn.results = rs.toArray) (hd : E.ds = []) (hc : cs' = { c0 with mode := u } :: cs) (h : ResOK P E G H rs vs) (k : ∀ w, St E.w0 E.S H w → R (.returned (resV vs)) u w) :
    PW E (RetS P fn c0 cs cs' R .normal) G H := fun a w hf hw => ⟨⟨hf.defers.trans hd, u, hc, _, run_results hr h hf hw, k w hw⟩⟩
theorem recoverD_quiet {c0 : Frame} {cs : List Frame} (hu : c0.mode = .returning) : recoverD (c0 :: cs) = none := by simp [recoverD, hu]
theorem recoverD_panic {c0 : Frame} {cs : List Frame} {v : Value} (hu : c0.mode = .panicking [{ v := v, recovered := false }]) : recoverD (c0 :: cs) = some (v, { c0 with mode := .panicking [{ v := v, recovered := true }] } :: cs) := by simp [recoverD, hu]
theorem wpS_rec {id d0 d1 : Nat} {t0 t1 : TypeId} {p0 p1 : String} {af0 af1 : Array Edge} {a0 : Array TypeId} {QS : Exit → Act → List Frame → World → Prop} {a : Act} {cs cs' : List Frame} {w : World} {v : Value} (hr : recoverD cs = some (v, cs') ∨ (recoverD cs = none ∧ v = .nilIface ∧ cs' = cs))
    (k : QS .normal ((a.put (some d0) v).put (some d1) ((a.put (some d0) v).eval (.tmp d0))) cs' w) :
    (Code.region id #[⟨some d0, .call ⟨.builtin .recover, #[], a0⟩, t0, p0, af0, none⟩, ⟨some d1, .assign (.tmp d0), t1, p1, af1, none⟩] false).wpS P QS a cs w := by
  refine wpS_region ?_
  show wpOpsS P _ QS [0, 1] a cs w
  rcases hr with hr | ⟨hr, rfl, rfl⟩ <;> simp [wpOpsS, Region.wanted, execOp, resolve, invoke, builtin, Oper.upon, hr] <;> exact k
theorem CW.wpS {c : Code} {fn : Func} {c0 : Frame} {cs cs' : List Frame} {R : Ending → FrameMode → World → Prop} {a : Act} {w : World} (k : CW P E c (finS P fn c0 cs cs' R) G H) (hf : Fr E.N E.ds a G) (hw : St E.w0 E.S H w) : c.wpS P (bodyPostS P fn c0 cs R) a cs' w :=
  wpS_of_wp (wp_mono (k a w hf hw) (fun e a w h => by cases e <;> first | exact h.out | exact h | exact h.elim))
/-- A deferred call that begins by asking what unwinds. -/
theorem CallsD.rec {f : FuncId} {fn : Func} {id d0 d1 : Nat} {t0 t1 : TypeId} {p0 p1 : String} {af0 af1 : Array Edge} {a0 : Array TypeId} {y : Code} {args : List Value} {u : FrameMode} {w0 w : World} {S : Nat → Prop} {v : Value} {u' : FrameMode} {R : Ending → FrameMode → World → Prop} (hf : P.funcs[f]? = some fn)
    (hb : fn.body = some (.seq (.region id #[⟨some d0, .call ⟨.builtin .recover, #[], a0⟩, t0, p0, af0, none⟩, ⟨some d1, .assign (.tmp d0), t1, p1, af1, none⟩] false) y)) (N : Nat) (hN : fn.ntmps = N) (hle : Nat.ble args.length N = true) (h0 : Nat.blt d0 N = true) (h1 : Nat.blt d1 N = true)
    (hr : ∀ (c0 : Frame) (cs : List Frame), c0.mode = u → recoverD (c0 :: cs) = some (v, { c0 with mode := u' } :: cs) ∨ (recoverD (c0 :: cs) = none ∧ v = .nilIface ∧ u' = u)) (hw : St w0 S H w)
    (k : ∀ (c0 : Frame) (cs : List Frame), CW P ⟨N, [], w0, S⟩ y (finS P fn c0 cs ({ c0 with mode := u' } :: cs) R) ((d1, v) :: (d0, v) :: idx 0 args) H) : CallsD P f args.toArray u w R := by
  refine callsD_of_wpS hf hb fun c0 cs hu => ?_
  have h4 := (frame0 (args := args) hN hle).put h0 v
  have h5 := h4.put h1 v
  have hev := h4.eval (x := .tmp d0) (v := v) (by simp [ev, look])
  rcases hr c0 cs hu with h6 | ⟨h6, hv, h7⟩
  · exact wpS_seq (wpS_rec (.inl h6) (CW.wpS (E := ⟨N, [], w0, S⟩) (k c0 cs) (by rw [hev]; exact h5) hw))
  · have hself : ({ c0 with mode := u' } : Frame) = c0 := by rw [h7, ← hu]
    have := k c0 cs
    rw [hself] at this
    exact wpS_seq (wpS_rec (.inr ⟨h6, hv, rfl⟩) (CW.wpS (E := ⟨N, [], w0, S⟩) this (by rw [hev]; exact h5) hw))
end
end Go.Proofs.Ytkfmlekomfnleaa
