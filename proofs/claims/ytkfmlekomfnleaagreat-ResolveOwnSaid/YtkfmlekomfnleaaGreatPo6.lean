/- Parts of the proof: The calculus, fifteenth part: deferred calls, recover. · resolve.try: what a call comes to, an error caught. · resolve.Check, by the calculus. · The plain law of what is taken away: a statute that is taken is taken without its last rule, its last class, its exceptions, its totals. · resolve.Vars, by the calculus. · A small statute, as data; what Check and Vars say of it. · The calculus, sixteenth part: append that outgrows its room; slices of known blocks as data. · The laws' small statute, walked. · The laws' works: true. · The calculus, eighteenth part: deep data of one's own. Conditions: none. -/
import Derived.Recover
import Derived.Test.YtkfmlekomfnleaaGreatPo5
/- The calculus, fifteenth part: deferred calls, recover. Conditions: none; everything holds over any program. -/
set_option linter.unusedVariables false
set_option linter.unusedSimpArgs false
namespace Go.Proofs.YtkfmlekomfnleaaGreat
open Go Go.RowKit

structure RetD (P : Program) (fn : Func) (R : Ending → World → Prop) (a : Act) (w : World) : Prop where
  out : bodyPostD P fn R .ret a w
structure PanD (P : Program) (fn : Func) (R : Ending → World → Prop) (c : List PanicEntry) (a : Act) (w : World) : Prop where
  out : bodyPostD P fn R (.panic c) a w
@[reducible] def finD (P : Program) (fn : Func) (R : Ending → World → Prop) : Pst :=
  ⟨RetD P fn R, RetD P fn R, fun _ _ _ => False, fun _ _ _ => False, fun c => PanD P fn R c, bodyPostD P fn R .outgrown⟩
section
variable {P : Program} {E : Env} {ops : Array Oper} {Q : Pst} {K : Act → World → Prop} {rest : List Oper} {G : List (Nat × Value)} {H : List HP}
theorem frame0 {args : List Value} {N n : Nat} (hN : n = N) (hle : Nat.ble args.length N = true) : Fr N [] { tmps := args.toArray ++ Array.replicate (n - args.toArray.size) undef, defers := [] } (idx 0 args) := by
  refine ⟨?_, rfl, fun i v hi => ?_⟩
  · have : args.length ≤ N := by simpa [Nat.ble_eq] using hle
    simp [hN]; omega
  · obtain ⟨_, h2⟩ := look_idx _ _ _ _ hi
    have hlt : i < args.length := by
      have := (List.getElem?_eq_some_iff.1 h2).1
      omega
    rw [Array.getElem?_append_left (by simpa using hlt)]
    simpa using h2
theorem Calls.enterD {f : FuncId} {fn : Func} {c : Code} {args : List Value} {w : World} {S : Nat → Prop} {R : Ending → World → Prop} (hf : P.funcs[f]? = some fn) (hb : fn.body = some c) (N : Nat) (hN : fn.ntmps = N) (hle : Nat.ble args.length N = true)
    (hst : Sep H w S) (k : CW P ⟨N, [], w, S⟩ c (finD P fn R) (idx 0 args) H) : Calls P f args.toArray w R :=
  calls_of_wp_defers hf hb (wp_mono (k _ _ (frame0 hN hle) (St.start hst)) (fun e a w h => by cases e <;> first | exact h.out | exact h | exact h.elim))
section
variable {ty : TypeId} {pos : String} {af : Array Edge} {t : TypeId} {z v : Value} {sz by_ : Nat} {x y fv : Operand} {l : List Operand} {vs caps : List Value} {at_ : Array TypeId} {dst : Nat}
theorem RW.defer {f : FuncId} {dst : Option Nat} (hdst : dst = none) (hfv : ev G fv = some (.func (.func f) #[] caps.toArray)) (hl : evs G l = some vs)
    (kk : RW P ⟨E.N, { target := .fn (.func f) caps.toArray, args := vs.toArray } :: E.ds, E.w0, E.S⟩ ops Q rest G H) : RW P E ops Q (⟨dst, .defer ⟨.value fv, l.toArray, at_⟩, ty, pos, af, none⟩ :: rest) G H := by
  subst hdst
  exact RW.step rfl (fun a w hf hw => by
    have hrun : (execOp a.eval ⟨none, .defer ⟨.value fv, l.toArray, at_⟩, ty, pos, af, none⟩).run P w = .ok (.defer { target := .fn (.func f) caps.toArray, args := vs.toArray }) w := by
      simp [execOp, resolve, hf.eval hfv, Deferred.ofValue, hf.evals hl, Result.andThen]
    rw [hrun]
    exact kk _ _ ⟨hf.size, by show _ :: a.defers = _; rw [hf.defers], hf.at_⟩ hw)
/-- A call of a function value, what happens at a panic left open. -/
theorem RW.callwD {f : FuncId} {pre : List Value} {α β : Type} {sp : Ex α} {V : α → β → Value} {c : α → β → List HP} (C : List HP) {r : List HP}
    (hcall : ∀ args w, (callFunc f args).run P w = .ok (.enter f args) w) (hfv : ev G fv = some (.func (.func f) pre.toArray caps.toArray)) (hl : evs G l = some vs)
    (hc : ∀ w F, St E.w0 E.S (C ++ r) w → (∀ b, F b → E.S b ∨ E.w0.heap.size ≤ b) → Sep C w F → RetE P f (pre ++ (vs ++ caps)) w F sp V c) (hN : Nat.blt dst E.N = true)
    (hpan : ∀ er, sp = .error er → ∀ a w, Fr E.N E.ds a G → St E.w0 E.S r w → Q.pan [{ v := evF er, recovered := false }] a w)
    (kk : ∀ x y, sp = .ok x → RW P E ops Q rest ((dst, V x y) :: G) (c x y ++ r)) : RW P E ops Q (⟨some dst, .call ⟨.value fv, l.toArray, at_⟩, ty, pos, af, none⟩ :: rest) G (C ++ r) :=
  RW.callw_gen hcall hfv hl (fun a w hf hw => by
    obtain ⟨F, hF, h1, h2⟩ := Sep.split hw.sep
    refine (hc w F hw (fun b hb => (hF b hb).1) h1).mono ?_
    intro e w' he
    unfold XP at he
    cases sp with
    | error er =>
      obtain ⟨rfl, hx⟩ := he
      exact hpan er rfl a w' hf (St.turnF hw.kp hF h2 hx)
    | ok x =>
      obtain ⟨y, rfl, hx⟩ := he
      exact kk x y rfl _ _ (hf.put hN _) (St.turnF hw.kp hF h2 hx))
theorem RW.neqNil {ms : Array (String × TypeId)} {t' : TypeId} [T : Ty P t (.interface ms) z sz by_] {ti : TypeId} (hx : ev G x = some (.iface ti v)) (hy : ev G y = some .nilIface) (hN : Nat.blt dst E.N = true)
    (kk : RW P E ops Q rest ((dst, .bool true) :: G) H) : RW P E ops Q (⟨some dst, .binOp .neq t x y t', ty, pos, af, none⟩ :: rest) G H :=
  RW.val hN (fun a w hf hw => by
    have h1 : (eqGuard .neq t x y (.iface ti v) .nilIface).run P w = .ok () w := by unfold eqGuard; rfl
    have h2 : ∀ d, (Op.equalIn (d + 1) t (.iface ti v) .nilIface).run P w = .ok false w := fun d => by simp [Op.equalIn, T.runUnd, Result.andThen]
    have h2' : (Op.equalIn Op.maxDepth t (.iface ti v) .nilIface).run P w = .ok false w := h2 9999
    have h3 : (binOp .neq t (.iface ti v) .nilIface).run P w = .ok (.bool true) w := by
      simp only [binOp]
      simp only [Op.equal, Sem.run_bind, h2', Result.andThen, Sem.run_pure, Bool.not_false, Bool.not_true]
    simp [execOp, hf.eval hx, hf.eval hy, h1, h3, Result.andThen]) kk
theorem RW.neqNilF {ms : Array (String × TypeId)} {t' : TypeId} [T : Ty P t (.interface ms) z sz by_] (hx : ev G x = some .nilIface) (hy : y = .const .nilIface) (hN : Nat.blt dst E.N = true)
    (kk : RW P E ops Q rest ((dst, .bool false) :: G) H) : RW P E ops Q (⟨some dst, .binOp .neq t x y t', ty, pos, af, none⟩ :: rest) G H := by
  subst hy
  exact RW.val hN (fun a w hf hw => by
    have h1 : (eqGuard .neq t x (.const .nilIface) .nilIface .nilIface).run P w = .ok () w := by simp [eqGuard]
    have h2 : ∀ d, (Op.equalIn (d + 1) t .nilIface .nilIface).run P w = .ok true w := fun d => by simp [Op.equalIn, T.runUnd, Result.andThen]
    have h2' : (Op.equalIn Op.maxDepth t .nilIface .nilIface).run P w = .ok true w := h2 9999
    have h3 : (binOp .neq t .nilIface .nilIface).run P w = .ok (.bool false) w := by
      simp only [binOp]
      simp only [Op.equal, Sem.run_bind, h2', Result.andThen, Sem.run_pure, Bool.not_false, Bool.not_true]
    have h4 : a.eval (.const .nilIface) = .nilIface := rfl
    simp [execOp, hf.eval hx, h4, h1, h3, Result.andThen]) kk
/-- A type assertion that holds. -/
theorem RW.assertOk {d : TypeDesc} {ti : TypeId} [T : Ty P t d z sz by_] (hd : (match d with | .interface _ => false | _ => true) = true) (hx : ev G x = some (.iface t v)) (hN : Nat.blt dst E.N = true)
    (kk : RW P E ops Q rest ((dst, .tuple #[v, .bool true]) :: G) H) : RW P E ops Q (⟨some dst, .typeAssert x ti t true, ty, pos, af, none⟩ :: rest) G H :=
  RW.val hN (fun a w hf hw => by
    have h1 : (Instr.typeAssert (.iface t v) ti t true).run P w = .ok (.tuple #[v, .bool true]) w := by
      cases d <;> first | (cases hd; done) | simp [Instr.typeAssert, T.runUnd, Result.andThen]
    simp [execOp, hf.eval hx, h1, Result.andThen]) kk
end
/-- What is asked at the end of a deferred call that has recovered. -/
structure RetS (P : Program) (fn : Func) (c0 : Frame) (cs cs' : List Frame) (R : Ending → FrameMode → World → Prop) (e : Exit) (a : Act) (w : World) : Prop where
  out : bodyPostS P fn c0 cs R e a cs' w
@[reducible] def finS (P : Program) (fn : Func) (c0 : Frame) (cs cs' : List Frame) (R : Ending → FrameMode → World → Prop) : Pst :=
  ⟨RetS P fn c0 cs cs' R .normal, RetS P fn c0 cs cs' R .ret, fun _ _ _ => False, fun _ _ _ => False, fun c => RetS P fn c0 cs cs' R (.panic c), fun a w => bodyPostS P fn c0 cs R .outgrown a cs' w⟩
theorem PW.retS {fn : Func} {c0 : Frame} {cs cs' : List Frame} {R : Ending → FrameMode → World → Prop} {u : FrameMode} {rs : List ResultVar} {vs : List Value} (hr : fn.results = rs.toArray) (hd : E.ds = []) (hc : cs' = { c0 with mode := u } :: cs) (h : ResOK P E G H rs vs) (k : ∀ w, St E.w0 E.S H w → R (.returned (resV vs)) u w) :
    PW E (RetS P fn c0 cs cs' R .normal) G H := fun a w hf hw => ⟨⟨hf.defers.trans hd, u, hc, _, run_results hr h hf hw, k w hw⟩⟩
theorem recoverD_quiet {c0 : Frame} {cs : List Frame} (hu : c0.mode = .returning) : recoverD (c0 :: cs) = none := by simp [recoverD, hu]
theorem recoverD_panic {c0 : Frame} {cs : List Frame} {v : Value} (hu : c0.mode = .panicking [{ v := v, recovered := false }]) : recoverD (c0 :: cs) = some (v, { c0 with mode := .panicking [{ v := v, recovered := true }] } :: cs) := by simp [recoverD, hu]
theorem wpS_rec {id d0 d1 : Nat} {t0 t1 : TypeId} {p0 p1 : String} {af0 af1 : Array Edge} {a0 : Array TypeId} {QS : Exit → Act → List Frame → World → Prop} {a : Act} {cs cs' : List Frame} {w : World} {v : Value} (hr : recoverD cs = some (v, cs') ∨ (recoverD cs = none ∧ v = .nilIface ∧ cs' = cs))
    (k : QS .normal ((a.put (some d0) v).put (some d1) ((a.put (some d0) v).eval (.tmp d0))) cs' w) :
    (Code.region id #[⟨some d0, .call ⟨.builtin .recover, #[], a0⟩, t0, p0, af0, none⟩, ⟨some d1, .assign (.tmp d0), t1, p1, af1, none⟩] false).wpS P QS a cs w := by
  refine wpS_region ?_
  show wpOpsS P _ QS [0, 1] a cs w
  rcases hr with hr | ⟨hr, rfl, rfl⟩ <;> simp [wpOpsS, Region.wanted, execOp, resolve, invoke, builtin, Oper.upon, hr] <;> exact k
theorem CW.wpS {c : Code} {fn : Func} {c0 : Frame} {cs cs' : List Frame} {R : Ending → FrameMode → World → Prop} {a : Act} {w : World} (k : CW P E c (finS P fn c0 cs cs' R) G H) (hf : Fr E.N E.ds a G) (hw : St E.w0 E.S H w) : c.wpS P (bodyPostS P fn c0 cs R) a cs' w :=
  wpS_of_wp (wp_mono (k a w hf hw) (fun e a w h => by cases e <;> first | exact h.out | exact h | exact h.elim))
/-- A deferred call that begins by asking what unwinds. -/
theorem CallsD.rec {f : FuncId} {fn : Func} {id d0 d1 : Nat} {t0 t1 : TypeId} {p0 p1 : String} {af0 af1 : Array Edge} {a0 : Array TypeId} {y : Code} {args : List Value} {u : FrameMode} {w0 w : World} {S : Nat → Prop} {v : Value} {u' : FrameMode} {R : Ending → FrameMode → World → Prop} (hf : P.funcs[f]? = some fn)
    (hb : fn.body = some (.seq (.region id #[⟨some d0, .call ⟨.builtin .recover, #[], a0⟩, t0, p0, af0, none⟩, ⟨some d1, .assign (.tmp d0), t1, p1, af1, none⟩] false) y)) (N : Nat) (hN : fn.ntmps = N) (hle : Nat.ble args.length N = true) (h0 : Nat.blt d0 N = true) (h1 : Nat.blt d1 N = true)
    (hr : ∀ (c0 : Frame) (cs : List Frame), c0.mode = u → recoverD (c0 :: cs) = some (v, { c0 with mode := u' } :: cs) ∨ (recoverD (c0 :: cs) = none ∧ v = .nilIface ∧ u' = u)) (hw : St w0 S H w)
    (k : ∀ (c0 : Frame) (cs : List Frame), CW P ⟨N, [], w0, S⟩ y (finS P fn c0 cs ({ c0 with mode := u' } :: cs) R) ((d1, v) :: (d0, v) :: idx 0 args) H) : CallsD P f args.toArray u w R := by
  refine callsD_of_wpS hf hb fun c0 cs hu => ?_
  have h4 := (frame0 (args := args) hN hle).put h0 v
  have h5 := h4.put h1 v
  have hev := h4.eval (x := .tmp d0) (v := v) (by simp [ev, look])
  rcases hr c0 cs hu with h6 | ⟨h6, hv, h7⟩
  · exact wpS_seq (wpS_rec (.inl h6) (CW.wpS (E := ⟨N, [], w0, S⟩) (k c0 cs) (by rw [hev]; exact h5) hw))
  · have hself : ({ c0 with mode := u' } : Frame) = c0 := by rw [h7, ← hu]
    have := k c0 cs
    rw [hself] at this
    exact wpS_seq (wpS_rec (.inr ⟨h6, hv, rfl⟩) (CW.wpS (E := ⟨N, [], w0, S⟩) this (by rw [hev]; exact h5) hw))
end
end Go.Proofs.YtkfmlekomfnleaaGreat
/- resolve.try: what a call comes to, an error caught. Conditions: none. -/
set_option linter.unusedVariables false
set_option linter.unusedSimpArgs false
set_option maxRecDepth 10000
namespace Go.Proofs.YtkfmlekomfnleaaGreat
open Go Go.RowKit

attribute [local irreducible] RW CW
/-- What try hands back. -/
def XT {α β : Type} (w : World) (F : Nat → Prop) (SP : Ex α) (c : α → β → List HP) (e : Ending) (w' : World) : Prop :=
  match SP with
  | .ok x => ∃ y, e = .returned (.agg #[.int .i64 0, .int .i64 0]) ∧ St w F (c x y) w'
  | .error er => e = .returned (.agg #[.int .i64 er.1, .int .i64 er.2]) ∧ St w F [] w'
theorem try1_pan {b2 : Nat} {er : Int × Int} {w0 w : World} {S : Nat → Prop} {r : List HP} (hw : St w0 S (blk b2 [.int .i64 0, .int .i64 0] 108 :: r) w) :
    CallsD Tryz.prog 99 [ptrV b2].toArray (.panicking [{ v := evF er, recovered := false }]) w (fun e u' w' => e = .returned (.tuple #[]) ∧ u' = .panicking [{ v := evF er, recovered := true }] ∧ St w0 S (blk b2 [.int .i64 er.1, .int .i64 er.2] 108 :: r) w') := by
  refine CallsD.rec (v := evF er) (u' := .panicking [{ v := evF er, recovered := true }]) Tryz.func99 rfl _ rfl rfl rfl rfl (fun c0 cs hu => .inl (recoverD_panic hu)) hw fun c0 cs => ?_
  refine Ja ?_;refine Jc ?_
  refine RW.neqNil rfl rfl rfl ?_
  refine Jb ?_
  refine CW.ct rfl ?_
  refine Ja ?_;refine Jc ?_
  refine RW.assertOk rfl rfl rfl ?_
  refine Jc ?_;refine Jt ?_;refine Jt ?_
  refine RW.alloc rfl rfl fun b3 _ => ?_
  refine RW.store_whole [] rfl rfl (vs := [.int .i64 er.1, .int .i64 er.2]) rfl rfl rfl (by simp [Value.oneCell']) ?_
  refine Jd ?_;refine Jb ?_
  refine CW.seq ?_
  refine Ja ?_;refine Jc ?_;refine Js ?_;refine Jb ?_
  refine CW.cf rfl ?_
  refine JM ?_
  refine CW.region ?_
  refine JE ?_
  refine RW.store_whole [_] rfl rfl (vs := [.int .i64 er.1, .int .i64 er.2]) rfl rfl rfl (by simp [Value.oneCell']) ?_
  exact RW.nil (PW.retS (rs := []) (vs := []) Tryz.results99 rfl rfl ResOK.nil fun w hw => ⟨rfl, rfl, hw.sub (List.Sublist.cons _ (List.Sublist.refl _))⟩)
theorem try1_ok {b2 : Nat} {w0 w : World} {S : Nat → Prop} {H : List HP} (hw : St w0 S H w) :
    CallsD Tryz.prog 99 [ptrV b2].toArray .returning w (fun e u' w' => e = .returned (.tuple #[]) ∧ u' = .returning ∧ St w0 S H w') := by
  refine CallsD.rec (v := .nilIface) (u' := .returning) Tryz.func99 rfl _ rfl rfl rfl rfl (fun c0 cs hu => .inr ⟨recoverD_quiet hu, rfl, rfl⟩) hw fun c0 cs => ?_
  refine Ja ?_;refine Jc ?_
  refine RW.neqNilF rfl rfl rfl ?_
  refine Jb ?_
  refine CW.cf rfl ?_
  refine CW.skip ?_
  refine PW.retS (rs := []) (vs := []) Tryz.results99 rfl rfl ResOK.nil fun w hw => ⟨rfl, rfl, hw⟩
set_option maxHeartbeats 4000000 in
theorem try_ret {α β : Type} {g : FuncId} {pre caps : List Value} {w : World} {F : Nat → Prop} {C : List HP} {sp : Ex α} {c : α → β → List HP} (hg : ∀ args w, (callFunc g args).run Tryz.prog w = .ok (.enter g args) w) (hH : Sep C w F)
    (hb : ∀ (w2 : World) (F2 : Nat → Prop), Stay w F w2 F2 → Sep C w2 F2 → RetE Tryz.prog g (pre ++ ([] ++ caps)) w2 F2 sp (fun _ _ => .tuple #[]) c) :
    Calls Tryz.prog 37 [.func (.func g) pre.toArray caps.toArray].toArray w (XT w F sp c) := by
  refine Calls.enterD Tryz.func37 rfl _ rfl rfl (S := F) (H := C) hH ?_
  refine CW.seqR ?_
  refine RW.alloc (c := [.int .i64 0, .int .i64 0]) rfl rfl fun b2 _ => ?_
  refine Jb ?_;refine Ja ?_;refine Jx ?_
  refine RW.defer rfl rfl rfl ?_
  refine Jb ?_;refine Ja ?_;refine Jc ?_
  refine RW.perm (H' := []) (C ++ [blk b2 [.int .i64 0, .int .i64 0] 108]) (List.perm_append_comm (l₁ := [_])) ?_
  refine RW.callwD C hg rfl rfl (fun w2 F2 hw hF2 h1 => hb w2 F2 (Stay.of hw hF2) h1) rfl (fun er he a w' hf hx2 => PanD.mk ?_) fun x y he => ?_
  · subst he
    show Leaves _ _ a.tmps _ a.defers _ w'
    rw [hf.defers]
    refine leaves_cons (fun h => by cases h) (rfl : _ = Result.ok (Next.enter 99 [ptrV b2].toArray) w') ?_
    refine (try1_pan hx2).mono ?_
    rintro e u' w3 ⟨rfl, rfl, hw3⟩
    show ∃ v, _ ∧ _
    refine ⟨_, run_results (rs := [.cell 2 108]) rfl (ResOK.cell [] rfl rfl rfl ResOK.nil) hf hw3, ?_⟩
    exact ⟨rfl, hw3.kp, trivial⟩
  · subst he
    refine Jb ?_;refine Ja ?_
    refine RW.build (v := .agg #[.int .i64 0, .int .i64 0]) rfl (fun w => by kernel_rfl) rfl ?_
    refine RW.store_whole (c x y) rfl rfl (vs := [.int .i64 0, .int .i64 0]) rfl rfl rfl (by simp [Value.oneCell']) ?_
    refine Jb ?_
    refine CW.ret rfl fun a w4 hf hw => RetD.mk ?_
    show Leaves _ _ a.tmps _ a.defers _ w4
    rw [hf.defers]
    refine leaves_cons (fun h => by cases h) (rfl : _ = Result.ok (Next.enter 99 [ptrV b2].toArray) w4) ?_
    refine (try1_ok hw).mono ?_
    rintro e u' w3 ⟨rfl, rfl, hw3⟩
    show ∃ v, _ ∧ _
    refine ⟨_, run_results (rs := [.cell 2 108]) rfl (ResOK.cell (c x y) rfl rfl rfl ResOK.nil) hf hw3, ?_⟩
    exact ⟨y, rfl, hw3.sub (List.sublist_append_left _ _)⟩
end Go.Proofs.YtkfmlekomfnleaaGreat
/- resolve.Check, by the calculus. Conditions: none. -/
set_option linter.unusedVariables false
set_option linter.unusedSimpArgs false
set_option maxRecDepth 10000
namespace Go.Proofs.YtkfmlekomfnleaaGreat
open Go Go.RowKit Go.MapKept

section
variable {P : Program} {E : Env} {ops : Array Oper} {Q : Pst} {rest : List Oper} {G : List (Nat × Value)} {H : List HP}
variable {dst : Nat} {ty : TypeId} {pos : String} {af : Array Edge}
/-- A call of try. -/
theorem RW.callXT {l : List Operand} {vs : List Value} {at_ : Array TypeId} {f : FuncId} {α β : Type} {sp : Ex α} {c : α → β → List HP} (C : List HP) {r : List HP}
    (hcall : ∀ args w, (callFunc f args).run P w = .ok (.enter f args) w) (hl : evs G l = some vs)
    (hc : ∀ w F, St E.w0 E.S (C ++ r) w → (∀ b, F b → E.S b ∨ E.w0.heap.size ≤ b) → Sep C w F → Sep r w (fun b => (E.S b ∨ E.w0.heap.size ≤ b) ∧ ¬ F b) → Calls P f vs.toArray w (XT w F sp c)) (hN : Nat.blt dst E.N = true)
    (herr : ∀ er, sp = .error er → RW P E ops Q rest ((dst, .agg #[.int .i64 er.1, .int .i64 er.2]) :: G) r)
    (kk : ∀ x y, sp = .ok x → RW P E ops Q rest ((dst, .agg #[.int .i64 0, .int .i64 0]) :: G) (c x y ++ r)) : RW P E ops Q (⟨some dst, .call ⟨.value (.func f), l.toArray, at_⟩, ty, pos, af, none⟩ :: rest) G (C ++ r) :=
  RW.call_gen hcall hl (fun a w hf hw => by
    obtain ⟨F, hF, h1, h2⟩ := Sep.split hw.sep
    refine (hc w F hw (fun b hb => (hF b hb).1) h1 h2).mono ?_
    intro e w' he
    unfold XT at he
    cases sp with
    | error er =>
      obtain ⟨rfl, hx⟩ := he
      exact herr er rfl _ _ (hf.put hN _) (St.turnF hw.kp hF h2 hx)
    | ok x =>
      obtain ⟨y, rfl, hx⟩ := he
      exact kk x y rfl _ _ (hf.put hN _) (St.turnF hw.kp hF h2 hx))
end
theorem map_at {pre r : List HP} {b : Nat} {D : List (Str × Int)} {w : World} {A F : Nat → Prop} (h : Sep (pre ++ mapHP strK intK .string b D :: r) w (fun b => A b ∧ ¬ F b)) : MapOn w (fun b => ¬ F b) b D := by
  obtain ⟨F', hF', hp, _⟩ := Sep.pull h
  exact ⟨(hF' b hp.1).1.2, hp.2⟩
theorem StatOn.with {M : Mem} {s : kStat.V} {x : RC} (h : StatOn M s x) (b1 b2 b3 b4 b5 b6 : Nat) : StatOn M s (x.with b1 b2 b3 b4 b5 b6) := ⟨h.kinds, h.members, h.preds, h.classes, h.sources, h.rules, h.excepts, h.totals⟩
theorem RD.of {s : kStat.V} {x : RC} {r : List HP} {w : World} {A F : Nat → Prop} (hs : StatOn (mem w (fun b => ¬ F b)) s x) (h : Sep (mapsH s x ++ r) w (fun b => A b ∧ ¬ F b)) : RD w (fun b => ¬ F b) s x :=
  ⟨hs, map_at (pre := []) h, map_at (pre := [_]) h, map_at (pre := [_, _]) h, map_at (pre := [_, _, _]) h, map_at (pre := [_, _, _, _]) h, map_at (pre := [_, _, _, _, _]) h⟩
attribute [local irreducible] RW CW
/-- What Check answers. -/
def checkD (s : kStat.V) : Int × Int := match itemsD s 0 with
  | .ok n => (0, n)
  | .error e => e
set_option maxHeartbeats 8000000 in
theorem check_ret {s : kStat.V} {x : RC} {w : World} (hst : StatOn (mem w (fun b => ¬ No b)) s x) :
    Ret Tryz.prog 7 [.agg (x.stat s).toArray] w (.tuple #[.int .i64 (checkD s).1, .int .i64 (checkD s).2]) := by
  refine Calls.enter Tryz.func7 rfl _ rfl rfl (S := No) (H := []) trivial ?_
  refine CW.seqR ?_
  refine RW.box_agg (l := x.stat s) rfl rfl fun b1 _ => ?_
  refine Jd ?_;refine Jd ?_;refine Jb ?_;refine Ja ?_;refine JE ?_
  refine RW.callN Tryz.call36 rfl (fun w2 hw => resolve_ret (StatOn.mono hst (ro_call hw))) rfl fun q => ?_
  obtain ⟨br, y⟩ := q
  refine RW.purely [_, _, _, _, _, _, _] (fun hy => ?_)
  dsimp only at hy ⊢
  have hst2 : StatOn (mem w (fun b => ¬ No b)) s y := by rw [hy]; exact hst.with _ _ _ _ _ _
  clear hy
  refine Jd ?_;refine Jb ?_
  refine CW.seq ?_
  refine Ja ?_;refine Jc ?_;refine Jx ?_
  refine RW.callXT (sp := itemsD s 0) (r := mapsH s y ++ [_]) [blk br (y.cells s 0) 112] Tryz.call37 rfl (fun w2 F2 hw2 hF2 h1 h2 => try_ret (pre := [ptrV br]) (caps := []) Tryz.call38 h1 fun w3 F3 hst3 hsep => items_ret ((RD.of (StatOn.mono (M := Env.ro ⟨Tryz.f7.ntmps, [], w, No⟩) hst2 (ro_callF hw2 hF2)) h2).stay hst3) hsep) rfl (fun er he => ?_) fun n u he => ?_
  · have hc : checkD s = er := by unfold checkD; rw [he]
    have hne : er.1 ≠ 0 := nz_items er he
    rw [hc]
    refine RW.alloc (c := [.int .i64 0, .int .i64 0]) rfl rfl fun b5 _ => ?_
    refine RW.store_whole [] rfl rfl (vs := [.int .i64 er.1, .int .i64 er.2]) rfl rfl rfl (by simp [Value.oneCell']) ?_
    refine Jb ?_;refine Ja ?_;refine Je ?_;refine JA ?_;refine Jj ?_;refine Jb ?_
    refine CW.ite rfl (fun _ => ?_) (fun h => absurd hne h)
    refine CW.keep [(5, ptrV b5)] ⟨rfl, trivial⟩ ?_
    refine CW.seqA (by kernel_rfl) rfl ?_
    refine AW.val rfl (fun _ _ => by refine Je ?_;exact RW.done rfl) ?_;refine AW.val rfl (fun _ _ => by refine JA ?_;exact RW.done rfl) ?_;refine AW.val rfl (fun _ _ => by refine Je ?_;exact RW.done rfl) ?_;refine AW.val rfl (fun _ _ => by refine JA ?_;exact RW.done rfl) ?_;refine AW.val rfl (fun _ _ => by refine Jd ?_;exact RW.done rfl) ?_;refine AW.val rfl (fun _ _ => by refine Jd ?_;exact RW.done rfl) ?_
    refine AW.stop (by kernel_rfl) (by kernel_rfl) fun bs => ?_
    refine Jb ?_
    exact CW.rets (rs := [.tmp 2, .tmp 3]) (vs := [_, _]) rfl Tryz.results7 rfl (ResOK.tmp rfl (ResOK.tmp rfl ResOK.nil)) fun w hw => ⟨rfl, hw.kp⟩
  · have hc : checkD s = (0, n) := by unfold checkD; rw [he]
    rw [hc]
    refine RW.alloc (c := [.int .i64 0, .int .i64 0]) rfl rfl fun b5 _ => ?_
    refine RW.store_whole [] rfl rfl (vs := [.int .i64 0, .int .i64 0]) rfl rfl rfl (by simp [Value.oneCell']) ?_
    refine Jb ?_;refine Ja ?_;refine Je ?_;refine JA ?_;refine Jj ?_;refine Jb ?_
    refine CW.ite rfl (fun h => absurd rfl h) (fun _ => ?_)
    refine CW.skip ?_
    refine PW.code ?_
    refine CW.keep [(4, ptrV br)] ⟨rfl, trivial⟩ ?_
    refine CW.seqA (by kernel_rfl) rfl ?_
    refine AW.val rfl (fun _ _ => by refine Jc ?_;exact RW.done rfl) ?_;refine AW.val rfl (fun _ _ => by refine Jf ?_;exact RW.done rfl) ?_;refine AW.val rfl (fun _ _ => by refine Je ?_;exact RW.done rfl) ?_;refine AW.val rfl (fun _ _ => by refine JB ?_;exact RW.done rfl) ?_;refine AW.val rfl (fun _ _ => by refine Jd ?_;exact RW.done rfl) ?_;refine AW.val rfl (fun _ _ => by refine Jd ?_;exact RW.done rfl) ?_
    refine AW.stop (by kernel_rfl) (by kernel_rfl) fun bs => ?_
    refine Jb ?_
    exact CW.rets (rs := [.tmp 2, .tmp 3]) (vs := [_, _]) rfl Tryz.results7 rfl (ResOK.tmp rfl (ResOK.tmp rfl ResOK.nil)) fun w hw => ⟨rfl, hw.kp⟩
end Go.Proofs.YtkfmlekomfnleaaGreat
/- The plain law of what is taken away: a statute that is taken is taken without its last rule, its last class, its exceptions, its totals. Conditions: none. -/
set_option linter.unusedVariables false
set_option linter.unusedSimpArgs false
set_option maxRecDepth 10000
namespace Go.Proofs.YtkfmlekomfnleaaGreat
open Go Go.RowKit

/-- What passes there passes here, and comes to the same. -/
def Imp {α : Type} (x y : Ex α) : Prop := ∀ v, x = .ok v → y = .ok v
theorem Imp.refl {α : Type} {x : Ex α} : Imp x x := fun _ h => h
theorem Imp.bnd {α β : Type} {x x' : Ex α} {k k' : α → Ex β} (h : Imp x x') (hk : ∀ v, Imp (k v) (k' v)) : Imp (Go.Proofs.YtkfmlekomfnleaaGreat.bnd x k) (Go.Proofs.YtkfmlekomfnleaaGreat.bnd x' k') := fun v hv => by
  obtain ⟨y, h1, h2⟩ := bnd_inv hv
  rw [bnd_ok (h _ h1)]
  exact hk y v h2
theorem Imp.want {b b' : Bool} {e a e' a' : Int} (h : b = true → b' = true) : Imp (wantD b e a) (wantD b' e' a') := fun v hv => by
  rw [h (want_inv hv)]; rfl
theorem Imp.fold {σ α : Type} {f g : σ → α → Ex σ} (h : ∀ m x, Imp (f m x) (g m x)) : ∀ {l : List α} {m : σ}, Imp (foldX f m l) (foldX g m l) := by
  intro l
  induction l with
  | nil => intro m; exact Imp.refl
  | cons x l ih => intro m; exact Imp.bnd (h m x) fun _ => ih
theorem each_le {σ α : Type} {f f' : Int → Int → σ → α → Ex σ} : ∀ {l l' : List α} {a a' i : Int} {y : σ} {z : Int × σ}, (∀ (k : Nat) (x : α), l'[k]? = some x → ∀ a a' y, Imp (f a (i + k) y x) (f' a' (i + k) y x)) → l' <+: l → eachD f a i y l = .ok z → ∃ y', eachD f' a' i y l' = .ok (a' + l'.length, y') := by
  intro l
  induction l with
  | nil =>
    intro l' a a' i y z _ hp _
    obtain rfl := List.prefix_nil.1 hp
    exact ⟨y, by simp [eachD]⟩
  | cons x l ih =>
    intro l' a a' i y z hf hp h
    cases l' with
    | nil => exact ⟨y, by simp [eachD]⟩
    | cons x' l' =>
      obtain ⟨rfl, hp2⟩ := List.cons_prefix_cons.1 hp
      obtain ⟨y1, h1, h2⟩ := bnd_inv h
      have h3 := hf 0 x' rfl a a' y _ (by simpa using h1)
      obtain ⟨y', h4⟩ := ih (l' := l') (a' := a' + 1) (fun k x hx a a' y => by
        have := hf (k + 1) x (by simpa using hx) a a' y
        rw [show i + 1 + (k : Int) = i + ((k + 1 : Nat) : Int) by omega]
        exact this) hp2 h2
      refine ⟨y', ?_⟩
      rw [eachD, bnd_ok (by simpa using h3), h4]
      simp only [List.length_cons]
      congr 2
      omega
theorem fst?_append (a t : List Str) (k : Str) : fst? (a ++ t) k = match fst? a k with | some v => some v | none => (fst? t k).map (· + a.length) := by
  induction a with
  | nil => show fst? t k = _; cases fst? t k <;> simp [fst?]
  | cons x a ih =>
    rw [List.cons_append, fst?, fst?, ih]
    by_cases h : x = k
    · rw [if_pos h, if_pos h]
    · rw [if_neg h, if_neg h]
      cases fst? a k with
      | some v => rfl
      | none =>
        cases fst? t k with
        | none => rfl
        | some v => simp; omega
theorem fst?_mem {l : List Str} {k : Str} (h : k ∈ l) : ∃ v, fst? l k = some v := by
  induction l with
  | nil => cases h
  | cons x l ih =>
    rw [fst?]
    by_cases hx : x = k
    · exact ⟨0, by rw [if_pos hx]⟩
    · rcases List.mem_cons.1 h with h | h
      · exact absurd h.symm hx
      · obtain ⟨v, hv⟩ := ih h
        exact ⟨v + 1, by rw [if_neg hx, hv]; rfl⟩
theorem fst?_prefix {l' l : List Str} (h : l' <+: l) {k : Str} (hk : k ∈ l') : fst? l k = fst? l' k := by
  obtain ⟨t, rfl⟩ := h
  obtain ⟨v, hv⟩ := fst?_mem hk
  rw [fst?_append, hv]
/-- The same kinds, members, predicates, sources. -/
structure Like (s s' : kStat.V) : Prop where
  kinds : sKinds s' = sKinds s
  members : sMembers s' = sMembers s
  preds : sPreds s' = sPreds s
  sources : sSources s' = sSources s
section
variable {s s' : kStat.V}
theorem Like.pGet (h : Like s s') (n : Str) : pGet s' n = pGet s n := by unfold Go.Proofs.YtkfmlekomfnleaaGreat.pGet; rw [h.preds]
theorem Like.predAt (h : Like s s') (n : Str) : predAt s' n = predAt s n := by unfold Go.Proofs.YtkfmlekomfnleaaGreat.predAt pIdx; rw [h.pGet, h.preds]
theorem Like.mGet (h : Like s s') (n : Str) : mGet s' n = mGet s n := by unfold Go.Proofs.YtkfmlekomfnleaaGreat.mGet; rw [h.members]
theorem Like.memAt (h : Like s s') (n : Str) : memAt s' n = memAt s n := by unfold Go.Proofs.YtkfmlekomfnleaaGreat.memAt; rw [h.mGet, h.members]
theorem imp_fresh {l : List Str} {a a' i : Int} {n : Str} : Imp (freshD l a n i) (freshD l a' n i) := Imp.bnd (Imp.want id) fun _ => Imp.bnd (Imp.want id) fun _ => Imp.refl
theorem imp_fresh_prefix {l l' : List Str} {a a' i : Int} {n : Str} (h : l' <+: l) (hn : n ∈ l') : Imp (freshD l a n i) (freshD l' a' n i) :=
  Imp.bnd (Imp.want id) fun _ => Imp.bnd (Imp.want (by rw [indexD_get, indexD_get, fst?_prefix h hn]; exact id)) fun _ => Imp.refl
theorem imp_kind (h : Like s s') {a a' : Int} {n : Str} : Imp (kindD s a n) (kindD s' a' n) := Imp.bnd (Imp.want (by rw [h.kinds]; exact id)) fun _ => Imp.refl
theorem imp_pred (h : Like s s') {a a' i : Int} {p : kPredT.V} : Imp (predD s a p i) (predD s' a' p i) := by
  refine Imp.bnd (by rw [h.preds]; exact imp_fresh) fun _ => Imp.bnd (Imp.want id) fun _ => Imp.bnd (Imp.want id) fun _ => Imp.bnd (Imp.fold fun _ _ => imp_kind h) fun _ => ?_
  split
  · exact Imp.bnd (Imp.want id) fun _ => Imp.bnd (Imp.fold fun _ _ => Imp.bnd (Imp.want id) fun _ => Imp.refl) fun _ => Imp.refl
  · exact Imp.bnd (Imp.want id) fun _ => Imp.refl
theorem imp_class (h : Like s s') {a a' : Int} {l : List Str} {m : List (Str × Int)} : Imp (classD s a l m) (classD s' a' l m) :=
  Imp.bnd (Imp.want id) fun _ => Imp.bnd (Imp.fold fun _ _ => Imp.bnd (Imp.want (by rw [h.pGet]; exact id)) fun _ => Imp.bnd (Imp.want (by rw [h.predAt]; exact id)) fun _ => Imp.bnd (Imp.want (by rw [h.predAt, h.predAt]; exact id)) fun _ => Imp.bnd (Imp.want id) fun _ => Imp.refl) fun _ => Imp.refl
theorem imp_arg (h : Like s s') {a a' : Int} {fr : Bool} {x : Sc} {v k : Str} : Imp (argD s a fr x v k) (argD s' a' fr x v k) := by
  unfold argD
  split
  · exact Imp.bnd (Imp.want id) fun _ => Imp.bnd (Imp.want id) fun _ => Imp.refl
  · exact Imp.bnd (Imp.want id) fun _ => Imp.bnd (Imp.want (by rw [h.mGet]; exact id)) fun _ => Imp.bnd (Imp.want (by rw [h.memAt]; exact id)) fun _ => Imp.refl
theorem imp_args (h : Like s s') {a a' : Int} {fr : Bool} {x : Sc} {l : List Str} {p : kPredT.V} : Imp (argsD s a fr x l p) (argsD s' a' fr x l p) := Imp.bnd (Imp.want id) fun _ => Imp.bnd (Imp.fold fun _ _ => imp_arg h) fun _ => Imp.refl
theorem imp_literal (h : Like s s') {a a' : Int} {fr : Bool} {x : Sc} {l : kLitT.V} : Imp (literalD s a fr x l) (literalD s' a' fr x l) := by
  unfold literalD
  rw [h.pGet, h.predAt]
  exact Imp.bnd (Imp.want id) fun _ => Imp.bnd (Imp.want id) fun _ => Imp.bnd (imp_args h) fun _ => Imp.bnd (Imp.want id) fun _ => Imp.bnd (Imp.want id) fun _ => Imp.refl
theorem imp_term (h : Like s s') {a a' : Int} {fr : Bool} {x : Sc} {t : kTerm.V} : Imp (termD s a fr x t) (termD s' a' fr x t) := by
  unfold termD
  rw [h.pGet, h.predAt]
  split
  · exact Imp.bnd (Imp.want id) fun _ => Imp.bnd (Imp.want id) fun _ => Imp.refl
  · exact Imp.bnd (Imp.want id) fun _ => Imp.bnd (Imp.want id) fun _ => Imp.bnd (Imp.want id) fun _ => Imp.bnd (imp_args h) fun _ => Imp.refl
theorem imp_unlike (h : Like s s') {a a' : Int} {x : Sc} {v : Str} : Imp (unlikeD s a x v) (unlikeD s' a' x v) := by
  unfold unlikeD
  rw [h.mGet]
  split
  · exact Imp.refl
  · exact Imp.bnd (Imp.want id) fun _ => Imp.bnd (Imp.want id) fun _ => Imp.refl
theorem imp_guard (h : Like s s') {a a' : Int} {fr : Bool} {x : Sc} {g : kGuard.V} : Imp (guardD s a fr x g) (guardD s' a' fr x g) := Imp.bnd (Imp.want id) fun _ => Imp.bnd (Imp.fold fun _ _ => Imp.fold fun _ _ => imp_term h) fun _ => Imp.refl
theorem imp_premise (h : Like s s') {a a' : Int} {fr : Bool} {x : Sc} {p : kPrem.V} : Imp (premiseD s a fr x p) (premiseD s' a' fr x p) := by
  unfold premiseD
  split
  · exact Imp.bnd (imp_literal h) fun _ => Imp.refl
  · split
    · exact Imp.bnd (imp_guard h) fun _ => Imp.refl
    · split
      · exact Imp.bnd (imp_unlike h) fun _ => Imp.bnd (imp_unlike h) fun _ => Imp.refl
      · exact Imp.bnd (Imp.want id) fun _ => Imp.refl
theorem imp_rule (h : Like s s') {a a' : Int} {x : kRule.V} : Imp (ruleD s a x) (ruleD s' a' x) := Imp.bnd (Imp.fold fun _ _ => imp_premise h) fun _ => Imp.bnd (imp_literal h) fun _ => Imp.bnd (Imp.fold fun _ _ => Imp.bnd (Imp.want id) fun _ => Imp.refl) fun _ => Imp.refl
theorem imp_ruleItem (h : Like s s') {a a' i : Int} {x : kRule.V} (hr : sRules s' <+: sRules s) (hx : x ∈ sRules s') : Imp (ruleItemD s a x i) (ruleItemD s' a' x i) :=
  Imp.bnd (imp_fresh_prefix (hr.map nameOf) (List.mem_map.2 ⟨x, hx, rfl⟩)) fun _ => Imp.bnd (Imp.want (by rw [h.sources]; exact id)) fun _ => Imp.bnd (Imp.want id) fun _ => Imp.bnd (Imp.want id) fun _ => Imp.bnd (Imp.want id) fun _ => Imp.bnd (Imp.want id) fun _ => Imp.bnd (imp_rule h) fun _ => Imp.refl
theorem imp_total (h : Like s s') {a a' i : Int} {x : kTotal.V} (ht : sTotals s' = sTotals s) : Imp (totalD s a x i) (totalD s' a' x i) := by
  unfold totalD
  rw [ht]
  refine Imp.bnd imp_fresh fun _ => Imp.bnd (imp_kind h) fun _ => Imp.bnd (Imp.want id) fun _ => Imp.bnd (Imp.fold fun _ _ => ?_) fun _ => Imp.bnd (Imp.want id) fun _ => Imp.bnd (Imp.want id) fun _ => Imp.refl
  unfold totalStep
  rw [h.pGet, h.predAt]
  exact Imp.bnd (Imp.want id) fun _ => Imp.bnd (Imp.want id) fun _ => Imp.bnd (Imp.want id) fun _ => Imp.bnd (Imp.want id) fun _ => Imp.refl
/-- What has been taken away at its ends. -/
structure Less (s s' : kStat.V) : Prop extends Like s s' where
  classes : sClasses s' <+: sClasses s
  rules : sRules s' <+: sRules s
  excepts : sExcepts s' = [] ∨ (sExcepts s' = sExcepts s ∧ sRules s' = sRules s)
  totals : sTotals s' = [] ∨ sTotals s' = sTotals s
theorem items_less (h : Less s s') {a n : Int} (ho : itemsD s a = .ok n) : ∃ n', itemsD s' a = .ok n' ∧ n' ≤ n := by
  have hL := h.toLike
  obtain ⟨_, h0, ho⟩ := bnd_inv ho
  obtain ⟨z1, h1, ho⟩ := bnd_inv ho
  obtain ⟨z2, h2, ho⟩ := bnd_inv ho
  obtain ⟨z3, h3, ho⟩ := bnd_inv ho
  obtain ⟨z4, h4, ho⟩ := bnd_inv ho
  obtain ⟨z5, h5, ho⟩ := bnd_inv ho
  obtain ⟨z6, h6, ho⟩ := bnd_inv ho
  obtain ⟨z7, h7, ho⟩ := bnd_inv ho
  obtain ⟨z8, h8, ho⟩ := bnd_inv ho
  cases ho
  have lc := h.classes.length_le
  have lr := h.rules.length_le
  have le : (sExcepts s').length ≤ (sExcepts s).length := by rcases h.excepts with h | ⟨h, _⟩ <;> rw [h] <;> simp
  have lt : (sTotals s').length ≤ (sTotals s).length := by rcases h.totals with h | h <;> rw [h] <;> simp
  have e1 := eachD_at h1
  have e2 := eachD_at h2
  have e3 := eachD_at h3
  have e4 := eachD_at h4
  have e5 := eachD_at h5
  have e6 := eachD_at h6
  have e7 := eachD_at h7
  have e8 := eachD_at h8
  obtain ⟨_, g1⟩ := each_le (f' := kindItemD s') (l' := sKinds s') (a' := a) (fun k x hx a a' y => by unfold kindItemD; rw [hL.kinds]; exact Imp.bnd imp_fresh fun _ => Imp.refl) (by rw [hL.kinds]; exact List.prefix_refl _) h1
  obtain ⟨_, g2⟩ := each_le (f' := memberItemD s') (l' := sMembers s') (a' := a + (sKinds s').length) (fun k x hx a a' y => by unfold memberItemD; rw [hL.members]; exact Imp.bnd imp_fresh fun _ => Imp.bnd (imp_kind hL) fun _ => Imp.refl) (by rw [hL.members]; exact List.prefix_refl _) h2
  obtain ⟨_, g3⟩ := each_le (f' := predItemD s') (l' := sPreds s') (a' := a + (sKinds s').length + (sMembers s').length) (fun k x hx a a' y => imp_pred hL) (by rw [hL.preds]; exact List.prefix_refl _) h3
  obtain ⟨_, g4⟩ := each_le (f' := classItemD s') (l' := sClasses s') (a' := a + (sKinds s').length + (sMembers s').length + (sPreds s').length) (fun k x hx a a' y => Imp.bnd (imp_class hL) fun _ => Imp.refl) h.classes h4
  obtain ⟨_, g5⟩ := each_le (f' := sourceItemD s') (l' := sSources s') (a' := a + (sKinds s').length + (sMembers s').length + (sPreds s').length + (sClasses s').length) (fun k x hx a a' y => by unfold sourceItemD; rw [hL.sources]; exact Imp.bnd imp_fresh fun _ => Imp.bnd (Imp.want id) fun _ => Imp.refl) (by rw [hL.sources]; exact List.prefix_refl _) h5
  obtain ⟨_, g6⟩ := each_le (f' := rulesItemD s') (l' := sRules s') (a' := a + (sKinds s').length + (sMembers s').length + (sPreds s').length + (sClasses s').length + (sSources s').length) (fun k x hx a a' y => imp_ruleItem hL h.rules (List.mem_of_getElem? hx)) h.rules h6
  obtain ⟨_, g7⟩ : ∃ y', eachD (exceptItemD s') (a + (sKinds s').length + (sMembers s').length + (sPreds s').length + (sClasses s').length + (sSources s').length + (sRules s').length) 0 [] (sExcepts s') = .ok (a + (sKinds s').length + (sMembers s').length + (sPreds s').length + (sClasses s').length + (sSources s').length + (sRules s').length + (sExcepts s').length, y') := by
    rcases h.excepts with he | ⟨he, hr⟩
    · rw [he]; exact ⟨[], by simp [eachD]⟩
    · exact each_le (f' := exceptItemD s') (l' := sExcepts s') (fun k x hx a a' y => by unfold exceptItemD rGet; rw [hr]; exact Imp.bnd (Imp.want id) fun _ => Imp.bnd (Imp.want id) fun _ => Imp.refl) (by rw [he]; exact List.prefix_refl _) h7
  obtain ⟨_, g8⟩ : ∃ y', eachD (totalItemD s') (a + (sKinds s').length + (sMembers s').length + (sPreds s').length + (sClasses s').length + (sSources s').length + (sRules s').length + (sExcepts s').length) 0 () (sTotals s') = .ok (a + (sKinds s').length + (sMembers s').length + (sPreds s').length + (sClasses s').length + (sSources s').length + (sRules s').length + (sExcepts s').length + (sTotals s').length, y') := by
    rcases h.totals with he | he
    · rw [he]; exact ⟨(), by simp [eachD]⟩
    · exact each_le (f' := totalItemD s') (l' := sTotals s') (fun k x hx a a' y => imp_total hL he) (by rw [he]; exact List.prefix_refl _) h8
  have hc : countsD s' = true := by
    have hc := want_inv h0
    unfold countsD at hc ⊢
    simp only [Bool.and_eq_true, decide_eq_true_eq] at hc ⊢
    rw [hL.kinds, hL.members, hL.preds, hL.sources]
    omega
  refine ⟨a + (sKinds s').length + (sMembers s').length + (sPreds s').length + (sClasses s').length + (sSources s').length + (sRules s').length + (sExcepts s').length + (sTotals s').length, ?_, ?_⟩
  · unfold itemsD
    rw [hc, bnd_ok (show wantD true 3 a = .ok () from rfl), bnd_ok g1, bnd_ok g2, bnd_ok g3, bnd_ok g4, bnd_ok g5, bnd_ok g6, bnd_ok g7, bnd_ok g8]
  · rw [e8, e7, e6, e5, e4, e3, e2, e1, hL.kinds, hL.members, hL.preds, hL.sources]
    omega
end
end Go.Proofs.YtkfmlekomfnleaaGreat
/- resolve.Vars, by the calculus. Conditions: none. -/
set_option linter.unusedVariables false
set_option linter.unusedSimpArgs false
set_option maxRecDepth 10000
namespace Go.Proofs.YtkfmlekomfnleaaGreat
open Go Go.RowKit Go.MapKept

theorem check_ok {s : kStat.V} (h : (checkD s).1 = 0) : ∃ n, itemsD s 0 = .ok n ∧ checkD s = (0, n) := by
  unfold checkD at h ⊢
  cases hi : itemsD s 0 with
  | ok n => exact ⟨n, rfl, rfl⟩
  | error e => rw [hi] at h; exact absurd h (nz_items e hi)
theorem Like.refl (s : kStat.V) : Like s s := ⟨rfl, rfl, rfl, rfl⟩
theorem items_rules {s : kStat.V} {n : Int} (ho : itemsD s 0 = .ok n) : fourK s ∧ ∀ x ∈ sRules s, x.2.2.2.2.1.length ≤ 16 ∧ ∃ c, ruleD s 0 x = .ok c := by
  obtain ⟨_, h0, ho⟩ := bnd_inv ho
  obtain ⟨z1, h1, ho⟩ := bnd_inv ho
  obtain ⟨z2, h2, ho⟩ := bnd_inv ho
  obtain ⟨z3, h3, ho⟩ := bnd_inv ho
  obtain ⟨z4, h4, ho⟩ := bnd_inv ho
  obtain ⟨z5, h5, ho⟩ := bnd_inv ho
  obtain ⟨z6, h6, ho⟩ := bnd_inv ho
  refine ⟨fourK_of h3, eachD_all (fun a i y x y' h => ?_) h6⟩
  obtain ⟨_, _, h⟩ := bnd_inv h
  obtain ⟨_, _, h⟩ := bnd_inv h
  obtain ⟨_, _, h⟩ := bnd_inv h
  obtain ⟨_, _, h⟩ := bnd_inv h
  obtain ⟨_, _, h⟩ := bnd_inv h
  obtain ⟨_, hw, h⟩ := bnd_inv h
  obtain ⟨c, hc, h⟩ := bnd_inv h
  have := of_decide_eq_true (want_inv hw)
  exact ⟨by omega, c, imp_rule (Like.refl s) _ hc⟩
theorem ruleD_len {s : kStat.V} {a : Int} {x : kRule.V} {c : Sc} (hK : fourK s) (hB : x.2.2.2.2.1.length ≤ 16) (h : ruleD s a x = .ok c) : c.names.length ≤ 1028 := by
  obtain ⟨c1, h1, h⟩ := bnd_inv h
  obtain ⟨c2, h2, h⟩ := bnd_inv h
  obtain ⟨_, _, h⟩ := bnd_inv h
  cases h
  have h3 := foldX_len (n := fun x => x.names.length) (d := 64) (fun _ _ _ h => premiseD_len hK h) h1
  have h4 := literalD_len hK h2
  simp at h3
  omega
section
variable {P : Program} {E : Env} {ops : Array Oper} {Q : Pst} {rest : List Oper} {G : List (Nat × Value)} {H : List HP}
variable {dst : Nat} {ty : TypeId} {pos : String} {af : Array Edge}
/-- A call that might unwind, and does not. -/
theorem RW.callOk {l : List Operand} {vs : List Value} {at_ : Array TypeId} {f : FuncId} {α β : Type} {sp : Ex α} {V : α → β → Value} {c : α → β → List HP} (x0 : α) (hsp : sp = .ok x0) (hcall : ∀ args w, (callFunc f args).run P w = .ok (.enter f args) w) (hl : evs G l = some vs)
    (hc : ∀ w, St E.w0 E.S H w → RetE P f vs w No sp V c) (hN : Nat.blt dst E.N = true)
    (kk : ∀ y, RW P E ops Q rest ((dst, V x0 y) :: G) (c x0 y ++ H)) : RW P E ops Q (⟨some dst, .call ⟨.value (.func f), l.toArray, at_⟩, ty, pos, af, none⟩ :: rest) G H :=
  RW.call_gen hcall hl (fun a w hf hw => (hc w hw).mono (by
    intro e w' he
    subst hsp
    obtain ⟨y, rfl, hx⟩ := he
    exact kk y _ _ (hf.put hN _) (St.turnF (F := No) hw.kp (fun b hb => hb.elim) (Sep.up (fun b hb => ⟨hb, fun k => k.elim⟩) hw.sep) hx)))
end
theorem map_atN {pre r : List HP} {b : Nat} {D : List (Str × Int)} {w : World} {A : Nat → Prop} (h : Sep (pre ++ mapHP strK intK .string b D :: r) w A) : MapOn w (fun b => ¬ No b) b D := by
  obtain ⟨F', hF', hp, _⟩ := Sep.pull h
  exact ⟨fun k => k, hp.2⟩
theorem RS.ofN {s : kStat.V} {x : RC} {r : List HP} {br : Nat} {w : World} {A : Nat → Prop} (hs : StatOn (mem w (fun b => ¬ No b)) s x) (h : Sep (blk br (x.cells s 0) 112 :: (mapsH s x ++ r)) w A) : RS w (fun b => ¬ No b) br s 0 x :=
  RD.rs ⟨hs, map_atN (pre := [_]) h, map_atN (pre := [_, _]) h, map_atN (pre := [_, _, _]) h, map_atN (pre := [_, _, _, _]) h, map_atN (pre := [_, _, _, _, _]) h, map_atN (pre := [_, _, _, _, _, _]) h⟩ (fun k => k) (Sep.blk_at h).2
attribute [local irreducible] RW CW
abbrev intE (x : Int) : List Value := [.int .i64 x]
/-- The number of a variable's kind. -/
def kindNo (s : kStat.V) (c : Sc) (v : Str) : Int := (getM (indexD (sKinds s)) ((getM c.km v).getD ByteArray.empty)).getD 0
def noRule : kRule.V := (ByteArray.empty, ByteArray.empty, (0 : Int), (0 : Int), ([] : List kPrem.V), (0 : Int), (false, ByteArray.empty, ([] : List Str), false, (0 : Int)))
def ruleAt (s : kStat.V) (n : Int) : kRule.V := ((sRules s)[n.toNat]?).getD noRule
/-- What Vars answers: names, kinds, an error. -/
def varsD (s : kStat.V) (n : Int) : List Str × List Int × Int :=
  if (checkD s).1 = 0 then
    if n < 0 ∨ (sRules s).length ≤ n then ([], [], 1)
    else match ruleD s 0 (ruleAt s n) with
      | .ok c => (c.names, c.names.map (kindNo s c), 0)
      | .error e => ([], [], e.1)
  else ([], [], (checkD s).1)
abbrev varsH (v : List Str × List Int × Int) (q : Value × Value) : List HP := [ownHP 9 1 q.1 (v.1.map strE), ownHP 3 1 q.2 (v.2.1.map intE)]
set_option maxHeartbeats 16000000 in
theorem vars_ret {s : kStat.V} {x : RC} {n : Int} {w : World} (hst : StatOn (mem w (fun b => ¬ No b)) s x) :
    RetC Tryz.prog 9 [.agg (x.stat s).toArray, .int .i64 n] w No (fun q : Value × Value => .tuple #[q.1, q.2, .int .i64 (varsD s n).2.2]) (varsH (varsD s n)) := by
  generalize hV : varsD s n = V
  unfold varsD at hV
  have nilH : ∀ (w2 : World) (H : List HP), St w No H w2 → St w No (varsH ([], [], 0) (.slice none 0 0, .slice none 0 0)) w2 := fun w2 H hw =>
    ⟨hw.kp, No, fun b hb => hb.elim, .inl ⟨rfl, rfl⟩, No, fun b hb => hb.elim, .inl ⟨rfl, rfl⟩, trivial⟩
  refine Calls.enter Tryz.func9 rfl _ rfl rfl (S := No) (H := []) trivial ?_
  refine CW.seqR ?_
  refine RW.box_agg (l := x.stat s) rfl rfl fun b2 _ => ?_
  refine Jd ?_;refine Jd ?_;refine Jd ?_;refine Jb ?_
  refine CW.seq ?_
  refine Ja ?_;refine JE ?_
  refine RW.call Tryz.call7 rfl (fun w2 hw => check_ret (StatOn.mono hst (ro_call hw))) rfl ?_
  refine Jc ?_;refine Jt ?_;refine Jt ?_;refine Jd ?_;refine Jd ?_;refine Jb ?_;refine Ja ?_;refine Jc ?_;refine Jj ?_;refine Jb ?_
  refine CW.ite rfl (fun h1 => ?_) (fun h1 => ?_)
  · rw [if_neg h1] at hV
    subst hV
    refine Ja ?_;refine Jc ?_;refine Jd ?_;refine Jd ?_;refine Jd ?_;refine Jb ?_
    exact CW.rets (rs := [.tmp 4, .tmp 5, .tmp 6]) (vs := [_, _, _]) rfl Tryz.results9 rfl (ResOK.tmp rfl (ResOK.tmp rfl (ResOK.tmp rfl ResOK.nil))) fun w hw => ⟨(.slice none 0 0, .slice none 0 0), rfl, nilH w _ hw⟩
  have h1 : (checkD s).1 = 0 := Decidable.of_not_not h1
  rw [if_pos h1] at hV
  obtain ⟨m, hm, _⟩ := check_ok h1
  obtain ⟨hK, hrs⟩ := items_rules hm
  refine JM ?_
  refine CW.seq ?_
  refine Ja ?_;refine Jc ?_;refine Jk ?_;refine Jc ?_
  have hbad : n < 0 ∨ ((sRules s).length : Int) ≤ n → (([] : List Str), ([] : List Int), (1 : Int)) = V := fun h => by rw [if_pos h] at hV; exact hV
  refine RW.splitD 24 rfl (fun h2 => ?_) (fun h2 => ?_)
  · obtain rfl := hbad (.inl h2)
    refine Jz ?_;refine Jz ?_;refine Jz ?_;refine Jz ?_;refine Jz ?_;refine Jv ?_;refine Jb ?_
    refine CW.ct rfl ?_
    refine Ja ?_;refine Jd ?_;refine Jd ?_;refine Jd ?_;refine Jb ?_
    exact CW.rets (rs := [.tmp 4, .tmp 5, .tmp 6]) (vs := [_, _, _]) rfl Tryz.results9 rfl (ResOK.tmp rfl (ResOK.tmp rfl (ResOK.tmp rfl ResOK.nil))) fun w hw => ⟨(.slice none 0 0, .slice none 0 0), rfl, nilH w _ hw⟩
  refine Jy ?_;refine Jc ?_;refine Jy ?_;refine Je ?_;refine Jy ?_;refine JA ?_;refine Jy ?_;refine Jg ?_;refine Jy ?_;refine Jn ?_;refine Jw ?_;refine Jb ?_
  refine CW.ite rfl (fun h3 => ?_) (fun h3 => ?_)
  · obtain rfl := hbad (.inr h3)
    refine Ja ?_;refine Jd ?_;refine Jd ?_;refine Jd ?_;refine Jb ?_
    exact CW.rets (rs := [.tmp 4, .tmp 5, .tmp 6]) (vs := [_, _, _]) rfl Tryz.results9 rfl (ResOK.tmp rfl (ResOK.tmp rfl (ResOK.tmp rfl ResOK.nil))) fun w hw => ⟨(.slice none 0 0, .slice none 0 0), rfl, nilH w _ hw⟩
  rw [if_neg (by omega)] at hV
  have hn : n.toNat < (sRules s).length := by omega
  have hat : (sRules s)[n.toNat]? = some (ruleAt s n) := by unfold ruleAt; rw [List.getElem?_eq_getElem hn]; rfl
  obtain ⟨hB, c, hc⟩ := hrs _ (List.mem_of_getElem? hat)
  rw [hc] at hV
  subst hV
  have hcl := ruleD_len hK hB hc
  have hsm := sl_small hst.rules
  unfold reach at hsm
  obtain ⟨B1, O1, cs, hA, hl1, hr, hmm⟩ := sl_get hst.rules hat
  have hle : Mem.le (mem w (fun b => ¬ No b)) (mem w (fun b => ¬ No b)) := Mem.le_refl _
  refine CW.skip ?_
  refine PW.code ?_
  refine Ja ?_;refine JE ?_
  refine RW.callN Tryz.call36 rfl (fun w2 hw => resolve_ret (StatOn.mono hst (ro_call hw))) rfl fun q => ?_
  obtain ⟨br, y⟩ := q
  refine RW.purely [_, _, _, _, _, _, _] (fun hy => ?_)
  dsimp only at hy ⊢
  have hst2 : StatOn (mem w (fun b => ¬ No b)) s y := by rw [hy]; exact hst.with _ _ _ _ _ _
  clear hy
  refine RW.take [7, 0, 1, 2, 3, 4, 5, 6] ?_
  refine Jd ?_;refine Jb ?_;refine Ja ?_;refine Jc ?_;refine Je ?_;refine JA ?_;refine Jc ?_
  refine RW.indexAddrE hA rfl rfl (by omega) (by omega) rfl ?_
  refine RW.load_ros rfl hle hmm rfl hl1 (by rw [hl1]; decide) rfl ?_
  refine RW.take [1, 2, 3, 4, 5, 6, 7, 0] ?_
  refine RW.callOk c hc Tryz.call40 rfl (fun w2 hw => rule_ret (RS.ofN (StatOn.mono (M := Env.ro ⟨Tryz.f9.ntmps, [], w, No⟩) hst2 (ro_call hw)) hw.sep) (hr.mono (ro_call (E := ⟨Tryz.f9.ntmps, [], w, No⟩) hw)) hK hB) rfl fun z => ?_
  obtain ⟨bc, bm, u⟩ := z
  dsimp only
  refine RW.have_ (φ := ∃ A c1, u = .slice A c.names.length c1 ∧ (c.names ≠ [] → ∃ B, A = some ⟨B, 0, none⟩)) (fun w hw => ?_) (fun ⟨NA, nc, hu, hNA⟩ => ?_)
  · rcases own_form (pre := [_]) hw with ⟨h1, h2⟩ | ⟨B, c1, h1, _⟩
    · have : c.names = [] := by simpa using h2
      exact ⟨none, 0, by rw [h1, this]; rfl, fun h => absurd this h⟩
    · rw [List.length_map] at h1
      exact ⟨_, c1, h1, fun _ => ⟨B, rfl⟩⟩
  subst hu
  refine RW.take [0, 1, 2, 3, 4] ?_
  refine RW.add_ (ownHP 3 1 (.slice none 0 0) []) (fun w _ => .inl ⟨rfl, rfl⟩) ?_
  refine RW.take [1, 2, 3, 4, 5, 0] ?_
  refine Jd ?_;refine Jb ?_;refine Ja ?_;refine Jd ?_;refine Jb ?_
  refine CW.seq ?_
  refine Ja ?_;refine Jc ?_;refine Jf ?_;refine Je ?_;refine JA ?_;refine Jg ?_;refine Jc ?_;refine Jb ?_
  refine CW.block ?_
  refine CW.loop (ι := { q : Nat × Value // q.1 ≤ c.names.length }) (fun q => [(9, ptrV br), (10, ptrV bc), (11, q.1.2), (43, .slice NA c.names.length nc), (44, .int .i64 c.names.length), (45, .int .i64 q.1.1)])
    (fun q => scH bc bm false c (.slice NA c.names.length nc) ++ [blk br (y.cells s 0) 112, mapHP strK intK .string y.b1 (indexD (sKinds s)), ownHP 3 1 q.1.2 (((c.names.take q.1.1).map (kindNo s c)).map intE)]) (fun q => c.names.length - q.1.1) ⟨(0, .slice none 0 0), Nat.zero_le _⟩ ⟨rfl, rfl, rfl, rfl, rfl, rfl, trivial⟩ (fun h => h) ?_
  intro ⟨⟨j, v⟩, hj⟩
  dsimp only at hj ⊢
  refine Ja ?_;refine Jk ?_;refine Jb ?_
  refine CW.seq ?_
  refine CW.ite rfl (fun hlt => ?_) (fun hge => ?_)
  · have hlt' : j < c.names.length := by simpa using hlt
    obtain ⟨NB, rfl⟩ := hNA (by intro h; rw [h] at hlt'; simp at hlt')
    refine JM ?_
    refine CW.seq ?_
    refine CW.block ?_
    refine Ja ?_
    refine RW.indexAddr rfl rfl (by omega) hlt rfl ?_
    refine RW.load_fact (v := .string c.names[j]) rfl rfl rfl (fun w hw => ?_) ?_
    · have h1 := own_cells (pre := [_]) hw
      have h2 := flatten_at (sz := 1) (es := c.names.map strE) (fun x hx => by obtain ⟨a, _, rfl⟩ := List.mem_map.1 hx; rfl) (i := j) (x := strE c.names[j]) (by rw [List.getElem?_map, List.getElem?_eq_getElem hlt']; rfl) (j := 0) (v := .string c.names[j]) rfl
      exact h1.at_ (j * 1 + 0) h2
    refine Jd ?_;refine Jb ?_
    refine CW.anyV (by kernel_rfl) rfl ?_
    refine AW.val rfl (fun _ _ => by refine Jc ?_;exact RW.done rfl) ?_;refine AW.val rfl (fun _ _ => by refine Jc ?_;exact RW.done rfl) ?_;refine AW.val rfl (fun _ _ => by refine Jf ?_;exact RW.done rfl) ?_;refine AW.val rfl (fun _ _ => by refine Je ?_;exact RW.done rfl) ?_;refine AW.val rfl (fun _ _ => by refine JD ?_;exact RW.done rfl) ?_;refine AW.val rfl (fun _ _ => by refine Jc ?_;exact RW.done rfl) ?_;refine AW.val rfl (fun _ _ => by refine Jf ?_;exact RW.done rfl) ?_;refine AW.val rfl (fun _ _ => by refine Je ?_;exact RW.done rfl) ?_;refine AW.val rfl (fun _ _ => by refine JA ?_;exact RW.done rfl) ?_;refine AW.val rfl (fun _ _ => by refine Jc ?_;exact RW.done rfl) ?_
    (apply AW.val rfl; · intro Gx X; (first | refine RW.yes rfl ?_ | skip); refine RW.lookup [_, _] (a0 := ByteArray.empty) rfl rfl rfl rfl ?_; exact RW.done rfl)
    (apply AW.val rfl; · intro Gx X; (first | refine RW.yes rfl ?_ | skip); refine RW.lookup [_, _, _, _] (a0 := (0 : Int)) rfl rfl rfl rfl ?_; exact RW.done rfl)
    (apply AW.gen (fun b => .slice (some ⟨b, 0, none⟩) 1 1) (fun b => blk b [.int .i64 (kindNo s c c.names[j])] 3) rfl; · intro Gx X; refine RW.buildSlice (e := 3) (c := [.int .i64 (kindNo s c c.names[j])]) rfl (fun w => by kernel_rfl) rfl fun b _ => ?_; exact RW.done_gen rfl)
    refine AW.stop (by kernel_rfl) (by kernel_rfl) fun bs => ?_
    refine RW.append [_, _, _, _, _] (e := 3) (sz := 1) (news := [[.int .i64 (kindNo s c c.names[j])]]) (zc := [.int .i64 0]) rfl rfl rfl rfl rfl (by simp) (by simp [Value.oneCell']) (fun w hw hn => ?_) ?_ ?_ rfl fun v' => ?_
    · exact ⟨bs 61, 0, rfl, CellsAt.of_blk (St.blk (pre := [_, _, _, _, _, _]) hw)⟩
    · simp only [List.length_map, List.length_take]; omega
    · simp only [List.length_map, List.length_take]; unfold maxN; omega
    refine Jd ?_;refine RW.nil (PW.code ?_)
    refine CW.region ?_
    refine RW.add rfl rfl (w64 (by omega) (by omega)) rfl ?_
    refine Jc ?_
    refine RW.nil ?_
    refine PW.againT ⟨(j + 1, v'), hlt'⟩ [0, 1, 2, 3, 4, 5] ⟨rfl, rfl, rfl, rfl, rfl, rfl, trivial⟩ ?_ (by show c.names.length - (j + 1) < c.names.length - j; omega)
    dsimp only
    rw [List.take_succ_eq_append_getElem hlt', List.map_append, List.map_append]
    rfl
  have hge' : c.names.length ≤ j := by simpa using hge
  rw [List.take_of_length_le hge']
  refine CW.exit rfl ?_
  refine PW.code ?_
  refine Ja ?_;refine Jc ?_;refine Jf ?_;refine Je ?_;refine JA ?_;refine Jc ?_;refine Jd ?_;refine Jd ?_;refine Jd ?_;refine Jb ?_
  exact CW.rets (rs := [.tmp 4, .tmp 5, .tmp 6]) (vs := [_, _, _]) rfl Tryz.results9 rfl (ResOK.tmp rfl (ResOK.tmp rfl (ResOK.tmp rfl ResOK.nil))) fun w hw => ⟨(_, v), rfl, hw.take [1, 5]⟩
end Go.Proofs.YtkfmlekomfnleaaGreat
/- A small statute, as data; what Check and Vars say of it. Conditions: none. -/
set_option linter.unusedVariables false
set_option linter.unusedSimpArgs false
set_option maxRecDepth 10000
namespace Go.Proofs.YtkfmlekomfnleaaGreat
open Go Go.RowKit Go.MapKept

abbrev nPerson : Str := ⟨#[112, 101, 114, 115, 111, 110]⟩
abbrev nAnn : Str := ⟨#[97, 110, 110]⟩
abbrev nOld : Str := ⟨#[111, 108, 100]⟩
abbrev nAct : Str := ⟨#[97, 99, 116]⟩
abbrev nR : Str := ⟨#[114]⟩
abbrev nX : Str := ⟨#[88]⟩
abbrev nY : Str := ⟨#[89]⟩
abbrev nNo : Str := ByteArray.empty
def litS : kLitT.V := (false, nOld, [nX], false, (0 : Int))
def premS : kPrem.V := ((1 : Int), litS, (([] : List kTerm.V), (0 : Int), ([] : List kTerm.V)), nNo, nNo)
def premU : kPrem.V := ((3 : Int), (false, nNo, ([] : List Str), false, (0 : Int)), (([] : List kTerm.V), (0 : Int), ([] : List kTerm.V)), nX, nY)
def ruleS (body : List kPrem.V) : kRule.V := (nR, nAct, (1 : Int), (0 : Int), body, (1 : Int), litS)
def statS (body : List kPrem.V) : kStat.V := (nNo, [nPerson], [(nAnn, nPerson)], [(nOld, (1 : Int), [nPerson], ([] : List Int))], ([] : List (List Str)), [(nAct, (1 : Int))], [ruleS body], ([] : List kExc.V), ([] : List kTotal.V))
theorem small_check : checkD (statS [premS]) = (0, 5) := by kernel_rfl
theorem small_vars : varsD (statS [premS]) 0 = ([nX], [0], 0) := by kernel_rfl
theorem small_loose : checkD (statS [premS, premU]) = (86, 4) := by kernel_rfl
end Go.Proofs.YtkfmlekomfnleaaGreat
/- The calculus, sixteenth part: append that outgrows its room; slices of known blocks as data. Conditions: none; everything holds over any program. -/
set_option linter.unusedVariables false
set_option linter.unusedSimpArgs false
namespace Go.Proofs.YtkfmlekomfnleaaGreat
open Go Go.RowKit

section
variable {P : Program} {E : Env} {ops : Array Oper} {Q : Pst} {rest : List Oper} {G : List (Nat × Value)} {H : List HP}
variable {dst : Nat} {ty : TypeId} {pos : String} {af : Array Edge} {t e : TypeId} {d : TypeDesc} {z z' : Value} {sz by_ sz' by' : Nat} {x y : Operand}
theorem RW.appendGrow {B O B2 O2 sl sc m cp : Nat} {olds news zc : List Value} [T : Ty P t (.slice e) z' sz' by'] [T2 : Ty P e d z sz by_] (hx : ev G x = some (.slice (some ⟨B, O, none⟩) sl sc)) (hy : ev G y = some (.slice (some ⟨B2, O2, none⟩) m cp))
    (hz : z.cells = zc.toArray) (hzs : zc.length = sz) (hm : 0 < m) (hl : olds.length = sl * sz) (hnl : news.length = m * sz) (hold : ∀ w, St E.w0 E.S H w → CellsAt w B O olds) (hsrc : ∀ w, St E.w0 E.S H w → CellsAt w B2 O2 news) (hg : sc < sl + m) (hb : (sl + m) * by_ ≤ 140737488355328) (hmx : sl + m ≤ maxN) (hN : Nat.blt dst E.N = true)
    (kk : ∀ b cap tl, E.w0.heap.size ≤ b → sl + m ≤ cap → cap ≤ maxN → (olds ++ news).length + tl.length = cap * sz → RW P E ops Q rest ((dst, .slice (some ⟨b, 0, none⟩) (sl + m) cap) :: G) (blk b ((olds ++ news) ++ tl) e :: H)) :
    RW P E ops Q (⟨some dst, .call ⟨.builtin .append, #[x, y], #[t, t]⟩, ty, pos, af, none⟩ :: rest) G H :=
  RW.step rfl (fun f w hf hw => by
    have hexec : ∀ v' w', (Builtin.append_ #[t, t] ty #[.slice (some ⟨B, O, none⟩) sl sc, .slice (some ⟨B2, O2, none⟩) m cp]).run P w = .ok v' w' → (execOp f.eval ⟨some dst, .call ⟨.builtin .append, #[x, y], #[t, t]⟩, ty, pos, af, none⟩).run P w = .ok (.value v') w' := by
      intro v' w' h
      simp [execOp, resolve, invoke, builtin, hf.eval hx, hf.eval hy, h]
    obtain ⟨i, hi, hz', hs', hb'⟩ := T2.info
    have hr := run_append_grow (P := P) w t ty e i z T.und hi hz' ⟨B, O, none⟩ sl sc olds (by rw [hs']; exact hl) (cellsAdd (hold w hw)) ⟨B2, O2, none⟩ m cp news (by rw [hs']; exact hnl) (cellsAdd (hsrc w hw)) (by omega) (by unfold maxN at hmx; omega) (by rw [hb']; exact growslice_fits (by omega) hb)
    obtain ⟨tl, htl, htll⟩ := zeroCells_flat hz (grownCap w (sl + m) sc e - (sl + m))
    have hge := grownCap_ge w (sl + m) sc e
    have hge2 := grownCap_le_maxLen w (sl + m) sc e (by unfold maxN at hmx; unfold maxLen; omega)
    rw [hexec _ _ hr, htl]
    refine kk w.heap.size _ tl hw.kp.size hge (by unfold maxLen at hge2; unfold maxN; exact hge2) ?_ _ _ (hf.put hN _) ?_
    · rw [List.length_append, hl, hnl, htll, hzs, ← Nat.add_mul, ← Nat.add_mul]
      congr 1
      omega
    · have e1 : olds.toArray ++ news.toArray ++ tl.toArray = ((olds ++ news) ++ tl).toArray := by simp
      rw [e1]
      refine hw.fresh (Keeps.trans (S2 := No) (Keeps.drew No w) (Keeps.alloc No w.drew _) (fun _ hb => hb.elim)) ⟨⟨Nat.le_refl _, ?_⟩, ?_⟩
      · show _ < (w.heap.push _).size; simp
      · show (w.heap.push _)[_]? = _; simp)
end
/-- A number for a block and a room. -/
theorem enc (b c : Nat) (h : c ≤ maxN) : ∃ n, b = n / 9223372036854775808 ∧ c = n % 9223372036854775808 := ⟨b * 9223372036854775808 + c, by unfold maxN at h; omega, by unfold maxN at h; omega⟩
/-! ### data by hand -/
theorem rdS {M : Mem} (x : ByteArray) (h : Nat.ble x.size reach = true) : Rd .str M [.string x] x := ⟨rfl, by simpa [Nat.ble_eq] using h⟩
theorem rdI {M : Mem} (k : IntKind) (x : Int) (h : (Lit.int k x).wf = true) : Rd (.int k) M [.int k x] x := ⟨rfl, h⟩
theorem rdB {M : Mem} (b : Bool) : Rd .bool M [.bool b] b := rfl
theorem rdP {M : Mem} {a b : K} {c1 c2 : List Value} {x : a.V} {y : b.V} (h : Rd a M c1 x) (k : Rd b M c2 y) : Rd (.pr a b) M (c1 ++ c2) (x, y) := ⟨c1, c2, rfl, h, k⟩
theorem rdNil {M : Mem} {by_ : Nat} {t : K} : Rd (.sl by_ t) M [.slice none 0 0] ([] : List t.V) := ⟨none, 0, rfl, Nat.le_refl _, Nat.zero_le _, by simp, RowAt.nil⟩
theorem rdOne {M : Mem} {by_ b : Nat} {t : K} {cs : List Value} {x : t.V} (hc : ∀ (j : Nat) (v : Value), cs[j]? = some v → M b j v) (hx : Rd t M cs x) (hb : Nat.ble by_ reach = true) : Rd (.sl by_ t) M [.slice (some ⟨b, 0, none⟩) 1 1] ([x] : List t.V) := by
  refine ⟨some ⟨b, 0, none⟩, 1, rfl, Nat.le_refl _, by decide, by simpa [Nat.ble_eq] using hb, fun _ => ⟨b, 0, rfl, fun j y hj => ?_⟩⟩
  cases j with
  | zero =>
    simp only [List.getElem?_cons_zero, Option.some.injEq] at hj
    subst hj
    exact ⟨cs, hx.len, hx, fun i v hv => by simpa using hc i v hv⟩
  | succ j => simp at hj
end Go.Proofs.YtkfmlekomfnleaaGreat
/- The laws' small statute, walked. Conditions: none. -/
set_option linter.unusedVariables false
set_option linter.unusedSimpArgs false
set_option maxRecDepth 10000
namespace Go.Proofs.YtkfmlekomfnleaaGreat
open Go Go.RowKit Go.MapKept

structure SQ where
  (b17 b14 b11 b9 b7 b6 b4 bX : Nat)
abbrev slV (b : Nat) : Value := .slice (some ⟨b, 0, none⟩) 1 1
abbrev premC (bX : Nat) : List Value := [.int .i64 1, .bool false, .string nOld, slV bX, .bool false, .int .i64 0, .slice none 0 0, .int .i64 0, .slice none 0 0, .string nNo, .string nNo]
abbrev premUC : List Value := [.int .i64 3, .bool false, .string nNo, .slice none 0 0, .bool false, .int .i64 0, .slice none 0 0, .int .i64 0, .slice none 0 0, .string nX, .string nY]
abbrev ruleC (u : Value) (bX : Nat) : List Value := [.string nR, .string nAct, .int .i64 1, .int .i64 0, u, .int .i64 1, .bool false, .string nOld, slV bX, .bool false, .int .i64 0]
abbrev predC (b7 : Nat) : List Value := [.string nOld, .int .i64 1, slV b7, .slice none 0 0]
def xS (q : SQ) : RC := ⟨some ⟨q.b4, 0, none⟩, some ⟨q.b6, 0, none⟩, some ⟨q.b9, 0, none⟩, none, some ⟨q.b11, 0, none⟩, some ⟨q.b17, 0, none⟩, none, none, 1, 1, 1, 0, 1, 1, 0, 0, 0, 0, 0, 0, 0, 0⟩
abbrev statC (q : SQ) : List Value := [.string nNo, slV q.b4, slV q.b6, slV q.b9, .slice none 0 0, slV q.b11, slV q.b17, .slice none 0 0, .slice none 0 0]
theorem stat_xS (q : SQ) (body : List kPrem.V) : (xS q).stat (statS body) = statC q := rfl
abbrev smallH (q : SQ) (u : Value) (es : List (List Value)) : List HP := [blk q.b17 (ruleC u q.bX) 120, ownHP 145 11 u es, blk q.b11 [.string nAct, .int .i64 1] 161, blk q.b9 (predC q.b7) 151, blk q.b7 [.string nPerson] 9, blk q.b6 [.string nAnn, .string nPerson] 158, blk q.b4 [.string nPerson] 9, blk q.bX [.string nX] 9]
theorem blk_has {pre r : List HP} {b : Nat} {c : List Value} {t : TypeId} {w : World} {A : Nat → Prop} (h : Sep (pre ++ blk b c t :: r) w A) : ∀ (j : Nat) (v : Value), c[j]? = some v → mem w (fun b => ¬ No b) b j v := by
  obtain ⟨F, _, hp, _⟩ := Sep.pull h
  exact blk_mem (fun k => k) hp.2
theorem rd_litC {M : Mem} {b : Nat} (h : Rd kStrs M [slV b] [nX]) : Rd kLitT M [.bool false, .string nOld, slV b, .bool false, .int .i64 0] litS :=
  rdP (c1 := [_]) (rdB false) (rdP (c1 := [_]) (rdS nOld (by decide)) (rdP (c1 := [_]) h (rdP (c1 := [_]) (rdB false) (rdI .i64 0 rfl))))
theorem rd_noG {M : Mem} {a b : Str} (ha : Nat.ble a.size reach = true) (hb : Nat.ble b.size reach = true) : Rd (.pr kGuard (.pr .str .str)) M [.slice none 0 0, .int .i64 0, .slice none 0 0, .string a, .string b] (((([] : List kTerm.V), (0 : Int), ([] : List kTerm.V)) : kGuard.V), a, b) :=
  rdP (a := kGuard) (b := .pr .str .str) (c1 := [_, _, _]) (rdP (a := kTerms) (b := .pr kI kTerms) (c1 := [_]) rdNil (rdP (a := kI) (b := kTerms) (c1 := [_]) (rdI .i64 0 rfl) rdNil)) (rdP (c1 := [_]) (rdS a ha) (rdS b hb))
theorem rd_premC {M : Mem} {b : Nat} (h : Rd kStrs M [slV b] [nX]) : Rd kPrem M (premC b) premS :=
  rdP (a := kI) (b := .pr kLitT (.pr kGuard (.pr .str .str))) (c1 := [_]) (rdI .i64 1 rfl) (rdP (a := kLitT) (b := .pr kGuard (.pr .str .str)) (c1 := [_, _, _, _, _]) (rd_litC h) (rd_noG (by decide) (by decide)))
theorem rd_premUC {M : Mem} : Rd kPrem M premUC premU :=
  rdP (a := kI) (b := .pr kLitT (.pr kGuard (.pr .str .str))) (c1 := [_]) (rdI .i64 3 rfl) (rdP (a := kLitT) (b := .pr kGuard (.pr .str .str)) (c1 := [_, _, _, _, _]) (rdP (c1 := [_]) (rdB false) (rdP (c1 := [_]) (rdS nNo (by decide)) (rdP (c1 := [_]) rdNil (rdP (c1 := [_]) (rdB false) (rdI .i64 0 rfl))))) (rd_noG (by decide) (by decide)))
/-- The small statute can be read. -/
theorem small_on {q : SQ} {u : Value} {es : List (List Value)} {body : List kPrem.V} {w : World} {A : Nat → Prop} {r : List HP} (h : Sep (smallH q u es ++ r) w A) (hb : body.length * 160 ≤ reach) (hes : ∀ M : Mem, Rd kStrs M [slV q.bX] [nX] → All2 (fun cs x => Rd kPrem M cs x) es body) : StatOn (mem w (fun b => ¬ No b)) (statS body) (xS q) := by
  have hX : Rd kStrs (mem w (fun b => ¬ No b)) [slV q.bX] [nX] := rdOne (t := .str) (cs := [.string nX]) (blk_has (pre := [_, _, _, _, _, _, _]) h) (rdS nX (by decide)) (by decide)
  have h7 : Rd kStrs (mem w (fun b => ¬ No b)) [slV q.b7] [nPerson] := rdOne (t := .str) (cs := [.string nPerson]) (blk_has (pre := [_, _, _, _]) h) (rdS nPerson (by decide)) (by decide)
  have h4 : Rd kStrs (mem w (fun b => ¬ No b)) [slV q.b4] [nPerson] := rdOne (t := .str) (cs := [.string nPerson]) (blk_has (pre := [_, _, _, _, _, _]) h) (rdS nPerson (by decide)) (by decide)
  have hu : Rd kPrems (mem w (fun b => ¬ No b)) [u] body := by
    obtain ⟨F, _, hp, _⟩ := Sep.pull (pre := [_]) h
    exact rd_of_own hp rfl (mem_up fun _ _ k => k) (hes _ hX) hb
  refine ⟨h4, ?_, ?_, rdNil, ?_, ?_, rdNil, rdNil⟩
  · exact rdOne (t := kMember) (cs := [.string nAnn, .string nPerson]) (blk_has (pre := [_, _, _, _, _]) h) (rdP (c1 := [_]) (rdS nAnn (by decide)) (rdS nPerson (by decide))) (by decide)
  · exact rdOne (t := kPredT) (cs := predC q.b7) (blk_has (pre := [_, _, _]) h) (rdP (c1 := [_]) (rdS nOld (by decide)) (rdP (c1 := [_]) (rdI .i64 1 rfl) (rdP (c1 := [_]) h7 rdNil))) (by decide)
  · exact rdOne (t := kSource) (cs := [.string nAct, .int .i64 1]) (blk_has (pre := [_, _]) h) (rdP (c1 := [_]) (rdS nAct (by decide)) (rdI .i64 1 rfl)) (by decide)
  · exact rdOne (t := kRule) (cs := ruleC u q.bX) (blk_has (pre := []) h) (rdP (c1 := [_]) (rdS nR (by decide)) (rdP (c1 := [_]) (rdS nAct (by decide)) (rdP (c1 := [_]) (rdI .i64 1 rfl) (rdP (c1 := [_]) (rdI .i64 0 rfl) (rdP (c1 := [_]) hu (rdP (c1 := [_]) (rdI .i64 1 rfl) (rd_litC hX))))))) (by decide)
attribute [local irreducible] RW CW
set_option maxHeartbeats 4000000 in
theorem smallStat_ret {w : World} : RetC Tryz.prog 52 [] w No (fun q : SQ => .agg (statC q).toArray) (fun q => smallH q (slV q.b14) [premC q.bX]) := by
  refine Calls.enter Tryz.func52 rfl _ rfl rfl (S := No) (H := []) trivial ?_
  refine CW.seqR ?_
  refine RW.alloc (c := [.string nNo, .slice none 0 0, .slice none 0 0, .slice none 0 0, .slice none 0 0, .slice none 0 0, .slice none 0 0, .slice none 0 0, .slice none 0 0]) rfl rfl fun b0 _ => ?_
  refine Jb ?_;refine Ja ?_
  refine RW.buildSlice (e := 9) (c := [.string nX]) rfl (fun w => by kernel_rfl) rfl fun bX _ => ?_
  refine RW.build (v := .agg #[.bool false, .string nOld, slV bX, .bool false, .int .i64 0]) rfl (fun w => by kernel_rfl) rfl ?_
  refine RW.alloc (c := [.bool false, .string nNo, .slice none 0 0, .bool false, .int .i64 0]) rfl rfl fun b1 _ => ?_
  refine RW.store_whole [] rfl rfl (vs := [.bool false, .string nOld, slV bX, .bool false, .int .i64 0]) rfl rfl rfl (by simp [Value.oneCell']) ?_
  refine Jb ?_;refine Ja ?_
  refine RW.buildSlice (e := 9) (c := [.string nPerson]) rfl (fun w => by kernel_rfl) rfl fun b4 _ => ?_
  refine RW.build (v := .agg #[.string nAnn, .string nPerson]) rfl (fun w => by kernel_rfl) rfl ?_
  refine RW.buildSlice (e := 158) (c := [.string nAnn, .string nPerson]) rfl (fun w => by kernel_rfl) rfl fun b6 _ => ?_
  refine RW.buildSlice (e := 9) (c := [.string nPerson]) rfl (fun w => by kernel_rfl) rfl fun b7 _ => ?_
  refine RW.build (v := .agg (predC b7).toArray) rfl (fun w => by kernel_rfl) rfl ?_
  refine RW.buildSlice (e := 151) (c := predC b7) rfl (fun w => by kernel_rfl) rfl fun b9 _ => ?_
  refine RW.build (v := .agg #[.string nAct, .int .i64 1]) rfl (fun w => by kernel_rfl) rfl ?_
  refine RW.buildSlice (e := 161) (c := [.string nAct, .int .i64 1]) rfl (fun w => by kernel_rfl) rfl fun b11 _ => ?_
  refine RW.load_whole [_, _, _, _, _] rfl rfl rfl rfl ?_
  refine RW.build (v := .agg (premC bX).toArray) rfl (fun w => by kernel_rfl) rfl ?_
  refine RW.buildSlice (e := 145) (c := premC bX) rfl (fun w => by kernel_rfl) rfl fun b14 _ => ?_
  refine RW.load_whole [_, _, _, _, _, _] rfl rfl rfl rfl ?_
  refine RW.build (v := .agg (ruleC (slV b14) bX).toArray) rfl (fun w => by kernel_rfl) rfl ?_
  refine RW.buildSlice (e := 120) (c := ruleC (slV b14) bX) rfl (fun w => by kernel_rfl) rfl fun b17 _ => ?_
  refine RW.build (v := .agg (statC ⟨b17, b14, b11, b9, b7, b6, b4, bX⟩).toArray) rfl (fun w => by kernel_rfl) rfl ?_
  refine RW.take [9, 0, 1, 2, 3, 4, 5, 6, 7, 8] ?_
  refine RW.store_whole [] rfl rfl (vs := statC ⟨b17, b14, b11, b9, b7, b6, b4, bX⟩) rfl rfl rfl (by simp [Value.oneCell']) ?_
  refine Jb ?_
  refine CW.rets (rs := [.cell 0 31]) (vs := [_]) rfl Tryz.results52 rfl (ResOK.cell [] rfl rfl rfl ResOK.nil) fun w hw => ⟨⟨b17, b14, b11, b9, b7, b6, b4, bX⟩, rfl, ?_⟩
  exact (hw.take [1, 2, 3, 4, 5, 6, 7, 9]).change (pre := [_]) (r := [_, _, _, _, _, _]) (fun F hp => own_of_blk hp [] rfl rfl (by intro x hx; simp at hx; subst hx; rfl) rfl (Nat.le_refl _) (by decide))
end Go.Proofs.YtkfmlekomfnleaaGreat
/- The laws' works: true. Conditions: none. -/
set_option linter.unusedVariables false
set_option linter.unusedSimpArgs false
set_option maxRecDepth 10000
namespace Go.Proofs.YtkfmlekomfnleaaGreat
open Go Go.RowKit Go.MapKept

theorem all2_one {α β : Type} {R : α → β → Prop} {x : α} {y : β} (h : R x y) : All2 R [x] [y] := ⟨rfl, fun i a b ha hb => by
  cases i with
  | zero => simp at ha hb; subst ha; subst hb; exact h
  | succ i => simp at ha⟩
theorem all2_two {α β : Type} {R : α → β → Prop} {x x' : α} {y y' : β} (h : R x y) (h' : R x' y') : All2 R [x, x'] [y, y'] := ⟨rfl, fun i a b ha hb => by
  cases i with
  | zero => simp at ha hb; subst ha; subst hb; exact h
  | succ i =>
    cases i with
    | zero => simp at ha hb; subst ha; subst hb; exact h'
    | succ i => simp at ha⟩
section
variable {q : SQ} {u : Value} {w : World} {A : Nat → Prop} {r : List HP}
theorem small_on1 (h : Sep (smallH q u [premC q.bX] ++ r) w A) : StatOn (mem w (fun b => ¬ No b)) (statS [premS]) (xS q) := small_on h (by decide) fun M hM => all2_one (rd_premC hM)
theorem small_on2 (h : Sep (smallH q u [premC q.bX, premUC] ++ r) w A) : StatOn (mem w (fun b => ¬ No b)) (statS [premS, premU]) (xS q) := small_on h (by decide) fun M hM => all2_two (rd_premC hM) rd_premUC
theorem check_small (h : Sep (smallH q u [premC q.bX] ++ r) w A) : Ret Tryz.prog 7 [.agg (statC q).toArray] w (.tuple #[.int .i64 0, .int .i64 5]) := by
  have := check_ret (small_on1 h)
  rw [small_check] at this
  exact this
theorem check_loose (h : Sep (smallH q u [premC q.bX, premUC] ++ r) w A) : Ret Tryz.prog 7 [.agg (statC q).toArray] w (.tuple #[.int .i64 86, .int .i64 4]) := by
  have := check_ret (small_on2 h)
  rw [small_loose] at this
  exact this
theorem vars_small (h : Sep (smallH q u [premC q.bX] ++ r) w A) : RetC Tryz.prog 9 [.agg (statC q).toArray, .int .i64 0] w No (fun p : Value × Value => .tuple #[p.1, p.2, .int .i64 0]) (fun p => [ownHP 9 1 p.1 [[.string nX]], ownHP 3 1 p.2 [[.int .i64 0]]]) := by
  have := vars_ret (n := 0) (small_on1 h)
  rw [small_vars] at this
  exact this
end
attribute [local irreducible] RW CW
theorem num_ret {e : Int} {w : World} : Ret Tryz.prog 11 [.int .i64 e] w (.int .i64 e) := by
  refine Calls.enter Tryz.func11 rfl _ rfl rfl (S := No) (H := []) trivial ?_
  refine Ja ?_;refine Jd ?_;refine Jb ?_;refine Ja ?_;refine Jc ?_;refine Jd ?_;refine Jb ?_
  exact CW.ret1 rfl Tryz.results11 rfl rfl fun w hw => ⟨rfl, hw.kp⟩
abbrev KB : Nat := 9223372036854775808
abbrev apV (n : Nat) : Value := .slice (some ⟨n / KB, 0, none⟩) 2 (n % KB)
set_option maxHeartbeats 16000000 in
theorem works_ret {w : World} : Ret Tryz.prog 15 [] w (.bool true) := by
  refine Calls.enter Tryz.func15 rfl _ rfl rfl (S := No) (H := []) trivial ?_
  refine Ja ?_;refine Jd ?_;refine Jb ?_;refine Ja ?_
  refine RW.callN Tryz.call52 rfl (fun w2 hw => smallStat_ret) rfl fun q => ?_
  refine RW.alloc (c := [.string nNo, .slice none 0 0, .slice none 0 0, .slice none 0 0, .slice none 0 0, .slice none 0 0, .slice none 0 0, .slice none 0 0, .slice none 0 0]) rfl rfl fun b1 _ => ?_
  refine RW.store_whole [] rfl rfl (vs := statC q) rfl rfl rfl (by simp [Value.oneCell']) ?_
  refine Jb ?_;refine Ja ?_;refine JE ?_
  refine RW.call Tryz.call7 rfl (fun w2 hw => check_small (u := slV q.b14) (r := []) (Sep.tail hw.sep)) rfl ?_
  refine Jc ?_;refine Jt ?_;refine Jt ?_;refine Jd ?_;refine Jd ?_;refine Jb ?_;refine Ja ?_;refine JE ?_
  refine RW.callN Tryz.call9 rfl (fun w2 hw => vars_small (u := slV q.b14) (r := []) (Sep.tail hw.sep)) rfl fun p => ?_
  obtain ⟨v1, v2⟩ := p
  refine RW.have_ (φ := (∃ B c, v1 = .slice (some ⟨B, 0, none⟩) 1 c) ∧ ∃ B c, v2 = .slice (some ⟨B, 0, none⟩) 1 c) (fun w hw => ⟨?_, ?_⟩) (fun ⟨⟨B1, c1, hv1⟩, B2, c2, hv2⟩ => ?_)
  · rcases own_form (pre := []) hw with ⟨_, h2⟩ | ⟨B, c, h1, _⟩
    · cases h2
    · exact ⟨B, c, h1⟩
  · rcases own_form (pre := [_]) hw with ⟨_, h2⟩ | ⟨B, c, h1, _⟩
    · cases h2
    · exact ⟨B, c, h1⟩
  subst hv1
  subst hv2
  dsimp only [List.cons_append, List.nil_append]
  refine Jc ?_;refine Jt ?_;refine Jt ?_;refine Jt ?_;refine Jd ?_;refine Jd ?_;refine Jd ?_;refine Jb ?_
  refine CW.keep [(1, ptrV b1), (2, .int .i64 0), (3, .int .i64 5), (4, .slice (some ⟨B1, 0, none⟩) 1 c1), (5, .slice (some ⟨B2, 0, none⟩) 1 c2), (6, .int .i64 0)] ⟨rfl, rfl, rfl, rfl, rfl, rfl, trivial⟩ ?_
  refine CW.take [2, 3, 4, 5, 6, 7, 8, 9, 10, 0, 1] ?_
  refine CW.seq ?_
  refine CW.of (by kernel_rfl) ?_
  refine WA.anyU 99 9 8 (fun _ => [blk b1 (statC q) 31, blk q.b17 (ruleC (slV q.b14) q.bX) 120, ownHP 145 11 (slV q.b14) [premC q.bX], blk q.b11 [.string nAct, .int .i64 1] 161, blk q.b9 (predC q.b7) 151, blk q.b7 [.string nPerson] 9, blk q.b6 [.string nAnn, .string nPerson] 158, blk q.b4 [.string nPerson] 9, blk q.bX [.string nX] 9, ownHP 9 1 (.slice (some ⟨B1, 0, none⟩) 1 c1) [[.string nX]], ownHP 3 1 (.slice (some ⟨B2, 0, none⟩) 1 c2) [[.int .i64 0]]]) 12
    [.val (.pointer (some ⟨b1, 6, none⟩)), .val (slV q.b17), .val (.pointer (some ⟨b1, 6, none⟩)), .val (slV q.b17), .val (ptrV q.b17), .val (.pointer (some ⟨q.b17, 4, none⟩)), .val (slV q.b14), .val (.agg premUC.toArray), .new (fun b => blk b premUC 145) (fun b => slV b) 99 (fun b => blk b premUC 145),
     .new (fun n => ownHP 145 11 (apV n) [premC q.bX, premUC]) (fun n => apV n) 99 (fun n => ownHP 145 11 (apV n) [premC q.bX, premUC]), .val (ptrV q.b17), .val (.pointer (some ⟨q.b17, 4, none⟩))] rfl rfl rfl rfl (by kernel_rfl)
    ⟨fun p dj c t c2 h => by have := List.mem_of_getElem? h; simp at this, fun j j' p c t c2 c' t' c2' h h' hne => ?_, fun j c t p c2 h => .inl ?_⟩ (fun i o d hi _ _ h => ?_) (fun k h => by cases h) (fun i o k _ h9 ho hk b => ?_) (fun o v ho _ => by cases ho) (fun o _ ho => ?_) (fun bs => ?_)
  · have := List.mem_of_getElem? h'
    simp at this
    rcases this with ⟨rfl, _, _, rfl⟩ | ⟨rfl, _, _, rfl⟩ <;> rfl
  · have := List.mem_of_getElem? h
    simp at this
    rcases this with ⟨rfl, _, _, rfl⟩ | ⟨rfl, _, _, rfl⟩ <;> rfl
  · have : i = 0 ∨ i = 1 ∨ i = 2 ∨ i = 3 ∨ i = 4 ∨ i = 5 ∨ i = 6 ∨ i = 7 ∨ i = 8 ∨ i = 9 ∨ i = 10 ∨ i = 11 := by omega
    rcases this with rfl | rfl | rfl | rfl | rfl | rfl | rfl | rfl | rfl | rfl | rfl | rfl <;> cases h
  · have : i = 0 ∨ i = 1 ∨ i = 2 ∨ i = 3 ∨ i = 4 ∨ i = 5 ∨ i = 6 ∨ i = 7 ∨ i = 8 ∨ i = 9 ∨ i = 10 ∨ i = 11 ∨ 12 ≤ i := by omega
    rcases this with rfl | rfl | rfl | rfl | rfl | rfl | rfl | rfl | rfl | rfl | rfl | rfl | h12
    any_goals (obtain rfl := Option.some.inj ho; obtain rfl := Option.some.inj hk; intro Gx X)
    · refine RW.fieldAddr rfl rfl ?_; exact RW.done rfl
    · refine RW.load_blk [] rfl rfl rfl rfl ?_; exact RW.done rfl
    · refine RW.fieldAddr rfl rfl ?_; exact RW.done rfl
    · refine RW.load_blk [] rfl rfl rfl rfl ?_; exact RW.done rfl
    · refine RW.indexAddr rfl rfl (by decide) (by decide) rfl ?_; exact RW.done rfl
    · refine RW.fieldAddr rfl rfl ?_; exact RW.done rfl
    · refine RW.load_blk [_] rfl rfl rfl rfl ?_; exact RW.done rfl
    · refine RW.build (v := .agg premUC.toArray) rfl (fun w => by kernel_rfl) rfl ?_; exact RW.done rfl
    · refine RW.buildSlice (e := 145) (c := premUC) rfl (fun w => by kernel_rfl) rfl fun b29 _ => ?_; exact RW.done_gen rfl
    · exact absurd rfl h9
    · refine RW.indexAddr rfl rfl (by decide) (by decide) rfl ?_; exact RW.done rfl
    · refine RW.fieldAddr rfl rfl ?_; exact RW.done rfl
    · rw [List.getElem?_eq_none (by simpa using h12)] at hk; cases hk
  · obtain rfl := Option.some.inj ho
    refine ⟨_, _, 29, _, _, _, _, _, _, _, List.mem_of_getElem? (i := 1) rfl, rfl, rfl, rfl, rfl, rfl, rfl, fun b0 b Gx X => ?_⟩
    refine RW.appendGrow (e := 145) (zc := [.int .i64 0, .bool false, .string nNo, .slice none 0 0, .bool false, .int .i64 0, .slice none 0 0, .int .i64 0, .slice none 0 0, .string nNo, .string nNo]) (olds := premC q.bX) (news := premUC) rfl rfl rfl rfl (by decide) rfl rfl (fun w hw => own_cells (es := [premC q.bX]) (pre := [_, _, _]) hw) (fun w hw => CellsAt.of_blk (St.blk (pre := []) hw)) (by decide) (by decide) (by decide) rfl fun b' cap tl _ h1 h2 h3 => ?_
    obtain ⟨n, rfl, rfl⟩ := enc b' cap h2
    refine RW.change [] (ownHP 145 11 (apV n) [premC q.bX, premUC]) (fun w F hp => own_of_blk hp tl rfl rfl (by intro x hx; simp at hx; rcases hx with rfl | rfl <;> rfl) (by rw [List.length_append] at h3 ⊢; exact h3) h1 h2) ?_
    exact RW.done_gen (b := n) rfl
  · refine RW.store_blk [_] rfl rfl rfl rfl rfl (by show 4 < 11; omega) ?_
    refine RW.take [0, 1, 12, 3, 4, 5, 6, 7, 8, 9, 10] ?_
    refine RW.change [_] (blk q.b17 (ruleC (apV (bs 30)) q.bX) 120) (fun w F hp => hp) ?_
    refine Jb ?_;refine Ja ?_;refine JE ?_
    refine RW.call Tryz.call7 rfl (fun w2 hw => check_loose (u := apV (bs 30)) (r := [_, _]) (Sep.tail hw.sep)) rfl ?_
    refine Jc ?_;refine Jt ?_;refine Jt ?_;refine Jd ?_;refine Jd ?_;refine Jb ?_;refine Ja ?_;refine Jc ?_
    refine RW.call Tryz.call11 rfl (fun w2 hw => num_ret) rfl ?_
    refine Ji ?_;refine Jc ?_;refine Jy ?_;refine Jc ?_;refine Jy ?_;refine Ji ?_;refine Jv ?_;refine Jc ?_;refine Jy ?_;refine Jc ?_;refine Jy ?_
    refine RW.call Tryz.call11 rfl (fun w2 hw => num_ret) rfl ?_
    refine Jy ?_;refine Ji ?_;refine Jv ?_;refine Jc ?_;refine Jy ?_;refine Jc ?_;refine Jy ?_;refine Jg ?_;refine Jy ?_;refine Ji ?_;refine Jv ?_;refine Jc ?_;refine Jy ?_;refine Jc ?_;refine Jy ?_
    refine RW.indexAddr rfl rfl (by decide) (by decide) rfl ?_
    refine Jy ?_
    refine RW.load_fact (v := .string nX) rfl rfl rfl (fun w hw => (own_cells (es := [[.string nX]]) (pre := [_, _, _, _, _, _, _, _, _]) hw).at_ 0 rfl) ?_
    refine Jy ?_;refine Jo ?_;refine Jv ?_;refine Jc ?_;refine Jy ?_;refine Jc ?_;refine Jy ?_;refine Jg ?_;refine Jy ?_;refine Ji ?_;refine Jv ?_;refine Jc ?_;refine Jy ?_;refine Jc ?_;refine Jy ?_
    refine RW.indexAddr rfl rfl (by decide) (by decide) rfl ?_
    refine Jy ?_
    refine RW.load_fact (v := .int .i64 0) rfl rfl rfl (fun w hw => (own_cells (es := [[.int .i64 0]]) (pre := [_, _, _, _, _, _, _, _, _, _]) hw).at_ 0 rfl) ?_
    refine Jy ?_;refine Ji ?_;refine Jv ?_;refine Jc ?_;refine Jy ?_;refine Jc ?_;refine Jy ?_
    refine RW.call Tryz.call11 rfl (fun w2 hw => num_ret) rfl ?_
    refine Jy ?_;refine Ji ?_;refine Jv ?_;refine Jc ?_;refine Jy ?_;refine Jc ?_;refine Jy ?_;refine Ji ?_;refine Jv ?_;refine Jd ?_;refine Jb ?_
    exact CW.ret1 rfl Tryz.results15 rfl rfl fun w hw => ⟨rfl, hw.kp⟩
end Go.Proofs.YtkfmlekomfnleaaGreat
/- The calculus, eighteenth part: deep data of one's own. Conditions: none; everything holds over any program. -/
set_option linter.unusedVariables false
set_option linter.unusedSimpArgs false
namespace Go.Proofs.YtkfmlekomfnleaaGreat
open Go Go.RowKit

/-- Cells that read as data, all memory behind them one's own, nothing of it shared. -/
def OwnD : (t : K) → World → (Nat → Prop) → List Value → t.V → Prop
  | .int k, _, _, cs, x => cs = [.int k x] ∧ inR k x
  | .bool, _, _, cs, x => cs = [.bool x]
  | .str, _, _, cs, x => cs = [.string x] ∧ x.size ≤ reach
  | .sl by_ t, w, F, cs, x => ∃ (v : Value) (e : TypeId) (es : List (List Value)) (F0 : Nat → Prop) (G : Nat → Nat → Prop), cs = [v] ∧ (ownHP e t.sz v es).p w F0 ∧ (∀ b, F0 b → F b) ∧ List.length (α := t.V) x * by_ ≤ reach ∧ es.length = List.length (α := t.V) x ∧ (∀ i b, G i b → F b ∧ ¬ F0 b) ∧ (∀ i j b, i ≠ j → G i b → ¬ G j b) ∧
      ∀ (i : Nat) (cs' : List Value) (y : t.V), es[i]? = some cs' → (show List t.V from x)[i]? = some y → OwnD t w (G i) cs' y
  | .pr a b, w, F, cs, x => ∃ (c1 c2 : List Value) (G : Nat → Prop), cs = c1 ++ c2 ∧ (∀ b, G b → F b) ∧ OwnD a w G c1 x.1 ∧ OwnD b w (fun b => F b ∧ ¬ G b) c2 x.2
theorem OwnD.up : ∀ {t : K} {w : World} {F F' : Nat → Prop} {cs : List Value} {x : t.V}, (∀ b, F b → F' b) → OwnD t w F cs x → OwnD t w F' cs x := by
  intro t
  induction t with
  | int k => intro _ _ _ _ _ _ h; exact h
  | bool => intro _ _ _ _ _ _ h; exact h
  | str => intro _ _ _ _ _ _ h; exact h
  | sl e t ih =>
    intro w F F' cs x hF h
    obtain ⟨v, e, es, F0, G, h1, h2, h3, h4, h5, h6, h7, h8⟩ := h
    exact ⟨v, e, es, F0, G, h1, h2, fun b hb => hF b (h3 b hb), h4, h5, fun i b hb => ⟨hF b (h6 i b hb).1, (h6 i b hb).2⟩, h7, h8⟩
  | pr a b iha ihb =>
    intro w F F' cs x hF h
    obtain ⟨c1, c2, G, h1, h2, h3, h4⟩ := h
    exact ⟨c1, c2, G, h1, fun b hb => hF b (h2 b hb), h3, ihb (fun b hb => ⟨hF b hb.1, hb.2⟩) h4⟩
theorem OwnD.st : ∀ {t : K} {w w' : World} {F : Nat → Prop} {cs : List Value} {x : t.V}, (∀ b, F b → b < w.heap.size → w'.heap[b]? = w.heap[b]?) → w.heap.size ≤ w'.heap.size → OwnD t w F cs x → OwnD t w' F cs x := by
  intro t
  induction t with
  | int k => intro _ _ _ _ _ _ _ h; exact h
  | bool => intro _ _ _ _ _ _ _ h; exact h
  | str => intro _ _ _ _ _ _ _ h; exact h
  | sl e t ih =>
    intro w w' F cs x hF hs h
    obtain ⟨v, e, es, F0, G, h1, h2, h3, h4, h5, h6, h7, h8⟩ := h
    exact ⟨v, e, es, F0, G, h1, (ownHP e t.sz v es).st (fun b hb => hF b (h3 b hb)) hs h2, h3, h4, h5, h6, h7, fun i cs' y hc hy => ih (fun b hb => hF b (h6 i b hb).1) hs (h8 i cs' y hc hy)⟩
  | pr a b iha ihb =>
    intro w w' F cs x hF hs h
    obtain ⟨c1, c2, G, h1, h2, h3, h4⟩ := h
    exact ⟨c1, c2, G, h1, h2, iha (fun b hb => hF b (h2 b hb)) hs h3, ihb (fun b hb => hF b hb.1) hs h4⟩
theorem OwnD.rd : ∀ {t : K} {w : World} {F : Nat → Prop} {cs : List Value} {x : t.V}, OwnD t w F cs x → Rd t (mem w F) cs x := by
  intro t
  induction t with
  | int k => intro _ _ _ _ h; exact h
  | bool => intro _ _ _ _ h; exact h
  | str => intro _ _ _ _ h; exact h
  | sl e t ih =>
    intro w F cs x h
    obtain ⟨v, e, es, F0, G, rfl, h2, h3, h4, h5, h6, h7, h8⟩ := h
    exact rd_of_own h2 rfl (mem_up h3) ⟨h5, fun i cs' y hc hy => (ih (h8 i cs' y hc hy)).mono (mem_up fun b hb => (h6 i b hb).1)⟩ h4
  | pr a b iha ihb =>
    intro w F cs x h
    obtain ⟨c1, c2, G, rfl, h2, h3, h4⟩ := h
    exact ⟨c1, c2, rfl, (iha h3).mono (mem_up h2), (ihb h4).mono (mem_up fun b hb => hb.1)⟩
theorem OwnD.one {t : K} {w : World} {F : Nat → Prop} {cs : List Value} {x : t.V} (h : OwnD t w F cs x) : ∀ v ∈ cs, v.oneCell' = true := h.rd.one
theorem OwnD.len {t : K} {w : World} {F : Nat → Prop} {cs : List Value} {x : t.V} (h : OwnD t w F cs x) : cs.length = t.sz := h.rd.len
def ownDHP (t : K) (cs : List Value) (x : t.V) : HP where
  p w F := OwnD t w F cs x
  st := fun h hs k => k.st h hs
  up := fun h k => k.up h
/-- The elements of a slice, but perhaps one. -/
def elemsHP (o : Option Nat) (t : K) (es : List (List Value)) (xs : List t.V) : HP where
  p w F := es.length = xs.length ∧ ∃ G : Nat → Nat → Prop, (∀ i b, G i b → F b) ∧ (∀ i j b, i ≠ j → G i b → ¬ G j b) ∧ ∀ (i : Nat) (cs : List Value) (y : t.V), o ≠ some i → es[i]? = some cs → xs[i]? = some y → OwnD t w (G i) cs y
  st := fun h hs ⟨h1, G, h2, h3, h4⟩ => ⟨h1, G, h2, h3, fun i cs y ho hc hy => (h4 i cs y ho hc hy).st (fun b hb => h b (h2 i b hb)) hs⟩
  up := fun h ⟨h1, G, h2, h3, h4⟩ => ⟨h1, G, fun i b hb => h b (h2 i b hb), h3, h4⟩
section
variable {t : K} {w : World} {A F F2 : Nat → Prop} {es : List (List Value)} {xs : List t.V} {cs : List Value} {x : t.V} {r : List HP}
theorem elems_nil : (elemsHP none t [] []).p w F := ⟨rfl, fun _ _ => False, fun _ _ h => h.elim, fun _ _ _ _ h => h.elim, fun i cs y _ h => by simp at h⟩
/-- Footprints of two chunks side by side. -/
theorem elems_append (h : Sep (elemsHP none t es xs :: ownDHP t cs x :: r) w A) : Sep (elemsHP none t (es ++ [cs]) (xs ++ [x]) :: r) w A := by
  obtain ⟨F, hF, ⟨h1, G, h2, h3, h4⟩, F2, hF2, h5, hr⟩ := h
  refine ⟨fun b => F b ∨ F2 b, fun b hb => hb.elim (hF b) (fun k => ⟨(hF2 b k).1.1, (hF2 b k).2⟩), ⟨by simp [h1], fun i => if i = es.length then F2 else (if i < es.length then G i else fun _ => False), ?_, ?_, ?_⟩, Sep.up (fun b hb => ⟨hb.1.1, fun k => k.elim hb.1.2 hb.2⟩) hr⟩
  · intro i b hb
    try dsimp only at hb
    split at hb
    · exact .inr hb
    · split at hb
      · exact .inl (h2 i b hb)
      · exact hb.elim
  · intro i j b hij hi hj
    try dsimp only at hi hj
    split at hi
    · rename_i e1
      rw [if_neg (by omega)] at hj
      split at hj
      · exact (hF2 b hi).1.2 (h2 j b hj)
      · exact hj
    · split at hi
      · split at hj
        · exact (hF2 b hj).1.2 (h2 i b hi)
        · split at hj
          · exact h3 i j b hij hi hj
          · exact hj
      · exact hi
  · intro i cs' y ho hc hy
    try dsimp only
    by_cases he : i = es.length
    · subst he
      rw [if_pos rfl]
      rw [List.getElem?_append_right (Nat.le_refl _), Nat.sub_self] at hc
      rw [h1, List.getElem?_append_right (Nat.le_refl _), Nat.sub_self] at hy
      simp only [List.getElem?_cons_zero, Option.some.injEq] at hc hy
      subst hc; subst hy
      exact h5
    · have hl : i < es.length := by
        have := (List.getElem?_eq_some_iff.1 hc).1
        simp at this
        omega
      rw [if_neg he, if_pos hl]
      rw [List.getElem?_append_left hl] at hc
      rw [List.getElem?_append_left (by omega)] at hy
      exact h4 i cs' y ho hc hy
/-- A slice, and what lies behind it. -/
theorem slice_open {by_ : Nat} {v : Value} (h : (ownDHP (.sl by_ t) [v] xs).p w F) : ∃ q : TypeId × List (List Value), (starHP (starHP (ownHP q.1 t.sz v q.2) (elemsHP none t q.2 xs)) (pureHP (xs.length * by_ ≤ reach ∧ q.2.length = xs.length))).p w F := by
  obtain ⟨v', e, es, F0, G, hv, h2, h3, h4, h5, h6, h7, h8⟩ := h
  obtain rfl := (List.cons.inj hv).1
  exact ⟨(e, es), F, fun b hb => hb, ⟨F0, h3, h2, h5, G, fun i b hb => h6 i b hb, h7, fun i cs y _ hc hy => h8 i cs y hc hy⟩, h4, h5⟩
theorem slice_close {by_ : Nat} {v : Value} {e : TypeId} {sz : Nat} (hsz : sz = t.sz) (hb : xs.length * by_ ≤ reach) (h : Sep (ownHP e sz v es :: elemsHP none t es xs :: r) w A) : Sep (ownDHP (.sl by_ t) [v] xs :: r) w A := by
  subst hsz
  obtain ⟨F, hF, hp, F2, hF2, ⟨h1, G, h2, h3, h4⟩, hr⟩ := h
  exact ⟨fun b => F b ∨ F2 b, fun b hb => hb.elim (hF b) (fun k => ⟨(hF2 b k).1.1, (hF2 b k).2⟩), ⟨v, e, es, F, G, rfl, hp, fun b hb => .inl hb, hb, h1, fun i b hb => ⟨.inr (h2 i b hb), (hF2 b (h2 i b hb)).1.2⟩, h3, fun i cs y hc hy => h4 i cs y (by simp) hc hy⟩, Sep.up (fun b hb => ⟨hb.1.1, fun k => k.elim hb.1.2 hb.2⟩) hr⟩
/-- One element taken out. -/
theorem elems_focus {i : Nat} (hc : es[i]? = some cs) (hx : xs[i]? = some x) (h : Sep (elemsHP none t es xs :: r) w A) : Sep (ownDHP t cs x :: elemsHP (some i) t es xs :: r) w A := by
  obtain ⟨F, hF, ⟨h1, G, h2, h3, h4⟩, hr⟩ := h
  refine ⟨G i, fun b hb => hF b (h2 i b hb), h4 i cs x (by simp) hc hx, fun b => F b ∧ ¬ G i b, fun b hb => ⟨⟨(hF b hb.1).1, hb.2⟩, (hF b hb.1).2⟩, ⟨h1, fun j b => G j b ∧ ¬ G i b, fun j b hb => ⟨h2 j b hb.1, hb.2⟩, fun j k b hjk hj hk => h3 j k b hjk hj.1 hk.1, fun j cs' y ho hc' hy => ?_⟩, Sep.up (fun b hb => ⟨⟨hb.1, fun k => hb.2 (h2 i b k)⟩, fun k => hb.2 k.1⟩) hr⟩
  refine (h4 j cs' y (by simp) hc' hy).up fun b hb => ⟨hb, h3 j i b (fun e => ho (by rw [e])) hb⟩
/-- .. put back, perhaps another. -/
theorem elems_put {i : Nat} {cs' : List Value} {x' : t.V} (hi : i < es.length) (h : Sep (ownDHP t cs' x' :: elemsHP (some i) t es xs :: r) w A) : Sep (elemsHP none t (es.set i cs') (xs.set i x') :: r) w A := by
  obtain ⟨F, hF, hp, F2, hF2, ⟨h1, G, h2, h3, h4⟩, hr⟩ := h
  refine ⟨fun b => F b ∨ F2 b, fun b hb => hb.elim (hF b) (fun k => ⟨(hF2 b k).1.1, (hF2 b k).2⟩), ⟨by simp [h1], fun j => if j = i then F else G j, ?_, ?_, ?_⟩, Sep.up (fun b hb => ⟨hb.1.1, fun k => k.elim hb.1.2 hb.2⟩) hr⟩
  · intro j b hb
    try dsimp only at hb
    split at hb
    · exact .inl hb
    · exact .inr (h2 j b hb)
  · intro j k b hjk hj hk
    try dsimp only at hj hk
    split at hj
    · rw [if_neg (by omega)] at hk
      exact (hF2 b (h2 k b hk)).1.2 hj
    · split at hk
      · exact (hF2 b (h2 j b hj)).1.2 hk
      · exact h3 j k b hjk hj hk
  · intro j c y _ hc hy
    try dsimp only
    by_cases he : j = i
    · subst he
      rw [if_pos rfl]
      rw [List.getElem?_set_self hi] at hc
      rw [List.getElem?_set_self (by omega)] at hy
      cases hc; cases hy
      exact hp
    · rw [if_neg he]
      rw [List.getElem?_set_ne (Ne.symm he)] at hc hy
      exact h4 j c y (fun e => he (Option.some.inj e).symm) hc hy
theorem pr_close {a b : K} {c1 c2 : List Value} {y : a.V} {z : b.V} (h : Sep (ownDHP a c1 y :: ownDHP b c2 z :: r) w A) : Sep (ownDHP (.pr a b) (c1 ++ c2) (y, z) :: r) w A := by
  obtain ⟨F, hF, hp, F2, hF2, hp2, hr⟩ := h
  exact ⟨fun b => F b ∨ F2 b, fun b hb => hb.elim (hF b) (fun k => ⟨(hF2 b k).1.1, (hF2 b k).2⟩), ⟨c1, c2, F, rfl, fun b hb => .inl hb, hp, hp2.up fun b hb => ⟨.inr hb, (hF2 b hb).1.2⟩⟩, Sep.up (fun b hb => ⟨hb.1.1, fun k => k.elim hb.1.2 hb.2⟩) hr⟩
theorem pr_open {a b : K} {y : a.V} {z : b.V} (h : Sep (ownDHP (.pr a b) cs (y, z) :: r) w A) : ∃ c1 c2, cs = c1 ++ c2 ∧ Sep (ownDHP a c1 y :: ownDHP b c2 z :: r) w A := by
  obtain ⟨F, hF, ⟨c1, c2, G, rfl, h2, h3, h4⟩, hr⟩ := h
  exact ⟨c1, c2, rfl, G, fun b hb => hF b (h2 b hb), h3, fun b => F b ∧ ¬ G b, fun b hb => ⟨⟨(hF b hb.1).1, hb.2⟩, (hF b hb.1).2⟩, h4, Sep.up (fun b hb => ⟨⟨hb.1, fun k => hb.2 (h2 b k)⟩, fun k => hb.2 k.1⟩) hr⟩
theorem own_str_pure {a : ByteArray} (h : a.size ≤ reach) : (ownDHP .str [.string a] a).p w F := ⟨rfl, h⟩
theorem own_int_pure {k : IntKind} {n : Int} (h : inR k n) : (ownDHP (.int k) [.int k n] n).p w F := ⟨rfl, h⟩
theorem own_bool_pure {b : Bool} : (ownDHP .bool [.bool b] b).p w F := rfl
end
section
variable {E : Env} {K0 : Act → World → Prop} {G : List (Nat × Value)} {H H' : List HP}
/-- A change of the chunks over the same world. -/
theorem PW.sep (hs : ∀ w A, Sep H w A → Sep H' w A) (k : PW E K0 G H') : PW E K0 G H := fun a w hf hw => k a w hf ⟨hw.kp, hs _ _ hw.sep⟩
theorem RW.sep {P : Program} {ops : Array Oper} {Q : Pst} {rest : List Oper} (H' : List HP) (hs : ∀ w A, Sep H w A → Sep H' w A) (k : RW P E ops Q rest G H') : RW P E ops Q rest G H := PW.sep hs k
theorem CW.sep {P : Program} {Q : Pst} {c : Code} (H' : List HP) (hs : ∀ w A, Sep H w A → Sep H' w A) (k : CW P E c Q G H') : CW P E c Q G H := PW.sep hs k
theorem St.sep_map {w0 w : World} {S : Nat → Prop} (h : St w0 S H w) (hs : ∀ w A, Sep H w A → Sep H' w A) : St w0 S H' w := ⟨h.kp, hs _ _ h.sep⟩
end
end Go.Proofs.YtkfmlekomfnleaaGreat
