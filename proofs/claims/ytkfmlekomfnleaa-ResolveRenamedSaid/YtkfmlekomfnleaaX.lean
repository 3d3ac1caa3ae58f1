/- The calculus, twelfth part: calls that may panic with a value. Conditions: none; everything holds over any program. -/
import Derived.Test.YtkfmlekomfnleaaJ
set_option linter.unusedVariables false
set_option linter.unusedSimpArgs false
namespace Go.Proofs.Ytkfmlekomfnleaa
open Go Go.RowKit

/-- A call that hands back x, or panics with a value. -/
def RetX (P : Program) (f : FuncId) (args : List Value) (w : World) (F : Nat → Prop) {ε α β : Type} (ev : ε → Value) (sp : Except ε α) (V : α → β → Value) (c : α → β → List HP) : Prop :=
  Calls P f args.toArray w (fun e w' => match sp with
    | .ok x => ∃ y, e = .returned (V x y) ∧ St w F (c x y) w'
    | .error er => e = .panicked [{ v := ev er, recovered := false }] ∧ St w F [] w')
section
variable {P : Program} {E : Env} {ops : Array Oper} {Q : Pst} {rest : List Oper} {G : List (Nat × Value)} {H : List HP}
variable {dst : Nat} {ty : TypeId} {pos : String} {af : Array Edge} {t : TypeId} {d : TypeDesc} {z v : Value} {sz by_ : Nat} {x : Operand}
theorem RW.makeInterface [T : Ty P t d z sz by_] (hd : ∀ ms, d ≠ .interface ms) (hx : ev G x = some v) (hN : Nat.blt dst E.N = true) (kk : RW P E ops Q rest ((dst, .iface t v) :: G) H) : RW P E ops Q (⟨some dst, .makeInterface t x, ty, pos, af, none⟩ :: rest) G H :=
  RW.val hN (fun a w hf _ => by
    cases d <;> first | exact absurd rfl (hd _) | simp [execOp, hf.eval hx, Instr.makeInterface, T.runUnd, Result.andThen]) kk
/-- A panic leaves the function. -/
theorem RW.panic {fn : Func} {R : Ending → World → Prop} {dst : Option Nat} (hx : ev G x = some (.iface t v)) (hQ : Q.pan = PanP P fn R) (hds : E.ds = []) (k : ∀ w, St E.w0 E.S H w → R (.panicked [{ v := .iface t v, recovered := false }]) w) :
    RW P E ops Q (⟨dst, .panic x, ty, pos, af, none⟩ :: rest) G H :=
  RW.step rfl (fun a w hf hw => by
    have hrun : (execOp a.eval ⟨dst, .panic x, ty, pos, af, none⟩).run P w = .halt (.panic (.iface t v)) w := by
      simp [execOp, hf.eval hx, Instr.panic, goPanic, Result.andThen]
    rw [hrun]
    show Q.pan _ a w
    rw [hQ]
    exact ⟨⟨by rw [hf.defers, hds], k w hw⟩⟩)
/-- A call that may panic, where a panic leaves the function. -/
theorem RW.callX {fn : Func} {R : Ending → World → Prop} {l : List Operand} {vs : List Value} {at_ : Array TypeId} {f : FuncId} {ε α β : Type} {evv : ε → Value} {sp : Except ε α} {V : α → β → Value} {c : α → β → List HP} {dst : Option Nat} (C : List HP) {r : List HP}
    (hcall : ∀ args w, (callFunc f args).run P w = .ok (.enter f args) w) (hl : evs G l = some vs)
    (hc : ∀ w F, Mem.le E.ro (mem w (fun b => ¬ F b)) → Sep C w F → Sep r w (fun b => ¬ F b) → RetX P f vs w F evv sp V c) (hQ : Q.pan = PanP P fn R) (hds : E.ds = [])
    (herr : ∀ er, sp = .error er → ∀ w, St E.w0 E.S r w → R (.panicked [{ v := evv er, recovered := false }]) w)
    (hN : ∀ d, dst = some d → Nat.blt d E.N = true)
    (kk : ∀ x y, sp = .ok x → RW P E ops Q rest (match dst with | some d => (d, V x y) :: G | none => G) (c x y ++ r)) : RW P E ops Q (⟨dst, .call ⟨.value (.func f), l.toArray, at_⟩, ty, pos, af, none⟩ :: rest) G (C ++ r) :=
  RW.call_gen hcall hl (fun a w hf hw => by
    obtain ⟨F, hF, h1, h2⟩ := Sep.split hw.sep
    refine (hc w F (fun B O v hv => ⟨⟨fun hb => ?_, (ro_le hw _ _ _ hv).1.2⟩, (ro_le hw _ _ _ hv).2⟩) h1 (Sep.up (fun b hb => hb.2) h2)).mono ?_
    · rcases (hF B hb).1 with h | h
      · exact hv.1.1 h
      · have := World.block_lt_of_cell? E.w0 _ hv.2
        exact absurd this (Nat.not_lt.2 h)
    · intro e w' he
      cases sp with
      | error er =>
        obtain ⟨rfl, hx⟩ := he
        have hw2 : St E.w0 E.S r w' := by simpa using St.turnF hw.kp hF h2 hx
        show Q.pan _ a w'
        rw [hQ]
        exact ⟨⟨by rw [hf.defers, hds], herr er rfl w' hw2⟩⟩
      | ok x =>
        obtain ⟨y, rfl, hx⟩ := he
        have hw2 := St.turnF hw.kp hF h2 hx
        cases dst with
        | none => exact kk x y rfl _ _ (hf.skip _) hw2
        | some d => exact kk x y rfl _ _ (hf.put (hN d rfl) _) hw2)
/-- A call that may panic and turns nothing. -/
theorem RW.callX0 {fn : Func} {R : Ending → World → Prop} {l : List Operand} {vs : List Value} {at_ : Array TypeId} {f : FuncId} {ε α : Type} {evv : ε → Value} {sp : Except ε α} {V : α → Value} {dst : Option Nat}
    (hcall : ∀ args w, (callFunc f args).run P w = .ok (.enter f args) w) (hl : evs G l = some vs)
    (hc : ∀ w, St E.w0 E.S H w → RetX P f vs w No evv sp (fun x (_ : Unit) => V x) (fun _ _ => [])) (hQ : Q.pan = PanP P fn R) (hds : E.ds = [])
    (herr : ∀ er, sp = .error er → ∀ w, St E.w0 E.S H w → R (.panicked [{ v := evv er, recovered := false }]) w)
    (hN : ∀ d, dst = some d → Nat.blt d E.N = true)
    (kk : ∀ x, sp = .ok x → RW P E ops Q rest (match dst with | some d => (d, V x) :: G | none => G) H) : RW P E ops Q (⟨dst, .call ⟨.value (.func f), l.toArray, at_⟩, ty, pos, af, none⟩ :: rest) G H :=
  RW.call_gen hcall hl (fun a w hf hw => (hc w hw).mono (by
    intro e w' he
    cases sp with
    | error er =>
      obtain ⟨rfl, hx⟩ := he
      show Q.pan _ a w'
      rw [hQ]
      exact ⟨⟨by rw [hf.defers, hds], herr er rfl w' (hw.quiet hx.kp)⟩⟩
    | ok x =>
      obtain ⟨_, rfl, hx⟩ := he
      cases dst with
      | none => exact kk x rfl _ _ (hf.skip _) (hw.quiet hx.kp)
      | some d => exact kk x rfl _ _ (hf.put (hN d rfl) _) (hw.quiet hx.kp)))
end
end Go.Proofs.Ytkfmlekomfnleaa
