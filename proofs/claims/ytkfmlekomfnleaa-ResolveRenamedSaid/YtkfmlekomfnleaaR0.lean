/- The calculus, thirteenth part: calls that unwind with an error, chained. Conditions: none; everything holds over any program. -/
import Derived.Test.YtkfmlekomfnleaaX
import Derived.Test.YtkfmlekomfnleaaM
set_option linter.unusedVariables false
set_option linter.unusedSimpArgs false
namespace Go.Proofs.Ytkfmlekomfnleaa
open Go Go.RowKit

abbrev Ex (α : Type) := Except (Int × Int) α
def bnd {α β : Type} : Ex α → (α → Ex β) → Ex β
  | .ok x, k => k x
  | .error e, _ => .error e
theorem bnd_ok {α β : Type} {sp : Ex α} {k : α → Ex β} {x : α} (h : sp = .ok x) : bnd sp k = k x := by rw [h]; rfl
theorem bnd_err {α β : Type} {sp : Ex α} {k : α → Ex β} {e : Int × Int} (h : sp = .error e) : bnd sp k = .error e := by rw [h]; rfl
theorem bnd_inv {α β : Type} {sp : Ex α} {k : α → Ex β} {y : β} (h : bnd sp k = .ok y) : ∃ x, sp = .ok x ∧ k x = .ok y := by
  cases sp with
  | error e => cases h
  | ok x => exact ⟨x, rfl, h⟩
theorem bnd_assoc {α β γ : Type} (sp : Ex α) (k : α → Ex β) (l : β → Ex γ) : bnd (bnd sp k) l = bnd sp (fun x => bnd (k x) l) := by cases sp <;> rfl
def evF (er : Int × Int) : Value := .iface 76 (.agg #[.int .i64 er.1, .int .i64 er.2])
/-- How a function of that answer ends. -/
def XP {α β : Type} (w : World) (F : Nat → Prop) (SP : Ex α) (V : α → β → Value) (c : α → β → List HP) (e : Ending) (w' : World) : Prop :=
  match SP with
  | .ok x => ∃ y, e = .returned (V x y) ∧ St w F (c x y) w'
  | .error er => e = .panicked [{ v := evF er, recovered := false }] ∧ St w F [] w'
theorem XP.ok {α β : Type} {w w' : World} {F : Nat → Prop} {SP : Ex α} {V : α → β → Value} {c : α → β → List HP} {x : α} (y : β) (h : SP = .ok x) (hs : St w F (c x y) w') : XP w F SP V c (.returned (V x y)) w' := by
  subst h; exact ⟨y, rfl, hs⟩
theorem XP.err {α β : Type} {w w' : World} {F : Nat → Prop} {SP : Ex α} {V : α → β → Value} {c : α → β → List HP} {er : Int × Int} (h : SP = .error er) {H : List HP} (hs : St w F H w') : XP w F SP V c (.panicked [{ v := evF er, recovered := false }]) w' := by
  subst h; exact ⟨rfl, hs.kp, trivial⟩
/-- A call that hands back what SP says, or unwinds with the error it says. -/
def RetE (P : Program) (f : FuncId) (args : List Value) (w : World) (F : Nat → Prop) {α β : Type} (SP : Ex α) (V : α → β → Value) (c : α → β → List HP) : Prop := Calls P f args.toArray w (XP w F SP V c)
abbrev RetE0 (P : Program) (f : FuncId) (args : List Value) (w : World) {α : Type} (SP : Ex α) (V : α → Value) : Prop := RetE P f args w No SP (fun x (_ : Unit) => V x) (fun _ _ => [])
section
variable {P : Program} {E : Env} {ops : Array Oper} {Q : Pst} {rest : List Oper} {G : List (Nat × Value)} {H : List HP}
variable {dst : Nat} {ty : TypeId} {pos : String} {af : Array Edge}
/-- A call that may unwind and turns nothing. -/
theorem RW.callE0 {fn : Func} {l : List Operand} {vs : List Value} {at_ : Array TypeId} {f : FuncId} {α γ δ : Type} {SP : Ex γ} {V' : γ → δ → Value} {c' : γ → δ → List HP} {sp : Ex α} {k : α → Ex γ} {V : α → Value} (hSP : SP = bnd sp k)
    (hcall : ∀ args w, (callFunc f args).run P w = .ok (.enter f args) w) (hl : evs G l = some vs)
    (hc : ∀ w, St E.w0 E.S H w → RetE0 P f vs w sp V) (hQ : Q.pan = PanP P fn (XP E.w0 E.S SP V' c')) (hds : E.ds = []) (hN : Nat.blt dst E.N = true)
    (kk : ∀ x, sp = .ok x → SP = k x → RW P E ops Q rest ((dst, V x) :: G) H) : RW P E ops Q (⟨some dst, .call ⟨.value (.func f), l.toArray, at_⟩, ty, pos, af, none⟩ :: rest) G H :=
  RW.call_gen hcall hl (fun a w hf hw => (hc w hw).mono (by
    intro e w' he
    unfold XP at he
    cases sp with
    | error er =>
      obtain ⟨rfl, hx⟩ := he
      show Q.pan _ a w'
      rw [hQ]
      exact ⟨⟨by rw [hf.defers, hds], XP.err (hSP.trans rfl) (hw.quiet hx.kp)⟩⟩
    | ok x =>
      obtain ⟨_, rfl, hx⟩ := he
      exact kk x rfl hSP _ _ (hf.put hN _) (hw.quiet hx.kp)))
/-- A call that may unwind, and turns the chunks C. -/
theorem RW.callE {fn : Func} {l : List Operand} {vs : List Value} {at_ : Array TypeId} {f : FuncId} {α β γ δ : Type} {SP : Ex γ} {V' : γ → δ → Value} {c' : γ → δ → List HP} {sp : Ex α} {k : α → Ex γ} {V : α → β → Value} {c : α → β → List HP} (C : List HP) {r : List HP} (hSP : SP = bnd sp k)
    (hcall : ∀ args w, (callFunc f args).run P w = .ok (.enter f args) w) (hl : evs G l = some vs)
    (hc : ∀ w F, St E.w0 E.S (C ++ r) w → (∀ b, F b → E.S b ∨ E.w0.heap.size ≤ b) → Sep C w F → Sep r w (fun b => (E.S b ∨ E.w0.heap.size ≤ b) ∧ ¬ F b) → RetE P f vs w F sp V c) (hQ : Q.pan = PanP P fn (XP E.w0 E.S SP V' c')) (hds : E.ds = []) (hN : Nat.blt dst E.N = true)
    (kk : ∀ x y, sp = .ok x → SP = k x → RW P E ops Q rest ((dst, V x y) :: G) (c x y ++ r)) : RW P E ops Q (⟨some dst, .call ⟨.value (.func f), l.toArray, at_⟩, ty, pos, af, none⟩ :: rest) G (C ++ r) :=
  RW.call_gen hcall hl (fun a w hf hw => by
    obtain ⟨F, hF, h1, h2⟩ := Sep.split hw.sep
    refine (hc w F hw (fun b hb => (hF b hb).1) h1 h2).mono ?_
    intro e w' he
    unfold XP at he
    cases sp with
    | error er =>
      obtain ⟨rfl, hx⟩ := he
      show Q.pan _ a w'
      rw [hQ]
      exact ⟨⟨by rw [hf.defers, hds], XP.err (hSP.trans rfl) (St.turnF hw.kp hF h2 hx)⟩⟩
    | ok x =>
      obtain ⟨y, rfl, hx⟩ := he
      exact kk x y rfl hSP _ _ (hf.put hN _) (St.turnF hw.kp hF h2 hx))
/-- A call that may unwind, turns nothing, and hands out what is new. -/
theorem RW.callEn {fn : Func} {l : List Operand} {vs : List Value} {at_ : Array TypeId} {f : FuncId} {α β γ δ : Type} {SP : Ex γ} {V' : γ → δ → Value} {c' : γ → δ → List HP} {sp : Ex α} {k : α → Ex γ} {V : α → β → Value} {c : α → β → List HP} (hSP : SP = bnd sp k)
    (hcall : ∀ args w, (callFunc f args).run P w = .ok (.enter f args) w) (hl : evs G l = some vs)
    (hc : ∀ w, St E.w0 E.S H w → RetE P f vs w No sp V c) (hQ : Q.pan = PanP P fn (XP E.w0 E.S SP V' c')) (hds : E.ds = []) (hN : Nat.blt dst E.N = true)
    (kk : ∀ x y, sp = .ok x → SP = k x → RW P E ops Q rest ((dst, V x y) :: G) (c x y ++ H)) : RW P E ops Q (⟨some dst, .call ⟨.value (.func f), l.toArray, at_⟩, ty, pos, af, none⟩ :: rest) G H :=
  RW.call_gen hcall hl (fun a w hf hw => (hc w hw).mono (by
    intro e w' he
    unfold XP at he
    cases sp with
    | error er =>
      obtain ⟨rfl, hx⟩ := he
      show Q.pan _ a w'
      rw [hQ]
      exact ⟨⟨by rw [hf.defers, hds], XP.err (hSP.trans rfl) (hw.quiet hx.kp)⟩⟩
    | ok x =>
      obtain ⟨y, rfl, hx⟩ := he
      exact kk x y rfl hSP _ _ (hf.put hN _) (St.turnF (F := No) hw.kp (fun b hb => hb.elim) (Sep.up (fun b hb => ⟨hb, fun k => k.elim⟩) hw.sep) hx)))
end
end Go.Proofs.Ytkfmlekomfnleaa
