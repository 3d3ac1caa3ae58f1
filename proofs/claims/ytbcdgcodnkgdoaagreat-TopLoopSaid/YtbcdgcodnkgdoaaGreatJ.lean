/- The calculus, ninth part: chunks taken out by their places. Conditions: none; everything holds over any program. -/
import Derived.Test.YtbcdgcodnkgdoaaGreatH
import Derived.Test.YtbcdgcodnkgdoaaGreatG
set_option linter.unusedVariables false
set_option linter.unusedSimpArgs false
namespace Go.Proofs.YtbcdgcodnkgdoaaGreat
open Go Go.RowKit

def empHP : HP where
  p _ _ := True
  st := fun _ _ k => k
  up := fun _ k => k
def nthH : Nat → List HP → Option HP
  | _, [] => none
  | 0, x :: _ => some x
  | n + 1, _ :: l => nthH n l
def setH : Nat → List HP → List HP
  | _, [] => []
  | 0, _ :: l => empHP :: l
  | n + 1, x :: l => x :: setH n l
/-- The chunks at these places, in this order. -/
def takeH : List Nat → List HP → List HP
  | [], _ => []
  | i :: is, H => match nthH i H with
    | none => []
    | some x => x :: takeH is (setH i H)
theorem Sep.nth {w : World} : ∀ {i : Nat} {H : List HP} {x : HP} {A : Nat → Prop}, nthH i H = some x → Sep H w A → Sep (x :: setH i H) w A := by
  intro i
  induction i with
  | zero =>
    intro H x A h hs
    cases H with
    | nil => cases h
    | cons y H =>
      simp only [nthH, Option.some.injEq] at h
      subst h
      obtain ⟨F, hF, hp, hr⟩ := hs
      exact ⟨F, hF, hp, No, fun b hb => hb.elim, trivial, Sep.up (fun b hb => ⟨hb, fun k => k.elim⟩) hr⟩
  | succ i ih =>
    intro H x A h hs
    cases H with
    | nil => cases h
    | cons y H =>
      obtain ⟨F, hF, hp, hr⟩ := hs
      have := ih (H := H) h hr
      exact Sep.swap ⟨F, hF, hp, this⟩
theorem Sep.take {w : World} : ∀ (is : List Nat) {H : List HP} {A : Nat → Prop}, Sep H w A → Sep (takeH is H) w A := by
  intro is
  induction is with
  | nil => intro H A _; trivial
  | cons i is ih =>
    intro H A hs
    rw [takeH]
    cases hn : nthH i H with
    | none => trivial
    | some x =>
      obtain ⟨F, hF, hp, hr⟩ := Sep.nth hn hs
      exact ⟨F, hF, hp, ih hr⟩
theorem St.take {w0 w : World} {S : Nat → Prop} {H : List HP} (is : List Nat) (h : St w0 S H w) : St w0 S (takeH is H) w := ⟨h.kp, Sep.take is h.sep⟩
section
variable {P : Program} {E : Env} {ops : Array Oper} {Q : Pst} {K0 : Act → World → Prop} {rest : List Oper} {G : List (Nat × Value)} {H : List HP}
theorem PW.take (is : List Nat) (k : PW E K0 G (takeH is H)) : PW E K0 G H := fun a w hf hw => k a w hf (hw.take is)
theorem RW.take (is : List Nat) (k : RW P E ops Q rest G (takeH is H)) : RW P E ops Q rest G H := PW.take is k
theorem CW.take {c0 : Code} (is : List Nat) (k : CW P E c0 Q G (takeH is H)) : CW P E c0 Q G H := PW.take is k
end
/-- A call that turns some chunks, wherever they stand. -/
theorem RW.callT {P : Program} {E : Env} {ops : Array Oper} {Q : Pst} {rest : List Oper} {G : List (Nat × Value)} {H : List HP} {dst : Nat} {ty : TypeId} {pos : String} {af : Array Edge} {l : List Operand} {vs : List Value} {at_ : Array TypeId} {f : FuncId} {α : Type} {V : α → Value} {c : α → List HP} (is : List Nat) (C : List HP) {r : List HP}
    (hl : evs G l = some vs) (hN : Nat.blt dst E.N = true) (hH : takeH is H = C ++ r) (hcall : ∀ args w, (callFunc f args).run P w = .ok (.enter f args) w)
    (hc : ∀ w F, Mem.le E.ro (mem w (fun b => ¬ F b)) → Sep C w F → Sep r w (fun b => ¬ F b) → RetC P f vs w F V c)
    (kk : ∀ x, RW P E ops Q rest ((dst, V x) :: G) (c x ++ r)) : RW P E ops Q (⟨some dst, .call ⟨.value (.func f), l.toArray, at_⟩, ty, pos, af, none⟩ :: rest) G H :=
  RW.take is (hH ▸ RW.callD C hcall hl hc hN kk)
theorem PW.againT {E : Env} {G : List (Nat × Value)} {H : List HP} {ι : Type} {g : ι → List (Nat × Value)} {h : ι → List HP} {m : ι → Nat} {n : Nat} (j : ι) (is : List Nat) (hs : Sub (g j) G) (hh : takeH is H = h j) (hm : m j < n) :
    PW E (fun a w => ∃ j, Fr E.N E.ds a (g j) ∧ St E.w0 E.S (h j) w ∧ m j < n) G H := fun a w hf hw => ⟨j, hf.sub hs, hh ▸ hw.take is, hm⟩
theorem PW.meetT {E : Env} {G : List (Nat × Value)} {H : List HP} {ι : Type} {g : ι → List (Nat × Value)} {h : ι → List HP} (j : ι) (is : List Nat) (hs : Sub (g j) G) (hh : takeH is H = h j) :
    PW E (fun a w => ∃ j, Fr E.N E.ds a (g j) ∧ St E.w0 E.S (h j) w) G H := fun a w hf hw => ⟨j, hf.sub hs, hh ▸ hw.take is⟩
end Go.Proofs.YtbcdgcodnkgdoaaGreat
