/- LiteralsClosed, for its row. -/
import Derived.Test.YtoknohnodlaimaaB2
import Derived.Test.YtoknohnodlaimaaK9d
import Derived.Test.YtoknohnodlaimaaL29
set_option linter.unusedVariables false
set_option linter.unusedSimpArgs false
namespace Go.Proofs.Ytoknohnodlaimaa
open Go Go.RowKit

theorem law_LiteralsClosed (W : World) {a0 a1 a2 : Option Addr} {n0 c0 n1 c1 n2 c2 : Nat} {x0 : kPreds.V} {x1 : kInts.V} {x2 : kLits.V} (y0 : Rd kPreds (mem W Any) [.slice a0 n0 c0] x0) (s0 : bk kPreds x0 ≤ 1048576) (y1 : Rd kInts (mem W Any) [.slice a1 n1 c1] x1) (s1 : bk kInts x1 ≤ 1048576) (y2 : Rd kLits (mem W Any) [.slice a2 n2 c2] x2) (s2 : bk kLits x2 ≤ 1048576) :
    Ret Try.prog 6 [.slice a0 n0 c0, .slice a1 n1 c1, .slice a2 n2 c2] W (.bool true) := by
  have z0 := y0
  have z1 := y1
  obtain ⟨ls, rfl⟩ : ∃ ls : List LitD, x2 = ls.map litV := ⟨x2.map litOf, by rw [List.map_map]; exact (List.map_id _).symm⟩
  have z2 := y2
  obtain ⟨_, _, e0, _⟩ := y0
  obtain ⟨_, _, e1, _⟩ := y1
  obtain ⟨_, _, e2, _⟩ := Rd.lits y2
  cases e0
  cases e1
  cases e2
  exact closed_ret (Mem.le_refl _) z0 z1 z2 (preds_bound s0)
end Go.Proofs.Ytoknohnodlaimaa
