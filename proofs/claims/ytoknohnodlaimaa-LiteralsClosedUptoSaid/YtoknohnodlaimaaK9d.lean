/- What the bound of a narrowed row gives, of predicates. -/
import Derived.Test.YtoknohnodlaimaaB2
import Derived.Test.YtoknohnodlaimaaK09
set_option linter.unusedVariables false
set_option linter.unusedSimpArgs false
namespace Go.Proofs.Ytoknohnodlaimaa
open Go Go.RowKit

theorem bk_mem {k : K} {by_ : Nat} : ∀ {xs : List k.V} {x : k.V}, x ∈ xs → xs.length + bk k x ≤ bk (.sl by_ k) xs := by
  intro xs
  induction xs with
  | nil => intro x h; cases h
  | cons y xs ih =>
    intro x h
    show _ ≤ List.length (α := k.V) (y :: xs) + (List.map (bk k) (y :: xs)).sum
    rw [List.length_cons, List.map_cons, List.sum_cons]
    rcases List.mem_cons.1 h with rfl | h
    · omega
    · have h2 : xs.length + bk k x ≤ xs.length + (List.map (bk k) xs).sum := ih h
      omega
theorem preds_bound {ps : List kPred.V} (h : bk kPreds ps ≤ 1048576) : ∀ p ∈ ps, (ps.length + (predOf p).vals.length + 2) * 56 ≤ reach := by
  intro p hp
  have h1 := bk_mem (by_ := 72) (k := kPred) hp
  have h2 : (predOf p).vals.length ≤ bk kPred p := by
    show List.length (α := Int) p.2.2.2 ≤ 0 + (0 + (_ + (List.length (α := Int) p.2.2.2 + _)))
    omega
  have h3 : ps.length + (predOf p).vals.length ≤ 1048576 := Nat.le_trans (Nat.add_le_add_left h2 _) (Nat.le_trans h1 h)
  unfold reach
  omega
end Go.Proofs.Ytoknohnodlaimaa
