/- LiteralsJust, for its row. -/
import Derived.Test.YtoknohnodlaimaaB2
import Derived.Test.YtoknohnodlaimaaK09
import Derived.Test.YtoknohnodlaimaaL24
set_option linter.unusedVariables false
set_option linter.unusedSimpArgs false
namespace Go.Proofs.Ytoknohnodlaimaa
open Go Go.RowKit

theorem bk_mem {k : K} {by_ : Nat} : ∀ {xs : List k.V} {x : k.V}, x ∈ xs → xs.length + bk k x ≤ bk (.sl by_ k) xs := by
  intro xs
  induction xs with
  | nil => intro x h; cases h
  | cons y xs ih =>
    intro x h
    show _ ≤ List.length (α := k.V) (y :: xs) + (List.map (bk k) (y :: xs)).sum
    rw [List.length_cons, List.map_cons, List.sum_cons]
    rcases List.mem_cons.1 h with rfl | h
    · omega
    · have h2 : xs.length + bk k x ≤ xs.length + (List.map (bk k) xs).sum := ih h
      omega
theorem preds_bound {ps : List kPred.V} (h : bk kPreds ps ≤ 1048576) : ∀ p ∈ ps, (ps.length + (predOf p).vals.length + 2) * 56 ≤ reach := by
  intro p hp
  have h1 := bk_mem (by_ := 72) (k := kPred) hp
  have h2 : (predOf p).vals.length ≤ bk kPred p := by
    show List.length (α := Int) p.2.2.2 ≤ 0 + (0 + (_ + (List.length (α := Int) p.2.2.2 + _)))
    omega
  have h3 : ps.length + (predOf p).vals.length ≤ 1048576 := Nat.le_trans (Nat.add_le_add_left h2 _) (Nat.le_trans h1 h)
  rw [reach_eq]
  omega
theorem law_LiteralsJust (W : World) {a0 a1 : Option Addr} {n0 c0 n1 c1 : Nat} {c2 c3 : List Value} {x0 : kPreds.V} {x1 : kInts.V} {x2 x3 : kLit.V} (y0 : Rd kPreds (mem W Any) [.slice a0 n0 c0] x0) (s0 : bk kPreds x0 ≤ 1048576) (y1 : Rd kInts (mem W Any) [.slice a1 n1 c1] x1) (s1 : bk kInts x1 ≤ 1048576) (y2 : Rd kLit (mem W Any) c2 x2) (s2 : bk kLit x2 ≤ 1048576) (y3 : Rd kLit (mem W Any) c3 x3) (s3 : bk kLit x3 ≤ 1048576) :
    Ret Try.prog 5 [.slice a0 n0 c0, .slice a1 n1 c1, .agg c2.toArray, .agg c3.toArray] W (.bool true) := by
  have z0 := y0
  have z1 := y1
  obtain ⟨_, _, e0, _⟩ := y0
  obtain ⟨_, _, e1, _⟩ := y1
  cases e0
  cases e1
  exact just_ret (a := litOf x2) (b := litOf x3) (Mem.le_refl _) z0 z1 y2 y3 (preds_bound s0)
end Go.Proofs.Ytoknohnodlaimaa
