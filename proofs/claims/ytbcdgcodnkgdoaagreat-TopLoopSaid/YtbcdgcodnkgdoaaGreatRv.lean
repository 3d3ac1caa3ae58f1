/- The runner at alive. Conditions: none. -/
import Derived.Test.YtbcdgcodnkgdoaaGreatRu19
namespace Go.Proofs.YtbcdgcodnkgdoaaGreat
open Go Go.RowKit Run

theorem alive_run : (exN 3000 60 7 [] ⟨.e, 0⟩).isTrue = true := by kernel_rfl
theorem alive_ret (w : World) : Ret Tryz.prog 7 [] w (.bool true) := by
  obtain ⟨q, h1, h2⟩ := isTrue_ok alive_run
  exact callsIn_wide.1 (exN_ret h1 (fun σ y hy => by rw [h2, den] at hy; exact (Option.some.inj hy).symm) w)
end Go.Proofs.YtbcdgcodnkgdoaaGreat
