/- TopLoop, piece by piece: the calls, part 8. Conditions: none. -/
import Derived.Test.YtbcdgcodnkgdoaaGreatTl1
set_option linter.unusedVariables false
namespace Go.Proofs.YtbcdgcodnkgdoaaGreat.Run
open Go Go.RowKit

theorem tp1b (k : Int) : TG 6 nsA (ck6 1 1 k) .nrm (ck7 1 true k) := ⟨by kernel_rfl, by kernel_rfl, by kernel_rfl, rfl⟩
theorem tq1b (k : Int) : TG 7 nsB (ck7 1 true k) .nrm (ck8 1 true k) := ⟨by kernel_rfl, by kernel_rfl, by kernel_rfl, rfl⟩
theorem tr1b (k : Int) : TG 8 nsB (ck8 1 true k) .nrm (ck9 1 true k) := ⟨by kernel_rfl, by kernel_rfl, by kernel_rfl, rfl⟩
theorem ts1b (k : Int) : TG 9 nsB (ck9 1 true k) .nrm (ck10 1 true k) := ⟨by kernel_rfl, by kernel_rfl, by kernel_rfl, rfl⟩
theorem tp3b (k : Int) : TG 6 nsA (ck6 3 1 k) .nrm (ck7 3 true k) := ⟨by kernel_rfl, by kernel_rfl, by kernel_rfl, rfl⟩
theorem tq3b (k : Int) : TG 7 nsB (ck7 3 true k) .nrm (ck8 3 true k) := ⟨by kernel_rfl, by kernel_rfl, by kernel_rfl, rfl⟩
theorem tr3b (k : Int) : TG 8 nsB (ck8 3 true k) .nrm (ck9 3 true k) := ⟨by kernel_rfl, by kernel_rfl, by kernel_rfl, rfl⟩
theorem ts3b (k : Int) : TG 9 nsB (ck9 3 true k) .nrm (ck10 3 true k) := ⟨by kernel_rfl, by kernel_rfl, by kernel_rfl, rfl⟩
theorem tp12b (k : Int) : TG 6 nsA (ck6 12 1 k) .nrm (ck7 12 true k) := ⟨by kernel_rfl, by kernel_rfl, by kernel_rfl, rfl⟩
theorem tq12b (k : Int) : TG 7 nsB (ck7 12 true k) .nrm (ck8 12 true k) := ⟨by kernel_rfl, by kernel_rfl, by kernel_rfl, rfl⟩
theorem tr12b (k : Int) : TG 8 nsB (ck8 12 true k) .nrm (ck9 12 true k) := ⟨by kernel_rfl, by kernel_rfl, by kernel_rfl, rfl⟩
theorem ts12b (k : Int) : TG 9 nsB (ck9 12 true k) .nrm (ck10 12 true k) := ⟨by kernel_rfl, by kernel_rfl, by kernel_rfl, rfl⟩
theorem tp14b (k : Int) : TG 6 nsA (ck6 14 1 k) .nrm (ck7 14 true k) := ⟨by kernel_rfl, by kernel_rfl, by kernel_rfl, rfl⟩
theorem tq14b (k : Int) : TG 7 nsB (ck7 14 true k) .nrm (ck8 14 true k) := ⟨by kernel_rfl, by kernel_rfl, by kernel_rfl, rfl⟩
theorem tr14b (k : Int) : TG 8 nsB (ck8 14 true k) .nrm (ck9 14 true k) := ⟨by kernel_rfl, by kernel_rfl, by kernel_rfl, rfl⟩
theorem ts14b (k : Int) : TG 9 nsB (ck9 14 true k) .nrm (ck10 14 true k) := ⟨by kernel_rfl, by kernel_rfl, by kernel_rfl, rfl⟩
theorem tp23b (k : Int) : TG 6 nsA (ck6 23 1 k) .nrm (ck7 23 true k) := ⟨by kernel_rfl, by kernel_rfl, by kernel_rfl, rfl⟩
theorem tq23b (k : Int) : TG 7 nsB (ck7 23 true k) .nrm (ck8 23 true k) := ⟨by kernel_rfl, by kernel_rfl, by kernel_rfl, rfl⟩
theorem tr23b (k : Int) : TG 8 nsB (ck8 23 true k) .nrm (ck9 23 true k) := ⟨by kernel_rfl, by kernel_rfl, by kernel_rfl, rfl⟩
theorem ts23b (k : Int) : TG 9 nsB (ck9 23 true k) .nrm (ck10 23 true k) := ⟨by kernel_rfl, by kernel_rfl, by kernel_rfl, rfl⟩
theorem tp25b (k : Int) : TG 6 nsA (ck6 25 1 k) .nrm (ck7 25 true k) := ⟨by kernel_rfl, by kernel_rfl, by kernel_rfl, rfl⟩
theorem tq25b (k : Int) : TG 7 nsB (ck7 25 true k) .nrm (ck8 25 true k) := ⟨by kernel_rfl, by kernel_rfl, by kernel_rfl, rfl⟩
theorem tr25b (k : Int) : TG 8 nsB (ck8 25 true k) .nrm (ck9 25 true k) := ⟨by kernel_rfl, by kernel_rfl, by kernel_rfl, rfl⟩
theorem ts25b (k : Int) : TG 9 nsB (ck9 25 true k) .nrm (ck10 25 true k) := ⟨by kernel_rfl, by kernel_rfl, by kernel_rfl, rfl⟩
end Go.Proofs.YtbcdgcodnkgdoaaGreat.Run
