/- TopLoop, piece by piece: the calls, part 2. Conditions: none. -/
import Derived.Test.YtbcdgcodnkgdoaaGreatTl1
set_option linter.unusedVariables false
namespace Go.Proofs.YtbcdgcodnkgdoaaGreat.Run
open Go Go.RowKit

theorem tp6b (k : Int) : TG 6 nsA (ck6 6 1 k) .nrm (ck7 6 true k) := ⟨by kernel_rfl, by kernel_rfl, by kernel_rfl, rfl⟩
theorem tq6b (k : Int) : TG 7 nsB (ck7 6 true k) .nrm (ck8 6 true k) := ⟨by kernel_rfl, by kernel_rfl, by kernel_rfl, rfl⟩
theorem tr6b (k : Int) : TG 8 nsB (ck8 6 true k) .nrm (ck9 6 true k) := ⟨by kernel_rfl, by kernel_rfl, by kernel_rfl, rfl⟩
theorem ts6b (k : Int) : TG 9 nsB (ck9 6 true k) .nrm (ck10 6 true k) := ⟨by kernel_rfl, by kernel_rfl, by kernel_rfl, rfl⟩
theorem tp9b (k : Int) : TG 6 nsA (ck6 9 1 k) .nrm (ck7 9 true k) := ⟨by kernel_rfl, by kernel_rfl, by kernel_rfl, rfl⟩
theorem tq9b (k : Int) : TG 7 nsB (ck7 9 true k) .nrm (ck8 9 true k) := ⟨by kernel_rfl, by kernel_rfl, by kernel_rfl, rfl⟩
theorem tr9b (k : Int) : TG 8 nsB (ck8 9 true k) .nrm (ck9 9 true k) := ⟨by kernel_rfl, by kernel_rfl, by kernel_rfl, rfl⟩
theorem ts9b (k : Int) : TG 9 nsB (ck9 9 true k) .nrm (ck10 9 true k) := ⟨by kernel_rfl, by kernel_rfl, by kernel_rfl, rfl⟩
theorem tp17b (k : Int) : TG 6 nsA (ck6 17 1 k) .nrm (ck7 17 true k) := ⟨by kernel_rfl, by kernel_rfl, by kernel_rfl, rfl⟩
theorem tq17b (k : Int) : TG 7 nsB (ck7 17 true k) .nrm (ck8 17 true k) := ⟨by kernel_rfl, by kernel_rfl, by kernel_rfl, rfl⟩
theorem tr17b (k : Int) : TG 8 nsB (ck8 17 true k) .nrm (ck9 17 true k) := ⟨by kernel_rfl, by kernel_rfl, by kernel_rfl, rfl⟩
theorem ts17b (k : Int) : TG 9 nsB (ck9 17 true k) .nrm (ck10 17 true k) := ⟨by kernel_rfl, by kernel_rfl, by kernel_rfl, rfl⟩
theorem tp20b (k : Int) : TG 6 nsA (ck6 20 1 k) .nrm (ck7 20 true k) := ⟨by kernel_rfl, by kernel_rfl, by kernel_rfl, rfl⟩
theorem tq20b (k : Int) : TG 7 nsB (ck7 20 true k) .nrm (ck8 20 true k) := ⟨by kernel_rfl, by kernel_rfl, by kernel_rfl, rfl⟩
theorem tr20b (k : Int) : TG 8 nsB (ck8 20 true k) .nrm (ck9 20 true k) := ⟨by kernel_rfl, by kernel_rfl, by kernel_rfl, rfl⟩
theorem ts20b (k : Int) : TG 9 nsB (ck9 20 true k) .nrm (ck10 20 true k) := ⟨by kernel_rfl, by kernel_rfl, by kernel_rfl, rfl⟩
theorem tp28b (k : Int) : TG 6 nsA (ck6 28 1 k) .nrm (ck7 28 true k) := ⟨by kernel_rfl, by kernel_rfl, by kernel_rfl, rfl⟩
theorem tq28b (k : Int) : TG 7 nsB (ck7 28 true k) .nrm (ck8 28 true k) := ⟨by kernel_rfl, by kernel_rfl, by kernel_rfl, rfl⟩
theorem tr28b (k : Int) : TG 8 nsB (ck8 28 true k) .nrm (ck9 28 true k) := ⟨by kernel_rfl, by kernel_rfl, by kernel_rfl, rfl⟩
theorem ts28b (k : Int) : TG 9 nsB (ck9 28 true k) .nrm (ck10 28 true k) := ⟨by kernel_rfl, by kernel_rfl, by kernel_rfl, rfl⟩
end Go.Proofs.YtbcdgcodnkgdoaaGreat.Run
