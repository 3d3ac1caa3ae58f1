/- TopLoop, piece by piece: the calls, part 3. Conditions: none. -/
import Derived.Test.YtbcdgcodnkgdoaaGreatTl1
set_option linter.unusedVariables false
namespace Go.Proofs.YtbcdgcodnkgdoaaGreat.Run
open Go Go.RowKit

theorem tp6a (k : Int) : TG 6 nsA (ck6 6 2 k) .nrm (ck7 6 false k) := ⟨by kernel_rfl, by kernel_rfl, by kernel_rfl, rfl⟩
theorem tq6a (k : Int) : TG 7 nsB (ck7 6 false k) .nrm (ck8 6 false k) := ⟨by kernel_rfl, by kernel_rfl, by kernel_rfl, rfl⟩
theorem tr6a (k : Int) : TG 8 nsB (ck8 6 false k) .nrm (ck9 6 false k) := ⟨by kernel_rfl, by kernel_rfl, by kernel_rfl, rfl⟩
theorem ts6a (k : Int) : TG 9 nsB (ck9 6 false k) .nrm (ck10 6 false k) := ⟨by kernel_rfl, by kernel_rfl, by kernel_rfl, rfl⟩
theorem tp9a (k : Int) : TG 6 nsA (ck6 9 2 k) .nrm (ck7 9 false k) := ⟨by kernel_rfl, by kernel_rfl, by kernel_rfl, rfl⟩
theorem tq9a (k : Int) : TG 7 nsB (ck7 9 false k) .nrm (ck8 9 false k) := ⟨by kernel_rfl, by kernel_rfl, by kernel_rfl, rfl⟩
theorem tr9a (k : Int) : TG 8 nsB (ck8 9 false k) .nrm (ck9 9 false k) := ⟨by kernel_rfl, by kernel_rfl, by kernel_rfl, rfl⟩
theorem ts9a (k : Int) : TG 9 nsB (ck9 9 false k) .nrm (ck10 9 false k) := ⟨by kernel_rfl, by kernel_rfl, by kernel_rfl, rfl⟩
theorem tp17a (k : Int) : TG 6 nsA (ck6 17 2 k) .nrm (ck7 17 false k) := ⟨by kernel_rfl, by kernel_rfl, by kernel_rfl, rfl⟩
theorem tq17a (k : Int) : TG 7 nsB (ck7 17 false k) .nrm (ck8 17 false k) := ⟨by kernel_rfl, by kernel_rfl, by kernel_rfl, rfl⟩
theorem tr17a (k : Int) : TG 8 nsB (ck8 17 false k) .nrm (ck9 17 false k) := ⟨by kernel_rfl, by kernel_rfl, by kernel_rfl, rfl⟩
theorem ts17a (k : Int) : TG 9 nsB (ck9 17 false k) .nrm (ck10 17 false k) := ⟨by kernel_rfl, by kernel_rfl, by kernel_rfl, rfl⟩
theorem tp20a (k : Int) : TG 6 nsA (ck6 20 2 k) .nrm (ck7 20 false k) := ⟨by kernel_rfl, by kernel_rfl, by kernel_rfl, rfl⟩
theorem tq20a (k : Int) : TG 7 nsB (ck7 20 false k) .nrm (ck8 20 false k) := ⟨by kernel_rfl, by kernel_rfl, by kernel_rfl, rfl⟩
theorem tr20a (k : Int) : TG 8 nsB (ck8 20 false k) .nrm (ck9 20 false k) := ⟨by kernel_rfl, by kernel_rfl, by kernel_rfl, rfl⟩
theorem ts20a (k : Int) : TG 9 nsB (ck9 20 false k) .nrm (ck10 20 false k) := ⟨by kernel_rfl, by kernel_rfl, by kernel_rfl, rfl⟩
theorem tp28a (k : Int) : TG 6 nsA (ck6 28 2 k) .nrm (ck7 28 false k) := ⟨by kernel_rfl, by kernel_rfl, by kernel_rfl, rfl⟩
theorem tq28a (k : Int) : TG 7 nsB (ck7 28 false k) .nrm (ck8 28 false k) := ⟨by kernel_rfl, by kernel_rfl, by kernel_rfl, rfl⟩
theorem tr28a (k : Int) : TG 8 nsB (ck8 28 false k) .nrm (ck9 28 false k) := ⟨by kernel_rfl, by kernel_rfl, by kernel_rfl, rfl⟩
theorem ts28a (k : Int) : TG 9 nsB (ck9 28 false k) .nrm (ck10 28 false k) := ⟨by kernel_rfl, by kernel_rfl, by kernel_rfl, rfl⟩
end Go.Proofs.YtbcdgcodnkgdoaaGreat.Run
