/- TopLoop, piece by piece: the calls, part 6. Conditions: none. -/
import Derived.Test.YtbcdgcodnkgdoaaGreatTl1
set_option linter.unusedVariables false
namespace Go.Proofs.YtbcdgcodnkgdoaaGreat.Run
open Go Go.RowKit

theorem tp0b (k : Int) : TG 6 nsA (ck6 0 1 k) .nrm (ck7 0 true k) := ⟨by kernel_rfl, by kernel_rfl, by kernel_rfl, rfl⟩
theorem tq0b (k : Int) : TG 7 nsB (ck7 0 true k) .nrm (ck8 0 true k) := ⟨by kernel_rfl, by kernel_rfl, by kernel_rfl, rfl⟩
theorem tr0b (k : Int) : TG 8 nsB (ck8 0 true k) .nrm (ck9 0 true k) := ⟨by kernel_rfl, by kernel_rfl, by kernel_rfl, rfl⟩
theorem ts0b (k : Int) : TG 9 nsB (ck9 0 true k) .nrm (ck10 0 true k) := ⟨by kernel_rfl, by kernel_rfl, by kernel_rfl, rfl⟩
theorem tp4b (k : Int) : TG 6 nsA (ck6 4 1 k) .nrm (ck7 4 true k) := ⟨by kernel_rfl, by kernel_rfl, by kernel_rfl, rfl⟩
theorem tq4b (k : Int) : TG 7 nsB (ck7 4 true k) .nrm (ck8 4 true k) := ⟨by kernel_rfl, by kernel_rfl, by kernel_rfl, rfl⟩
theorem tr4b (k : Int) : TG 8 nsB (ck8 4 true k) .nrm (ck9 4 true k) := ⟨by kernel_rfl, by kernel_rfl, by kernel_rfl, rfl⟩
theorem ts4b (k : Int) : TG 9 nsB (ck9 4 true k) .nrm (ck10 4 true k) := ⟨by kernel_rfl, by kernel_rfl, by kernel_rfl, rfl⟩
theorem tp11b (k : Int) : TG 6 nsA (ck6 11 1 k) .nrm (ck7 11 true k) := ⟨by kernel_rfl, by kernel_rfl, by kernel_rfl, rfl⟩
theorem tq11b (k : Int) : TG 7 nsB (ck7 11 true k) .nrm (ck8 11 true k) := ⟨by kernel_rfl, by kernel_rfl, by kernel_rfl, rfl⟩
theorem tr11b (k : Int) : TG 8 nsB (ck8 11 true k) .nrm (ck9 11 true k) := ⟨by kernel_rfl, by kernel_rfl, by kernel_rfl, rfl⟩
theorem ts11b (k : Int) : TG 9 nsB (ck9 11 true k) .nrm (ck10 11 true k) := ⟨by kernel_rfl, by kernel_rfl, by kernel_rfl, rfl⟩
theorem tp15b (k : Int) : TG 6 nsA (ck6 15 1 k) .nrm (ck7 15 true k) := ⟨by kernel_rfl, by kernel_rfl, by kernel_rfl, rfl⟩
theorem tq15b (k : Int) : TG 7 nsB (ck7 15 true k) .nrm (ck8 15 true k) := ⟨by kernel_rfl, by kernel_rfl, by kernel_rfl, rfl⟩
theorem tr15b (k : Int) : TG 8 nsB (ck8 15 true k) .nrm (ck9 15 true k) := ⟨by kernel_rfl, by kernel_rfl, by kernel_rfl, rfl⟩
theorem ts15b (k : Int) : TG 9 nsB (ck9 15 true k) .nrm (ck10 15 true k) := ⟨by kernel_rfl, by kernel_rfl, by kernel_rfl, rfl⟩
theorem tp22b (k : Int) : TG 6 nsA (ck6 22 1 k) .nrm (ck7 22 true k) := ⟨by kernel_rfl, by kernel_rfl, by kernel_rfl, rfl⟩
theorem tq22b (k : Int) : TG 7 nsB (ck7 22 true k) .nrm (ck8 22 true k) := ⟨by kernel_rfl, by kernel_rfl, by kernel_rfl, rfl⟩
theorem tr22b (k : Int) : TG 8 nsB (ck8 22 true k) .nrm (ck9 22 true k) := ⟨by kernel_rfl, by kernel_rfl, by kernel_rfl, rfl⟩
theorem ts22b (k : Int) : TG 9 nsB (ck9 22 true k) .nrm (ck10 22 true k) := ⟨by kernel_rfl, by kernel_rfl, by kernel_rfl, rfl⟩
theorem tp26b (k : Int) : TG 6 nsA (ck6 26 1 k) .nrm (ck7 26 true k) := ⟨by kernel_rfl, by kernel_rfl, by kernel_rfl, rfl⟩
theorem tq26b (k : Int) : TG 7 nsB (ck7 26 true k) .nrm (ck8 26 true k) := ⟨by kernel_rfl, by kernel_rfl, by kernel_rfl, rfl⟩
theorem tr26b (k : Int) : TG 8 nsB (ck8 26 true k) .nrm (ck9 26 true k) := ⟨by kernel_rfl, by kernel_rfl, by kernel_rfl, rfl⟩
theorem ts26b (k : Int) : TG 9 nsB (ck9 26 true k) .nrm (ck10 26 true k) := ⟨by kernel_rfl, by kernel_rfl, by kernel_rfl, rfl⟩
end Go.Proofs.YtbcdgcodnkgdoaaGreat.Run
