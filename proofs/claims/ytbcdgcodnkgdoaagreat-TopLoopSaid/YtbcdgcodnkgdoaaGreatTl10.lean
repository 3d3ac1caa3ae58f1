/- TopLoop, piece by piece: the calls, part 7. Conditions: none. -/
import Derived.Test.YtbcdgcodnkgdoaaGreatTl1
set_option linter.unusedVariables false
namespace Go.Proofs.YtbcdgcodnkgdoaaGreat.Run
open Go Go.RowKit

theorem tp0a (k : Int) : TG 6 nsA (ck6 0 2 k) .nrm (ck7 0 false k) := ⟨by kernel_rfl, by kernel_rfl, by kernel_rfl, rfl⟩
theorem tq0a (k : Int) : TG 7 nsB (ck7 0 false k) .nrm (ck8 0 false k) := ⟨by kernel_rfl, by kernel_rfl, by kernel_rfl, rfl⟩
theorem tr0a (k : Int) : TG 8 nsB (ck8 0 false k) .nrm (ck9 0 false k) := ⟨by kernel_rfl, by kernel_rfl, by kernel_rfl, rfl⟩
theorem ts0a (k : Int) : TG 9 nsB (ck9 0 false k) .nrm (ck10 0 false k) := ⟨by kernel_rfl, by kernel_rfl, by kernel_rfl, rfl⟩
theorem tp4a (k : Int) : TG 6 nsA (ck6 4 2 k) .nrm (ck7 4 false k) := ⟨by kernel_rfl, by kernel_rfl, by kernel_rfl, rfl⟩
theorem tq4a (k : Int) : TG 7 nsB (ck7 4 false k) .nrm (ck8 4 false k) := ⟨by kernel_rfl, by kernel_rfl, by kernel_rfl, rfl⟩
theorem tr4a (k : Int) : TG 8 nsB (ck8 4 false k) .nrm (ck9 4 false k) := ⟨by kernel_rfl, by kernel_rfl, by kernel_rfl, rfl⟩
theorem ts4a (k : Int) : TG 9 nsB (ck9 4 false k) .nrm (ck10 4 false k) := ⟨by kernel_rfl, by kernel_rfl, by kernel_rfl, rfl⟩
theorem tp11a (k : Int) : TG 6 nsA (ck6 11 2 k) .nrm (ck7 11 false k) := ⟨by kernel_rfl, by kernel_rfl, by kernel_rfl, rfl⟩
theorem tq11a (k : Int) : TG 7 nsB (ck7 11 false k) .nrm (ck8 11 false k) := ⟨by kernel_rfl, by kernel_rfl, by kernel_rfl, rfl⟩
theorem tr11a (k : Int) : TG 8 nsB (ck8 11 false k) .nrm (ck9 11 false k) := ⟨by kernel_rfl, by kernel_rfl, by kernel_rfl, rfl⟩
theorem ts11a (k : Int) : TG 9 nsB (ck9 11 false k) .nrm (ck10 11 false k) := ⟨by kernel_rfl, by kernel_rfl, by kernel_rfl, rfl⟩
theorem tp15a (k : Int) : TG 6 nsA (ck6 15 2 k) .nrm (ck7 15 false k) := ⟨by kernel_rfl, by kernel_rfl, by kernel_rfl, rfl⟩
theorem tq15a (k : Int) : TG 7 nsB (ck7 15 false k) .nrm (ck8 15 false k) := ⟨by kernel_rfl, by kernel_rfl, by kernel_rfl, rfl⟩
theorem tr15a (k : Int) : TG 8 nsB (ck8 15 false k) .nrm (ck9 15 false k) := ⟨by kernel_rfl, by kernel_rfl, by kernel_rfl, rfl⟩
theorem ts15a (k : Int) : TG 9 nsB (ck9 15 false k) .nrm (ck10 15 false k) := ⟨by kernel_rfl, by kernel_rfl, by kernel_rfl, rfl⟩
theorem tp22a (k : Int) : TG 6 nsA (ck6 22 2 k) .nrm (ck7 22 false k) := ⟨by kernel_rfl, by kernel_rfl, by kernel_rfl, rfl⟩
theorem tq22a (k : Int) : TG 7 nsB (ck7 22 false k) .nrm (ck8 22 false k) := ⟨by kernel_rfl, by kernel_rfl, by kernel_rfl, rfl⟩
theorem tr22a (k : Int) : TG 8 nsB (ck8 22 false k) .nrm (ck9 22 false k) := ⟨by kernel_rfl, by kernel_rfl, by kernel_rfl, rfl⟩
theorem ts22a (k : Int) : TG 9 nsB (ck9 22 false k) .nrm (ck10 22 false k) := ⟨by kernel_rfl, by kernel_rfl, by kernel_rfl, rfl⟩
theorem tp26a (k : Int) : TG 6 nsA (ck6 26 2 k) .nrm (ck7 26 false k) := ⟨by kernel_rfl, by kernel_rfl, by kernel_rfl, rfl⟩
theorem tq26a (k : Int) : TG 7 nsB (ck7 26 false k) .nrm (ck8 26 false k) := ⟨by kernel_rfl, by kernel_rfl, by kernel_rfl, rfl⟩
theorem tr26a (k : Int) : TG 8 nsB (ck8 26 false k) .nrm (ck9 26 false k) := ⟨by kernel_rfl, by kernel_rfl, by kernel_rfl, rfl⟩
theorem ts26a (k : Int) : TG 9 nsB (ck9 26 false k) .nrm (ck10 26 false k) := ⟨by kernel_rfl, by kernel_rfl, by kernel_rfl, rfl⟩
end Go.Proofs.YtbcdgcodnkgdoaaGreat.Run
