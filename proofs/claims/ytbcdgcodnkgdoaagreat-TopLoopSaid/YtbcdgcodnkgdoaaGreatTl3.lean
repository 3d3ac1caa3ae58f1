/- TopLoop, piece by piece: the calls, part 0. Conditions: none. -/
import Derived.Test.YtbcdgcodnkgdoaaGreatTl1
set_option linter.unusedVariables false
namespace Go.Proofs.YtbcdgcodnkgdoaaGreat.Run
open Go Go.RowKit

theorem tp7b (k : Int) : TG 6 nsA (ck6 7 1 k) .nrm (ck7 7 true k) := ⟨by kernel_rfl, by kernel_rfl, by kernel_rfl, rfl⟩
theorem tq7b (k : Int) : TG 7 nsB (ck7 7 true k) .nrm (ck8 7 true k) := ⟨by kernel_rfl, by kernel_rfl, by kernel_rfl, rfl⟩
theorem tr7b (k : Int) : TG 8 nsB (ck8 7 true k) .nrm (ck9 7 true k) := ⟨by kernel_rfl, by kernel_rfl, by kernel_rfl, rfl⟩
theorem ts7b (k : Int) : TG 9 nsB (ck9 7 true k) .nrm (ck10 7 true k) := ⟨by kernel_rfl, by kernel_rfl, by kernel_rfl, rfl⟩
theorem tp8b (k : Int) : TG 6 nsA (ck6 8 1 k) .nrm (ck7 8 true k) := ⟨by kernel_rfl, by kernel_rfl, by kernel_rfl, rfl⟩
theorem tq8b (k : Int) : TG 7 nsB (ck7 8 true k) .nrm (ck8 8 true k) := ⟨by kernel_rfl, by kernel_rfl, by kernel_rfl, rfl⟩
theorem tr8b (k : Int) : TG 8 nsB (ck8 8 true k) .nrm (ck9 8 true k) := ⟨by kernel_rfl, by kernel_rfl, by kernel_rfl, rfl⟩
theorem ts8b (k : Int) : TG 9 nsB (ck9 8 true k) .nrm (ck10 8 true k) := ⟨by kernel_rfl, by kernel_rfl, by kernel_rfl, rfl⟩
theorem tp18b (k : Int) : TG 6 nsA (ck6 18 1 k) .nrm (ck7 18 true k) := ⟨by kernel_rfl, by kernel_rfl, by kernel_rfl, rfl⟩
theorem tq18b (k : Int) : TG 7 nsB (ck7 18 true k) .nrm (ck8 18 true k) := ⟨by kernel_rfl, by kernel_rfl, by kernel_rfl, rfl⟩
theorem tr18b (k : Int) : TG 8 nsB (ck8 18 true k) .nrm (ck9 18 true k) := ⟨by kernel_rfl, by kernel_rfl, by kernel_rfl, rfl⟩
theorem ts18b (k : Int) : TG 9 nsB (ck9 18 true k) .nrm (ck10 18 true k) := ⟨by kernel_rfl, by kernel_rfl, by kernel_rfl, rfl⟩
theorem tp19b (k : Int) : TG 6 nsA (ck6 19 1 k) .nrm (ck7 19 true k) := ⟨by kernel_rfl, by kernel_rfl, by kernel_rfl, rfl⟩
theorem tq19b (k : Int) : TG 7 nsB (ck7 19 true k) .nrm (ck8 19 true k) := ⟨by kernel_rfl, by kernel_rfl, by kernel_rfl, rfl⟩
theorem tr19b (k : Int) : TG 8 nsB (ck8 19 true k) .nrm (ck9 19 true k) := ⟨by kernel_rfl, by kernel_rfl, by kernel_rfl, rfl⟩
theorem ts19b (k : Int) : TG 9 nsB (ck9 19 true k) .nrm (ck10 19 true k) := ⟨by kernel_rfl, by kernel_rfl, by kernel_rfl, rfl⟩
theorem tp29b (k : Int) : TG 6 nsA (ck6 29 1 k) .nrm (ck7 29 true k) := ⟨by kernel_rfl, by kernel_rfl, by kernel_rfl, rfl⟩
theorem tq29b (k : Int) : TG 7 nsB (ck7 29 true k) .nrm (ck8 29 true k) := ⟨by kernel_rfl, by kernel_rfl, by kernel_rfl, rfl⟩
theorem tr29b (k : Int) : TG 8 nsB (ck8 29 true k) .nrm (ck9 29 true k) := ⟨by kernel_rfl, by kernel_rfl, by kernel_rfl, rfl⟩
theorem ts29b (k : Int) : TG 9 nsB (ck9 29 true k) .nrm (ck10 29 true k) := ⟨by kernel_rfl, by kernel_rfl, by kernel_rfl, rfl⟩
end Go.Proofs.YtbcdgcodnkgdoaaGreat.Run
