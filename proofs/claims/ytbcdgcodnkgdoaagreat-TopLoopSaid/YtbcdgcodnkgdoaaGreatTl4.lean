/- TopLoop, piece by piece: the calls, part 1. Conditions: none. -/
import Derived.Test.YtbcdgcodnkgdoaaGreatTl1
set_option linter.unusedVariables false
namespace Go.Proofs.YtbcdgcodnkgdoaaGreat.Run
open Go Go.RowKit

theorem tp7a (k : Int) : TG 6 nsA (ck6 7 2 k) .nrm (ck7 7 false k) := ⟨by kernel_rfl, by kernel_rfl, by kernel_rfl, rfl⟩
theorem tq7a (k : Int) : TG 7 nsB (ck7 7 false k) .nrm (ck8 7 false k) := ⟨by kernel_rfl, by kernel_rfl, by kernel_rfl, rfl⟩
theorem tr7a (k : Int) : TG 8 nsB (ck8 7 false k) .nrm (ck9 7 false k) := ⟨by kernel_rfl, by kernel_rfl, by kernel_rfl, rfl⟩
theorem ts7a (k : Int) : TG 9 nsB (ck9 7 false k) .nrm (ck10 7 false k) := ⟨by kernel_rfl, by kernel_rfl, by kernel_rfl, rfl⟩
theorem tp8a (k : Int) : TG 6 nsA (ck6 8 2 k) .nrm (ck7 8 false k) := ⟨by kernel_rfl, by kernel_rfl, by kernel_rfl, rfl⟩
theorem tq8a (k : Int) : TG 7 nsB (ck7 8 false k) .nrm (ck8 8 false k) := ⟨by kernel_rfl, by kernel_rfl, by kernel_rfl, rfl⟩
theorem tr8a (k : Int) : TG 8 nsB (ck8 8 false k) .nrm (ck9 8 false k) := ⟨by kernel_rfl, by kernel_rfl, by kernel_rfl, rfl⟩
theorem ts8a (k : Int) : TG 9 nsB (ck9 8 false k) .nrm (ck10 8 false k) := ⟨by kernel_rfl, by kernel_rfl, by kernel_rfl, rfl⟩
theorem tp18a (k : Int) : TG 6 nsA (ck6 18 2 k) .nrm (ck7 18 false k) := ⟨by kernel_rfl, by kernel_rfl, by kernel_rfl, rfl⟩
theorem tq18a (k : Int) : TG 7 nsB (ck7 18 false k) .nrm (ck8 18 false k) := ⟨by kernel_rfl, by kernel_rfl, by kernel_rfl, rfl⟩
theorem tr18a (k : Int) : TG 8 nsB (ck8 18 false k) .nrm (ck9 18 false k) := ⟨by kernel_rfl, by kernel_rfl, by kernel_rfl, rfl⟩
theorem ts18a (k : Int) : TG 9 nsB (ck9 18 false k) .nrm (ck10 18 false k) := ⟨by kernel_rfl, by kernel_rfl, by kernel_rfl, rfl⟩
theorem tp19a (k : Int) : TG 6 nsA (ck6 19 2 k) .nrm (ck7 19 false k) := ⟨by kernel_rfl, by kernel_rfl, by kernel_rfl, rfl⟩
theorem tq19a (k : Int) : TG 7 nsB (ck7 19 false k) .nrm (ck8 19 false k) := ⟨by kernel_rfl, by kernel_rfl, by kernel_rfl, rfl⟩
theorem tr19a (k : Int) : TG 8 nsB (ck8 19 false k) .nrm (ck9 19 false k) := ⟨by kernel_rfl, by kernel_rfl, by kernel_rfl, rfl⟩
theorem ts19a (k : Int) : TG 9 nsB (ck9 19 false k) .nrm (ck10 19 false k) := ⟨by kernel_rfl, by kernel_rfl, by kernel_rfl, rfl⟩
theorem tp29a (k : Int) : TG 6 nsA (ck6 29 2 k) .nrm (ck7 29 false k) := ⟨by kernel_rfl, by kernel_rfl, by kernel_rfl, rfl⟩
theorem tq29a (k : Int) : TG 7 nsB (ck7 29 false k) .nrm (ck8 29 false k) := ⟨by kernel_rfl, by kernel_rfl, by kernel_rfl, rfl⟩
theorem tr29a (k : Int) : TG 8 nsB (ck8 29 false k) .nrm (ck9 29 false k) := ⟨by kernel_rfl, by kernel_rfl, by kernel_rfl, rfl⟩
theorem ts29a (k : Int) : TG 9 nsB (ck9 29 false k) .nrm (ck10 29 false k) := ⟨by kernel_rfl, by kernel_rfl, by kernel_rfl, rfl⟩
end Go.Proofs.YtbcdgcodnkgdoaaGreat.Run
