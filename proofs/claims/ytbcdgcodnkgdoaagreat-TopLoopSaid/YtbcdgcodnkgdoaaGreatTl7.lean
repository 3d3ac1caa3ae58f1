/- TopLoop, piece by piece: the calls, part 4. Conditions: none. -/
import Derived.Test.YtbcdgcodnkgdoaaGreatTl1
set_option linter.unusedVariables false
namespace Go.Proofs.YtbcdgcodnkgdoaaGreat.Run
open Go Go.RowKit

theorem tp5b (k : Int) : TG 6 nsA (ck6 5 1 k) .nrm (ck7 5 true k) := ⟨by kernel_rfl, by kernel_rfl, by kernel_rfl, rfl⟩
theorem tq5b (k : Int) : TG 7 nsB (ck7 5 true k) .nrm (ck8 5 true k) := ⟨by kernel_rfl, by kernel_rfl, by kernel_rfl, rfl⟩
theorem tr5b (k : Int) : TG 8 nsB (ck8 5 true k) .nrm (ck9 5 true k) := ⟨by kernel_rfl, by kernel_rfl, by kernel_rfl, rfl⟩
theorem ts5b (k : Int) : TG 9 nsB (ck9 5 true k) .nrm (ck10 5 true k) := ⟨by kernel_rfl, by kernel_rfl, by kernel_rfl, rfl⟩
theorem tp10b (k : Int) : TG 6 nsA (ck6 10 1 k) .nrm (ck7 10 true k) := ⟨by kernel_rfl, by kernel_rfl, by kernel_rfl, rfl⟩
theorem tq10b (k : Int) : TG 7 nsB (ck7 10 true k) .nrm (ck8 10 true k) := ⟨by kernel_rfl, by kernel_rfl, by kernel_rfl, rfl⟩
theorem tr10b (k : Int) : TG 8 nsB (ck8 10 true k) .nrm (ck9 10 true k) := ⟨by kernel_rfl, by kernel_rfl, by kernel_rfl, rfl⟩
theorem ts10b (k : Int) : TG 9 nsB (ck9 10 true k) .nrm (ck10 10 true k) := ⟨by kernel_rfl, by kernel_rfl, by kernel_rfl, rfl⟩
theorem tp16b (k : Int) : TG 6 nsA (ck6 16 1 k) .nrm (ck7 16 true k) := ⟨by kernel_rfl, by kernel_rfl, by kernel_rfl, rfl⟩
theorem tq16b (k : Int) : TG 7 nsB (ck7 16 true k) .nrm (ck8 16 true k) := ⟨by kernel_rfl, by kernel_rfl, by kernel_rfl, rfl⟩
theorem tr16b (k : Int) : TG 8 nsB (ck8 16 true k) .nrm (ck9 16 true k) := ⟨by kernel_rfl, by kernel_rfl, by kernel_rfl, rfl⟩
theorem ts16b (k : Int) : TG 9 nsB (ck9 16 true k) .nrm (ck10 16 true k) := ⟨by kernel_rfl, by kernel_rfl, by kernel_rfl, rfl⟩
theorem tp21b (k : Int) : TG 6 nsA (ck6 21 1 k) .nrm (ck7 21 true k) := ⟨by kernel_rfl, by kernel_rfl, by kernel_rfl, rfl⟩
theorem tq21b (k : Int) : TG 7 nsB (ck7 21 true k) .nrm (ck8 21 true k) := ⟨by kernel_rfl, by kernel_rfl, by kernel_rfl, rfl⟩
theorem tr21b (k : Int) : TG 8 nsB (ck8 21 true k) .nrm (ck9 21 true k) := ⟨by kernel_rfl, by kernel_rfl, by kernel_rfl, rfl⟩
theorem ts21b (k : Int) : TG 9 nsB (ck9 21 true k) .nrm (ck10 21 true k) := ⟨by kernel_rfl, by kernel_rfl, by kernel_rfl, rfl⟩
theorem tp27b (k : Int) : TG 6 nsA (ck6 27 1 k) .nrm (ck7 27 true k) := ⟨by kernel_rfl, by kernel_rfl, by kernel_rfl, rfl⟩
theorem tq27b (k : Int) : TG 7 nsB (ck7 27 true k) .nrm (ck8 27 true k) := ⟨by kernel_rfl, by kernel_rfl, by kernel_rfl, rfl⟩
theorem tr27b (k : Int) : TG 8 nsB (ck8 27 true k) .nrm (ck9 27 true k) := ⟨by kernel_rfl, by kernel_rfl, by kernel_rfl, rfl⟩
theorem ts27b (k : Int) : TG 9 nsB (ck9 27 true k) .nrm (ck10 27 true k) := ⟨by kernel_rfl, by kernel_rfl, by kernel_rfl, rfl⟩
end Go.Proofs.YtbcdgcodnkgdoaaGreat.Run
