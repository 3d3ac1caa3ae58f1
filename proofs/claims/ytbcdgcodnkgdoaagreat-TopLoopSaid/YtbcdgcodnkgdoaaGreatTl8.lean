/- TopLoop, piece by piece: the calls, part 5. Conditions: none. -/
import Derived.Test.YtbcdgcodnkgdoaaGreatTl1
set_option linter.unusedVariables false
namespace Go.Proofs.YtbcdgcodnkgdoaaGreat.Run
open Go Go.RowKit

theorem tp5a (k : Int) : TG 6 nsA (ck6 5 2 k) .nrm (ck7 5 false k) := ⟨by kernel_rfl, by kernel_rfl, by kernel_rfl, rfl⟩
theorem tq5a (k : Int) : TG 7 nsB (ck7 5 false k) .nrm (ck8 5 false k) := ⟨by kernel_rfl, by kernel_rfl, by kernel_rfl, rfl⟩
theorem tr5a (k : Int) : TG 8 nsB (ck8 5 false k) .nrm (ck9 5 false k) := ⟨by kernel_rfl, by kernel_rfl, by kernel_rfl, rfl⟩
theorem ts5a (k : Int) : TG 9 nsB (ck9 5 false k) .nrm (ck10 5 false k) := ⟨by kernel_rfl, by kernel_rfl, by kernel_rfl, rfl⟩
theorem tp10a (k : Int) : TG 6 nsA (ck6 10 2 k) .nrm (ck7 10 false k) := ⟨by kernel_rfl, by kernel_rfl, by kernel_rfl, rfl⟩
theorem tq10a (k : Int) : TG 7 nsB (ck7 10 false k) .nrm (ck8 10 false k) := ⟨by kernel_rfl, by kernel_rfl, by kernel_rfl, rfl⟩
theorem tr10a (k : Int) : TG 8 nsB (ck8 10 false k) .nrm (ck9 10 false k) := ⟨by kernel_rfl, by kernel_rfl, by kernel_rfl, rfl⟩
theorem ts10a (k : Int) : TG 9 nsB (ck9 10 false k) .nrm (ck10 10 false k) := ⟨by kernel_rfl, by kernel_rfl, by kernel_rfl, rfl⟩
theorem tp16a (k : Int) : TG 6 nsA (ck6 16 2 k) .nrm (ck7 16 false k) := ⟨by kernel_rfl, by kernel_rfl, by kernel_rfl, rfl⟩
theorem tq16a (k : Int) : TG 7 nsB (ck7 16 false k) .nrm (ck8 16 false k) := ⟨by kernel_rfl, by kernel_rfl, by kernel_rfl, rfl⟩
theorem tr16a (k : Int) : TG 8 nsB (ck8 16 false k) .nrm (ck9 16 false k) := ⟨by kernel_rfl, by kernel_rfl, by kernel_rfl, rfl⟩
theorem ts16a (k : Int) : TG 9 nsB (ck9 16 false k) .nrm (ck10 16 false k) := ⟨by kernel_rfl, by kernel_rfl, by kernel_rfl, rfl⟩
theorem tp21a (k : Int) : TG 6 nsA (ck6 21 2 k) .nrm (ck7 21 false k) := ⟨by kernel_rfl, by kernel_rfl, by kernel_rfl, rfl⟩
theorem tq21a (k : Int) : TG 7 nsB (ck7 21 false k) .nrm (ck8 21 false k) := ⟨by kernel_rfl, by kernel_rfl, by kernel_rfl, rfl⟩
theorem tr21a (k : Int) : TG 8 nsB (ck8 21 false k) .nrm (ck9 21 false k) := ⟨by kernel_rfl, by kernel_rfl, by kernel_rfl, rfl⟩
theorem ts21a (k : Int) : TG 9 nsB (ck9 21 false k) .nrm (ck10 21 false k) := ⟨by kernel_rfl, by kernel_rfl, by kernel_rfl, rfl⟩
theorem tp27a (k : Int) : TG 6 nsA (ck6 27 2 k) .nrm (ck7 27 false k) := ⟨by kernel_rfl, by kernel_rfl, by kernel_rfl, rfl⟩
theorem tq27a (k : Int) : TG 7 nsB (ck7 27 false k) .nrm (ck8 27 false k) := ⟨by kernel_rfl, by kernel_rfl, by kernel_rfl, rfl⟩
theorem tr27a (k : Int) : TG 8 nsB (ck8 27 false k) .nrm (ck9 27 false k) := ⟨by kernel_rfl, by kernel_rfl, by kernel_rfl, rfl⟩
theorem ts27a (k : Int) : TG 9 nsB (ck9 27 false k) .nrm (ck10 27 false k) := ⟨by kernel_rfl, by kernel_rfl, by kernel_rfl, rfl⟩
end Go.Proofs.YtbcdgcodnkgdoaaGreat.Run
