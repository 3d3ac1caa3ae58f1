/- TopLoop, piece by piece: the calls, part 10. Conditions: none. -/
import Derived.Test.YtbcdgcodnkgdoaaGreatTl1
set_option linter.unusedVariables false
namespace Go.Proofs.YtbcdgcodnkgdoaaGreat.Run
open Go Go.RowKit

theorem tp2a (k : Int) : TG 6 nsA (ck6 2 2 k) .nrm (ck7 2 false k) := ⟨by kernel_rfl, by kernel_rfl, by kernel_rfl, rfl⟩
theorem tq2a (k : Int) : TG 7 nsB (ck7 2 false k) .nrm (ck8 2 false k) := ⟨by kernel_rfl, by kernel_rfl, by kernel_rfl, rfl⟩
theorem tr2a (k : Int) : TG 8 nsB (ck8 2 false k) .nrm (ck9 2 false k) := ⟨by kernel_rfl, by kernel_rfl, by kernel_rfl, rfl⟩
theorem ts2a (k : Int) : TG 9 nsB (ck9 2 false k) .nrm (ck10 2 false k) := ⟨by kernel_rfl, by kernel_rfl, by kernel_rfl, rfl⟩
theorem tp2b (k : Int) : TG 6 nsA (ck6 2 1 k) .nrm (ck7 2 true k) := ⟨by kernel_rfl, by kernel_rfl, by kernel_rfl, rfl⟩
theorem tq2b (k : Int) : TG 7 nsB (ck7 2 true k) .nrm (ck8 2 true k) := ⟨by kernel_rfl, by kernel_rfl, by kernel_rfl, rfl⟩
theorem tr2b (k : Int) : TG 8 nsB (ck8 2 true k) .nrm (ck9 2 true k) := ⟨by kernel_rfl, by kernel_rfl, by kernel_rfl, rfl⟩
theorem ts2b (k : Int) : TG 9 nsB (ck9 2 true k) .nrm (ck10 2 true k) := ⟨by kernel_rfl, by kernel_rfl, by kernel_rfl, rfl⟩
theorem tp13a (k : Int) : TG 6 nsA (ck6 13 2 k) .nrm (ck7 13 false k) := ⟨by kernel_rfl, by kernel_rfl, by kernel_rfl, rfl⟩
theorem tq13a (k : Int) : TG 7 nsB (ck7 13 false k) .nrm (ck8 13 false k) := ⟨by kernel_rfl, by kernel_rfl, by kernel_rfl, rfl⟩
theorem tr13a (k : Int) : TG 8 nsB (ck8 13 false k) .nrm (ck9 13 false k) := ⟨by kernel_rfl, by kernel_rfl, by kernel_rfl, rfl⟩
theorem ts13a (k : Int) : TG 9 nsB (ck9 13 false k) .nrm (ck10 13 false k) := ⟨by kernel_rfl, by kernel_rfl, by kernel_rfl, rfl⟩
theorem tp13b (k : Int) : TG 6 nsA (ck6 13 1 k) .nrm (ck7 13 true k) := ⟨by kernel_rfl, by kernel_rfl, by kernel_rfl, rfl⟩
theorem tq13b (k : Int) : TG 7 nsB (ck7 13 true k) .nrm (ck8 13 true k) := ⟨by kernel_rfl, by kernel_rfl, by kernel_rfl, rfl⟩
theorem tr13b (k : Int) : TG 8 nsB (ck8 13 true k) .nrm (ck9 13 true k) := ⟨by kernel_rfl, by kernel_rfl, by kernel_rfl, rfl⟩
theorem ts13b (k : Int) : TG 9 nsB (ck9 13 true k) .nrm (ck10 13 true k) := ⟨by kernel_rfl, by kernel_rfl, by kernel_rfl, rfl⟩
theorem tp24a (k : Int) : TG 6 nsA (ck6 24 2 k) .nrm (ck7 24 false k) := ⟨by kernel_rfl, by kernel_rfl, by kernel_rfl, rfl⟩
theorem tq24a (k : Int) : TG 7 nsB (ck7 24 false k) .nrm (ck8 24 false k) := ⟨by kernel_rfl, by kernel_rfl, by kernel_rfl, rfl⟩
theorem tr24a (k : Int) : TG 8 nsB (ck8 24 false k) .nrm (ck9 24 false k) := ⟨by kernel_rfl, by kernel_rfl, by kernel_rfl, rfl⟩
theorem ts24a (k : Int) : TG 9 nsB (ck9 24 false k) .nrm (ck10 24 false k) := ⟨by kernel_rfl, by kernel_rfl, by kernel_rfl, rfl⟩
theorem tp24b (k : Int) : TG 6 nsA (ck6 24 1 k) .nrm (ck7 24 true k) := ⟨by kernel_rfl, by kernel_rfl, by kernel_rfl, rfl⟩
theorem tq24b (k : Int) : TG 7 nsB (ck7 24 true k) .nrm (ck8 24 true k) := ⟨by kernel_rfl, by kernel_rfl, by kernel_rfl, rfl⟩
theorem tr24b (k : Int) : TG 8 nsB (ck8 24 true k) .nrm (ck9 24 true k) := ⟨by kernel_rfl, by kernel_rfl, by kernel_rfl, rfl⟩
theorem ts24b (k : Int) : TG 9 nsB (ck9 24 true k) .nrm (ck10 24 true k) := ⟨by kernel_rfl, by kernel_rfl, by kernel_rfl, rfl⟩
end Go.Proofs.YtbcdgcodnkgdoaaGreat.Run
