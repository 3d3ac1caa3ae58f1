/- TopLoop, piece by piece: the calls, part 9. Conditions: none. -/
import Derived.Test.YtbcdgcodnkgdoaaGreatTl1
set_option linter.unusedVariables false
namespace Go.Proofs.YtbcdgcodnkgdoaaGreat.Run
open Go Go.RowKit

theorem tp1a (k : Int) : TG 6 nsA (ck6 1 2 k) .nrm (ck7 1 false k) := ⟨by kernel_rfl, by kernel_rfl, by kernel_rfl, rfl⟩
theorem tq1a (k : Int) : TG 7 nsB (ck7 1 false k) .nrm (ck8 1 false k) := ⟨by kernel_rfl, by kernel_rfl, by kernel_rfl, rfl⟩
theorem tr1a (k : Int) : TG 8 nsB (ck8 1 false k) .nrm (ck9 1 false k) := ⟨by kernel_rfl, by kernel_rfl, by kernel_rfl, rfl⟩
theorem ts1a (k : Int) : TG 9 nsB (ck9 1 false k) .nrm (ck10 1 false k) := ⟨by kernel_rfl, by kernel_rfl, by kernel_rfl, rfl⟩
theorem tp3a (k : Int) : TG 6 nsA (ck6 3 2 k) .nrm (ck7 3 false k) := ⟨by kernel_rfl, by kernel_rfl, by kernel_rfl, rfl⟩
theorem tq3a (k : Int) : TG 7 nsB (ck7 3 false k) .nrm (ck8 3 false k) := ⟨by kernel_rfl, by kernel_rfl, by kernel_rfl, rfl⟩
theorem tr3a (k : Int) : TG 8 nsB (ck8 3 false k) .nrm (ck9 3 false k) := ⟨by kernel_rfl, by kernel_rfl, by kernel_rfl, rfl⟩
theorem ts3a (k : Int) : TG 9 nsB (ck9 3 false k) .nrm (ck10 3 false k) := ⟨by kernel_rfl, by kernel_rfl, by kernel_rfl, rfl⟩
theorem tp12a (k : Int) : TG 6 nsA (ck6 12 2 k) .nrm (ck7 12 false k) := ⟨by kernel_rfl, by kernel_rfl, by kernel_rfl, rfl⟩
theorem tq12a (k : Int) : TG 7 nsB (ck7 12 false k) .nrm (ck8 12 false k) := ⟨by kernel_rfl, by kernel_rfl, by kernel_rfl, rfl⟩
theorem tr12a (k : Int) : TG 8 nsB (ck8 12 false k) .nrm (ck9 12 false k) := ⟨by kernel_rfl, by kernel_rfl, by kernel_rfl, rfl⟩
theorem ts12a (k : Int) : TG 9 nsB (ck9 12 false k) .nrm (ck10 12 false k) := ⟨by kernel_rfl, by kernel_rfl, by kernel_rfl, rfl⟩
theorem tp14a (k : Int) : TG 6 nsA (ck6 14 2 k) .nrm (ck7 14 false k) := ⟨by kernel_rfl, by kernel_rfl, by kernel_rfl, rfl⟩
theorem tq14a (k : Int) : TG 7 nsB (ck7 14 false k) .nrm (ck8 14 false k) := ⟨by kernel_rfl, by kernel_rfl, by kernel_rfl, rfl⟩
theorem tr14a (k : Int) : TG 8 nsB (ck8 14 false k) .nrm (ck9 14 false k) := ⟨by kernel_rfl, by kernel_rfl, by kernel_rfl, rfl⟩
theorem ts14a (k : Int) : TG 9 nsB (ck9 14 false k) .nrm (ck10 14 false k) := ⟨by kernel_rfl, by kernel_rfl, by kernel_rfl, rfl⟩
theorem tp23a (k : Int) : TG 6 nsA (ck6 23 2 k) .nrm (ck7 23 false k) := ⟨by kernel_rfl, by kernel_rfl, by kernel_rfl, rfl⟩
theorem tq23a (k : Int) : TG 7 nsB (ck7 23 false k) .nrm (ck8 23 false k) := ⟨by kernel_rfl, by kernel_rfl, by kernel_rfl, rfl⟩
theorem tr23a (k : Int) : TG 8 nsB (ck8 23 false k) .nrm (ck9 23 false k) := ⟨by kernel_rfl, by kernel_rfl, by kernel_rfl, rfl⟩
theorem ts23a (k : Int) : TG 9 nsB (ck9 23 false k) .nrm (ck10 23 false k) := ⟨by kernel_rfl, by kernel_rfl, by kernel_rfl, rfl⟩
theorem tp25a (k : Int) : TG 6 nsA (ck6 25 2 k) .nrm (ck7 25 false k) := ⟨by kernel_rfl, by kernel_rfl, by kernel_rfl, rfl⟩
theorem tq25a (k : Int) : TG 7 nsB (ck7 25 false k) .nrm (ck8 25 false k) := ⟨by kernel_rfl, by kernel_rfl, by kernel_rfl, rfl⟩
theorem tr25a (k : Int) : TG 8 nsB (ck8 25 false k) .nrm (ck9 25 false k) := ⟨by kernel_rfl, by kernel_rfl, by kernel_rfl, rfl⟩
theorem ts25a (k : Int) : TG 9 nsB (ck9 25 false k) .nrm (ck10 25 false k) := ⟨by kernel_rfl, by kernel_rfl, by kernel_rfl, rfl⟩
end Go.Proofs.YtbcdgcodnkgdoaaGreat.Run
