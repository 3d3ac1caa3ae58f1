/- TopLoop, piece by piece: the pieces. Conditions: none. -/
import Derived.Test.YtbcdgcodnkgdoaaGreatRu20
set_option linter.unusedVariables false
namespace Go.Proofs.YtbcdgcodnkgdoaaGreat.Run
open Go Go.RowKit

def fstC : Code → Code
  | .seq a _ => a
  | c => c
def sndC : Code → Code
  | .seq _ b => b
  | c => c
def dC (c : Code) : Nat → Code
  | 0 => c
  | k + 1 => sndC (dC c k)
noncomputable def tlB : Code := (PG.funcs[6]?.bind (·.body)).getD .skip
noncomputable def tlC (k : Nat) : Code := fstC (dC tlB k)
noncomputable abbrev tlCf : CF := orc (exN 3000 60)
end Go.Proofs.YtbcdgcodnkgdoaaGreat.Run
