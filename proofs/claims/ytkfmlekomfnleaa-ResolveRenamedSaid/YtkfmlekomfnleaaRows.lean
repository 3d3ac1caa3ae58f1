/-
  No cell of these rows narrows 'for every input' (looked for: loops, veiled, ifaces, maps, wideKeys, modest, calm, conditions, laid).
  DERIVED. THE GIVEN ROWS OF THIS SEAT. 4 by the template 'for every input the law returns true; each argument reads behind the call as it read before'; 0 by the template 'total and deterministic' (their statements: YtkfmlekomfnleaaTotals.lean).
  GIVEN WITH THE SEED: the statements are not yours to turn. If you find one false, say at which input.
  Laid BY PROGRAM, IN A SANDBOX (cutbox-rows.mjs): the forced cells as the released guide's own fill.sh prints them over the translation 68f2aabd4af81a0b… (all of the seat's roots in one cut). By AI agents, Wed Nov 11 2026. No macro, syntax, notation, axiom, sorry.
-/
import Derived.Test.YtkfmlekomfnleaaChecked
import GoSem.Claim
import GoSem.ClaimJoined
import GoSem.ClaimMapViews
import Derived.JoinedTies
import Derived.KernelRfl
namespace Go.Proofs.Ytkfmlekomfnleaa
/- THE CELL 'sum', in the pinned program and in every row, IS THE sha256 OF THE DUMP (.gsa) THAT YtkfmlekomfnleaaProg.lean LOADS. Nothing in Lean hashes anything: it is a label: what it is worth is what the hold of that sum in a sandbox is worth. -/
noncomputable def Try.pinned : Pinned := { name := "ytkfmlekomfnleaa", sum := "68f2aabd4af81a0bd9cbb6635ed608044193d6cec1c046b97b67a159fc4d5ea4", checked := Try.checked }
namespace Rows
def none {H : Type} : Left H := { results := [], args := [] }

/-- 'lexpriorlaw08.ResolveLess': WHATEVER THE INPUT: true; the input reads as it did. -/
def resolveLessSpec : ChangeSpec := { name := "resolveLess", fn := fun _ => fun
  | [d] => { results := [.lit (.bool true)], args := [d] }
  | _ => none }
def resolveLessRow : OpenClaim := { program := "ytkfmlekomfnleaa", sum := "68f2aabd4af81a0bd9cbb6635ed608044193d6cec1c046b97b67a159fc4d5ea4", func := "lexprior/lexpriorlaw08.ResolveLess", spec := "resolveLess", unfollowed := true, recurses := true, plainKeys := false, apart := false }
def ResolveLessSaid : Prop := resolveLessRow.holds Try.pinned (OpenSpec.ofChange resolveLessSpec)

/-- ITS FALSE NEIGHBOUR: 'it returns false'. Refute it at one input. -/
def resolveLessWrong : ChangeSpec := { name := "resolveLess", fn := fun _ => fun
  | [d] => { results := [.lit (.bool false)], args := [d] }
  | _ => none }
def ResolveLessWrongFalsely : Prop := resolveLessRow.holds Try.pinned (OpenSpec.ofChange resolveLessWrong)

/-- 'lexpriorlaw08.ResolveRenamed': WHATEVER THE INPUT: true; the input reads as it did. -/
def resolveRenamedSpec : ChangeSpec := { name := "resolveRenamed", fn := fun _ => fun
  | [d1, d2, d3] => { results := [.lit (.bool true)], args := [d1, d2, d3] }
  | _ => none }
def resolveRenamedRow : OpenClaim := { program := "ytkfmlekomfnleaa", sum := "68f2aabd4af81a0bd9cbb6635ed608044193d6cec1c046b97b67a159fc4d5ea4", func := "lexprior/lexpriorlaw08.ResolveRenamed", spec := "resolveRenamed", unfollowed := true, recurses := true, plainKeys := false, apart := false }
def ResolveRenamedSaid : Prop := resolveRenamedRow.holds Try.pinned (OpenSpec.ofChange resolveRenamedSpec)

/-- ITS FALSE NEIGHBOUR: 'it returns false'. Refute it at one input. -/
def resolveRenamedWrong : ChangeSpec := { name := "resolveRenamed", fn := fun _ => fun
  | [d1, d2, d3] => { results := [.lit (.bool false)], args := [d1, d2, d3] }
  | _ => none }
def ResolveRenamedWrongFalsely : Prop := resolveRenamedRow.holds Try.pinned (OpenSpec.ofChange resolveRenamedWrong)

/-- 'lexpriorlaw08.ResolveFits': WHATEVER THE INPUT: true; the input reads as it did. -/
def resolveFitsSpec : ChangeSpec := { name := "resolveFits", fn := fun _ => fun
  | [d] => { results := [.lit (.bool true)], args := [d] }
  | _ => none }
def resolveFitsRow : OpenClaim := { program := "ytkfmlekomfnleaa", sum := "68f2aabd4af81a0bd9cbb6635ed608044193d6cec1c046b97b67a159fc4d5ea4", func := "lexprior/lexpriorlaw08.ResolveFits", spec := "resolveFits", unfollowed := true, recurses := true, plainKeys := false, apart := false }
def ResolveFitsSaid : Prop := resolveFitsRow.holds Try.pinned (OpenSpec.ofChange resolveFitsSpec)

/-- ITS FALSE NEIGHBOUR: 'it returns false'. Refute it at one input. -/
def resolveFitsWrong : ChangeSpec := { name := "resolveFits", fn := fun _ => fun
  | [d] => { results := [.lit (.bool false)], args := [d] }
  | _ => none }
def ResolveFitsWrongFalsely : Prop := resolveFitsRow.holds Try.pinned (OpenSpec.ofChange resolveFitsWrong)

/-- 'lexpriorlaw08.ResolveNames': WHATEVER THE INPUT: true; the input reads as it did. -/
def resolveNamesSpec : ChangeSpec := { name := "resolveNames", fn := fun _ => fun
  | [d1, d2, d3] => { results := [.lit (.bool true)], args := [d1, d2, d3] }
  | _ => none }
def resolveNamesRow : OpenClaim := { program := "ytkfmlekomfnleaa", sum := "68f2aabd4af81a0bd9cbb6635ed608044193d6cec1c046b97b67a159fc4d5ea4", func := "lexprior/lexpriorlaw08.ResolveNames", spec := "resolveNames", unfollowed := true, recurses := true, plainKeys := false, apart := false }
def ResolveNamesSaid : Prop := resolveNamesRow.holds Try.pinned (OpenSpec.ofChange resolveNamesSpec)

/-- ITS FALSE NEIGHBOUR: 'it returns false'. Refute it at one input. -/
def resolveNamesWrong : ChangeSpec := { name := "resolveNames", fn := fun _ => fun
  | [d1, d2, d3] => { results := [.lit (.bool false)], args := [d1, d2, d3] }
  | _ => none }
def ResolveNamesWrongFalsely : Prop := resolveNamesRow.holds Try.pinned (OpenSpec.ofChange resolveNamesWrong)

/- THE SECOND FORM. 'bulk': how many values and letters a reading holds, each counted each time it is reached (what is shared counts as often as it is met; a slice's spare places count too). A statement '..UptoSaid' is the law's where the arguments, and the package variables that the reading takes, are together of bulk at most 1048576: NARROWER than '..Said'. Prove '..Said' where nothing that the law and all that it calls make is longer than what came in: it says more and counts as full. Else prove '..UptoSaid'. A law counts once. -/
mutual
def uptoBulk {H : Type} : DataW H → Nat
  | .lit (.string bytes) => bytes.length + 1
  | .lit _ => 1
  | .nil => 1
  | .ptr d => uptoBulk d + 1
  | .slice elems spare => uptoBulkAll elems + uptoBulkAll spare + 1
  | .agg parts => uptoBulkAll parts + 1
  | .iface _ d => uptoBulk d + 1
  | .map entries => uptoBulkEntries entries + 1
  | .held _ => 1
def uptoBulkAll {H : Type} : List (DataW H) → Nat
  | [] => 0
  | d :: r => uptoBulk d + uptoBulkAll r
def uptoBulkEntries {H : Type} : List (Lit × DataW H) → Nat
  | [] => 0
  | x :: r => uptoBulkEntry x + uptoBulkEntries r
def uptoBulkEntry {H : Type} : Lit × DataW H → Nat
  | (.string bytes, d) => bytes.length + uptoBulk d + 1
  | (_, d) => uptoBulk d + 1
 end
def uptoSmall : (H : Type) → List (DataW H) → Bool := fun _ ds => decide (uptoBulkAll ds ≤ 1048576)
def OpenSpec.upto (s : _root_.Go.ChangeSpec) : _root_.Go.OpenSpec := { _root_.Go.OpenSpec.ofChange s with cond := some uptoSmall }

/-- 'lexpriorlaw08.ResolveLess', WHERE WHAT IT READS IS OF BULK AT MOST 1048576: true; the input reads as it did. -/
def resolveLessUptoRow : OpenClaim := { program := "ytkfmlekomfnleaa", sum := "68f2aabd4af81a0bd9cbb6635ed608044193d6cec1c046b97b67a159fc4d5ea4", func := "lexprior/lexpriorlaw08.ResolveLess", spec := "resolveLess", unfollowed := true, recurses := true, plainKeys := false, apart := false, narrowed := true }
def ResolveLessUptoSaid : Prop := resolveLessUptoRow.holds Try.pinned (OpenSpec.upto resolveLessSpec)

/-- 'lexpriorlaw08.ResolveRenamed', WHERE WHAT IT READS IS OF BULK AT MOST 1048576: true; the input reads as it did. -/
def resolveRenamedUptoRow : OpenClaim := { program := "ytkfmlekomfnleaa", sum := "68f2aabd4af81a0bd9cbb6635ed608044193d6cec1c046b97b67a159fc4d5ea4", func := "lexprior/lexpriorlaw08.ResolveRenamed", spec := "resolveRenamed", unfollowed := true, recurses := true, plainKeys := false, apart := false, narrowed := true }
def ResolveRenamedUptoSaid : Prop := resolveRenamedUptoRow.holds Try.pinned (OpenSpec.upto resolveRenamedSpec)

/-- 'lexpriorlaw08.ResolveFits', WHERE WHAT IT READS IS OF BULK AT MOST 1048576: true; the input reads as it did. -/
def resolveFitsUptoRow : OpenClaim := { program := "ytkfmlekomfnleaa", sum := "68f2aabd4af81a0bd9cbb6635ed608044193d6cec1c046b97b67a159fc4d5ea4", func := "lexprior/lexpriorlaw08.ResolveFits", spec := "resolveFits", unfollowed := true, recurses := true, plainKeys := false, apart := false, narrowed := true }
def ResolveFitsUptoSaid : Prop := resolveFitsUptoRow.holds Try.pinned (OpenSpec.upto resolveFitsSpec)

/-- 'lexpriorlaw08.ResolveNames', WHERE WHAT IT READS IS OF BULK AT MOST 1048576: true; the input reads as it did. -/
def resolveNamesUptoRow : OpenClaim := { program := "ytkfmlekomfnleaa", sum := "68f2aabd4af81a0bd9cbb6635ed608044193d6cec1c046b97b67a159fc4d5ea4", func := "lexprior/lexpriorlaw08.ResolveNames", spec := "resolveNames", unfollowed := true, recurses := true, plainKeys := false, apart := false, narrowed := true }
def ResolveNamesUptoSaid : Prop := resolveNamesUptoRow.holds Try.pinned (OpenSpec.upto resolveNamesSpec)

end Rows
end Go.Proofs.Ytkfmlekomfnleaa
