/-
  No cell of these rows narrows 'for every input' (looked for: loops, veiled, ifaces, maps, wideKeys, modest, calm, conditions, laid).
  DERIVED. THE GIVEN ROWS OF THIS SEAT. 4 by the template 'for every input the law returns true; each argument reads behind the call as it read before'; 0 by the template 'total and deterministic' (their statements: YtoknohnodlaimaaTotals.lean).
  GIVEN WITH THE SEED: the statements are not yours to turn. If you find one false, say at which input.
  Laid BY PROGRAM, IN A SANDBOX (cutbox-rows.mjs): the forced cells as the released guide's own fill.sh prints them over the translation 0b87de0565a99c19… (all of the seat's roots in one cut). By AI agents, Wed Nov 11 2026. No macro, syntax, notation, axiom, sorry.
-/
import Derived.Test.YtoknohnodlaimaaChecked
import GoSem.Claim
import GoSem.ClaimJoined
import GoSem.ClaimMapViews
import Derived.JoinedTies
import Derived.KernelRfl
namespace Go.Proofs.Ytoknohnodlaimaa
/- THE CELL 'sum', in the pinned program and in every row, IS THE sha256 OF THE DUMP (.gsa) THAT YtoknohnodlaimaaProg.lean LOADS. Nothing in Lean hashes anything: it is a label: what it is worth is what the hold of that sum in a sandbox is worth. -/
noncomputable def Try.pinned : Pinned := { name := "ytoknohnodlaimaa", sum := "0b87de0565a99c19b1810debb435ea0c217d838df5a9c8701440f04c6e4208d6", checked := Try.checked }
namespace Rows
def none {H : Type} : Left H := { results := [], args := [] }

/-- 'lexpriorlaw09.LiteralsOrder': WHATEVER THE INPUT: true; the input reads as it did. -/
def literalsOrderSpec : ChangeSpec := { name := "literalsOrder", fn := fun _ => fun
  | [d1, d2, d3] => { results := [.lit (.bool true)], args := [d1, d2, d3] }
  | _ => none }
def literalsOrderRow : OpenClaim := { program := "ytoknohnodlaimaa", sum := "0b87de0565a99c19b1810debb435ea0c217d838df5a9c8701440f04c6e4208d6", func := "lexprior/lexpriorlaw09.LiteralsOrder", spec := "literalsOrder", inPlace := ["slices.overlaps[lexprior/api.Lit]"], unfollowed := true, recurses := true, apart := false }
def LiteralsOrderSaid : Prop := literalsOrderRow.holds Try.pinned (OpenSpec.ofChange literalsOrderSpec)

/-- ITS FALSE NEIGHBOUR: 'it returns false'. Refute it at one input. -/
def literalsOrderWrong : ChangeSpec := { name := "literalsOrder", fn := fun _ => fun
  | [d1, d2, d3] => { results := [.lit (.bool false)], args := [d1, d2, d3] }
  | _ => none }
def LiteralsOrderWrongFalsely : Prop := literalsOrderRow.holds Try.pinned (OpenSpec.ofChange literalsOrderWrong)

/-- 'lexpriorlaw09.LiteralsOwn': WHATEVER THE INPUT: true; the input reads as it did. -/
def literalsOwnSpec : ChangeSpec := { name := "literalsOwn", fn := fun _ => fun
  | [d1, d2, d3] => { results := [.lit (.bool true)], args := [d1, d2, d3] }
  | _ => none }
def literalsOwnRow : OpenClaim := { program := "ytoknohnodlaimaa", sum := "0b87de0565a99c19b1810debb435ea0c217d838df5a9c8701440f04c6e4208d6", func := "lexprior/lexpriorlaw09.LiteralsOwn", spec := "literalsOwn", inPlace := ["slices.overlaps[lexprior/api.Lit]"], unfollowed := true, recurses := true, apart := false }
def LiteralsOwnSaid : Prop := literalsOwnRow.holds Try.pinned (OpenSpec.ofChange literalsOwnSpec)

/-- ITS FALSE NEIGHBOUR: 'it returns false'. Refute it at one input. -/
def literalsOwnWrong : ChangeSpec := { name := "literalsOwn", fn := fun _ => fun
  | [d1, d2, d3] => { results := [.lit (.bool false)], args := [d1, d2, d3] }
  | _ => none }
def LiteralsOwnWrongFalsely : Prop := literalsOwnRow.holds Try.pinned (OpenSpec.ofChange literalsOwnWrong)

/-- 'lexpriorlaw09.LiteralsJust': WHATEVER THE INPUT: true; the input reads as it did. -/
def literalsJustSpec : ChangeSpec := { name := "literalsJust", fn := fun _ => fun
  | [d1, d2, d3, d4] => { results := [.lit (.bool true)], args := [d1, d2, d3, d4] }
  | _ => none }
def literalsJustRow : OpenClaim := { program := "ytoknohnodlaimaa", sum := "0b87de0565a99c19b1810debb435ea0c217d838df5a9c8701440f04c6e4208d6", func := "lexprior/lexpriorlaw09.LiteralsJust", spec := "literalsJust", inPlace := ["slices.overlaps[lexprior/api.Lit]"], unfollowed := true, recurses := true, apart := false }
def LiteralsJustSaid : Prop := literalsJustRow.holds Try.pinned (OpenSpec.ofChange literalsJustSpec)

/-- ITS FALSE NEIGHBOUR: 'it returns false'. Refute it at one input. -/
def literalsJustWrong : ChangeSpec := { name := "literalsJust", fn := fun _ => fun
  | [d1, d2, d3, d4] => { results := [.lit (.bool false)], args := [d1, d2, d3, d4] }
  | _ => none }
def LiteralsJustWrongFalsely : Prop := literalsJustRow.holds Try.pinned (OpenSpec.ofChange literalsJustWrong)

/-- 'lexpriorlaw09.LiteralsClosed': WHATEVER THE INPUT: true; the input reads as it did. -/
def literalsClosedSpec : ChangeSpec := { name := "literalsClosed", fn := fun _ => fun
  | [d1, d2, d3] => { results := [.lit (.bool true)], args := [d1, d2, d3] }
  | _ => none }
def literalsClosedRow : OpenClaim := { program := "ytoknohnodlaimaa", sum := "0b87de0565a99c19b1810debb435ea0c217d838df5a9c8701440f04c6e4208d6", func := "lexprior/lexpriorlaw09.LiteralsClosed", spec := "literalsClosed", inPlace := ["slices.overlaps[lexprior/api.Lit]"], unfollowed := true, recurses := true, apart := false }
def LiteralsClosedSaid : Prop := literalsClosedRow.holds Try.pinned (OpenSpec.ofChange literalsClosedSpec)

/-- ITS FALSE NEIGHBOUR: 'it returns false'. Refute it at one input. -/
def literalsClosedWrong : ChangeSpec := { name := "literalsClosed", fn := fun _ => fun
  | [d1, d2, d3] => { results := [.lit (.bool false)], args := [d1, d2, d3] }
  | _ => none }
def LiteralsClosedWrongFalsely : Prop := literalsClosedRow.holds Try.pinned (OpenSpec.ofChange literalsClosedWrong)

/- THE SECOND FORM. 'bulk': how many values and letters a reading holds, each counted each time it is reached (what is shared counts as often as it is met; a slice's spare places count too). A statement '..UptoSaid' is the law's where the arguments, and the package variables that the reading takes, are together of bulk at most 1048576: NARROWER than '..Said'. Prove '..Said' where nothing that the law and all that it calls make is longer than what came in: it says more and counts as full. Else prove '..UptoSaid'. A law counts once. -/
mutual
def uptoBulk {H : Type} : DataW H → Nat
  | .lit (.string bytes) => bytes.length + 1
  | .lit _ => 1
  | .nil => 1
  | .ptr d => uptoBulk d + 1
  | .slice elems spare => uptoBulkAll elems + uptoBulkAll spare + 1
  | .agg parts => uptoBulkAll parts + 1
  | .iface _ d => uptoBulk d + 1
  | .map entries => uptoBulkEntries entries + 1
  | .held _ => 1
def uptoBulkAll {H : Type} : List (DataW H) → Nat
  | [] => 0
  | d :: r => uptoBulk d + uptoBulkAll r
def uptoBulkEntries {H : Type} : List (Lit × DataW H) → Nat
  | [] => 0
  | x :: r => uptoBulkEntry x + uptoBulkEntries r
def uptoBulkEntry {H : Type} : Lit × DataW H → Nat
  | (.string bytes, d) => bytes.length + uptoBulk d + 1
  | (_, d) => uptoBulk d + 1
 end
def uptoSmall : (H : Type) → List (DataW H) → Bool := fun _ ds => decide (uptoBulkAll ds ≤ 1048576)
def OpenSpec.upto (s : _root_.Go.ChangeSpec) : _root_.Go.OpenSpec := { _root_.Go.OpenSpec.ofChange s with cond := some uptoSmall }

/-- 'lexpriorlaw09.LiteralsOrder', WHERE WHAT IT READS IS OF BULK AT MOST 1048576: true; the input reads as it did. -/
def literalsOrderUptoRow : OpenClaim := { program := "ytoknohnodlaimaa", sum := "0b87de0565a99c19b1810debb435ea0c217d838df5a9c8701440f04c6e4208d6", func := "lexprior/lexpriorlaw09.LiteralsOrder", spec := "literalsOrder", inPlace := ["slices.overlaps[lexprior/api.Lit]"], unfollowed := true, recurses := true, apart := false, narrowed := true }
def LiteralsOrderUptoSaid : Prop := literalsOrderUptoRow.holds Try.pinned (OpenSpec.upto literalsOrderSpec)

/-- 'lexpriorlaw09.LiteralsOwn', WHERE WHAT IT READS IS OF BULK AT MOST 1048576: true; the input reads as it did. -/
def literalsOwnUptoRow : OpenClaim := { program := "ytoknohnodlaimaa", sum := "0b87de0565a99c19b1810debb435ea0c217d838df5a9c8701440f04c6e4208d6", func := "lexprior/lexpriorlaw09.LiteralsOwn", spec := "literalsOwn", inPlace := ["slices.overlaps[lexprior/api.Lit]"], unfollowed := true, recurses := true, apart := false, narrowed := true }
def LiteralsOwnUptoSaid : Prop := literalsOwnUptoRow.holds Try.pinned (OpenSpec.upto literalsOwnSpec)

/-- 'lexpriorlaw09.LiteralsJust', WHERE WHAT IT READS IS OF BULK AT MOST 1048576: true; the input reads as it did. -/
def literalsJustUptoRow : OpenClaim := { program := "ytoknohnodlaimaa", sum := "0b87de0565a99c19b1810debb435ea0c217d838df5a9c8701440f04c6e4208d6", func := "lexprior/lexpriorlaw09.LiteralsJust", spec := "literalsJust", inPlace := ["slices.overlaps[lexprior/api.Lit]"], unfollowed := true, recurses := true, apart := false, narrowed := true }
def LiteralsJustUptoSaid : Prop := literalsJustUptoRow.holds Try.pinned (OpenSpec.upto literalsJustSpec)

/-- 'lexpriorlaw09.LiteralsClosed', WHERE WHAT IT READS IS OF BULK AT MOST 1048576: true; the input reads as it did. -/
def literalsClosedUptoRow : OpenClaim := { program := "ytoknohnodlaimaa", sum := "0b87de0565a99c19b1810debb435ea0c217d838df5a9c8701440f04c6e4208d6", func := "lexprior/lexpriorlaw09.LiteralsClosed", spec := "literalsClosed", inPlace := ["slices.overlaps[lexprior/api.Lit]"], unfollowed := true, recurses := true, apart := false, narrowed := true }
def LiteralsClosedUptoSaid : Prop := literalsClosedUptoRow.holds Try.pinned (OpenSpec.upto literalsClosedSpec)

end Rows
end Go.Proofs.Ytoknohnodlaimaa
