/-
  No cell of these rows narrows 'for every input' (looked for: loops, veiled, ifaces, maps, wideKeys, modest, calm, conditions, laid).
  DERIVED. THE GIVEN ROWS OF THIS SEAT. 3 by the template 'for every input the law returns true; each argument reads behind the call as it read before'; 0 by the template 'total and deterministic' (their statements: YtkfmlekomfnleaaGreatTotals.lean).
  GIVEN WITH THE SEED: the statements are not yours to turn. If you find one false, say at which input.
  Laid BY PROGRAM, IN A SANDBOX (cutbox-rows.mjs): the forced cells as the released guide's own fill.sh prints them over the translation d311c5c2436a67fb… (all of the seat's roots in one cut). By AI agents, Wed Nov 11 2026. No macro, syntax, notation, axiom, sorry.
-/
import Derived.Test.YtkfmlekomfnleaaGreatChecked
import GoSem.Claim
import GoSem.ClaimJoined
import GoSem.ClaimMapViews
import Derived.JoinedTies
import Derived.KernelRfl
namespace Go.Proofs.YtkfmlekomfnleaaGreat
/- THE CELL 'sum', in the pinned program and in every row, IS THE sha256 OF THE DUMP (.gsa) THAT YtkfmlekomfnleaaGreatProg.lean LOADS. Nothing in Lean hashes anything: it is a label: what it is worth is what the hold of that sum in a sandbox is worth. -/
noncomputable def Tryz.pinned : Pinned := { name := "ytkfmlekomfnleaagreat", sum := "d311c5c2436a67fb543aac9183dc8edb1b0a861495d42e006b596e73a4656dc3", checked := Tryz.checked }
namespace Rows
def none {H : Type} : Left H := { results := [], args := [] }

/-- 'lexpriorlaw08.ResolveChecks': WHATEVER THE INPUT: true; the input reads as it did. -/
def resolveChecksSpec : ChangeSpec := { name := "resolveChecks", fn := fun _ => fun
  | [d1, d2] => { results := [.lit (.bool true)], args := [d1, d2] }
  | _ => none }
def resolveChecksRow : OpenClaim := { program := "ytkfmlekomfnleaagreat", sum := "d311c5c2436a67fb543aac9183dc8edb1b0a861495d42e006b596e73a4656dc3", func := "lexprior/lexpriorlaw08.ResolveChecks", spec := "resolveChecks", unfollowed := true, recurses := true, plainKeys := false, apart := false }
def ResolveChecksSaid : Prop := resolveChecksRow.holds Tryz.pinned (OpenSpec.ofChange resolveChecksSpec)

/-- ITS FALSE NEIGHBOUR: 'it returns false'. Refute it at one input. -/
def resolveChecksWrong : ChangeSpec := { name := "resolveChecks", fn := fun _ => fun
  | [d1, d2] => { results := [.lit (.bool false)], args := [d1, d2] }
  | _ => none }
def ResolveChecksWrongFalsely : Prop := resolveChecksRow.holds Tryz.pinned (OpenSpec.ofChange resolveChecksWrong)

/-- 'lexpriorlaw08.ResolveLiteral': WHATEVER THE INPUT: true; the input reads as it did. -/
def resolveLiteralSpec : ChangeSpec := { name := "resolveLiteral", fn := fun _ => fun
  | [d1, d2] => { results := [.lit (.bool true)], args := [d1, d2] }
  | _ => none }
def resolveLiteralRow : OpenClaim := { program := "ytkfmlekomfnleaagreat", sum := "d311c5c2436a67fb543aac9183dc8edb1b0a861495d42e006b596e73a4656dc3", func := "lexprior/lexpriorlaw08.ResolveLiteral", spec := "resolveLiteral", unfollowed := true, recurses := true, plainKeys := false, apart := false }
def ResolveLiteralSaid : Prop := resolveLiteralRow.holds Tryz.pinned (OpenSpec.ofChange resolveLiteralSpec)

/-- ITS FALSE NEIGHBOUR: 'it returns false'. Refute it at one input. -/
def resolveLiteralWrong : ChangeSpec := { name := "resolveLiteral", fn := fun _ => fun
  | [d1, d2] => { results := [.lit (.bool false)], args := [d1, d2] }
  | _ => none }
def ResolveLiteralWrongFalsely : Prop := resolveLiteralRow.holds Tryz.pinned (OpenSpec.ofChange resolveLiteralWrong)

/-- 'lexpriorlaw08.ResolveOwn': WHATEVER THE INPUT: true; the input reads as it did. -/
def resolveOwnSpec : ChangeSpec := { name := "resolveOwn", fn := fun _ => fun
  | [d1, d2, d3] => { results := [.lit (.bool true)], args := [d1, d2, d3] }
  | _ => none }
def resolveOwnRow : OpenClaim := { program := "ytkfmlekomfnleaagreat", sum := "d311c5c2436a67fb543aac9183dc8edb1b0a861495d42e006b596e73a4656dc3", func := "lexprior/lexpriorlaw08.ResolveOwn", spec := "resolveOwn", unfollowed := true, recurses := true, plainKeys := false, apart := false }
def ResolveOwnSaid : Prop := resolveOwnRow.holds Tryz.pinned (OpenSpec.ofChange resolveOwnSpec)

/-- ITS FALSE NEIGHBOUR: 'it returns false'. Refute it at one input. -/
def resolveOwnWrong : ChangeSpec := { name := "resolveOwn", fn := fun _ => fun
  | [d1, d2, d3] => { results := [.lit (.bool false)], args := [d1, d2, d3] }
  | _ => none }
def ResolveOwnWrongFalsely : Prop := resolveOwnRow.holds Tryz.pinned (OpenSpec.ofChange resolveOwnWrong)

/- THE SECOND FORM. 'bulk': how many values and letters a reading holds, each counted each time it is reached (what is shared counts as often as it is met; a slice's spare places count too). A statement '..UptoSaid' is the law's where the arguments, and the package variables that the reading takes, are together of bulk at most 1048576: NARROWER than '..Said'. Prove '..Said' where nothing that the law and all that it calls make is longer than what came in: it says more and counts as full. Else prove '..UptoSaid'. A law counts once. -/
mutual
def uptoBulk {H : Type} : DataW H → Nat
  | .lit (.string bytes) => bytes.length + 1
  | .lit _ => 1
  | .nil => 1
  | .ptr d => uptoBulk d + 1
  | .slice elems spare => uptoBulkAll elems + uptoBulkAll spare + 1
  | .agg parts => uptoBulkAll parts + 1
  | .iface _ d => uptoBulk d + 1
  | .map entries => uptoBulkEntries entries + 1
  | .held _ => 1
def uptoBulkAll {H : Type} : List (DataW H) → Nat
  | [] => 0
  | d :: r => uptoBulk d + uptoBulkAll r
def uptoBulkEntries {H : Type} : List (Lit × DataW H) → Nat
  | [] => 0
  | x :: r => uptoBulkEntry x + uptoBulkEntries r
def uptoBulkEntry {H : Type} : Lit × DataW H → Nat
  | (.string bytes, d) => bytes.length + uptoBulk d + 1
  | (_, d) => uptoBulk d + 1
 end
def uptoSmall : (H : Type) → List (DataW H) → Bool := fun _ ds => decide (uptoBulkAll ds ≤ 1048576)
def OpenSpec.upto (s : _root_.Go.ChangeSpec) : _root_.Go.OpenSpec := { _root_.Go.OpenSpec.ofChange s with cond := some uptoSmall }

/-- 'lexpriorlaw08.ResolveChecks', WHERE WHAT IT READS IS OF BULK AT MOST 1048576: true; the input reads as it did. -/
def resolveChecksUptoRow : OpenClaim := { program := "ytkfmlekomfnleaagreat", sum := "d311c5c2436a67fb543aac9183dc8edb1b0a861495d42e006b596e73a4656dc3", func := "lexprior/lexpriorlaw08.ResolveChecks", spec := "resolveChecks", unfollowed := true, recurses := true, plainKeys := false, apart := false, narrowed := true }
def ResolveChecksUptoSaid : Prop := resolveChecksUptoRow.holds Tryz.pinned (OpenSpec.upto resolveChecksSpec)

/-- 'lexpriorlaw08.ResolveLiteral', WHERE WHAT IT READS IS OF BULK AT MOST 1048576: true; the input reads as it did. -/
def resolveLiteralUptoRow : OpenClaim := { program := "ytkfmlekomfnleaagreat", sum := "d311c5c2436a67fb543aac9183dc8edb1b0a861495d42e006b596e73a4656dc3", func := "lexprior/lexpriorlaw08.ResolveLiteral", spec := "resolveLiteral", unfollowed := true, recurses := true, plainKeys := false, apart := false, narrowed := true }
def ResolveLiteralUptoSaid : Prop := resolveLiteralUptoRow.holds Tryz.pinned (OpenSpec.upto resolveLiteralSpec)

/-- 'lexpriorlaw08.ResolveOwn', WHERE WHAT IT READS IS OF BULK AT MOST 1048576: true; the input reads as it did. -/
def resolveOwnUptoRow : OpenClaim := { program := "ytkfmlekomfnleaagreat", sum := "d311c5c2436a67fb543aac9183dc8edb1b0a861495d42e006b596e73a4656dc3", func := "lexprior/lexpriorlaw08.ResolveOwn", spec := "resolveOwn", unfollowed := true, recurses := true, plainKeys := false, apart := false, narrowed := true }
def ResolveOwnUptoSaid : Prop := resolveOwnUptoRow.holds Tryz.pinned (OpenSpec.upto resolveOwnSpec)

end Rows
end Go.Proofs.YtkfmlekomfnleaaGreat
