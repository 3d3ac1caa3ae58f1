/-
  No cell of these rows narrows 'for every input' (looked for: loops, veiled, ifaces, maps, wideKeys, modest, calm, conditions, laid).
  DERIVED. THE GIVEN ROWS OF THIS SEAT. 4 by the template 'for every input the law returns true; each argument reads behind the call as it read before'; 0 by the template 'total and deterministic' (their statements: YtbcdgcodnkgdoaaGreatTotals.lean).
  GIVEN WITH THE SEED: the statements are not yours to turn. If you find one false, say at which input.
  Laid BY PROGRAM, IN A SANDBOX (cutbox-rows.mjs): the forced cells as the released guide's own fill.sh prints them over the translation 4fcdc5b80bcb8e3d… (all of the seat's roots in one cut). By AI agents, Wed Nov 11 2026. No macro, syntax, notation, axiom, sorry.
-/
import Derived.Test.YtbcdgcodnkgdoaaGreatChecked
import GoSem.Claim
import GoSem.ClaimJoined
import GoSem.ClaimMapViews
import Derived.JoinedTies
import Derived.KernelRfl
namespace Go.Proofs.YtbcdgcodnkgdoaaGreat
/- THE CELL 'sum', in the pinned program and in every row, IS THE sha256 OF THE DUMP (.gsa) THAT YtbcdgcodnkgdoaaGreatProg.lean LOADS. Nothing in Lean hashes anything: it is a label: what it is worth is what the hold of that sum in a sandbox is worth. -/
noncomputable def Tryz.pinned : Pinned := { name := "ytbcdgcodnkgdoaagreat", sum := "4fcdc5b80bcb8e3d96f09bb58dfb2895bc093863e1e5e79b6591d01c647709bb", checked := Tryz.checked }
namespace Rows
def none {H : Type} : Left H := { results := [], args := [] }

/-- 'lexpriortop.TopEmitted': WHATEVER THE INPUT: true; the input reads as it did. -/
def topEmittedSpec : ChangeSpec := { name := "topEmitted", fn := fun _ => fun
  | [d1, d2, d3, d4, d5, d6] => { results := [.lit (.bool true)], args := [d1, d2, d3, d4, d5, d6] }
  | _ => none }
def topEmittedRow : OpenClaim := { program := "ytbcdgcodnkgdoaagreat", sum := "4fcdc5b80bcb8e3d96f09bb58dfb2895bc093863e1e5e79b6591d01c647709bb", func := "lexprior/lexpriortop.TopEmitted", spec := "topEmitted", unfollowed := true, recurses := true, plainKeys := false, apart := false }
def TopEmittedSaid : Prop := topEmittedRow.holds Tryz.pinned (OpenSpec.ofChange topEmittedSpec)

/-- ITS FALSE NEIGHBOUR: 'it returns false'. Refute it at one input. -/
def topEmittedWrong : ChangeSpec := { name := "topEmitted", fn := fun _ => fun
  | [d1, d2, d3, d4, d5, d6] => { results := [.lit (.bool false)], args := [d1, d2, d3, d4, d5, d6] }
  | _ => none }
def TopEmittedWrongFalsely : Prop := topEmittedRow.holds Tryz.pinned (OpenSpec.ofChange topEmittedWrong)

/-- 'lexpriortop.TopLinear': WHATEVER THE INPUT: true; the input reads as it did. -/
def topLinearSpec : ChangeSpec := { name := "topLinear", fn := fun _ => fun
  | [d1, d2] => { results := [.lit (.bool true)], args := [d1, d2] }
  | _ => none }
def topLinearRow : OpenClaim := { program := "ytbcdgcodnkgdoaagreat", sum := "4fcdc5b80bcb8e3d96f09bb58dfb2895bc093863e1e5e79b6591d01c647709bb", func := "lexprior/lexpriortop.TopLinear", spec := "topLinear", unfollowed := true, recurses := true, plainKeys := false, apart := false }
def TopLinearSaid : Prop := topLinearRow.holds Tryz.pinned (OpenSpec.ofChange topLinearSpec)

/-- ITS FALSE NEIGHBOUR: 'it returns false'. Refute it at one input. -/
def topLinearWrong : ChangeSpec := { name := "topLinear", fn := fun _ => fun
  | [d1, d2] => { results := [.lit (.bool false)], args := [d1, d2] }
  | _ => none }
def TopLinearWrongFalsely : Prop := topLinearRow.holds Tryz.pinned (OpenSpec.ofChange topLinearWrong)

/-- 'lexpriortop.TopChain': WHATEVER THE INPUT: true; the input reads as it did. -/
def topChainSpec : ChangeSpec := { name := "topChain", fn := fun _ => fun
  | [d1, d2, d3] => { results := [.lit (.bool true)], args := [d1, d2, d3] }
  | _ => none }
def topChainRow : OpenClaim := { program := "ytbcdgcodnkgdoaagreat", sum := "4fcdc5b80bcb8e3d96f09bb58dfb2895bc093863e1e5e79b6591d01c647709bb", func := "lexprior/lexpriortop.TopChain", spec := "topChain", unfollowed := true, recurses := true, plainKeys := false, apart := false }
def TopChainSaid : Prop := topChainRow.holds Tryz.pinned (OpenSpec.ofChange topChainSpec)

/-- ITS FALSE NEIGHBOUR: 'it returns false'. Refute it at one input. -/
def topChainWrong : ChangeSpec := { name := "topChain", fn := fun _ => fun
  | [d1, d2, d3] => { results := [.lit (.bool false)], args := [d1, d2, d3] }
  | _ => none }
def TopChainWrongFalsely : Prop := topChainRow.holds Tryz.pinned (OpenSpec.ofChange topChainWrong)

/-- 'lexpriortop.TopLoop': WHATEVER THE INPUT: true; the input reads as it did. -/
def topLoopSpec : ChangeSpec := { name := "topLoop", fn := fun _ => fun
  | [d1, d2] => { results := [.lit (.bool true)], args := [d1, d2] }
  | _ => none }
def topLoopRow : OpenClaim := { program := "ytbcdgcodnkgdoaagreat", sum := "4fcdc5b80bcb8e3d96f09bb58dfb2895bc093863e1e5e79b6591d01c647709bb", func := "lexprior/lexpriortop.TopLoop", spec := "topLoop", unfollowed := true, recurses := true, plainKeys := false, apart := false }
def TopLoopSaid : Prop := topLoopRow.holds Tryz.pinned (OpenSpec.ofChange topLoopSpec)

/-- ITS FALSE NEIGHBOUR: 'it returns false'. Refute it at one input. -/
def topLoopWrong : ChangeSpec := { name := "topLoop", fn := fun _ => fun
  | [d1, d2] => { results := [.lit (.bool false)], args := [d1, d2] }
  | _ => none }
def TopLoopWrongFalsely : Prop := topLoopRow.holds Tryz.pinned (OpenSpec.ofChange topLoopWrong)

/- THE SECOND FORM. 'bulk': how many values and letters a reading holds, each counted each time it is reached (what is shared counts as often as it is met; a slice's spare places count too). A statement '..UptoSaid' is the law's where the arguments, and the package variables that the reading takes, are together of bulk at most 1048576: NARROWER than '..Said'. Prove '..Said' where nothing that the law and all that it calls make is longer than what came in: it says more and counts as full. Else prove '..UptoSaid'. A law counts once. -/
mutual
def uptoBulk {H : Type} : DataW H → Nat
  | .lit (.string bytes) => bytes.length + 1
  | .lit _ => 1
  | .nil => 1
  | .ptr d => uptoBulk d + 1
  | .slice elems spare => uptoBulkAll elems + uptoBulkAll spare + 1
  | .agg parts => uptoBulkAll parts + 1
  | .iface _ d => uptoBulk d + 1
  | .map entries => uptoBulkEntries entries + 1
  | .held _ => 1
def uptoBulkAll {H : Type} : List (DataW H) → Nat
  | [] => 0
  | d :: r => uptoBulk d + uptoBulkAll r
def uptoBulkEntries {H : Type} : List (Lit × DataW H) → Nat
  | [] => 0
  | x :: r => uptoBulkEntry x + uptoBulkEntries r
def uptoBulkEntry {H : Type} : Lit × DataW H → Nat
  | (.string bytes, d) => bytes.length + uptoBulk d + 1
  | (_, d) => uptoBulk d + 1
 end
def uptoSmall : (H : Type) → List (DataW H) → Bool := fun _ ds => decide (uptoBulkAll ds ≤ 1048576)
def OpenSpec.upto (s : _root_.Go.ChangeSpec) : _root_.Go.OpenSpec := { _root_.Go.OpenSpec.ofChange s with cond := some uptoSmall }

/-- 'lexpriortop.TopEmitted', WHERE WHAT IT READS IS OF BULK AT MOST 1048576: true; the input reads as it did. -/
def topEmittedUptoRow : OpenClaim := { program := "ytbcdgcodnkgdoaagreat", sum := "4fcdc5b80bcb8e3d96f09bb58dfb2895bc093863e1e5e79b6591d01c647709bb", func := "lexprior/lexpriortop.TopEmitted", spec := "topEmitted", unfollowed := true, recurses := true, plainKeys := false, apart := false, narrowed := true }
def TopEmittedUptoSaid : Prop := topEmittedUptoRow.holds Tryz.pinned (OpenSpec.upto topEmittedSpec)

/-- 'lexpriortop.TopLinear', WHERE WHAT IT READS IS OF BULK AT MOST 1048576: true; the input reads as it did. -/
def topLinearUptoRow : OpenClaim := { program := "ytbcdgcodnkgdoaagreat", sum := "4fcdc5b80bcb8e3d96f09bb58dfb2895bc093863e1e5e79b6591d01c647709bb", func := "lexprior/lexpriortop.TopLinear", spec := "topLinear", unfollowed := true, recurses := true, plainKeys := false, apart := false, narrowed := true }
def TopLinearUptoSaid : Prop := topLinearUptoRow.holds Tryz.pinned (OpenSpec.upto topLinearSpec)

/-- 'lexpriortop.TopChain', WHERE WHAT IT READS IS OF BULK AT MOST 1048576: true; the input reads as it did. -/
def topChainUptoRow : OpenClaim := { program := "ytbcdgcodnkgdoaagreat", sum := "4fcdc5b80bcb8e3d96f09bb58dfb2895bc093863e1e5e79b6591d01c647709bb", func := "lexprior/lexpriortop.TopChain", spec := "topChain", unfollowed := true, recurses := true, plainKeys := false, apart := false, narrowed := true }
def TopChainUptoSaid : Prop := topChainUptoRow.holds Tryz.pinned (OpenSpec.upto topChainSpec)

/-- 'lexpriortop.TopLoop', WHERE WHAT IT READS IS OF BULK AT MOST 1048576: true; the input reads as it did. -/
def topLoopUptoRow : OpenClaim := { program := "ytbcdgcodnkgdoaagreat", sum := "4fcdc5b80bcb8e3d96f09bb58dfb2895bc093863e1e5e79b6591d01c647709bb", func := "lexprior/lexpriortop.TopLoop", spec := "topLoop", unfollowed := true, recurses := true, plainKeys := false, apart := false, narrowed := true }
def TopLoopUptoSaid : Prop := topLoopUptoRow.holds Tryz.pinned (OpenSpec.upto topLoopSpec)

end Rows
end Go.Proofs.YtbcdgcodnkgdoaaGreat
