/- TopLoop, piece by piece: the states between. Conditions: none. -/
import Derived.Test.YtbcdgcodnkgdoaaGreatRu21
import Derived.Test.YtbcdgcodnkgdoaaGreatTl0
set_option linter.unusedVariables false
namespace Go.Proofs.YtbcdgcodnkgdoaaGreat.Run
open Go Go.RowKit

def tlKd : Bool → Int
  | true => 1
  | false => 2
def tlThy (m : Nat) (c : Int) : List (Nat × B) := [(0, .buf (List.replicate (m + 1) .l0) 26), (1, .buf [.i .i64 (Int.ofNat m)] 3), (2, .buf [.i .i64 c, .i .i64 (Int.ofNat m), .l 1 0 0 1] 51), (3, .buf [.l0] 26), (4, .cells [.i .i64 (Int.ofNat (m + 1)), .l 0 0 0 (m + 1), .l 2 0 0 1, .l 3 0 0 1] 25)]
def tlMk (m : Nat) (s : Bool) : B := .buf (List.replicate m (.i .u8 10) ++ [.i .u8 (match s with | true => 0 | false => 2)]) 45
def tlFr (m : Nat) (k : Int) : List (Nat × V) := [(1, .i .i64 k), (0, .i .i64 (Int.ofNat m)), (5, .p 4 0)]
def ck3 (r k : Int) : Ck := ⟨[(1, .i .i64 k), (0, .i .i64 r)], [], 0⟩
def ck6 (m : Nat) (c k : Int) : Ck := ⟨tlFr m k, tlThy m c, 5⟩
def ck7 (m : Nat) (s : Bool) (k : Int) : Ck := ⟨tlFr m k ++ [(6, .l 5 0 0 (m + 1)), (7, .i .i64 0)], tlThy m (tlKd s) ++ [(5, tlMk m s)], 6⟩
def ck8 (m : Nat) (s : Bool) (k : Int) : Ck := ⟨tlFr m k ++ [(6, .l 5 0 0 (m + 1)), (7, .i .i64 0), (8, .l 6 0 0 (m + 1)), (9, .i .i64 0)], tlThy m (tlKd s) ++ [(5, tlMk m s), (6, tlMk m s)], 7⟩
def ck9 (m : Nat) (s : Bool) (k : Int) : Ck := ⟨tlFr m k ++ [(6, .l 5 0 0 (m + 1)), (7, .i .i64 0), (8, .l 6 0 0 (m + 1)), (9, .i .i64 0), (11, .i .i64 203)], tlThy m (tlKd s) ++ [(5, tlMk m s), (6, tlMk m s)], 7⟩
def ck10 (m : Nat) (s : Bool) (k : Int) : Ck := ⟨tlFr m k ++ [(6, .l 5 0 0 (m + 1)), (7, .i .i64 0), (8, .l 6 0 0 (m + 1)), (9, .i .i64 0), (11, .i .i64 203), (13, .i .i64 203)], tlThy m (tlKd s) ++ [(5, tlMk m s), (6, tlMk m s)], 7⟩
def ck11 (m : Nat) (s : Bool) (k : Int) : Ck := ⟨[(1, .i .i64 k), (0, .i .i64 (Int.ofNat m)), (6, .l 0 0 0 (m + 1))], [(0, tlMk m s)], 1⟩
def ck13 : Ck := ⟨[(4, .b true)], [], 0⟩
def nsT : List Nm := [.old 0, .old 1, .old 2, .old 3, .old 4]
def nsA : List Nm := nsT ++ [.at_ 6]
def nsB : List Nm := nsT ++ [.at_ 6, .at_ 8]
abbrev TG (i : Nat) (ns : List Nm) (a : Ck) (e : Xt) (b : Ck) : Prop := Goes2 tlCf 3000 114 6 (tlC i) ns a e b
theorem tl0 (n k : Int) : TG 0 [] (ck3 n k) .nrm (ck3 n k) := ⟨by kernel_rfl, by kernel_rfl, by kernel_rfl, rfl⟩
theorem tl1 (n k : Int) : TG 1 [] (ck3 n k) .nrm (ck3 n k) := ⟨by kernel_rfl, by kernel_rfl, by kernel_rfl, rfl⟩
theorem tl2 (n k : Int) : TG 2 [] (ck3 n k) .nrm (ck3 (n.tmod 30) k) := ⟨by kernel_rfl, by kernel_rfl, by kernel_rfl, rfl⟩
end Go.Proofs.YtbcdgcodnkgdoaaGreat.Run
