/- The calculus, third part: arithmetic, fields, indexes, calls, guards. Conditions: none; everything holds over any program. -/
import Derived.Test.YtbcdgcodnkgdoaaGreatB
import Derived.ChangeKeysEq
set_option linter.unusedVariables false
set_option linter.unusedSimpArgs false
namespace Go.Proofs.YtbcdgcodnkgdoaaGreat
open Go Go.RowKit

theorem w64 {n : Int} (h1 : -9223372036854775808 ≤ n) (h2 : n ≤ 9223372036854775807) : IntKind.i64.wrap n = n := by
  have := IntWalk.i64_in n ⟨h1, h2⟩
  exact this
theorem run_eqGuard_int {P : Program} (op : BinOp) (t : TypeId) (x y : Operand) (k k' : IntKind) (a b : Int) (w : World) : (eqGuard op t x y (.int k a) (.int k' b)).run P w = .ok () w := by
  unfold eqGuard; split <;> rfl
theorem run_eqGuard_bool {P : Program} (op : BinOp) (t : TypeId) (x y : Operand) (a b : Bool) (w : World) : (eqGuard op t x y (.bool a) (.bool b)).run P w = .ok () w := by
  unfold eqGuard; split <;> rfl
theorem run_eqGuard_string {P : Program} (op : BinOp) (t : TypeId) (x y : Operand) (a b : ByteArray) (w : World) : (eqGuard op t x y (.string a) (.string b)).run P w = .ok () w := by
  unfold eqGuard; split <;> rfl
theorem run_eqGuard_slice {P : Program} (op : BinOp) (t : TypeId) (x y : Operand) (a b : Option Addr) (n m c d : Nat) (w : World) : (eqGuard op t x y (.slice a n c) (.slice b m d)).run P w = .ok () w := by
  unfold eqGuard; split <;> rfl
theorem beqI (a b : Int) : (a == b) = decide (a = b) := by rw [Bool.eq_iff_iff]; simp
theorem beqL (a b : ByteArray) : (a.toList == b.toList) = decide (a = b) := by
  rw [Bool.eq_iff_iff]
  simp [ByteArray.toList_eq, ByteArray.ext_iff, Array.toList_inj]
theorem beqB (a b : Bool) : (a == b) = decide (a = b) := by cases a <;> cases b <;> rfl

section
variable {P : Program} {E : Env} {ops : Array Oper} {Q : Pst} {rest : List Oper} {G : List (Nat × Value)} {H : List HP}
variable {dst : Nat} {ty : TypeId} {pos : String} {af : Array Edge} {t tx ty' : TypeId} {d d' : TypeDesc} {z z' : Value} {sz sz' by_ by' : Nat} {x y : Operand} {u v : Value} {a b c : Int} {k kk : IntKind} {p q : Bool} {s1 s2 : ByteArray}

/-! ### numbers -/
theorem RW.add (hx : ev G x = some (.int k a)) (hy : ev G y = some (.int k b)) (hw : k.wrap (a + b) = c) (hN : Nat.blt dst E.N = true) (kk : RW P E ops Q rest ((dst, .int k c) :: G) H) :
    RW P E ops Q (⟨some dst, .binOp .add t x y ty', ty, pos, af, none⟩ :: rest) G H :=
  RW.val hN (fun f w hf _ => by simp [execOp, hf.eval hx, hf.eval hy, run_eqGuard_int, binOp, Op.intArith, hw]) kk
theorem RW.sub (hx : ev G x = some (.int k a)) (hy : ev G y = some (.int k b)) (hw : k.wrap (a - b) = c) (hN : Nat.blt dst E.N = true) (kk : RW P E ops Q rest ((dst, .int k c) :: G) H) :
    RW P E ops Q (⟨some dst, .binOp .sub t x y ty', ty, pos, af, none⟩ :: rest) G H :=
  RW.val hN (fun f w hf _ => by simp [execOp, hf.eval hx, hf.eval hy, run_eqGuard_int, binOp, Op.intArith, hw]) kk
theorem RW.mul (hx : ev G x = some (.int k a)) (hy : ev G y = some (.int k b)) (hw : k.wrap (a * b) = c) (hN : Nat.blt dst E.N = true) (kk : RW P E ops Q rest ((dst, .int k c) :: G) H) :
    RW P E ops Q (⟨some dst, .binOp .mul t x y ty', ty, pos, af, none⟩ :: rest) G H :=
  RW.val hN (fun f w hf _ => by simp [execOp, hf.eval hx, hf.eval hy, run_eqGuard_int, binOp, Op.intArith, hw]) kk
theorem RW.eql (hx : ev G x = some (.int k a)) (hy : ev G y = some (.int k b)) (hN : Nat.blt dst E.N = true) (kk : RW P E ops Q rest ((dst, .bool (decide (a = b))) :: G) H) :
    RW P E ops Q (⟨some dst, .binOp .eql t x y ty', ty, pos, af, none⟩ :: rest) G H :=
  RW.val hN (fun f w hf _ => by simp [execOp, hf.eval hx, hf.eval hy, run_eqGuard_int, binOp, Op.intCmp, beqI]) kk
theorem RW.neq (hx : ev G x = some (.int k a)) (hy : ev G y = some (.int k b)) (hN : Nat.blt dst E.N = true) (kk : RW P E ops Q rest ((dst, .bool (decide (¬ a = b))) :: G) H) :
    RW P E ops Q (⟨some dst, .binOp .neq t x y ty', ty, pos, af, none⟩ :: rest) G H :=
  RW.val hN (fun f w hf _ => by simp [execOp, hf.eval hx, hf.eval hy, run_eqGuard_int, binOp, Op.intCmp, bne, beqI]) kk
theorem RW.lss (hx : ev G x = some (.int k a)) (hy : ev G y = some (.int k b)) (hN : Nat.blt dst E.N = true) (kk : RW P E ops Q rest ((dst, .bool (decide (a < b))) :: G) H) :
    RW P E ops Q (⟨some dst, .binOp .lss t x y ty', ty, pos, af, none⟩ :: rest) G H :=
  RW.val hN (fun f w hf _ => by simp [execOp, hf.eval hx, hf.eval hy, run_eqGuard_int, binOp, Op.intCmp]) kk
theorem RW.leq (hx : ev G x = some (.int k a)) (hy : ev G y = some (.int k b)) (hN : Nat.blt dst E.N = true) (kk : RW P E ops Q rest ((dst, .bool (decide (a ≤ b))) :: G) H) :
    RW P E ops Q (⟨some dst, .binOp .leq t x y ty', ty, pos, af, none⟩ :: rest) G H :=
  RW.val hN (fun f w hf _ => by simp [execOp, hf.eval hx, hf.eval hy, run_eqGuard_int, binOp, Op.intCmp]) kk
theorem RW.gtr (hx : ev G x = some (.int k a)) (hy : ev G y = some (.int k b)) (hN : Nat.blt dst E.N = true) (kk : RW P E ops Q rest ((dst, .bool (decide (b < a))) :: G) H) :
    RW P E ops Q (⟨some dst, .binOp .gtr t x y ty', ty, pos, af, none⟩ :: rest) G H :=
  RW.val hN (fun f w hf _ => by simp [execOp, hf.eval hx, hf.eval hy, run_eqGuard_int, binOp, Op.intCmp]) kk
theorem RW.geq (hx : ev G x = some (.int k a)) (hy : ev G y = some (.int k b)) (hN : Nat.blt dst E.N = true) (kk : RW P E ops Q rest ((dst, .bool (decide (b ≤ a))) :: G) H) :
    RW P E ops Q (⟨some dst, .binOp .geq t x y ty', ty, pos, af, none⟩ :: rest) G H :=
  RW.val hN (fun f w hf _ => by simp [execOp, hf.eval hx, hf.eval hy, run_eqGuard_int, binOp, Op.intCmp]) kk
theorem RW.eqlS [T : Ty P t .string z sz by_] (hx : ev G x = some (.string s1)) (hy : ev G y = some (.string s2)) (hN : Nat.blt dst E.N = true) (kk : RW P E ops Q rest ((dst, .bool (decide (s1 = s2))) :: G) H) :
    RW P E ops Q (⟨some dst, .binOp .eql t x y ty', ty, pos, af, none⟩ :: rest) G H :=
  RW.val hN (fun f w hf _ => by simp [execOp, hf.eval hx, hf.eval hy, run_eqGuard_string, binOp, Op.stringOp, beqL]) kk
theorem RW.neqS [T : Ty P t .string z sz by_] (hx : ev G x = some (.string s1)) (hy : ev G y = some (.string s2)) (hN : Nat.blt dst E.N = true) (kk : RW P E ops Q rest ((dst, .bool (decide (¬ s1 = s2))) :: G) H) :
    RW P E ops Q (⟨some dst, .binOp .neq t x y ty', ty, pos, af, none⟩ :: rest) G H :=
  RW.val hN (fun f w hf _ => by simp [execOp, hf.eval hx, hf.eval hy, run_eqGuard_string, binOp, Op.stringOp, beqL]) kk
theorem run_equalIn_bool {P : Program} {t : TypeId} {z : Value} {sz by_ : Nat} [T : Ty P t .bool z sz by_] (n : Nat) (p q : Bool) (w : World) : (Op.equalIn (n + 1) t (.bool p) (.bool q)).run P w = .ok (p == q) w := by
  simp [Op.equalIn, T.runUnd]
theorem run_equal_bool {P : Program} {t : TypeId} {z : Value} {sz by_ : Nat} [T : Ty P t .bool z sz by_] (p q : Bool) (w : World) : (Op.equal t (.bool p) (.bool q)).run P w = .ok (p == q) w :=
  run_equalIn_bool 9999 p q w
theorem RW.eqlB [T : Ty P t .bool z sz by_] (hx : ev G x = some (.bool p)) (hy : ev G y = some (.bool q)) (hN : Nat.blt dst E.N = true) (kk : RW P E ops Q rest ((dst, .bool (decide (p = q))) :: G) H) :
    RW P E ops Q (⟨some dst, .binOp .eql t x y ty', ty, pos, af, none⟩ :: rest) G H :=
  RW.val hN (fun f w hf _ => by simp [execOp, hf.eval hx, hf.eval hy, run_eqGuard_bool, binOp, run_equal_bool, beqB]) kk
theorem RW.neqB [T : Ty P t .bool z sz by_] (hx : ev G x = some (.bool p)) (hy : ev G y = some (.bool q)) (hN : Nat.blt dst E.N = true) (kk : RW P E ops Q rest ((dst, .bool (decide (¬ p = q))) :: G) H) :
    RW P E ops Q (⟨some dst, .binOp .neq t x y ty', ty, pos, af, none⟩ :: rest) G H :=
  RW.val hN (fun f w hf _ => by simp [execOp, hf.eval hx, hf.eval hy, run_eqGuard_bool, binOp, run_equal_bool, beqB]) kk
theorem RW.not (hx : ev G x = some (.bool p)) (hN : Nat.blt dst E.N = true) (kk : RW P E ops Q rest ((dst, .bool (!p)) :: G) H) :
    RW P E ops Q (⟨some dst, .unOp .not t x, ty, pos, af, none⟩ :: rest) G H :=
  RW.val hN (fun f w hf _ => by simp [execOp, hf.eval hx, Op.unary]) kk
theorem RW.neg (hx : ev G x = some (.int k a)) (hw : k.wrap (0 - a) = c) (hN : Nat.blt dst E.N = true) (kk : RW P E ops Q rest ((dst, .int k c) :: G) H) :
    RW P E ops Q (⟨some dst, .unOp .neg t x, ty, pos, af, none⟩ :: rest) G H :=
  RW.val hN (fun f w hf _ => by simp only [execOp, hf.eval hx, Op.unary, Op.intArith, hw]; rfl) kk
theorem RW.conv [S : Ty P t d z sz by_] [T : Ty P tx (.int kk) z' sz' by'] (hx : ev G x = some (.int k a)) (hw : kk.wrap a = c) (hN : Nat.blt dst E.N = true) (kk : RW P E ops Q rest ((dst, .int kk c) :: G) H) :
    RW P E ops Q (⟨some dst, .convert t tx x, ty, pos, af, none⟩ :: rest) G H :=
  RW.val hN (fun f w hf _ => by simp [execOp, hf.eval hx, convert, S.runUnd, T.runUnd, Conv.intToInt, hw]) kk
theorem RW.iface [T : Ty P t d z sz by_] (hx : ev G x = some v) (hd : ∀ ms, d ≠ .interface ms) (hN : Nat.blt dst E.N = true) (kk : RW P E ops Q rest ((dst, .iface t v) :: G) H) :
    RW P E ops Q (⟨some dst, .makeInterface t x, ty, pos, af, none⟩ :: rest) G H :=
  RW.val hN (fun f w hf _ => by
    have : (Instr.makeInterface t v).run P w = .ok (.iface t v) w := by
      unfold Instr.makeInterface
      rw [Sem.run_bind, T.runUnd]
      cases d <;> first | rfl | exact absurd rfl (hd _)
    simp [execOp, hf.eval hx, this]) kk
theorem RW.extract {vs : List Value} {i : Nat} (hx : ev G x = some (.tuple vs.toArray)) (hi : vs[i]? = some v) (hN : Nat.blt dst E.N = true) (kk : RW P E ops Q rest ((dst, v) :: G) H) :
    RW P E ops Q (⟨some dst, .extract x i, ty, pos, af, none⟩ :: rest) G H :=
  RW.val hN (fun f w hf _ => by simp [execOp, hf.eval hx, Instr.extract, hi]) kk
theorem RW.nilCheck {A : Addr} (hx : ev G x = some (.pointer (some A))) (hN : Nat.blt dst E.N = true) (kk : RW P E ops Q rest ((dst, .pointer (some A)) :: G) H) :
    RW P E ops Q (⟨some dst, .nilCheck x, ty, pos, af, none⟩ :: rest) G H :=
  RW.val hN (fun f w hf _ => by simp [execOp, hf.eval hx]) kk
theorem RW.nilCheckF {g : FuncId} {l1 l2 : Array Value} (hx : ev G x = some (.func (.func g) l1 l2)) (hN : Nat.blt dst E.N = true) (kk : RW P E ops Q rest ((dst, .func (.func g) l1 l2) :: G) H) :
    RW P E ops Q (⟨some dst, .nilCheck x, ty, pos, af, none⟩ :: rest) G H :=
  RW.val hN (fun f w hf _ => by simp [execOp, hf.eval hx]) kk
def evs (G : List (Nat × Value)) : List Operand → Option (List Value)
  | [] => some []
  | x :: r => match ev G x with
    | some v => match evs G r with
      | some vs => some (v :: vs)
      | none => none
    | none => none
theorem Fr.evals {N : Nat} {ds : List Deferred} {a : Act} {G : List (Nat × Value)} (h : Fr N ds a G) : ∀ {l : List Operand} {vs : List Value}, evs G l = some vs → l.map a.eval = vs := by
  intro l
  induction l with
  | nil => intro vs hv; simp [evs] at hv; simp [hv]
  | cons x r ih =>
    intro vs hv
    unfold evs at hv
    cases hx : ev G x with
    | none => rw [hx] at hv; cases hv
    | some v =>
      rw [hx] at hv
      cases hr : evs G r with
      | none => rw [hr] at hv; cases hv
      | some us =>
        rw [hr] at hv
        simp only [Option.some.injEq] at hv
        subst hv
        rw [List.map_cons, h.eval hx, ih hr]
theorem RW.makeFunc {f : Fn} {l1 l2 : List Operand} {v1 v2 : List Value} (h1 : evs G l1 = some v1) (h2 : evs G l2 = some v2) (hN : Nat.blt dst E.N = true) (kk : RW P E ops Q rest ((dst, .func f v1.toArray v2.toArray) :: G) H) :
    RW P E ops Q (⟨some dst, .makeFunc f l1.toArray l2.toArray, ty, pos, af, none⟩ :: rest) G H :=
  RW.val hN (fun a w hf _ => by simp [execOp, Instr.makeFunc, hf.evals h1, hf.evals h2]) kk

/-! ### fields -/
class FA (P : Program) (s : TypeId) (i : Nat) (off : outParam Nat) : Prop where
  run : ∀ B O w, (Instr.fieldAt s (.pointer (some ⟨B, O, none⟩)) i).run P w = .ok (.pointer (some ⟨B, O + off, none⟩)) w
theorem FA.of {s ft : TypeId} {i off : Nat} {fs : Array Field} (T : Ty P s (.struct fs) z sz by_) (T2 : Ty P ft d z' sz' by') (hf : (fs[i]?).map (fun f => (f.type, f.offset)) = some (ft, off)) (h0 : Nat.beq sz' 0 = false) : FA P s i off :=
  ⟨fun B O w => by
    cases hf' : fs[i]? with
    | none => rw [hf'] at hf; cases hf
    | some f =>
    rw [hf'] at hf
    simp only [Option.map_some, Option.some.injEq, Prod.mk.injEq] at hf
    obtain ⟨rfl, rfl⟩ := hf
    replace h0 : sz' ≠ 0 := Nat.ne_of_beq_eq_false h0
    unfold Instr.fieldAt
    simp only [Sem.run_bind, T.runUnd, Result.andThen, hf', Instr.sureAddr, fieldPlace, T2.runSize, h0, if_false, Sem.run_pure, add_at]⟩
theorem RW.fieldAddr {s : TypeId} {i off B O : Nat} [F : FA P s i off] (hx : ev G x = some (.pointer (some ⟨B, O, none⟩))) (hN : Nat.blt dst E.N = true) (kk : RW P E ops Q rest ((dst, .pointer (some ⟨B, O + off, none⟩)) :: G) H) :
    RW P E ops Q (⟨some dst, .fieldAddr s x i, ty, pos, af, none⟩ :: rest) G H :=
  RW.val hN (fun f w hf _ => by simp [execOp, hf.eval hx, F.run]) kk
class FV (P : Program) (s : TypeId) (i : Nat) (off n : outParam Nat) (ag : outParam Bool) : Prop where
  run1 : ag = false → ∀ (l : List Value) v w, l[off]? = some v → (Instr.field s (.agg l.toArray) i).run P w = .ok v w
  run2 : ag = true → ∀ (l : List Value) w, (Instr.field s (.agg l.toArray) i).run P w = .ok (.agg ((l.drop off).take n).toArray) w
theorem FV.of {s ft : TypeId} {i off : Nat} {ag : Bool} {fs : Array Field} (T : Ty P s (.struct fs) z sz by_) (T2 : Ty P ft d z' sz' by') (hf : (fs[i]?).map (fun f => (f.type, f.offset)) = some (ft, off)) (hag : isAggD d = ag) : FV P s i off sz' ag := by
  cases hf' : fs[i]? with
  | none => rw [hf'] at hf; cases hf
  | some f =>
  rw [hf'] at hf
  simp only [Option.map_some, Option.some.injEq, Prod.mk.injEq] at hf
  obtain ⟨rfl, rfl⟩ := hf
  subst hag
  exact ⟨fun ha l v w hv => by simp [Instr.field, T.runUnd, hf', part, T2.runAgg, ha, asAgg, hv],
   fun ha l w => by simp [Instr.field, T.runUnd, hf', part, T2.runAgg, ha, asAgg, T2.runSize, List.extract_eq_take_drop]⟩
theorem RW.field_one {s : TypeId} {i off n : Nat} {l : List Value} [F : FV P s i off n false] (hx : ev G x = some (.agg l.toArray)) (hv : l[off]? = some v) (hN : Nat.blt dst E.N = true) (kk : RW P E ops Q rest ((dst, v) :: G) H) :
    RW P E ops Q (⟨some dst, .field s x i, ty, pos, af, none⟩ :: rest) G H :=
  RW.val hN (fun f w hf _ => by simp [execOp, hf.eval hx, F.run1 rfl l v w hv]) kk
theorem RW.field_agg {s : TypeId} {i off n : Nat} {l l' : List Value} [F : FV P s i off n true] (hx : ev G x = some (.agg l.toArray)) (hv : (l.drop off).take n = l') (hN : Nat.blt dst E.N = true) (kk : RW P E ops Q rest ((dst, .agg l'.toArray) :: G) H) :
    RW P E ops Q (⟨some dst, .field s x i, ty, pos, af, none⟩ :: rest) G H :=
  RW.val hN (fun f w hf _ => by subst hv; simp only [execOp, hf.eval hx, Sem.run_bind, F.run2 rfl l w, Result.andThen]; rfl) kk

/-! ### slices -/
theorem RW.indexAddr {e : TypeId} {B O n cp : Nat} [T : Ty P t (.slice e) z sz by_] [T2 : Ty P e d z' sz' by'] (hx : ev G x = some (.slice (some ⟨B, O, none⟩) n cp)) (hy : ev G y = some (.int k a)) (h0 : 0 ≤ a) (h1 : a < n) (hN : Nat.blt dst E.N = true)
    (kk : RW P E ops Q rest ((dst, .pointer (some ⟨B, O + a.toNat * sz', none⟩)) :: G) H) : RW P E ops Q (⟨some dst, .indexAddr t x y, ty, pos, af, none⟩ :: rest) G H :=
  RW.val hN (fun f w hf _ => by simp [execOp, hf.eval hx, hf.eval hy, Instr.indexAt, asIntOf, T.runUnd, h0, h1, T2.runSize, add_at]) kk
theorem RW.len {e : TypeId} {A : Option Addr} {n cp : Nat} [T : Ty P t (.slice e) z sz by_] (hx : ev G x = some (.slice A n cp)) (hN : Nat.blt dst E.N = true) (kk : RW P E ops Q rest ((dst, .int .i64 n) :: G) H) :
    RW P E ops Q (⟨some dst, .call ⟨.builtin .len, #[x], #[t]⟩, ty, pos, af, none⟩ :: rest) G H :=
  RW.val hN (fun f w hf _ => by simp [execOp, resolve, invoke, builtin, Builtin.len_, hf.eval hx, T.runUnd, goInt]) kk
theorem RW.lenS [T : Ty P t .string z sz by_] (hx : ev G x = some (.string s1)) (hN : Nat.blt dst E.N = true) (kk : RW P E ops Q rest ((dst, .int .i64 s1.size) :: G) H) :
    RW P E ops Q (⟨some dst, .call ⟨.builtin .len, #[x], #[t]⟩, ty, pos, af, none⟩ :: rest) G H :=
  RW.val hN (fun f w hf _ => by simp [execOp, resolve, invoke, builtin, Builtin.len_, hf.eval hx, T.runUnd, goInt]) kk
theorem RW.cap {e : TypeId} {A : Option Addr} {n cp : Nat} [T : Ty P t (.slice e) z sz by_] (hx : ev G x = some (.slice A n cp)) (hN : Nat.blt dst E.N = true) (kk : RW P E ops Q rest ((dst, .int .i64 cp) :: G) H) :
    RW P E ops Q (⟨some dst, .call ⟨.builtin .cap, #[x], #[t]⟩, ty, pos, af, none⟩ :: rest) G H :=
  RW.val hN (fun f w hf _ => by simp [execOp, resolve, invoke, builtin, Builtin.cap_, hf.eval hx, T.runUnd, goInt]) kk
/-- x[lo:hi] of a slice: where the capacity's end is the low end the address stays. -/
def cutA (A : Option Addr) (l sz cp : Nat) : Option Addr := if cp = l then A else A.map (·.add (l * sz))
theorem run_sliceBound_ok {P : Program} {w : World} {k : IntKind} {i : Int} {n : Nat} {cd : BoundsCode} (h0 : 0 ≤ i) (h1 : i ≤ n) : (Instr.sliceBound (.int k i) n cd).run P w = .ok i.toNat w := by
  simp [Instr.sliceBound, asIntOf, h0, h1]
theorem RW.slice_lh {e : TypeId} {A : Option Addr} {n cp : Nat} {lo hi : Operand} {k1 k2 : IntKind} [T : Ty P t (.slice e) z sz by_] [T2 : Ty P e d z' sz' by'] (hx : ev G x = some (.slice A n cp)) (hl : ev G lo = some (.int k1 a)) (hh : ev G hi = some (.int k2 b)) (h0 : 0 ≤ a) (h1 : a ≤ b) (h2 : b ≤ cp) (hN : Nat.blt dst E.N = true)
    (kk : RW P E ops Q rest ((dst, .slice (cutA A a.toNat sz' cp) (b.toNat - a.toNat) (cp - a.toNat)) :: G) H) : RW P E ops Q (⟨some dst, .slice t x (some lo) (some hi) none, ty, pos, af, none⟩ :: rest) G H :=
  RW.val hN (fun f w hf _ => by
    have e1 : (Instr.sliceBound (.int k2 b) cp .sliceAcap).run P w = .ok b.toNat w := run_sliceBound_ok (by omega) h2
    have e2 : (Instr.sliceBound (.int k1 a) b.toNat .sliceB).run P w = .ok a.toNat w := run_sliceBound_ok h0 (by omega)
    simp [execOp, hf.eval hx, hf.eval hl, hf.eval hh, Instr.sliceAt, T.runUnd, Instr.slice, Instr.sliceBounds, e1, e2, T2.runSize, cutA]) kk
theorem RW.slice_l {e : TypeId} {A : Option Addr} {n cp : Nat} {lo : Operand} {k1 : IntKind} [T : Ty P t (.slice e) z sz by_] [T2 : Ty P e d z' sz' by'] (hx : ev G x = some (.slice A n cp)) (hl : ev G lo = some (.int k1 a)) (h0 : 0 ≤ a) (h1 : a ≤ n) (hN : Nat.blt dst E.N = true)
    (kk : RW P E ops Q rest ((dst, .slice (cutA A a.toNat sz' cp) (n - a.toNat) (cp - a.toNat)) :: G) H) : RW P E ops Q (⟨some dst, .slice t x (some lo) none none, ty, pos, af, none⟩ :: rest) G H :=
  RW.val hN (fun f w hf _ => by
    have e2 : (Instr.sliceBound (.int k1 a) n .sliceB).run P w = .ok a.toNat w := run_sliceBound_ok h0 h1
    simp [execOp, hf.eval hx, hf.eval hl, Instr.sliceAt, T.runUnd, Instr.slice, Instr.sliceBounds, e2, T2.runSize, cutA]) kk
theorem RW.slice_h {e : TypeId} {A : Option Addr} {n cp : Nat} {hi : Operand} {k2 : IntKind} [T : Ty P t (.slice e) z sz by_] [T2 : Ty P e d z' sz' by'] (hx : ev G x = some (.slice A n cp)) (hh : ev G hi = some (.int k2 b)) (h0 : 0 ≤ b) (h2 : b ≤ cp) (hN : Nat.blt dst E.N = true)
    (kk : RW P E ops Q rest ((dst, .slice A b.toNat cp) :: G) H) : RW P E ops Q (⟨some dst, .slice t x none (some hi) none, ty, pos, af, none⟩ :: rest) G H :=
  RW.val hN (fun f w hf _ => by
    have e1 : (Instr.sliceBound (.int k2 b) cp .sliceAcap).run P w = .ok b.toNat w := run_sliceBound_ok h0 h2
    have e3 : (if cp = 0 then A else A.map (·.add (0 * sz'))) = A := by
      split
      · rfl
      · cases A <;> simp [Addr.add]
    simp only [execOp, hf.eval hx, hf.eval hh, Instr.sliceAt, T.runUnd, Instr.slice, Instr.sliceBounds, e1, T2.runSize, Sem.run_bind, Result.andThen, Option.map_none, Option.map_some, Sem.run_pure, e3, Nat.sub_zero, if_true]) kk
theorem run_equalIn_slice_nil' [T : Ty P t (.slice tx) z sz by_] (i : Nat) (A : Option Addr) (n c : Nat) (w : World) : (Op.equalIn (i + 1) t (.slice A n c) (.slice none 0 0)).run P w = .ok A.isNone w := by
  cases A <;> simp [Op.equalIn, T.runUnd]
theorem run_equal_slice_nil' [T : Ty P t (.slice tx) z sz by_] (A : Option Addr) (n c : Nat) (w : World) : (Op.equal t (.slice A n c) (.slice none 0 0)).run P w = .ok A.isNone w :=
  run_equalIn_slice_nil' (tx := tx) 9999 A n c w
theorem RW.eql_nil {e : TypeId} {A : Option Addr} {n cp : Nat} [T : Ty P t (.slice e) z sz by_] (hx : ev G x = some (.slice A n cp)) (hy : ev G y = some (.slice none 0 0)) (hN : Nat.blt dst E.N = true) (kk : RW P E ops Q rest ((dst, .bool A.isNone) :: G) H) :
    RW P E ops Q (⟨some dst, .binOp .eql t x y ty', ty, pos, af, none⟩ :: rest) G H :=
  RW.val hN (fun f w hf _ => by simp [execOp, hf.eval hx, hf.eval hy, run_eqGuard_slice, binOp, run_equal_slice_nil' (tx := e)]) kk
theorem RW.neq_nil {e : TypeId} {A : Option Addr} {n cp : Nat} [T : Ty P t (.slice e) z sz by_] (hx : ev G x = some (.slice A n cp)) (hy : ev G y = some (.slice none 0 0)) (hN : Nat.blt dst E.N = true) (kk : RW P E ops Q rest ((dst, .bool (!A.isNone)) :: G) H) :
    RW P E ops Q (⟨some dst, .binOp .neq t x y ty', ty, pos, af, none⟩ :: rest) G H :=
  RW.val hN (fun f w hf _ => by simp [execOp, hf.eval hx, hf.eval hy, run_eqGuard_slice, binOp, run_equal_slice_nil' (tx := e)]) kk
theorem RW.indexS [T : Ty P t .string z sz by_] {i : Nat} {c : UInt8} (hx : ev G x = some (.string s1)) (hy : ev G y = some (.int k a)) (hi : a = i) (hc : s1[i]? = some c) (hN : Nat.blt dst E.N = true) (kk : RW P E ops Q rest ((dst, .int .u8 c.toNat) :: G) H) :
    RW P E ops Q (⟨some dst, .index t x y, ty, pos, af, none⟩ :: rest) G H :=
  RW.val hN (fun f w hf _ => by subst hi; simp [execOp, hf.eval hx, hf.eval hy, Instr.index, asIntOf, T.runUnd, hc]) kk

/-! ### guards -/
theorem RW.split (j : Nat) {b : Bool} (hl : look G j = some (.bool b)) (ht : b = true → RW P E ops Q rest ((j, .bool true) :: G) H) (hf : b = false → RW P E ops Q rest ((j, .bool false) :: G) H) : RW P E ops Q rest G H := by
  have key : ∀ c, b = c → RW P E ops Q rest ((j, .bool c) :: G) H → RW P E ops Q rest G H := fun c hc h a w hfr hw => by
    subst hc
    refine h a w ⟨hfr.size, hfr.defers, fun i v hi => ?_⟩ hw
    unfold look at hi
    cases hb : Nat.beq j i with
    | true =>
      rw [hb] at hi
      have : j = i := Nat.eq_of_beq_eq_true hb
      subst this
      simp only [Option.some.injEq] at hi
      subst hi
      exact hfr.at_ _ _ hl
    | false => rw [hb] at hi; exact hfr.at_ i v hi
  cases b with
  | true => exact key true rfl (ht rfl)
  | false => exact key false rfl (hf rfl)
theorem RW.splitD (j : Nat) {p : Prop} [Decidable p] (hl : look G j = some (.bool (decide p))) (ht : p → RW P E ops Q rest ((j, .bool true) :: G) H) (hf : ¬ p → RW P E ops Q rest ((j, .bool false) :: G) H) : RW P E ops Q rest G H :=
  RW.split j hl (fun h => ht (of_decide_eq_true h)) (fun h => hf (of_decide_eq_false h))
def gd (ops : Array Oper) (G : List (Nat × Value)) (j : Nat) (want : Bool) : Option Bool :=
  match (ops[j]?).bind (·.dst) with
  | some d => match look G d with
    | some (.bool b) => some (b == want)
    | some (.tuple _) => some false
    | _ => none
  | none => none
theorem gd_wanted {N : Nat} {ds : List Deferred} {a : Act} (h : Fr N ds a G) {j : Nat} {want g : Bool} {o : Oper} (ho : o.guard = some (j, want)) (hg : gd ops G j want = some g) : Region.wanted o (yielded ops a.tmps) = g := by
  unfold gd at hg
  simp only [Region.wanted, ho, yielded]
  cases hd : (ops[j]?).bind (·.dst) with
  | none => rw [hd] at hg; cases hg
  | some d =>
    rw [hd] at hg
    simp only at hg
    cases hl : look G d with
    | none => rw [hl] at hg; cases hg
    | some v =>
      rw [hl] at hg
      cases v with
      | bool b =>
        simp only [Option.some.injEq] at hg
        subst hg
        rw [Option.bind_some, h.at_ _ _ hl]
        simp
      | tuple l =>
        simp only [Option.some.injEq] at hg
        subst hg
        rw [Option.bind_some, h.at_ _ _ hl]
        simp
      | _ => cases hg
theorem RW.yes {dst : Option Nat} {op : Op} {j : Nat} {want : Bool} (hg : gd ops G j want = some true) (kk : RW P E ops Q (⟨dst, op, ty, pos, af, none⟩ :: rest) G H) : RW P E ops Q (⟨dst, op, ty, pos, af, some (j, want)⟩ :: rest) G H := by
  intro a w hf hw
  have h := kk a w hf hw
  unfold wpList at h ⊢
  rw [if_pos (by simp [Region.wanted])] at h
  rw [if_pos (by rw [gd_wanted hf rfl hg])]
  exact h
theorem RW.no {op : Op} {j : Nat} {want : Bool} (hg : gd ops G j want = some false) (hN : Nat.blt dst E.N = true) (kk : RW P E ops Q rest ((dst, undef) :: G) H) : RW P E ops Q (⟨some dst, op, ty, pos, af, some (j, want)⟩ :: rest) G H := by
  intro a w hf hw
  unfold wpList
  rw [if_neg (by rw [gd_wanted hf rfl hg]; simp)]
  exact kk _ _ (hf.put hN _) hw
theorem RW.no0 {op : Op} {j : Nat} {want : Bool} (hg : gd ops G j want = some false) (kk : RW P E ops Q rest G H) : RW P E ops Q (⟨none, op, ty, pos, af, some (j, want)⟩ :: rest) G H := by
  intro a w hf hw
  unfold wpList
  rw [if_neg (by rw [gd_wanted hf rfl hg]; simp)]
  exact kk _ _ (hf.skip _) hw

/-! ### calls -/
/-- The call hands back v; nothing that lay there has turned. -/
def Ret (P : Program) (f : FuncId) (args : List Value) (w : World) (v : Value) : Prop := Calls P f args.toArray w (fun e w' => e = .returned v ∧ Keeps No w w')
/-- .. and what it hands back lies in new memory: c. -/
def RetF (P : Program) (f : FuncId) (args : List Value) (w : World) {α : Type} (V : α → Value) (c : α → HP) : Prop :=
  Calls P f args.toArray w (fun e w' => ∃ x, e = .returned (V x) ∧ Keeps No w w' ∧ (c x).p w' (fun b => w.heap.size ≤ b ∧ b < w'.heap.size))
/-- A call that turns what lies in F. -/
def RetM (P : Program) (f : FuncId) (args : List Value) (w : World) (F : Nat → Prop) {α : Type} (V : α → Value) (c : α → List HP) : Prop :=
  Calls P f args.toArray w (fun e w' => ∃ x, e = .returned (V x) ∧ St w F (c x) w')
theorem RW.call_gen {dst : Option Nat} {l : List Operand} {vs : List Value} {at_ : Array TypeId} {f : FuncId} (hcall : ∀ args w, (callFunc f args).run P w = .ok (.enter f args) w) (hl : evs G l = some vs)
    (hc : ∀ a w, Fr E.N E.ds a G → St E.w0 E.S H w → Calls P f vs.toArray w fun
      | .returned v, w'' => wpList P ops Q.fn rest (a.put dst v) w''
      | .panicked chain, w'' => Q.pan chain a w''
      | .outgrown, _ => LetsOut Q.fn) : RW P E ops Q (⟨dst, .call ⟨.value (.func f), l.toArray, at_⟩, ty, pos, af, none⟩ :: rest) G H :=
  RW.step rfl (fun a w hf hw => by
    have hrun : (execOp a.eval ⟨dst, .call ⟨.value (.func f), l.toArray, at_⟩, ty, pos, af, none⟩).run P w = .ok (.enter f vs.toArray) w := by
      simp [execOp, resolve, Act.eval, Deferred.ofValue, invoke, hf.evals hl, hcall]
    rw [hrun]
    exact hc a w hf hw)
/-- .. of a function value: the captured variables behind the arguments. -/
theorem RW.callv_gen {dst : Option Nat} {fv : Operand} {l : List Operand} {vs caps : List Value} {at_ : Array TypeId} {f : FuncId} (hcall : ∀ args w, (callFunc f args).run P w = .ok (.enter f args) w) (hfv : ev G fv = some (.func (.func f) #[] caps.toArray)) (hl : evs G l = some vs)
    (hc : ∀ a w, Fr E.N E.ds a G → St E.w0 E.S H w → Calls P f (vs ++ caps).toArray w fun
      | .returned v, w'' => wpList P ops Q.fn rest (a.put dst v) w''
      | .panicked chain, w'' => Q.pan chain a w''
      | .outgrown, _ => LetsOut Q.fn) : RW P E ops Q (⟨dst, .call ⟨.value fv, l.toArray, at_⟩, ty, pos, af, none⟩ :: rest) G H :=
  RW.step rfl (fun a w hf hw => by
    have hrun : (execOp a.eval ⟨dst, .call ⟨.value fv, l.toArray, at_⟩, ty, pos, af, none⟩).run P w = .ok (.enter f (vs ++ caps).toArray) w := by
      simp [execOp, resolve, hf.eval hfv, Deferred.ofValue, invoke, hf.evals hl, hcall]
    rw [hrun]
    exact hc a w hf hw)
section
variable {l : List Operand} {vs caps : List Value} {at_ : Array TypeId} {f : FuncId} {fv : Operand}
theorem RW.call (hcall : ∀ args w, (callFunc f args).run P w = .ok (.enter f args) w) (hl : evs G l = some vs) (hc : ∀ w, St E.w0 E.S H w → Ret P f vs w v) (hN : Nat.blt dst E.N = true) (kk : RW P E ops Q rest ((dst, v) :: G) H) :
    RW P E ops Q (⟨some dst, .call ⟨.value (.func f), l.toArray, at_⟩, ty, pos, af, none⟩ :: rest) G H :=
  RW.call_gen hcall hl (fun a w hf hw => (hc w hw).mono (by rintro e w' ⟨rfl, hk⟩; exact kk _ _ (hf.put hN v) (hw.quiet hk)))
theorem RW.callv (hcall : ∀ args w, (callFunc f args).run P w = .ok (.enter f args) w) (hfv : ev G fv = some (.func (.func f) #[] caps.toArray)) (hl : evs G l = some vs) (hc : ∀ w, St E.w0 E.S H w → Ret P f (vs ++ caps) w v) (hN : Nat.blt dst E.N = true) (kk : RW P E ops Q rest ((dst, v) :: G) H) :
    RW P E ops Q (⟨some dst, .call ⟨.value fv, l.toArray, at_⟩, ty, pos, af, none⟩ :: rest) G H :=
  RW.callv_gen hcall hfv hl (fun a w hf hw => (hc w hw).mono (by rintro e w' ⟨rfl, hk⟩; exact kk _ _ (hf.put hN v) (hw.quiet hk)))
theorem RW.callF {α : Type} {V : α → Value} {c : α → HP} (hcall : ∀ args w, (callFunc f args).run P w = .ok (.enter f args) w) (hl : evs G l = some vs) (hc : ∀ w, St E.w0 E.S H w → RetF P f vs w V c) (hN : Nat.blt dst E.N = true)
    (kk : ∀ x, RW P E ops Q rest ((dst, V x) :: G) (c x :: H)) : RW P E ops Q (⟨some dst, .call ⟨.value (.func f), l.toArray, at_⟩, ty, pos, af, none⟩ :: rest) G H :=
  RW.call_gen hcall hl (fun a w hf hw => (hc w hw).mono (by rintro e w' ⟨x, rfl, hk, hx⟩; exact kk x _ _ (hf.put hN _) (hw.fresh hk hx)))
/-- A call that turns one chunk. -/
theorem RW.callM {α : Type} {V : α → Value} {c : α → List HP} (pre : List HP) {r : List HP} {h0 : HP} (hcall : ∀ args w, (callFunc f args).run P w = .ok (.enter f args) w) (hl : evs G l = some vs)
    (hc : ∀ w F, St E.w0 E.S (pre ++ h0 :: r) w → h0.p w F → (∀ b, F b → (E.S b ∨ E.w0.heap.size ≤ b) ∧ b < w.heap.size) → RetM P f vs w F V c) (hN : Nat.blt dst E.N = true)
    (kk : ∀ x, RW P E ops Q rest ((dst, V x) :: G) (c x ++ (pre ++ r))) : RW P E ops Q (⟨some dst, .call ⟨.value (.func f), l.toArray, at_⟩, ty, pos, af, none⟩ :: rest) G (pre ++ h0 :: r) :=
  RW.call_gen hcall hl (fun a w hf hw => by
    obtain ⟨F, hp, hF, hr⟩ : ∃ F : Nat → Prop, h0.p w F ∧ (∀ b, F b → (E.S b ∨ E.w0.heap.size ≤ b) ∧ b < w.heap.size) ∧ Sep (pre ++ r) w (fun b => (E.S b ∨ E.w0.heap.size ≤ b) ∧ ¬ F b) := by
      obtain ⟨F, hF, hc, hr⟩ := Sep.pull hw.sep
      exact ⟨F, hc, hF, hr⟩
    refine (hc w F hw hp hF).mono ?_
    rintro e w' ⟨x, rfl, hx⟩
    exact kk x _ _ (hf.put hN _) (St.turnF hw.kp hF hr hx))
end
end
end Go.Proofs.YtbcdgcodnkgdoaaGreat
