/- The calculus, second part: one rule an operation. Conditions: none; everything holds over any program. -/
import Derived.Test.YtbcdgcodnkgdoaaGreatA
set_option linter.unusedVariables false
set_option linter.unusedSimpArgs false
namespace Go.Proofs.YtbcdgcodnkgdoaaGreat
open Go Go.RowKit

/-! ### types -/
class Ty (P : Program) (t : TypeId) (d : outParam TypeDesc) (z : outParam Value) (sz by_ : outParam Nat) : Prop where
  und : P.underlying t = some d
  inf : (P.info? t).map (fun i => (i.zero, i.size, i.bytes)) = some (some z, sz, by_)
def isAggD : TypeDesc → Bool
  | .struct _ | .array _ _ => true
  | _ => false
section
variable {P : Program} {t : TypeId} {d : TypeDesc} {z : Value} {sz by_ : Nat}
theorem Ty.info (T : Ty P t d z sz by_) : ∃ i, P.info? t = some i ∧ i.zero = some z ∧ i.size = sz ∧ i.bytes = by_ := by
  have h := T.inf
  cases hi : P.info? t with
  | none => rw [hi] at h; cases h
  | some i =>
    rw [hi] at h
    simp only [Option.map_some, Option.some.injEq, Prod.mk.injEq] at h
    exact ⟨i, rfl, h.1, h.2.1, h.2.2⟩
theorem Ty.runUnd (T : Ty P t d z sz by_) (w : World) : (underlying t).run P w = .ok d w := by
  simp [underlying, T.und]
theorem Ty.runSize (T : Ty P t d z sz by_) (w : World) : (sizeOf t).run P w = .ok sz w := by
  obtain ⟨i, hi, _, hs, _⟩ := T.info
  simp [sizeOf, typeInfo, hi, hs]
theorem Ty.runZero (T : Ty P t d z sz by_) (w : World) : (zeroValue t).run P w = .ok z w := by
  obtain ⟨i, hi, hz, _⟩ := T.info
  simp [zeroValue, typeInfo, hi, hz]
theorem Ty.runAgg (T : Ty P t d z sz by_) (w : World) : (isAgg t).run P w = .ok (isAggD d) w := by
  cases d <;> simp [isAgg, T.runUnd, isAggD]
end

/-- The cells from a place on. -/
def CellsAt (w : World) (b o : Nat) (cs : List Value) : Prop := ∀ i v, cs[i]? = some v → w.cell? ⟨b, o + i, none⟩ = some v
theorem CellsAt.nil (w : World) (b o : Nat) : CellsAt w b o [] := fun i v h => by simp at h
theorem CellsAt.one {w : World} {b o : Nat} {v : Value} (h : w.cell? ⟨b, o, none⟩ = some v) : CellsAt w b o [v] := fun i u hu => by
  cases i with
  | zero => simp at hu; subst hu; simpa using h
  | succ i => simp at hu
theorem CellsAt.at_ {w : World} {b o : Nat} {cs : List Value} (h : CellsAt w b o cs) (i : Nat) {v : Value} (hv : cs[i]? = some v) : w.cell? ⟨b, o + i, none⟩ = some v := h i v hv
theorem CellsAt.drop {w : World} {b o : Nat} {cs : List Value} (h : CellsAt w b o cs) (k : Nat) : CellsAt w b (o + k) (cs.drop k) := fun i v hv => by
  rw [List.getElem?_drop] at hv
  have := h _ _ hv
  rwa [← Nat.add_assoc] at this
theorem CellsAt.take {w : World} {b o : Nat} {cs : List Value} (h : CellsAt w b o cs) (k : Nat) : CellsAt w b o (cs.take k) := fun i v hv => by
  rw [List.getElem?_take] at hv
  split at hv
  · exact h _ _ hv
  · cases hv
theorem add_at (b o n : Nat) : (⟨b, o, none⟩ : Addr).add n = ⟨b, o + n, none⟩ := by
  unfold Addr.add
  split
  · rename_i h; simp [h]
  · rfl
theorem run_loadCellsFrom {P : Program} {w : World} {b o : Nat} : ∀ (cs : List Value) (i : Nat) (acc : Array Value), (∀ j v, cs[j]? = some v → w.cell? ⟨b, o + (i + j), none⟩ = some v) →
    (loadCellsFrom ⟨b, o, none⟩ i cs.length acc).run P w = .ok (acc ++ cs.toArray) w := by
  intro cs
  induction cs with
  | nil => intro i acc _; simp [loadCellsFrom]
  | cons c cs ih =>
    intro i acc h
    have h0 := h 0 c (by simp)
    simp only [Nat.add_zero] at h0
    rw [List.length_cons]
    unfold loadCellsFrom
    rw [add_at]
    simp only [Sem.run_bind, run_load, h0, Result.andThen]
    rw [ih (i + 1) (acc.push c) (fun j v hj => by have := h (j + 1) v (by simpa using hj); rwa [show o + (i + (j + 1)) = o + (i + 1 + j) from by omega] at this)]
    simp
theorem run_loadCells {P : Program} {w : World} {b o : Nat} {cs : List Value} (h : CellsAt w b o cs) : (loadCells ⟨b, o, none⟩ cs.length).run P w = .ok cs.toArray w := by
  unfold loadCells
  rw [run_loadCellsFrom cs 0 #[] (fun j v hj => by simpa using h j v hj)]
  simp
theorem run_loadVar_one {P : Program} {t : TypeId} {d : TypeDesc} {z : Value} {sz by_ : Nat} [T : Ty P t d z sz by_] (hd : isAggD d = false) {w : World} {a : Addr} {v : Value} (h : w.cell? a = some v) :
    (loadVar t a).run P w = .ok v w := by
  simp [loadVar, T.runAgg, hd, h]
theorem run_loadVar_agg {P : Program} {t : TypeId} {d : TypeDesc} {z : Value} {sz by_ : Nat} [T : Ty P t d z sz by_] (hd : isAggD d = true) {w : World} {b o : Nat} {cs : List Value} (hs : cs.length = sz) (h : CellsAt w b o cs) :
    (loadVar t ⟨b, o, none⟩).run P w = .ok (.agg cs.toArray) w := by
  subst hs
  simp only [loadVar, Sem.run_bind, T.runAgg, hd, Result.andThen, if_true, T.runSize, run_loadCells h]
  rfl
/-- A block known whole. -/
theorem CellsAt.of_blk {w : World} {b : Nat} {c : List Value} {t : TypeId} (h : w.heap[b]? = some (.cells c.toArray t (0, 0))) : CellsAt w b 0 c := fun i v hv => by
  simp [World.cell?, h, hv]
theorem cell_of_blk {w : World} {b : Nat} {c : List Value} {t : TypeId} (h : w.heap[b]? = some (.cells c.toArray t (0, 0))) {o : Nat} {v : Value} (hv : c[o]? = some v) : w.cell? ⟨b, o, none⟩ = some v := by
  simp [World.cell?, h, hv]
theorem unfrozen_of_blk {w : World} {b : Nat} {c : List Value} {t : TypeId} (h : w.heap[b]? = some (.cells c.toArray t (0, 0))) (o : Nat) : w.frozen? ⟨b, o, none⟩ = false := by
  simp [World.frozen?, h]

/-! ### steps -/
section
variable {P : Program} {E : Env} {ops : Array Oper} {Q : Pst} {rest : List Oper} {G : List (Nat × Value)} {H : List HP}
theorem RW.step {op : Oper} (hg : op.guard = none) (h : ∀ a w, Fr E.N E.ds a G → St E.w0 E.S H w → op.upon P a (wpList P ops Q.fn rest) Q.fn ((execOp a.eval op).run P w)) : RW P E ops Q (op :: rest) G H := by
  intro a w hf hw
  refine wpList_plain hg (fun K hK => ?_)
  exact Go.Oper.wp_mono hK (h a w hf hw)
theorem RW.val {dst : Nat} {op : Op} {ty : TypeId} {pos : String} {af : Array Edge} {v : Value} (hN : Nat.blt dst E.N = true)
    (hr : ∀ a w, Fr E.N E.ds a G → St E.w0 E.S H w → (execOp a.eval ⟨some dst, op, ty, pos, af, none⟩).run P w = .ok (.value v) w)
    (k : RW P E ops Q rest ((dst, v) :: G) H) : RW P E ops Q (⟨some dst, op, ty, pos, af, none⟩ :: rest) G H :=
  RW.step rfl (fun a w hf hw => by rw [hr a w hf hw]; exact k _ _ (hf.put hN v) hw)
/-- A new block. -/
theorem RW.newblk {dst : Nat} {op : Op} {ty : TypeId} {pos : String} {af : Array Edge} {V : Nat → Value} {c : List Value} {t : TypeId} (hN : Nat.blt dst E.N = true)
    (hr : ∀ a w, Fr E.N E.ds a G → St E.w0 E.S H w → (execOp a.eval ⟨some dst, op, ty, pos, af, none⟩).run P w = .ok (.value (V w.heap.size)) (w.alloc (.cells c.toArray t)))
    (k : ∀ b, E.w0.heap.size ≤ b → RW P E ops Q rest ((dst, V b) :: G) (blk b c t :: H)) : RW P E ops Q (⟨some dst, op, ty, pos, af, none⟩ :: rest) G H :=
  RW.step rfl (fun a w hf hw => by
    rw [hr a w hf hw]
    refine k w.heap.size hw.kp.size _ _ (hf.put hN _) (hw.fresh (Keeps.alloc _ _ _) ⟨⟨Nat.le_refl _, ?_⟩, ?_⟩)
    · show _ < (w.heap.push _).size; simp
    · show (w.heap.push _)[_]? = _; simp)
section
variable {dst : Nat} {ty : TypeId} {pos : String} {af : Array Edge} {t tx ty' : TypeId} {d : TypeDesc} {z : Value} {sz by_ : Nat} {x y : Operand} {u v : Value} {a b : Int} {k kk : IntKind} {p q : Bool} {s1 s2 : ByteArray}
theorem RW.move (hx : ev G x = some v) (hN : Nat.blt dst E.N = true) (k : RW P E ops Q rest ((dst, v) :: G) H) : RW P E ops Q (⟨some dst, .move x, ty, pos, af, none⟩ :: rest) G H :=
  RW.val hN (fun a w hf _ => by simp [execOp, hf.eval hx]) k
theorem RW.assign (hx : ev G x = some v) (hN : Nat.blt dst E.N = true) (k : RW P E ops Q rest ((dst, v) :: G) H) : RW P E ops Q (⟨some dst, .assign x, ty, pos, af, none⟩ :: rest) G H :=
  RW.val hN (fun a w hf _ => by simp [execOp, hf.eval hx]) k
theorem RW.pick_t {c : Operand} (hc : ev G c = some (.bool true)) (hx : ev G x = some v) (hN : Nat.blt dst E.N = true) (k : RW P E ops Q rest ((dst, v) :: G) H) : RW P E ops Q (⟨some dst, .pick c x y, ty, pos, af, none⟩ :: rest) G H :=
  RW.val hN (fun a w hf _ => by simp [execOp, hf.eval hc, hf.eval hx, asBool]) k
theorem RW.pick_f {c : Operand} (hc : ev G c = some (.bool false)) (hy : ev G y = some v) (hN : Nat.blt dst E.N = true) (k : RW P E ops Q rest ((dst, v) :: G) H) : RW P E ops Q (⟨some dst, .pick c x y, ty, pos, af, none⟩ :: rest) G H :=
  RW.val hN (fun a w hf _ => by simp [execOp, hf.eval hc, hf.eval hy, asBool]) k
theorem RW.alloc [T : Ty P t d z sz by_] {c : List Value} (hc : z.cells = c.toArray) (hN : Nat.blt dst E.N = true) (k : ∀ b, E.w0.heap.size ≤ b → RW P E ops Q rest ((dst, .pointer (some ⟨b, 0, none⟩)) :: G) (blk b c t :: H)) :
    RW P E ops Q (⟨some dst, .alloc t, ty, pos, af, none⟩ :: rest) G H :=
  RW.newblk (V := fun b => .pointer (some ⟨b, 0, none⟩)) hN (fun a w _ _ => by simp [execOp, Instr.alloc, T.runZero, newVar, newRow, hc]) k
theorem RW.box_agg {l : List Value} (hx : ev G x = some (.agg l.toArray)) (hN : Nat.blt dst E.N = true) (k : ∀ b, E.w0.heap.size ≤ b → RW P E ops Q rest ((dst, .pointer (some ⟨b, 0, none⟩)) :: G) (blk b l t :: H)) :
    RW P E ops Q (⟨some dst, .box t x, ty, pos, af, none⟩ :: rest) G H :=
  RW.newblk (V := fun b => .pointer (some ⟨b, 0, none⟩)) hN (fun a w hf _ => by simp [execOp, Instr.box, newVar, newRow, hf.eval hx, Value.cells]) k
theorem RW.box_one (hx : ev G x = some v) (hv : v.cells = #[v]) (hN : Nat.blt dst E.N = true) (k : ∀ b, E.w0.heap.size ≤ b → RW P E ops Q rest ((dst, .pointer (some ⟨b, 0, none⟩)) :: G) (blk b [v] t :: H)) :
    RW P E ops Q (⟨some dst, .box t x, ty, pos, af, none⟩ :: rest) G H :=
  RW.newblk (V := fun b => .pointer (some ⟨b, 0, none⟩)) hN (fun a w hf _ => by simp [execOp, Instr.box, newVar, newRow, hf.eval hx, hv]) k
/-- A load that meets one cell. -/
theorem RW.load_fact [T : Ty P t d z sz by_] {A : Addr} (hx : ev G x = some (.pointer (some A))) (hd : isAggD d = false) (hN : Nat.blt dst E.N = true) (hc : ∀ w, St E.w0 E.S H w → w.cell? A = some v)
    (k : RW P E ops Q rest ((dst, v) :: G) H) : RW P E ops Q (⟨some dst, .load t x, ty, pos, af, none⟩ :: rest) G H :=
  RW.val hN (fun a w hf hw => by simp [execOp, Instr.loadAt, Instr.sureAddr, hf.eval hx, run_loadVar_one hd (hc w hw)]) k
theorem RW.load_facts [T : Ty P t d z sz by_] {B O : Nat} {cs : List Value} (hx : ev G x = some (.pointer (some ⟨B, O, none⟩))) (hd : isAggD d = true) (hs : cs.length = sz) (hN : Nat.blt dst E.N = true) (hc : ∀ w, St E.w0 E.S H w → CellsAt w B O cs)
    (k : RW P E ops Q rest ((dst, .agg cs.toArray) :: G) H) : RW P E ops Q (⟨some dst, .load t x, ty, pos, af, none⟩ :: rest) G H :=
  RW.val hN (fun a w hf hw => by simp [execOp, Instr.loadAt, Instr.sureAddr, hf.eval hx, run_loadVar_agg hd hs (hc w hw)]) k
/-- .. a cell of what came in. -/
theorem RW.load_old [T : Ty P t d z sz by_] {B O : Nat} (hx : ev G x = some (.pointer (some ⟨B, O, none⟩))) (hc : E.w0.cell? ⟨B, O, none⟩ = some v) (hS : ¬ E.S B) (hd : isAggD d = false) (hN : Nat.blt dst E.N = true)
    (k : RW P E ops Q rest ((dst, v) :: G) H) : RW P E ops Q (⟨some dst, .load t x, ty, pos, af, none⟩ :: rest) G H :=
  RW.load_fact hx hd hN (fun w hw => by
    have hl := World.block_lt_of_cell? E.w0 _ hc
    have := hw.kp.block B hl hS
    simpa [World.cell?, this] using hc) k
theorem CellsAt.keeps {w w' : World} {S : Nat → Prop} {B O : Nat} {cs : List Value} (h : CellsAt w B O cs) (k : Keeps S w w') (hS : ¬ S B) : CellsAt w' B O cs := fun i v hv => by
  have hc := h i v hv
  have hl := World.block_lt_of_cell? w _ hc
  have := k.block B hl hS
  simpa [World.cell?, this] using hc
theorem cell_keeps {w w' : World} {S : Nat → Prop} {B O : Nat} {v : Value} (h : w.cell? ⟨B, O, none⟩ = some v) (k : Keeps S w w') (hS : ¬ S B) : w'.cell? ⟨B, O, none⟩ = some v := by
  have hl := World.block_lt_of_cell? w _ h
  have := k.block B hl hS
  simpa [World.cell?, this] using h
theorem RW.load_olds [T : Ty P t d z sz by_] {B O : Nat} {cs : List Value} (hx : ev G x = some (.pointer (some ⟨B, O, none⟩))) (hc : CellsAt E.w0 B O cs) (hS : ¬ E.S B) (hd : isAggD d = true) (hs : cs.length = sz) (hN : Nat.blt dst E.N = true)
    (k : RW P E ops Q rest ((dst, .agg cs.toArray) :: G) H) : RW P E ops Q (⟨some dst, .load t x, ty, pos, af, none⟩ :: rest) G H :=
  RW.load_facts hx hd hs hN (fun w hw => hc.keeps hw.kp hS) k
/-- .. a cell of a block known whole. -/
theorem RW.load_blk [T : Ty P t d z sz by_] (pre : List HP) {r : List HP} {B O : Nat} {c : List Value} {te : TypeId} (hx : ev G x = some (.pointer (some ⟨B, O, none⟩))) (hv : c[O]? = some v) (hd : isAggD d = false) (hN : Nat.blt dst E.N = true)
    (k : RW P E ops Q rest ((dst, v) :: G) (pre ++ blk B c te :: r)) : RW P E ops Q (⟨some dst, .load t x, ty, pos, af, none⟩ :: rest) G (pre ++ blk B c te :: r) :=
  RW.load_fact hx hd hN (fun w hw => cell_of_blk hw.blk hv) k
theorem RW.load_whole [T : Ty P t d z sz by_] (pre : List HP) {r : List HP} {B : Nat} {c : List Value} {te : TypeId} (hx : ev G x = some (.pointer (some ⟨B, 0, none⟩))) (hs : c.length = sz) (hd : isAggD d = true) (hN : Nat.blt dst E.N = true)
    (k : RW P E ops Q rest ((dst, .agg c.toArray) :: G) (pre ++ blk B c te :: r)) : RW P E ops Q (⟨some dst, .load t x, ty, pos, af, none⟩ :: rest) G (pre ++ blk B c te :: r) :=
  RW.load_facts hx hd hs hN (fun w hw => CellsAt.of_blk hw.blk) k

theorem RW.load_part1 [T : Ty P t d z 1 by_] (pre : List HP) {r : List HP} {B O : Nat} {c tl : List Value} {v0 : Value} {te : TypeId} (hx : ev G x = some (.pointer (some ⟨B, O, none⟩))) (hv : c.drop O = v0 :: tl) (hd : isAggD d = true) (hN : Nat.blt dst E.N = true)
    (k : RW P E ops Q rest ((dst, .agg #[v0]) :: G) (pre ++ blk B c te :: r)) : RW P E ops Q (⟨some dst, .load t x, ty, pos, af, none⟩ :: rest) G (pre ++ blk B c te :: r) :=
  RW.load_facts (cs := [v0]) hx hd rfl hN (fun w hw => by
    have h := ((CellsAt.of_blk hw.blk).drop O).take 1
    rw [hv] at h
    simpa using h) k
theorem RW.load_part2 [T : Ty P t d z 2 by_] (pre : List HP) {r : List HP} {B O : Nat} {c tl : List Value} {v0 v1 : Value} {te : TypeId} (hx : ev G x = some (.pointer (some ⟨B, O, none⟩))) (hv : c.drop O = v0 :: v1 :: tl) (hd : isAggD d = true) (hN : Nat.blt dst E.N = true)
    (k : RW P E ops Q rest ((dst, .agg #[v0, v1]) :: G) (pre ++ blk B c te :: r)) : RW P E ops Q (⟨some dst, .load t x, ty, pos, af, none⟩ :: rest) G (pre ++ blk B c te :: r) :=
  RW.load_facts (cs := [v0, v1]) hx hd rfl hN (fun w hw => by
    have h := ((CellsAt.of_blk hw.blk).drop O).take 2
    rw [hv] at h
    simpa using h) k
theorem RW.load_part3 [T : Ty P t d z 3 by_] (pre : List HP) {r : List HP} {B O : Nat} {c tl : List Value} {v0 v1 v2 : Value} {te : TypeId} (hx : ev G x = some (.pointer (some ⟨B, O, none⟩))) (hv : c.drop O = v0 :: v1 :: v2 :: tl) (hd : isAggD d = true) (hN : Nat.blt dst E.N = true)
    (k : RW P E ops Q rest ((dst, .agg #[v0, v1, v2]) :: G) (pre ++ blk B c te :: r)) : RW P E ops Q (⟨some dst, .load t x, ty, pos, af, none⟩ :: rest) G (pre ++ blk B c te :: r) :=
  RW.load_facts (cs := [v0, v1, v2]) hx hd rfl hN (fun w hw => by
    have h := ((CellsAt.of_blk hw.blk).drop O).take 3
    rw [hv] at h
    simpa using h) k
theorem RW.load_part4 [T : Ty P t d z 4 by_] (pre : List HP) {r : List HP} {B O : Nat} {c tl : List Value} {v0 v1 v2 v3 : Value} {te : TypeId} (hx : ev G x = some (.pointer (some ⟨B, O, none⟩))) (hv : c.drop O = v0 :: v1 :: v2 :: v3 :: tl) (hd : isAggD d = true) (hN : Nat.blt dst E.N = true)
    (k : RW P E ops Q rest ((dst, .agg #[v0, v1, v2, v3]) :: G) (pre ++ blk B c te :: r)) : RW P E ops Q (⟨some dst, .load t x, ty, pos, af, none⟩ :: rest) G (pre ++ blk B c te :: r) :=
  RW.load_facts (cs := [v0, v1, v2, v3]) hx hd rfl hN (fun w hw => by
    have h := ((CellsAt.of_blk hw.blk).drop O).take 4
    rw [hv] at h
    simpa using h) k
theorem RW.load_part5 [T : Ty P t d z 5 by_] (pre : List HP) {r : List HP} {B O : Nat} {c tl : List Value} {v0 v1 v2 v3 v4 : Value} {te : TypeId} (hx : ev G x = some (.pointer (some ⟨B, O, none⟩))) (hv : c.drop O = v0 :: v1 :: v2 :: v3 :: v4 :: tl) (hd : isAggD d = true) (hN : Nat.blt dst E.N = true)
    (k : RW P E ops Q rest ((dst, .agg #[v0, v1, v2, v3, v4]) :: G) (pre ++ blk B c te :: r)) : RW P E ops Q (⟨some dst, .load t x, ty, pos, af, none⟩ :: rest) G (pre ++ blk B c te :: r) :=
  RW.load_facts (cs := [v0, v1, v2, v3, v4]) hx hd rfl hN (fun w hw => by
    have h := ((CellsAt.of_blk hw.blk).drop O).take 5
    rw [hv] at h
    simpa using h) k
theorem RW.load_part6 [T : Ty P t d z 6 by_] (pre : List HP) {r : List HP} {B O : Nat} {c tl : List Value} {v0 v1 v2 v3 v4 v5 : Value} {te : TypeId} (hx : ev G x = some (.pointer (some ⟨B, O, none⟩))) (hv : c.drop O = v0 :: v1 :: v2 :: v3 :: v4 :: v5 :: tl) (hd : isAggD d = true) (hN : Nat.blt dst E.N = true)
    (k : RW P E ops Q rest ((dst, .agg #[v0, v1, v2, v3, v4, v5]) :: G) (pre ++ blk B c te :: r)) : RW P E ops Q (⟨some dst, .load t x, ty, pos, af, none⟩ :: rest) G (pre ++ blk B c te :: r) :=
  RW.load_facts (cs := [v0, v1, v2, v3, v4, v5]) hx hd rfl hN (fun w hw => by
    have h := ((CellsAt.of_blk hw.blk).drop O).take 6
    rw [hv] at h
    simpa using h) k
theorem RW.load_part7 [T : Ty P t d z 7 by_] (pre : List HP) {r : List HP} {B O : Nat} {c tl : List Value} {v0 v1 v2 v3 v4 v5 v6 : Value} {te : TypeId} (hx : ev G x = some (.pointer (some ⟨B, O, none⟩))) (hv : c.drop O = v0 :: v1 :: v2 :: v3 :: v4 :: v5 :: v6 :: tl) (hd : isAggD d = true) (hN : Nat.blt dst E.N = true)
    (k : RW P E ops Q rest ((dst, .agg #[v0, v1, v2, v3, v4, v5, v6]) :: G) (pre ++ blk B c te :: r)) : RW P E ops Q (⟨some dst, .load t x, ty, pos, af, none⟩ :: rest) G (pre ++ blk B c te :: r) :=
  RW.load_facts (cs := [v0, v1, v2, v3, v4, v5, v6]) hx hd rfl hN (fun w hw => by
    have h := ((CellsAt.of_blk hw.blk).drop O).take 7
    rw [hv] at h
    simpa using h) k
theorem RW.load_part8 [T : Ty P t d z 8 by_] (pre : List HP) {r : List HP} {B O : Nat} {c tl : List Value} {v0 v1 v2 v3 v4 v5 v6 v7 : Value} {te : TypeId} (hx : ev G x = some (.pointer (some ⟨B, O, none⟩))) (hv : c.drop O = v0 :: v1 :: v2 :: v3 :: v4 :: v5 :: v6 :: v7 :: tl) (hd : isAggD d = true) (hN : Nat.blt dst E.N = true)
    (k : RW P E ops Q rest ((dst, .agg #[v0, v1, v2, v3, v4, v5, v6, v7]) :: G) (pre ++ blk B c te :: r)) : RW P E ops Q (⟨some dst, .load t x, ty, pos, af, none⟩ :: rest) G (pre ++ blk B c te :: r) :=
  RW.load_facts (cs := [v0, v1, v2, v3, v4, v5, v6, v7]) hx hd rfl hN (fun w hw => by
    have h := ((CellsAt.of_blk hw.blk).drop O).take 8
    rw [hv] at h
    simpa using h) k
theorem RW.load_part9 [T : Ty P t d z 9 by_] (pre : List HP) {r : List HP} {B O : Nat} {c tl : List Value} {v0 v1 v2 v3 v4 v5 v6 v7 v8 : Value} {te : TypeId} (hx : ev G x = some (.pointer (some ⟨B, O, none⟩))) (hv : c.drop O = v0 :: v1 :: v2 :: v3 :: v4 :: v5 :: v6 :: v7 :: v8 :: tl) (hd : isAggD d = true) (hN : Nat.blt dst E.N = true)
    (k : RW P E ops Q rest ((dst, .agg #[v0, v1, v2, v3, v4, v5, v6, v7, v8]) :: G) (pre ++ blk B c te :: r)) : RW P E ops Q (⟨some dst, .load t x, ty, pos, af, none⟩ :: rest) G (pre ++ blk B c te :: r) :=
  RW.load_facts (cs := [v0, v1, v2, v3, v4, v5, v6, v7, v8]) hx hd rfl hN (fun w hw => by
    have h := ((CellsAt.of_blk hw.blk).drop O).take 9
    rw [hv] at h
    simpa using h) k

theorem run_storeCells_blk {P : Program} : ∀ (vs : List Value) (i : Nat) (w : World) (c : List Value) (B O : Nat) (te : TypeId), w.heap[B]? = some (.cells c.toArray te (0, 0)) → (∀ v ∈ vs, v.oneCell' = true) → O + i + vs.length ≤ c.length →
    ∃ w', (storeCells ⟨B, O, none⟩ vs i).run P w = .ok () w' ∧ ∀ {w0 : World} {S : Nat → Prop} {pre r : List HP}, St w0 S (pre ++ blk B c te :: r) w → St w0 S (pre ++ blk B (c.take (O + i) ++ vs ++ c.drop (O + i + vs.length)) te :: r) w' := by
  intro vs
  induction vs with
  | nil => intro i w c B O te _ _ _; exact ⟨w, by simp [storeCells], fun h => by simpa using h⟩
  | cons v vs ih =>
    intro i w c B O te hb hv hl
    have hlt : O + i < c.length := by simp at hl; omega
    have hcell : w.cell? ⟨B, O + i, none⟩ = some c[O + i] := cell_of_blk hb (by simp [hlt])
    have hst : (store ⟨B, O + i, none⟩ v).run P w = .ok () (w.setCell ⟨B, O + i, none⟩ v) := by
      rw [run_store _ _ _ _ _ (hv v (by simp))]
      simp [stored, hcell, unfrozen_of_blk hb]
    have hb' : (w.setCell ⟨B, O + i, none⟩ v).heap[B]? = some (.cells (c.set (O + i) v).toArray te (0, 0)) := by
      simp [World.setCell, Array.getElem?_modify, hb]
    obtain ⟨w', hw', hk⟩ := ih (i + 1) (w.setCell ⟨B, O + i, none⟩ v) (c.set (O + i) v) B O te hb' (fun u hu => hv u (by simp [hu])) (by simp at hl ⊢; omega)
    refine ⟨w', ?_, fun h => ?_⟩
    · unfold storeCells
      rw [add_at]
      simp only [Sem.run_bind, hst, Result.andThen]
      exact hw'
    · have := hk (h.store (O + i) v)
      rw [show c.take (O + i) ++ v :: vs ++ c.drop (O + i + (v :: vs).length) = (c.set (O + i) v).take (O + (i + 1)) ++ vs ++ (c.set (O + i) v).drop (O + (i + 1) + vs.length) from ?_]
      · exact this
      · rw [List.drop_set_of_lt (by omega), List.take_set, show O + (i + 1) = O + i + 1 from by omega, List.take_succ_eq_append_getElem hlt]
        rw [List.set_append_right _ _ (by simp; omega)]
        simp [Nat.min_eq_left (Nat.le_of_lt hlt), Nat.add_assoc, Nat.add_comm 1]
/-- A store of one cell into a block known whole. -/
theorem RW.store_blk [T : Ty P t d z 1 by_] (pre : List HP) {r : List HP} {B O : Nat} {c : List Value} {te : TypeId} {dst : Option Nat} (hdst : dst = none) (hx : ev G x = some (.pointer (some ⟨B, O, none⟩))) (hy : ev G y = some v) (hv : v.cells = #[v]) (h1 : v.oneCell' = true) (hl : O < c.length)
    (k : RW P E ops Q rest G (pre ++ blk B (c.set O v) te :: r)) : RW P E ops Q (⟨dst, .store t x y, ty, pos, af, none⟩ :: rest) G (pre ++ blk B c te :: r) := by
  subst hdst
  exact RW.step rfl (fun a w hf hw => by
    have hb := hw.blk
    have hcell : w.cell? ⟨B, O, none⟩ = some c[O] := cell_of_blk hb (by simp [hl])
    have hst : (store ⟨B, O, none⟩ v).run P w = .ok () (w.setCell ⟨B, O, none⟩ v) := by
      rw [run_store _ _ _ _ _ h1]
      simp [stored, hcell, unfrozen_of_blk hb]
    have hrun : (execOp a.eval ⟨none, .store t x y, ty, pos, af, none⟩).run P w = .ok .skip (w.setCell ⟨B, O, none⟩ v) := by
      simp [execOp, Instr.storeAt, Instr.sureAddr, hf.eval hx, hf.eval hy, storeVar, hv, T.runSize, storeCells, Addr.add, hst]
    rw [hrun]
    exact k _ _ (hf.skip _) (hw.store O v))
/-- A store of several. -/
theorem RW.store_part [T : Ty P t d z sz by_] (pre : List HP) {r : List HP} {B O : Nat} {c vs : List Value} {te : TypeId} {dst : Option Nat} (hdst : dst = none) (hx : ev G x = some (.pointer (some ⟨B, O, none⟩))) (hy : ev G y = some (.agg vs.toArray)) (hs : vs.length = sz) (h1 : ∀ v ∈ vs, v.oneCell' = true) (hl : O + vs.length ≤ c.length)
    (k : RW P E ops Q rest G (pre ++ blk B (c.take O ++ vs ++ c.drop (O + vs.length)) te :: r)) : RW P E ops Q (⟨dst, .store t x y, ty, pos, af, none⟩ :: rest) G (pre ++ blk B c te :: r) := by
  subst hdst
  exact RW.step rfl (fun a w hf hw => by
    obtain ⟨w', hw', hk⟩ := run_storeCells_blk (P := P) vs 0 w c B O te hw.blk h1 (by simpa using hl)
    have hrun : (execOp a.eval ⟨none, .store t x y, ty, pos, af, none⟩).run P w = .ok .skip w' := by
      simp [execOp, Instr.storeAt, Instr.sureAddr, hf.eval hx, hf.eval hy, storeVar, Value.cells, T.runSize, hs, hw']
    rw [hrun]
    exact k _ _ (hf.skip _) (by simpa using hk hw))
/-- A whole block. -/
theorem RW.store_whole [T : Ty P t d z sz by_] (pre : List HP) {r : List HP} {B : Nat} {c vs : List Value} {te : TypeId} {dst : Option Nat} (hdst : dst = none) (hx : ev G x = some (.pointer (some ⟨B, 0, none⟩))) (hy : ev G y = some (.agg vs.toArray)) (hs : vs.length = sz) (hl : vs.length = c.length) (h1 : ∀ v ∈ vs, v.oneCell' = true)
    (k : RW P E ops Q rest G (pre ++ blk B vs te :: r)) : RW P E ops Q (⟨dst, .store t x y, ty, pos, af, none⟩ :: rest) G (pre ++ blk B c te :: r) :=
  RW.store_part pre hdst hx hy hs h1 (by omega) (by
    have : c.take 0 ++ vs ++ c.drop (0 + vs.length) = vs := by simp [hl]
    rw [this]; exact k)

end
end
end Go.Proofs.YtbcdgcodnkgdoaaGreat
