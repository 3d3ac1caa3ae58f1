/- The calculus, tenth part: stores into data of one's own. Conditions: none; everything holds over any program. -/
import Derived.Test.YtkfmlekomfnleaaJ
set_option linter.unusedVariables false
set_option linter.unusedSimpArgs false
namespace Go.Proofs.Ytkfmlekomfnleaa
open Go Go.RowKit

theorem setCell_heap (w : World) (p : Addr) (v : Value) (i : Nat) : (w.setCell p v).heap[i]? = (w.heap[i]?).map fun o => if i = p.block then (match o with | .cells c t fr => .cells (if p.spot.isSome then c else c.setIfInBounds p.off v) t fr | o => o) else o := by
  simp only [World.setCell, Array.getElem?_modify]
  by_cases h : i = p.block
  · subst h
    rw [if_pos rfl]
    cases w.heap[p.block]? with
    | none => rfl
    | some o => cases o <;> simp
  · rw [if_neg (Ne.symm h)]
    cases w.heap[i]? <;> simp [h]
theorem setCell_frozen (w : World) (p q : Addr) (v : Value) : (w.setCell p v).frozen? q = w.frozen? q := by
  unfold World.frozen?
  rw [setCell_heap]
  cases w.heap[q.block]? with
  | none => rfl
  | some o =>
    by_cases h : q.block = p.block
    · cases o <;> simp [h]
    · cases o <;> simp [h]
theorem setCell_cell {w : World} {p q : Addr} {v u : Value} (h : w.cell? q = some u) : ∃ u', (w.setCell p v).cell? q = some u' := by
  unfold World.cell? at h ⊢
  rw [setCell_heap]
  cases ho : w.heap[q.block]? with
  | none => rw [ho] at h; cases h
  | some o =>
    rw [ho] at h
    cases o with
    | cells c t fr =>
      by_cases hs : q.spot.isSome = true
      · simp [hs] at h
      · simp only [hs] at h
        by_cases hb : q.block = p.block
        · simp only [Option.map_some, hb, if_true, hs]
          have hlt := (Array.getElem?_eq_some_iff.1 h).1
          refine ⟨_, Array.getElem?_eq_getElem (?_ : q.off < (if p.spot.isSome = true then c else c.setIfInBounds p.off v).size)⟩
          split <;> simpa using hlt
        · simp only [Option.map_some, hb, if_false, hs]
          exact ⟨u, h⟩
    | _ => cases h
/-- Cells of one's own, whatever they hold. -/
def areaHP (φ : Nat → Nat → Prop) : HP where
  p w F := ∀ B O, φ B O → ∃ v, mem w F B O v
  st := fun h _ k B O hb => (k B O hb).imp fun v hv => mem_same h _ _ _ hv
  up := fun h k B O hb => (k B O hb).imp fun v hv => mem_up h _ _ _ hv
theorem St.store_area {w0 w : World} {S : Nat → Prop} {pre r : List HP} {φ : Nat → Nat → Prop} {B O : Nat} (h : St w0 S (pre ++ areaHP φ :: r) w) (hφ : φ B O) (v : Value) : St w0 S (pre ++ areaHP φ :: r) (w.setCell ⟨B, O, none⟩ v) := by
  obtain ⟨F, hF, hc, hr⟩ := Sep.pull h.sep
  obtain ⟨v0, hv0⟩ := hc B O hφ
  have hb : F B := hv0.1.1
  refine ⟨h.kp.trans (S2 := fun i => i = B) (Keeps.set w _ v rfl) (fun i hi => hi ▸ (hF B hb).1), Sep.push ⟨F, fun i hi => ⟨(hF i hi).1, by rw [heap_set_size]; exact (hF i hi).2⟩, fun B' O' hb' => ?_, ?_⟩⟩
  · obtain ⟨u, hu⟩ := hc B' O' hb'
    obtain ⟨u', hu'⟩ := setCell_cell (p := ⟨B, O, none⟩) (v := v) hu.2
    exact ⟨u', ⟨hu.1.1, by rw [setCell_frozen]; exact hu.1.2⟩, hu'⟩
  · exact Sep.keep (fun i hi _ => heap_set_ne w _ v i (fun e => hi.2 (e ▸ hb))) (by rw [heap_set_size]; exact Nat.le_refl _) hr
theorem RW.store_area {P : Program} {E : Env} {ops : Array Oper} {Q : Pst} {rest : List Oper} {G : List (Nat × Value)} {ty : TypeId} {pos : String} {af : Array Edge} {t : TypeId} {d : TypeDesc} {z v : Value} {by_ : Nat} {x y : Operand} [T : Ty P t d z 1 by_] (pre : List HP) {r : List HP} {φ : Nat → Nat → Prop} {B O : Nat} {dst : Option Nat} (hdst : dst = none)
    (hx : ev G x = some (.pointer (some ⟨B, O, none⟩))) (hy : ev G y = some v) (hv : v.cells = #[v]) (h1 : v.oneCell' = true) (hφ : φ B O) (k : RW P E ops Q rest G (pre ++ areaHP φ :: r)) : RW P E ops Q (⟨dst, .store t x y, ty, pos, af, none⟩ :: rest) G (pre ++ areaHP φ :: r) := by
  subst hdst
  exact RW.step rfl (fun a w hf hw => by
    obtain ⟨F, hp, _⟩ := hw.get
    obtain ⟨v0, hv0⟩ := hp B O hφ
    have hcell := hv0.2
    have hst : (store ⟨B, O, none⟩ v).run P w = .ok () (w.setCell ⟨B, O, none⟩ v) := by
      rw [run_store _ _ _ _ _ h1]
      simp [stored, hcell, hv0.1.2]
    have hrun : (execOp a.eval ⟨none, .store t x y, ty, pos, af, none⟩).run P w = .ok .skip (w.setCell ⟨B, O, none⟩ v) := by
      simp [execOp, Instr.storeAt, Instr.sureAddr, hf.eval hx, hf.eval hy, storeVar, hv, T.runSize, storeCells, Addr.add, hst]
    rw [hrun]
    exact k _ _ (hf.skip _) (hw.store_area hφ v))
end Go.Proofs.Ytkfmlekomfnleaa
