/- The runner for closed calls: operations that lay a block. Conditions: none. -/
import Derived.Test.YtbcdgcodnkgdoaaGreatRu8
set_option linter.unusedVariables false
set_option linter.unusedSimpArgs false
set_option maxRecDepth 10000
namespace Go.Proofs.YtbcdgcodnkgdoaaGreat.Run
open Go Go.RowKit

/-- An operation that lays one block, under the next name. -/
def Lays (N : Nat) (fr : T V) (n : Nat) (op : Op) (v : V) (b : B) : Prop := ∀ {σ : Sg} {ρ : Operand → Value} {w : World} {dst : Option Nat} {ty : TypeId} {pos : String} {af : Array Edge} {g : Option (Nat × Bool)}, EvO σ N fr ρ op.operands → σ n = none →
  ∃ cap x o, (execOp ρ ⟨dst, op, ty, pos, af, g⟩).run PG w = .ok (.value x) (w.alloc o) ∧ den (σ.add n (w.heap.size, cap)) v = some x ∧ obj (σ.add n (w.heap.size, cap)) b (w.heap.size, cap) o
theorem over_len2 {c : List V} {o : Nat} {vs : List V} (h : o + vs.length ≤ c.length) : (over c o vs).length = c.length := over_length h
theorem fillV_len {pl : Nat → Option (Nat × Nat)} : ∀ {ps : List (Nat × V)} {c d : List V}, fillV pl c ps = some d → d.length = c.length := by
  intro ps
  induction ps with
  | nil => intro c d h; obtain rfl := Option.some.inj h; rfl
  | cons p r ih =>
    intro c d h
    obtain ⟨i, v⟩ := p
    unfold fillV at h
    split at h
    · split at h
      · rename_i hl
        simp only [Bool.and_eq_true, Nat.beq_eq, Nat.ble_eq] at hl
        rw [ih h, over_length hl.2]
      · cases h
    · cases h
theorem reps_len (n : Nat) (z : List V) : (reps n z).length = n * z.length := by
  induction n with
  | zero => show ([] : List V).length = _; simp
  | succ n ih =>
    have e : reps (n + 1) z = z ++ reps n z := rfl
    rw [e, List.length_append, ih, Nat.add_mul]; omega
theorem fz0 (n : Nat) : fzOk (0, 0) n := .inl rfl
section
variable {h : Hp} {N : Nat} {fr : T V} {q : A}
theorem nAlloc {t : TypeId} (e : oAlloc h t = .ok q) : ∃ b, q.h = h.new b ∧ Lays N fr h.n (.alloc t) q.v b := by
  unfold oAlloc at e
  split at e
  · rename_i z hz
    obtain rfl := R.ok.inj e
    refine ⟨_, rfl, fun {σ ρ w dst ty pos af g} he hn => ?_⟩
    obtain ⟨i, zv, h1, h2, h3⟩ := zcs_info hz
    refine ⟨z.length, .pointer (some ⟨w.heap.size, 0, none⟩), .cells zv.cells t, by simp [execOp, Instr.alloc, zeroValue, typeInfo, h1, h2, newVar, newRow, Result.andThen], by simp [den, Sg.add_self], ?_⟩
    exact ⟨zv.cells.toList, (0, 0), ofVs_den h3, by simp, fz0 _, rfl⟩
  · cases e
theorem nBox {t : TypeId} {x : Operand} (e : oBox h t (xe N fr x) = .ok q) : ∃ b, q.h = h.new b ∧ Lays N fr h.n (.box t x) q.v b := by
  unfold oBox at e
  split at e
  · rename_i v hx
    obtain ⟨h1, h2⟩ := when_ok e
    obtain rfl := R.ok.inj h2
    refine ⟨_, rfl, fun {σ ρ w dst ty pos af g} he hn => ?_⟩
    refine ⟨v.flat.length, .pointer (some ⟨w.heap.size, 0, none⟩), .cells (ρ x).cells t, by simp [execOp, Instr.box, newVar, newRow, Result.andThen], by simp [den, Sg.add_self], ?_⟩
    exact ⟨(ρ x).cells.toList, (0, 0), denL_mono (Sg.le_add hn) _ _ (flat_den' (he x (by simp [Op.operands]) v hx)), by simp, fz0 _, rfl⟩
  · cases e
theorem nBuildSl {t : TypeId} {n : Nat} {ps : Array (Nat × Operand)} (e : oBuildSl h t n (xps N fr ps.toList) = .ok q) : ∃ b, q.h = h.new b ∧ Lays N fr h.n (.buildSlice t n ps) q.v b := by
  unfold oBuildSl at e
  split at e
  · rename_i el l ht hl
    unfold oBuildSl2 at e
    split at e
    · rename_i sz z hs hz
      split at e
      · rename_i c hc
        obtain ⟨h1, h2⟩ := when_ok e
        simp only [Bool.and_eq_true, Nat.beq_eq, Nat.ble_eq, Bool.not_eq_true'] at h1
        obtain ⟨⟨⟨rfl, h3⟩, h4⟩, h5⟩ := h1
        obtain rfl := R.ok.inj h2
        refine ⟨_, rfl, fun {σ ρ w dst ty pos af g} he hn => ?_⟩
        obtain ⟨i, zv, k1, k2, k3⟩ := zcs_info hz
        have hzd := ofVs_den (σ := σ) k3
        have hzl : zv.cells.size = z.length := by have := denL_len hzd; simpa using this
        have hps := xps_ok hl (fun x hx => he x (by simpa [Op.operands] using hx))
        have hparts : (ps.map fun (i, x) => (i, ρ x)).toList = ps.toList.map fun p => (p.1, ρ p.2) := by simp
        have h3' : 0 < z.length := Nat.pos_of_ne_zero (fun hz0 => by rw [hz0] at h3; cases h3)
        have hrep := reps_den hzd n
        obtain ⟨d', h6, h7⟩ := fill_ok (place := fun i => some (i * z.length, z.length)) (fun i r hr => hr) hc hrep hps
        rw [← hparts] at h7
        have hrr := range_rep zv.cells (by omega) n
        rw [hzl] at hrr
        have hlen : d'.length = n * z.length := by rw [denL_len h6, fillV_len hc, reps_len]
        refine ⟨n, .slice (some ⟨w.heap.size, 0, none⟩) n n, .cells d'.toArray el, ?_, by simp [den, Sg.add_self], ?_⟩
        · have hrz : (zeroValue el).run PG w = .ok zv w := by simp [zeroValue, typeInfo, k1, k2]
          have hn0 : ¬ (n * z.length > 2 ^ 24) := by omega
          have : (Instr.buildSlice t n (ps.map fun (i, x) => (i, ρ x))).run PG w = .ok (.slice (some ⟨w.heap.size, 0, none⟩) n n) (w.alloc (.cells d'.toArray el)) := by
            unfold Instr.buildSlice
            simp only [Sem.run_bind, run_underlying ht, Result.andThen, run_sz hs, hn0, if_false]
            by_cases hn1 : n * z.length = 0
            · have hm : ∀ f : Nat → Value, (Array.range (n * z.length)).map f = (List.replicate n zv.cells.toList).flatten.toArray := fun f => by
                rw [← hrr, hn1]; simp
              rw [if_pos hn1]
              simp only [Sem.run_bind, Sem.run_pure, Result.andThen, hm, h7, newRow]
              simp [Result.andThen]
            · rw [if_neg hn1]
              simp only [Sem.run_bind, hrz, Sem.run_pure, Result.andThen, hzl, hrr, h7, newRow]
              simp [Result.andThen]
          simp [execOp, this, Result.andThen]
        · refine ⟨d', [], (0, 0), z.length, hs, denL_mono (Sg.le_add hn) _ _ h6, by simp, fz0 _, by simpa using hlen, ?_⟩
          show n ≤ maxN
          have : n ≤ n * z.length := Nat.le_mul_of_pos_right n h3'
          unfold maxN; omega
      · cases e
    · cases e
  · cases e
theorem nMap {t : TypeId} {r : Option Operand} (e : oMakeMap h r = .ok q) : ∃ b, q.h = h.new b ∧ Lays N fr h.n (.makeMap t r) q.v b := by
  unfold oMakeMap at e
  split at e
  · obtain rfl := R.ok.inj e
    refine ⟨_, rfl, fun {σ ρ w dst ty pos af g} he hn => ⟨0, .map (some w.heap.size), .map #[] 0, by simp [execOp, Instr.makeMap, Result.andThen], by simp [den, Sg.add_self], [], 0, trivial, rfl⟩⟩
  · cases e
theorem nMakeSl {t : TypeId} {x y : Operand} (e : oMakeSl h t (xe N fr x) (xe N fr y) = .ok q) : ∃ b, q.h = h.new b ∧ Lays N fr h.n (.makeSlice t x y) q.v b := by
  unfold oMakeSl at e
  split at e
  · rename_i u v hx hy
    unfold makeSl at e
    split at e
    · rename_i k a k' b
      split at e
      · rename_i el ht
        split at e
        · rename_i sz by_ z hs hb hz
          obtain ⟨h1, h2⟩ := when_ok e
          simp only [Bool.and_eq_true, Nat.beq_eq, Nat.ble_eq, Bool.not_eq_true', decide_eq_true_eq] at h1
          obtain ⟨⟨⟨⟨⟨h3, h4⟩, h5⟩, h6⟩, h7⟩, h8⟩ := h1
          subst h7
          obtain rfl := R.ok.inj h2
          refine ⟨_, rfl, fun {σ ρ w dst ty pos af g} he hn => ?_⟩
          have hrx : ρ x = .int k a := den_i (he x (by simp [Op.operands]) _ hx)
          have hry : ρ y = .int k' b := den_i (he y (by simp [Op.operands]) _ hy)
          subst h4
          obtain ⟨n, rfl⟩ := Int.eq_ofNat_of_zero_le h3
          obtain ⟨i, zv, k1, k2, k3⟩ := zcs_info hz
          obtain ⟨i', z', k1', _, k4⟩ := szt_info hs
          rw [k1] at k1'
          obtain rfl := Option.some.inj k1'
          have k5 : i.bytes = by_ := by unfold byt at hb; rw [k1] at hb; exact Option.some.inj hb
          have hzd := ofVs_den (σ := σ) k3
          have hzl : zv.cells.size = z.length := by have := denL_len hzd; simpa using this
          have h5' : n ≤ 1000000 := by omega
          have hbi : (i.bytes : Int) * (n : Int) ≤ 281474976710656 := by
            rw [k5, ← Int.natCast_mul]
            have : by_ * n ≤ 1000 * 1000000 := Nat.mul_le_mul h6 h5'
            omega
          have hm := run_make (P := PG) w t el i zv ht k1 k2 k k' (n : Int) (n : Int) (by omega) (by omega) hbi (by omega)
          have hcells : madeCells zv.cells ((n : Int).toNat * i.size) = (List.replicate n zv.cells.toList).flatten.toArray := by
            have := made_flat zv.cells.toList n
            rw [k4, Int.toNat_natCast, ← hzl]
            unfold madeCells
            simpa using this
          rw [hcells, Int.toNat_natCast] at hm
          have hrun : (execOp ρ ⟨dst, .makeSlice t x y, ty, pos, af, g⟩).run PG w = .ok (.value (.slice (some ⟨w.heap.size, 0, none⟩) n n)) (w.alloc (.cells (List.replicate n zv.cells.toList).flatten.toArray el)) := by
            simp only [execOp, hrx, hry, Sem.run_bind, hm, Result.andThen]
            rfl
          refine ⟨n, _, _, hrun, by simp [den, Sg.add_self], ?_⟩
          refine ⟨(List.replicate n zv.cells.toList).flatten, [], (0, 0), z.length, hs, by rw [Int.toNat_natCast]; exact denL_mono (Sg.le_add hn) _ _ (reps_den hzd n), by simp, fz0 _, ?_, ?_⟩
          · rw [List.append_nil, flatten_len (sz := z.length) (by intro x hx; rw [List.eq_of_mem_replicate hx]; simpa using hzl)]; simp
          · show n ≤ maxN
            unfold maxN; omega
        · cases e
      · cases e
    · cases e
  · cases e
/-- An operation that lays a block. -/
theorem new_ok {op : Op} (hk : kindOp op = 2) (e : opL N fr h op = .ok q) : ∃ b, q.h = h.new b ∧ Lays N fr h.n op q.v b := by
  cases op <;> first
    | (cases e; done)
    | (exact nAlloc e)
    | (exact nBox e)
    | (exact nBuildSl e)
    | (exact nMap e)
    | (exact nMakeSl e)
    | (simp [kindOp] at hk; done)
    | (exfalso; revert hk; simp only [kindOp, kindCv]; split <;> simp; done)
    | (exfalso; revert hk; rename_i c; obtain ⟨cl, args, ats⟩ := c; simp only [kindOp, kindC]; cases cl <;> simp [kindB]; split <;> simp; done)
end
end Go.Proofs.YtbcdgcodnkgdoaaGreat.Run
