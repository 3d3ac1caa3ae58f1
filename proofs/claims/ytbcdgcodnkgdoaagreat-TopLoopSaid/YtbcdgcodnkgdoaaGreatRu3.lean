/- The runner for closed calls: plain operations and those that read. Conditions: none. -/
import Derived.Test.YtbcdgcodnkgdoaaGreatRu2
import Derived.KernelRfl
set_option linter.unusedVariables false
set_option linter.unusedSimpArgs false
namespace Go.Proofs.YtbcdgcodnkgdoaaGreat.Run
open Go Go.RowKit

/-! ### answers -/
theorem bind_ok {α β : Type} {r : R α} {f : α → R β} {y : β} (h : r.bind f = .ok y) : ∃ x, r = .ok x ∧ f x = .ok y := by
  cases r with
  | ok x => exact ⟨x, rfl, h⟩
  | er l => cases h
theorem when_ok {α : Type} {k : Nat} {b : Bool} {r : R α} {y : α} (h : R.when k b r = .ok y) : b = true ∧ r = .ok y := by
  cases b with
  | true => exact ⟨rfl, h⟩
  | false => cases h
theorem of_ok {α : Type} {k : Nat} {o : Option α} {y : α} (h : R.of k o = .ok y) : o = some y := by
  cases o with
  | none => cases h
  | some x => exact congrArg some (R.ok.inj h)
theorem tag_ok {α : Type} {k : Nat} {r : R α} {y : α} (h : R.tag k r = .ok y) : r = .ok y := by
  cases r with
  | ok x => exact h
  | er l => cases h
theorem o1_ok {h : Hp} {k : Nat} {o : Option V} {q : A} (e : o1 h k o = .ok q) : ∃ v, o = some v ∧ q = ⟨v, h⟩ := by
  cases o with
  | none => cases e
  | some v => exact ⟨v, rfl, (R.ok.inj e).symm⟩
theorem with_ok {h : Hp} {r : R V} {q : A} (e : with_ h r = .ok q) : ∃ v, r = .ok v ∧ q = ⟨v, h⟩ := by
  obtain ⟨v, h1, h2⟩ := bind_ok e
  exact ⟨v, h1, (R.ok.inj h2).symm⟩

/-! ### types -/
theorem szt_info {t : TypeId} {sz : Nat} (h : szt t = some sz) : ∃ i z, PG.info? t = some i ∧ i.zero = some z ∧ i.size = sz := by
  unfold szt at h
  cases hi : PG.info? t with
  | none => rw [hi] at h; cases h
  | some i =>
    rw [hi] at h
    simp only at h
    cases hz : i.zero with
    | none => rw [hz] at h; cases h
    | some z => rw [hz] at h; exact ⟨i, z, rfl, hz, Option.some.inj h⟩
theorem run_sz {t : TypeId} {sz : Nat} (h : szt t = some sz) (w : World) : (sizeOf t).run PG w = .ok sz w := by
  obtain ⟨i, z, hi, _, hs⟩ := szt_info h
  simp [sizeOf, typeInfo, hi, hs]
theorem zcs_info {t : TypeId} {c : List V} (h : zcs t = some c) : ∃ i z, PG.info? t = some i ∧ i.zero = some z ∧ ofVs z.cells.toList = some c := by
  unfold zcs at h
  cases hi : PG.info? t with
  | none => rw [hi] at h; cases h
  | some i =>
    rw [hi] at h
    simp only at h
    cases hz : i.zero with
    | none => rw [hz] at h; cases h
    | some z => rw [hz] at h; exact ⟨i, z, rfl, hz, h⟩
theorem run_agg {t : TypeId} {d : TypeDesc} (h : PG.underlying t = some d) (w : World) : (isAgg t).run PG w = .ok (isAggD d) w := by
  cases d <;> simp [isAgg, run_underlying h, isAggD]
theorem rdt_none {t : TypeId} (h : rdt t = some none) : ∃ d, PG.underlying t = some d ∧ isAggD d = false := by
  unfold rdt at h
  cases hd : PG.underlying t with
  | none => rw [hd] at h; cases h
  | some d =>
    rw [hd] at h
    simp only at h
    cases ha : isAggD d with
    | false => exact ⟨d, rfl, ha⟩
    | true =>
      rw [ha] at h
      simp only at h
      cases hs : szt t with
      | none => rw [hs] at h; cases h
      | some n => rw [hs] at h; cases h
theorem rdt_some {t : TypeId} {n : Nat} (h : rdt t = some (some n)) : ∃ d, PG.underlying t = some d ∧ isAggD d = true ∧ szt t = some n := by
  unfold rdt at h
  cases hd : PG.underlying t with
  | none => rw [hd] at h; cases h
  | some d =>
    rw [hd] at h
    simp only at h
    cases ha : isAggD d with
    | false => rw [ha] at h; cases h
    | true =>
      rw [ha] at h
      simp only at h
      cases hs : szt t with
      | none => rw [hs] at h; cases h
      | some m => rw [hs] at h; exact ⟨d, rfl, ha, by rw [← Option.some.inj (Option.some.inj h)]⟩
/-- A part of cells that are told. -/
theorem rdC_ok {t : TypeId} {c : List V} {o : Nat} {v : V} (h : rdC (rdt t) c o = .ok v) :
    (∃ d, PG.underlying t = some d ∧ isAggD d = false ∧ c[o]? = some v) ∨ (∃ d n, PG.underlying t = some d ∧ isAggD d = true ∧ szt t = some n ∧ o + n ≤ c.length ∧ v = .a ((c.drop o).take n)) := by
  cases hr : rdt t with
  | none => rw [hr] at h; cases h
  | some q =>
    rw [hr] at h
    cases q with
    | none =>
      obtain ⟨d, h1, h2⟩ := rdt_none hr
      exact .inl ⟨d, h1, h2, of_ok h⟩
    | some n =>
      obtain ⟨d, h1, h2, h3⟩ := rdt_some hr
      obtain ⟨h4, h5⟩ := when_ok h
      exact .inr ⟨d, n, h1, h2, h3, by simpa [Nat.ble_eq] using h4, (R.ok.inj h5).symm⟩
theorem part_ok {σ : Sg} {t : TypeId} {c : List V} {c' : List Value} {o : Nat} {v : V} (h : rdC (rdt t) c o = .ok v) (hc : denL σ c = some c') : ∃ x, den σ v = some x ∧ ∀ w, (part t c'.toArray o).run PG w = .ok x w := by
  rcases rdC_ok h with ⟨d, h1, h2, h3⟩ | ⟨d, n, h1, h2, h3, h4, rfl⟩
  · obtain ⟨x, h4, h5⟩ := denL_at hc h3
    exact ⟨x, h5, fun w => by simp [part, run_agg h1, h2, h4, Result.andThen]⟩
  · refine ⟨.agg ((c'.drop o).take n).toArray, by rw [den, denL_take n (denL_drop o hc)], fun w => ?_⟩
    simp [part, run_agg h1, h2, run_sz h3, Result.andThen, List.extract_eq_take_drop]
theorem rd_ok {w0 w : World} {σ : Sg} {h : Hp} {t : TypeId} {u v : V} {x : Value} (H : DenG w0 σ h.get w) (e : rd h t u = .ok v) (hu : den σ u = some x) : ∃ A y, x = .pointer (some A) ∧ den σ v = some y ∧ (loadVar t A).run PG w = .ok y w := by
  unfold rd at e
  split at e
  · rename_i m o
    cases hr : h.row m with
    | none => rw [hr] at e; cases e
    | some c =>
      rw [hr] at e
      obtain ⟨q, c', rest, te, fz, h1, h2, h3, h4⟩ := H.row hr
      have hx : x = .pointer (some ⟨q.1, o, none⟩) := by rw [den, h1] at hu; exact (Option.some.inj hu).symm
      refine ⟨⟨q.1, o, none⟩, ?_⟩
      rcases rdC_ok e with ⟨d, k1, k2, k3⟩ | ⟨d, n, k1, k2, k3, k4, rfl⟩
      · obtain ⟨y, h5, h6⟩ := denL_at h2 k3
        refine ⟨y, hx, h6, ?_⟩
        have hc : w.cell? ⟨q.1, o, none⟩ = some y := by
          rw [cell_row h3, List.getElem?_append_left (List.getElem?_eq_some_iff.1 h5).1]; exact h5
        simp [loadVar, run_agg k1, k2, hc, Result.andThen]
      · refine ⟨.agg ((c'.drop o).take n).toArray, hx, by rw [den, denL_take n (denL_drop o h2)], ?_⟩
        have hl := denL_len h2
        have hcs : CellsAt w q.1 o ((c'.drop o).take n) := fun i v hv => cells_row h3 o i v (by
          rw [List.getElem?_take] at hv
          split at hv
          · exact hv
          · cases hv)
        have hn : ((c'.drop o).take n).length = n := by simp; omega
        have := run_loadCells (P := PG) hcs
        rw [hn] at this
        simp [loadVar, run_agg k1, k2, run_sz k3, this, Result.andThen]
  · cases e

/-! ### equality -/
theorem eqInts_cons {u v : V} {x y : List V} {c : Bool} (h : eqInts (u :: x) (v :: y) = some c) : ∃ k a b c', u = .i k a ∧ v = .i k b ∧ eqInts x y = some c' ∧ c = (decide (a = b) && c') := by
  unfold eqInts at h
  split at h
  · rename_i h1; cases h1
  · rename_i k a r k' b q h1 h2
    obtain ⟨rfl, rfl⟩ := List.cons.inj h1
    obtain ⟨rfl, rfl⟩ := List.cons.inj h2
    split at h
    · rename_i hk
      obtain rfl := of_decide_eq_true hk
      split at h
      · rename_i c' hc
        exact ⟨k, a, b, c', rfl, rfl, hc, (Option.some.inj h).symm⟩
      · cases h
    · cases h
  · cases h
theorem eqInts_nil {c : Bool} (h : eqInts [] [] = some c) : c = true := (Option.some.inj h).symm
theorem denI {σ : Sg} {k : IntKind} {a : Int} {x : Value} (h : den σ (.i k a) = some x) : x = .int k a := by rw [den] at h; exact (Option.some.inj h).symm
theorem equal_pair (w : World) (k k2 : IntKind) (a b a' b' : Int) : (Op.equalIn 10000 111 (.agg #[.int k a, .int k2 b]) (.agg #[.int k a', .int k2 b'])).run PG w = .ok (decide (a = a') && decide (b = b')) w := by
  rw [run_equalIn_agg w 9999 111 _ _ (by simp [Program.fieldsOf, Tryz.underlying111]) Tryz.stoodInHeld111]
  have h3 : PG.underlying 3 = some (.int .i64) := Tryz.underlying3
  have p : ∀ (xs : Array Value) (o : Nat) (v : Value), xs[o]? = some v → (part 3 xs o).run PG w = .ok v w := fun xs o v h => by simp [part, run_agg h3, isAggD, h, Result.andThen]
  have q : ∀ (d : Nat) (k : IntKind) (a b : Int), (Op.equalIn (d + 1) 3 (.int k a) (.int k b)).run PG w = .ok (a == b) w := fun d k a b => run_equalIn_int w d 3 k .i64 a b h3
  have p1 := p #[.int k a, .int k2 b] 0 (.int k a) rfl
  have p2 := p #[.int k a, .int k2 b] 1 (.int k2 b) rfl
  have p3 := p #[.int k a', .int k2 b'] 0 (.int k a') rfl
  have p4 := p #[.int k a', .int k2 b'] 1 (.int k2 b') rfl
  have q1 := q 9998 k a a'
  have q2 := q 9998 k2 b b'
  simp [Program.fieldsOf, Tryz.underlying111, Op.eqFields, p1, p2, p3, p4, q1, q2, Result.andThen]
  by_cases h1 : a = a' <;> by_cases h2 : b = b' <;> simp [h1, h2]
theorem equal_four (w : World) (k0 k1 k2 k3 : IntKind) (a0 a1 a2 a3 b0 b1 b2 b3 : Int) : (Op.equalIn 10000 95 (.agg #[.int k0 a0, .int k1 a1, .int k2 a2, .int k3 a3]) (.agg #[.int k0 b0, .int k1 b1, .int k2 b2, .int k3 b3])).run PG w =
    .ok (decide (a0 = b0) && (decide (a1 = b1) && (decide (a2 = b2) && decide (a3 = b3)))) w := by
  have h95 : PG.underlying 95 = some (.array 4 5) := Tryz.underlying95
  have h5 : PG.underlying 5 = some (.int .u8) := Tryz.underlying5
  obtain ⟨i, z, hi, _, hs⟩ := szt_info (t := 5) (sz := 1) (by kernel_rfl)
  rw [run_equalIn_array w 9999 _ _ h95 hi]
  have hcell : PG.cellsOf 5 = 1 := by kernel_rfl
  have p : ∀ (xs : Array Value) (o : Nat) (v : Value), xs[o]? = some v → (part 5 xs o).run PG w = .ok v w := fun xs o v h => by simp [part, run_agg h5, isAggD, h, Result.andThen]
  have q : ∀ (d : Nat) (k : IntKind) (a b : Int), (Op.equalIn (d + 1) 5 (.int k a) (.int k b)).run PG w = .ok (a == b) w := fun d k a b => run_equalIn_int w d 5 k .u8 a b h5
  have p0 := p #[.int k0 a0, .int k1 a1, .int k2 a2, .int k3 a3] 0 _ rfl
  have p1 := p #[.int k0 a0, .int k1 a1, .int k2 a2, .int k3 a3] 1 _ rfl
  have p2 := p #[.int k0 a0, .int k1 a1, .int k2 a2, .int k3 a3] 2 _ rfl
  have p3 := p #[.int k0 a0, .int k1 a1, .int k2 a2, .int k3 a3] 3 _ rfl
  have r0 := p #[.int k0 b0, .int k1 b1, .int k2 b2, .int k3 b3] 0 _ rfl
  have r1 := p #[.int k0 b0, .int k1 b1, .int k2 b2, .int k3 b3] 1 _ rfl
  have r2 := p #[.int k0 b0, .int k1 b1, .int k2 b2, .int k3 b3] 2 _ rfl
  have r3 := p #[.int k0 b0, .int k1 b1, .int k2 b2, .int k3 b3] 3 _ rfl
  have q0 := q 9998 k0 a0 b0
  have q1 := q 9998 k1 a1 b1
  have q2 := q 9998 k2 a2 b2
  have q3 := q 9998 k3 a3 b3
  simp [Op.eqItems, hcell, List.range_succ, p0, p1, p2, p3, r0, r1, r2, r3, q0, q1, q2, q3, Result.andThen]
  by_cases h0 : a0 = b0 <;> by_cases h1 : a1 = b1 <;> by_cases h2 : a2 = b2 <;> by_cases h3 : a3 = b3 <;> simp [h0, h1, h2, h3]
/-- What it says of rows of numbers. -/
theorem eqA_ok {σ : Sg} {t : TypeId} {x y : List V} {xs ys : List Value} {c : Bool} (h : eqA t x y = some c) (hx : denL σ x = some xs) (hy : denL σ y = some ys) :
    PG.eqGuardType PG.depth t = false ∧ ∀ w, (Op.equalIn 10000 t (.agg xs.toArray) (.agg ys.toArray)).run PG w = .ok c w := by
  unfold eqA at h
  split at h
  · rename_i sz het hsz
    split at h
    · rename_i hl
      simp only [Bool.and_eq_true, Nat.beq_eq] at hl
      have ht : t = 111 ∨ t = 95 := by
        unfold et at het
        simpa using het
      rcases ht with rfl | rfl
      · have : sz = 2 := by rw [show szt 111 = some 2 from by kernel_rfl] at hsz; exact (Option.some.inj hsz).symm
        subst this
        refine ⟨Tryz.eqGuardType111, fun w => ?_⟩
        match x, y, hl with
        | [u1, u2], [v1, v2], _ =>
          obtain ⟨k, a, b, c1, rfl, rfl, h1, rfl⟩ := eqInts_cons h
          obtain ⟨k2, a2, b2, c2, rfl, rfl, h2, rfl⟩ := eqInts_cons h1
          obtain rfl := eqInts_nil h2
          obtain ⟨x1, r1, e1, hx1, rfl⟩ := denL_cons.1 hx
          obtain ⟨x2, r2, e2, hx2, rfl⟩ := denL_cons.1 hx1
          obtain ⟨y1, s1, f1, hy1, rfl⟩ := denL_cons.1 hy
          obtain ⟨y2, s2, f2, hy2, rfl⟩ := denL_cons.1 hy1
          simp only [denL_nil, Option.some.injEq] at hx2 hy2
          subst hx2; subst hy2
          obtain rfl := denI e1; obtain rfl := denI e2; obtain rfl := denI f1; obtain rfl := denI f2
          rw [equal_pair]
          simp
      · have : sz = 4 := by rw [show szt 95 = some 4 from by kernel_rfl] at hsz; exact (Option.some.inj hsz).symm
        subst this
        refine ⟨Tryz.eqGuardType95, fun w => ?_⟩
        match x, y, hl with
        | [u1, u2, u3, u4], [v1, v2, v3, v4], _ =>
          obtain ⟨k, a, b, c1, rfl, rfl, h1, rfl⟩ := eqInts_cons h
          obtain ⟨k2, a2, b2, c2, rfl, rfl, h2, rfl⟩ := eqInts_cons h1
          obtain ⟨k3, a3, b3, c3, rfl, rfl, h3, rfl⟩ := eqInts_cons h2
          obtain ⟨k4, a4, b4, c4, rfl, rfl, h4, rfl⟩ := eqInts_cons h3
          obtain rfl := eqInts_nil h4
          obtain ⟨x1, r1, e1, hx1, rfl⟩ := denL_cons.1 hx
          obtain ⟨x2, r2, e2, hx2, rfl⟩ := denL_cons.1 hx1
          obtain ⟨x3, r3, e3, hx3, rfl⟩ := denL_cons.1 hx2
          obtain ⟨x4, r4, e4, hx4, rfl⟩ := denL_cons.1 hx3
          obtain ⟨y1, s1, f1, hy1, rfl⟩ := denL_cons.1 hy
          obtain ⟨y2, s2, f2, hy2, rfl⟩ := denL_cons.1 hy1
          obtain ⟨y3, s3, f3, hy3, rfl⟩ := denL_cons.1 hy2
          obtain ⟨y4, s4, f4, hy4, rfl⟩ := denL_cons.1 hy3
          simp only [denL_nil, Option.some.injEq] at hx4 hy4
          subst hx4; subst hy4
          obtain rfl := denI e1; obtain rfl := denI e2; obtain rfl := denI e3; obtain rfl := denI e4
          obtain rfl := denI f1; obtain rfl := denI f2; obtain rfl := denI f3; obtain rfl := denI f4
          rw [equal_four]
          simp
    · cases h
  · cases h
end Go.Proofs.YtbcdgcodnkgdoaaGreat.Run
