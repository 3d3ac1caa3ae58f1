/- The runner for closed calls: composite values, maps, parts of slices; all plain operations together. Conditions: none. -/
import Derived.Test.YtbcdgcodnkgdoaaGreatRu5
set_option linter.unusedVariables false
set_option linter.unusedSimpArgs false
namespace Go.Proofs.YtbcdgcodnkgdoaaGreat.Run
open Go Go.RowKit

theorem flat_den' {σ : Sg} {v : V} {x : Value} (h : den σ v = some x) : denL σ v.flat = some x.cells.toList := by
  cases v <;> first
    | (rename_i l
       obtain ⟨a, h1, rfl⟩ := den_a h
       simpa [V.flat, Value.cells] using h1)
    | (have : ∀ c, x ≠ .agg c := by intro c hc; subst hc; unfold den at h; revert h; first | (intro h; cases h; done) | (split <;> intro h <;> first | (cases h; done) | (revert h; split <;> intro h <;> cases h))
       have hx : x.cells = #[x] := by cases x <;> first | rfl | exact absurd rfl (this _)
       simp only [V.flat, hx]
       exact denL_cons.2 ⟨x, [], h, by simp, rfl⟩)
theorem foldl_over (off : Nat) : ∀ (vs : List Value) (k : Nat) (cs : List Value), off + k + vs.length ≤ cs.length →
    (vs.zipIdx k).foldl (fun (cs : Array Value) (p : Value × Nat) => cs.setIfInBounds (off + p.2) p.1) cs.toArray = (cs.take (off + k) ++ vs ++ cs.drop (off + k + vs.length)).toArray := by
  intro vs
  induction vs with
  | nil => intro k cs h; simp
  | cons v vs ih =>
    intro k cs h
    simp only [List.length_cons] at h
    rw [List.zipIdx_cons, List.foldl_cons]
    have e : cs.toArray.setIfInBounds (off + k) v = (cs.set (off + k) v).toArray := by simp
    simp only [e]
    rw [ih (k + 1) (cs.set (off + k) v) (by simp; omega)]
    congr 1
    rw [List.drop_set_of_lt (by omega), List.take_set, show off + (k + 1) = off + k + 1 from by omega, List.take_succ_eq_append_getElem (by omega), List.set_append_right _ _ (by simp; omega)]
    simp [Nat.min_eq_left (show off + k ≤ cs.length by omega), Nat.add_assoc, Nat.add_comm 1]
theorem fold_over (off : Nat) (vs : Array Value) (cs : List Value) (h : off + vs.size ≤ cs.length) :
    vs.zipIdx.foldl (fun (cs : Array Value) (x : Value × Nat) => cs.setIfInBounds (off + x.2) x.1) cs.toArray = (cs.take off ++ vs.toList ++ cs.drop (off + vs.size)).toArray := by
  have := foldl_over off vs.toList 0 cs (by simpa using h)
  rw [← Array.foldl_toList, Array.toList_zipIdx]
  simpa using this
def PsR (σ : Sg) : List (Nat × V) → List (Nat × Value) → Prop
  | [], [] => True
  | p :: r, p' :: r' => p.1 = p'.1 ∧ den σ p.2 = some p'.2 ∧ PsR σ r r'
  | _, _ => False
theorem xps_ok {σ : Sg} {N : Nat} {fr : T V} {ρ : Operand → Value} : ∀ {l : List (Nat × Operand)} {ps : List (Nat × V)}, xps N fr l = some ps → (∀ x ∈ l.map (·.2), ∀ v, xe N fr x = some v → den σ v = some (ρ x)) → PsR σ ps (l.map fun p => (p.1, ρ p.2)) := by
  intro l
  induction l with
  | nil => intro ps h _; simp [xps] at h; subst h; trivial
  | cons p r ih =>
    intro ps h he
    obtain ⟨i, x⟩ := p
    unfold xps at h
    cases hx : xe N fr x with
    | none => rw [hx] at h; cases h
    | some v =>
      rw [hx] at h
      cases hr : xps N fr r with
      | none => rw [hr] at h; cases h
      | some vs =>
        rw [hr] at h
        obtain rfl := Option.some.inj h
        exact ⟨rfl, he x (by simp) v hx, ih hr (fun y hy => he y (by simp at hy ⊢; exact .inr hy))⟩
theorem fill_ok {σ : Sg} {pl place : Nat → Option (Nat × Nat)} (hp : ∀ i r, pl i = some r → place i = some r) : ∀ {ps : List (Nat × V)} {ps' : List (Nat × Value)} {c d : List V} {c' : List Value}, fillV pl c ps = some d → denL σ c = some c' → PsR σ ps ps' →
    ∃ d', denL σ d = some d' ∧ Instr.fill place c'.toArray ps' = some d'.toArray := by
  intro ps
  induction ps with
  | nil =>
    intro ps' c d c' h hc hps
    cases ps' with
    | nil => obtain rfl := Option.some.inj h; exact ⟨c', hc, rfl⟩
    | cons p r => exact hps.elim
  | cons p r ih =>
    intro ps' c d c' h hc hps
    cases ps' with
    | nil => exact hps.elim
    | cons p' r' =>
      obtain ⟨i, v⟩ := p
      obtain ⟨i', x⟩ := p'
      obtain ⟨rfl, h1, h2⟩ := hps
      simp only at h1
      unfold fillV at h
      split at h
      · rename_i off sz hpl
        split at h
        · rename_i hl
          simp only [Bool.and_eq_true, Nat.beq_eq, Nat.ble_eq] at hl
          have hfl := flat_den' h1
          have hlen := denL_len hfl
          have hcl := denL_len hc
          have hsz : x.cells.size = v.flat.length := by simpa using hlen
          obtain ⟨d', h3, h4⟩ := ih h (denL_over hl.2 hc hfl) h2
          refine ⟨d', h3, ?_⟩
          unfold Instr.fill
          rw [hp _ _ hpl]
          simp only
          rw [if_neg (by simp; omega)]
          have := fold_over off x.cells c' (by omega)
          rw [this]
          have e : x.cells.toList.length = x.cells.size := by simp
          rw [e] at h4
          exact h4
        · cases h
      · cases h
theorem reps_den {σ : Sg} {z : List V} {z' : List Value} (hz : denL σ z = some z') : ∀ n, denL σ (reps n z) = some (List.replicate n z').flatten := by
  intro n
  induction n with
  | zero => show denL σ [] = _; simp
  | succ n ih =>
    have e : reps (n + 1) z = z ++ reps n z := rfl
    rw [e, List.replicate_succ, List.flatten_cons]
    exact denL_append hz ih
theorem range_rep (z : Array Value) (h0 : 0 < z.size) (n : Nat) : (Array.range (n * z.size)).map (fun i => z[i % z.size]!) = (List.replicate n z.toList).flatten.toArray := by
  have key : ∀ n i, (List.replicate n z.toList).flatten[i]? = if i < n * z.size then some z[i % z.size]! else none := by
    intro n
    induction n with
    | zero => intro i; simp
    | succ n ih =>
      intro i
      rw [List.replicate_succ, List.flatten_cons]
      by_cases hi : i < z.size
      · rw [List.getElem?_append_left (by simpa using hi), Nat.mod_eq_of_lt hi, if_pos (by rw [Nat.add_mul]; omega)]
        simp [hi]
      · rw [List.getElem?_append_right (by simp; omega), ih]
        simp only [Array.length_toList]
        have e1 : (i - z.size) % z.size = i % z.size := by
          conv => rhs; rw [show i = (i - z.size) + z.size from by omega, Nat.add_mod_right]
        rw [e1]
        by_cases h2 : i - z.size < n * z.size
        · rw [if_pos h2, if_pos (by rw [Nat.add_mul]; omega)]
        · rw [if_neg h2, if_neg (by rw [Nat.add_mul]; omega)]
  apply Array.ext_getElem?
  intro i
  have := key n i
  simp only [List.getElem?_toArray, this]
  by_cases h : i < n * z.size
  · rw [if_pos h]; simp [h]
  · rw [if_neg h]; simp; omega

section
variable {w0 w : World} {σ : Sg} {h : Hp} {N : Nat} {fr : T V} {ρ : Operand → Value} {q : A} {dst : Option Nat} {ty : TypeId} {pos : String} {af : Array Edge} {g : Option (Nat × Bool)}
theorem pBin {op : BinOp} {t yt : TypeId} {x y : Operand} (e : oBin h op t y (xe N fr x) (xe N fr y) = .ok q) (he : EvO σ N fr ρ #[x, y]) (hc : ∀ c, ρ (.const c) = c) : Says σ w ρ ⟨dst, .binOp op t x y yt, ty, pos, af, g⟩ q.v := by
  unfold oBin at e
  split at e
  · rename_i u v hx hy
    obtain ⟨r, h1, rfl⟩ := with_ok e
    have h2 := he x (by simp) u hx
    have h3 := he y (by simp) v hy
    unfold bop at h1
    split at h1
    · rename_i k a k' b
      obtain ⟨z, h4, h5⟩ := bopN_ok (t := t) h1
      have h6 := den_i h2
      have h7 := den_i h3
      exact ⟨z, by simp [execOp, h6, h7, run_eqGuard_int, h4, Result.andThen], h5⟩
    · obtain ⟨z, h4, h5⟩ := bopE_ok (t := t) (x := x) h1 h2 h3 (fun c hcc => by subst hcc; exact hc c)
      refine ⟨z, ?_, h5⟩
      have := h4 w
      simp only [execOp, Sem.run_bind, this, Result.andThen, Sem.run_pure]
  · cases e
theorem placeOf_struct {t : TypeId} {pl : Nat → Option (Nat × Nat)} (h : placeOf t = some pl) : (∃ fs, PG.underlying t = some (.struct fs) ∧ (∀ f ∈ fs, ∃ sz, szt f.type = some sz) ∧ pl = placeS fs) ∨ ∃ n e sz, PG.underlying t = some (.array n e) ∧ szt e = some sz ∧ pl = fun i => some (i * sz, sz) := by
  unfold placeOf at h
  split at h
  · rename_i fs hs
    split at h
    · rename_i hall
      refine .inl ⟨fs, hs, fun f hf => ?_, (Option.some.inj h).symm⟩
      have := List.all_eq_true.1 hall f (by simpa using hf)
      cases hz : szt f.type with
      | none => rw [hz] at this; cases this
      | some sz => exact ⟨sz, rfl⟩
    · cases h
  · rename_i n e hs
    split at h
    · rename_i sz hz; exact .inr ⟨n, e, sz, hs, hz, (Option.some.inj h).symm⟩
    · cases h
  · cases h
theorem run_places {w : World} {fs : Array Field} (hall : ∀ f ∈ fs, ∃ sz, szt f.type = some sz) :
    (fs.mapM (m := Sem) fun f => do pure (f.offset, ← sizeOf f.type)).run PG w = .ok (fs.map fun f => (f.offset, (szt f.type).getD 0)) w := by
  rw [Array.mapM_eq_mapM_toList]
  have key : ∀ l : List Field, (∀ f ∈ l, ∃ sz, szt f.type = some sz) → (l.mapM (m := Sem) fun f => do pure (f.offset, ← sizeOf f.type)).run PG w = .ok (l.map fun f => (f.offset, (szt f.type).getD 0)) w := by
    intro l
    induction l with
    | nil => intro _; simp
    | cons f l ih =>
      intro hl
      obtain ⟨sz, hs⟩ := hl f (by simp)
      have := ih (fun f hf => hl f (by simp [hf]))
      rw [List.mapM_cons]
      simp only [Sem.run_bind, run_sz hs, this, Result.andThen, Sem.run_pure, hs, Option.getD, List.map_cons]
  have := key fs.toList (fun f hf => hall f (by simpa using hf))
  simp only [Sem.run_map, this]
  simp
  rw [← Array.toList_inj]
  simp
theorem pBuild {t : TypeId} {ps : Array (Nat × Operand)} (e : oBuild h t (xps N fr ps.toList) = .ok q) (he : EvO σ N fr ρ (ps.toList.map (·.2)).toArray) : Says σ w ρ ⟨dst, .build t ps, ty, pos, af, g⟩ q.v := by
  unfold oBuild at e
  split at e
  · rename_i pl z l hp hz hl
    split at e
    · rename_i c hc
      obtain rfl := R.ok.inj e
      obtain ⟨i, zv, h1, h2, h3⟩ := zcs_info hz
      have hz' := ofVs_den (σ := σ) h3
      have hps := xps_ok hl (fun x hx => he x (by simpa using hx))
      have hrz : (zeroValue t).run PG w = .ok zv w := by simp [zeroValue, typeInfo, h1, h2]
      have hparts : (ps.map fun (i, x) => (i, ρ x)).toList = ps.toList.map fun p => (p.1, ρ p.2) := by simp
      rcases placeOf_struct hp with ⟨fs, h4, hall, rfl⟩ | ⟨n, e', sz, h4, h5, rfl⟩
      · have hplace : ∀ i r, placeS fs i = some r → (fs.map fun f => (f.offset, (szt f.type).getD 0))[i]? = some r := fun i r hr => by
          unfold placeS at hr
          split at hr
          · rename_i f hff
            split at hr
            · rename_i sz hs
              rw [Array.getElem?_map, hff]
              simpa [hs] using hr
            · cases hr
          · cases hr
        obtain ⟨d', h6, h7⟩ := fill_ok hplace hc hz' hps
        refine ⟨.agg d'.toArray, ?_, by rw [den, h6]⟩
        have h7' : Instr.fill (fun i => (fs.map fun f => (f.offset, (szt f.type).getD 0))[i]?) zv.cells (ps.map fun (i, x) => (i, ρ x)).toList = some d'.toArray := by
          rw [hparts]; have e : zv.cells.toList.toArray = zv.cells := by simp
          rw [e] at h7; exact h7
        have : (Instr.build t (ps.map fun (i, x) => (i, ρ x))).run PG w = .ok (.agg d'.toArray) w := by
          unfold Instr.build
          simp only [Sem.run_bind, hrz, Result.andThen, run_underlying h4, run_places hall, h7', Sem.run_pure]
        simp [execOp, this, Result.andThen]
      · obtain ⟨d', h6, h7⟩ := fill_ok (place := fun i => some (i * sz, sz)) (fun i r hr => hr) hc hz' hps
        refine ⟨.agg d'.toArray, ?_, by rw [den, h6]⟩
        have h7' : Instr.fill (fun i => some (i * sz, sz)) zv.cells (ps.map fun (i, x) => (i, ρ x)).toList = some d'.toArray := by
          rw [hparts]; simpa using h7
        have : (Instr.build t (ps.map fun (i, x) => (i, ρ x))).run PG w = .ok (.agg d'.toArray) w := by
          unfold Instr.build
          simp only [Sem.run_bind, hrz, Result.andThen, run_underlying h4, run_sz h5, h7', Sem.run_pure]
        simp [execOp, this, Result.andThen]
    · cases e
  · cases e
end
end Go.Proofs.YtbcdgcodnkgdoaaGreat.Run
