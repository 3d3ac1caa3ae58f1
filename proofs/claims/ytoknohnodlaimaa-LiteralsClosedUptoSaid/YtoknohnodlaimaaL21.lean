/- The plain law of mates: what may be is in conflict just with its mates. Conditions: none. -/
import Derived.Test.YtoknohnodlaimaaL13
import Derived.Test.YtoknohnodlaimaaL10
import Derived.Test.YtoknohnodlaimaaL19
set_option linter.unusedVariables false
set_option linter.unusedSimpArgs false
namespace Go.Proofs.Ytoknohnodlaimaa
open Go Go.RowKit

theorem mem_addD {ls : List LitD} {x z : LitD} : z ∈ addD ls x ↔ z ∈ ls ∨ z = x := by
  unfold addD
  split
  · rename_i hf
    constructor
    · exact .inl
    · rintro (h | rfl)
      · exact h
      · unfold foundD at hf
        cases hb : ls[bsD ls z]? with
        | none => rw [hb] at hf; cases hf
        | some y =>
          rw [hb] at hf
          have : y = z := cmpLit_zero.1 (of_decide_eq_true hf)
          subst this
          exact List.mem_of_getElem? hb
  · rw [List.mem_append, List.mem_append, List.mem_singleton]
    constructor
    · rintro ((h | h) | h)
      · exact .inl (List.mem_of_mem_take h)
      · exact .inr h
      · exact .inl (List.mem_of_mem_drop h)
    · rintro (h | h)
      · rw [← List.take_append_drop (bsD ls x) ls, List.mem_append] at h
        exact h.elim (fun k => .inl (.inl k)) .inr
      · exact .inl (.inr h)
theorem mem_putV {l : LitD} {vs : List Int} : ∀ {o : List LitD} {z : LitD}, z ∈ vs.foldl (putV l) o ↔ z ∈ o ∨ ∃ v ∈ vs, ¬ v = l.value ∧ z = withV l v := by
  induction vs with
  | nil => intro o z; simp
  | cons v vs ih =>
    intro o z
    rw [List.foldl_cons, ih]
    unfold putV
    by_cases h : v = l.value
    · rw [if_neg (by simp [h])]
      constructor
      · rintro (k | ⟨u, hu, hn, rfl⟩)
        · exact .inl k
        · exact .inr ⟨u, by simp [hu], hn, rfl⟩
      · rintro (k | ⟨u, hu, hn, rfl⟩)
        · exact .inl k
        · rcases List.mem_cons.1 hu with rfl | hu
          · exact absurd h hn
          · exact .inr ⟨u, hu, hn, rfl⟩
    · rw [if_pos h, mem_addD]
      constructor
      · rintro ((k | rfl) | ⟨u, hu, hn, rfl⟩)
        · exact .inl k
        · exact .inr ⟨v, by simp, h, rfl⟩
        · exact .inr ⟨u, by simp [hu], hn, rfl⟩
      · rintro (k | ⟨u, hu, hn, rfl⟩)
        · exact .inl (.inl k)
        · rcases List.mem_cons.1 hu with rfl | hu
          · exact .inl (.inr rfl)
          · exact .inr ⟨u, hu, hn, rfl⟩
theorem mem_putP {preds : List PredD} {cl : List Int} {l : LitD} {p : PredD} {is : List Nat} : ∀ {o : List LitD} {z : LitD}, z ∈ is.foldl (putP preds cl l p) o ↔ z ∈ o ∨ ∃ i ∈ is, mateB preds cl l p i = true ∧ z = withP l i := by
  induction is with
  | nil => intro o z; simp
  | cons i is ih =>
    intro o z
    rw [List.foldl_cons, ih]
    unfold putP
    by_cases h : mateB preds cl l p i = true
    · rw [if_pos h, mem_addD]
      constructor
      · rintro ((k | rfl) | ⟨u, hu, hn, rfl⟩)
        · exact .inl k
        · exact .inr ⟨i, by simp, h, rfl⟩
        · exact .inr ⟨u, by simp [hu], hn, rfl⟩
      · rintro (k | ⟨u, hu, hn, rfl⟩)
        · exact .inl (.inl k)
        · rcases List.mem_cons.1 hu with rfl | hu
          · exact .inl (.inr rfl)
          · exact .inr ⟨u, hu, hn, rfl⟩
    · rw [if_neg h]
      constructor
      · rintro (k | ⟨u, hu, hn, rfl⟩)
        · exact .inl k
        · exact .inr ⟨u, by simp [hu], hn, rfl⟩
      · rintro (k | ⟨u, hu, hn, rfl⟩)
        · exact .inl k
        · rcases List.mem_cons.1 hu with rfl | hu
          · exact absurd hn h
          · exact .inr ⟨u, hu, hn, rfl⟩
theorem mem_matesD {preds : List PredD} {cl : List Int} {l z : LitD} {p : PredD} (hp : preds[l.pred.toNat]? = some p) : z ∈ matesD preds cl l ↔ z = (compD l).1 ∨ (l.neg = false ∧ ((∃ v ∈ p.vals, ¬ v = l.value ∧ z = withV l v) ∨ ∃ i, i < preds.length ∧ mateB preds cl l p i = true ∧ z = withP l i)) := by
  unfold matesD
  cases hn : l.neg with
  | true => rw [if_pos rfl]; simp
  | false =>
    rw [if_neg (by decide), hp]
    show z ∈ List.foldl _ _ _ ↔ _
    rw [mem_putP, mem_putV]
    simp only [List.mem_singleton, List.mem_range, true_and]
    exact or_assoc
/-- Conflict is no literal's with itself, and the same either way round. -/
theorem conflictD_self (cl so : List Int) (a : LitD) : conflictD cl so a a = false := by
  unfold conflictD
  by_cases h : a.guard = 0
  · simp [h]
  · simp [h]
theorem conflictD_comm (cl so : List Int) (a b : LitD) : conflictD cl so a b = conflictD cl so b a := by
  unfold conflictD
  by_cases h1 : a.guard = 0
  case neg => by_cases h2 : b.guard = 0 <;> simp [h1, h2]
  by_cases h2 : b.guard = 0
  case neg => simp [h1, h2]
  by_cases h3 : a.args = b.args
  case neg => simp [h1, h2, h3, Ne.symm h3]
  by_cases h4 : a.pred = b.pred
  · by_cases h5 : a.value = b.value
    · simp only [h1, h2, h3, h4, h5]
      cases a.neg <;> cases b.neg <;> rfl
    · have h5' : ¬ b.value = a.value := fun k => h5 k.symm
      simp only [h1, h2, h3, h4, h5, h5', and_false, if_false, if_true]
      cases a.neg <;> cases b.neg <;> rfl
  · have h4' : ¬ b.pred = a.pred := fun k => h4 k.symm
    simp only [h1, h2, h3, h4, h4', false_and, if_false]
    have h6 : (atD 1 so a.pred = 1 ∧ atD 1 so b.pred = 1 ∧ atD (-1) cl a.pred = atD (-1) cl b.pred) ↔ (atD 1 so b.pred = 1 ∧ atD 1 so a.pred = 1 ∧ atD (-1) cl b.pred = atD (-1) cl a.pred) := ⟨fun ⟨x, y, z⟩ => ⟨y, x, z.symm⟩, fun ⟨x, y, z⟩ => ⟨y, x, z.symm⟩⟩
    by_cases h7 : atD 1 so a.pred = 1 ∧ atD 1 so b.pred = 1 ∧ atD (-1) cl a.pred = atD (-1) cl b.pred
    · rw [if_pos h7, if_pos (h6.1 h7), h7.2.2]
      cases a.neg <;> cases b.neg <;> rfl
    · rw [if_neg h7, if_neg (fun k => h7 (h6.2 k))]
      cases a.neg <;> cases b.neg <;> rfl
/-- What right says of a literal that is no guard's. -/
theorem rightD_iff {preds : List PredD} {m : Int} {l : LitD} (hg : l.guard = 0) : rightD preds m l = true ↔ 0 ≤ l.pred ∧ ∃ p, preds[l.pred.toNat]? = some p ∧ (l.args.length : Int) = p.kinds ∧ l.args.any (badD m) = false ∧ ((p.sort = 1 ∧ l.value = 0) ∨ (p.sort = 3 ∧ l.value ∈ p.vals)) := by
  rw [rightD, if_neg (by simp [hg])]
  by_cases h1 : l.pred < 0
  · rw [if_pos h1]
    constructor
    · intro k; cases k
    · rintro ⟨k, _⟩; omega
  rw [if_neg h1]
  cases hp : preds[l.pred.toNat]? with
  | none => simp
  | some p =>
    simp only [Option.some.injEq, exists_eq_left']
    by_cases h2 : (l.args.length : Int) = p.kinds
    case neg => simp [h2]
    by_cases h3 : l.args.any (badD m) = true
    · simp [h2, h3]
    rw [if_neg (by simp [h2]), if_neg h3]
    have h3' : l.args.any (badD m) = false := by simpa using h3
    by_cases h4 : p.sort = 1
    · rw [if_pos h4]
      simp only [h2, h3', h4, decide_eq_true_eq, true_and]
      constructor
      · intro k; exact ⟨by omega, .inl k⟩
      · rintro ⟨_, k | ⟨k, _⟩⟩
        · exact k
        · omega
    · rw [if_neg h4]
      by_cases h5 : p.sort = 3
      · rw [if_pos h5]
        simp only [h2, h3', h5, List.any_eq_true, decide_eq_true_eq, true_and]
        constructor
        · rintro ⟨x, hx, k⟩; exact ⟨by omega, .inr (k ▸ hx)⟩
        · rintro ⟨_, ⟨k, _⟩ | k⟩
          · omega
          · exact ⟨_, k, rfl⟩
      · rw [if_neg h5]
        constructor
        · intro k; cases k
        · rintro ⟨_, _, _, ⟨k, _⟩ | ⟨k, _⟩⟩ <;> omega
theorem bad_less {m x : Int} (h : badD m x = false) : badD (-1) x = false := by
  unfold badD at *
  simp only [Bool.or_eq_false_iff, decide_eq_false_iff_not] at h
  simp [h.1]
theorem rightD_any {preds : List PredD} {m : Int} {l : LitD} (hg : l.guard = 0) (h : rightD preds m l = true) : rightD preds (-1) l = true := by
  obtain ⟨h1, p, h2, h3, h4, h5⟩ := (rightD_iff hg).1 h
  refine (rightD_iff hg).2 ⟨h1, p, h2, h3, ?_, h5⟩
  rw [List.any_eq_false] at h4 ⊢
  intro x hx
  have := h4 x hx
  rw [bad_less (by simpa using this)]
  decide
theorem plainOf_at {preds : List PredD} {l : LitD} {p : PredD} (hp : preds[l.pred.toNat]? = some p) : (plainOf preds l)[l.pred.toNat]? = some ⟨p.sort, p.kinds, if p.sort = 3 then p.vals else []⟩ := by
  have hlt := (List.getElem?_eq_some_iff.1 hp).1
  unfold plainOf
  rw [hp]
  dsimp only
  by_cases h : ¬ p.sort = 3 ∧ 0 < p.vals.length
  · rw [if_pos h, if_neg h.1, List.getElem?_set_self hlt]; rfl
  · rw [if_neg h, hp]
    by_cases h3 : p.sort = 3
    · rw [if_pos h3]
    · rw [if_neg h3]
      have : p.vals = [] := by
        cases hv : p.vals with
        | nil => rfl
        | cons x r => exact absurd ⟨h3, by rw [hv]; simp⟩ h
      rw [← this]
theorem plainOf_ne {preds : List PredD} {l : LitD} {i : Nat} (hi : ¬ i = l.pred.toNat) : (plainOf preds l)[i]? = preds[i]? := by
  unfold plainOf
  split
  · rfl
  · split
    · rw [List.getElem?_set_ne (fun k => hi k.symm)]
    · rfl
theorem plainOf_len {preds : List PredD} {l : LitD} : (plainOf preds l).length = preds.length := by
  unfold plainOf
  split
  · rfl
  · split
    · rw [List.length_set]
    · rfl
theorem atD_in {d : Int} {xs : List Int} {i : Int} {x : Int} (h0 : 0 ≤ i) (h : xs[i.toNat]? = some x) : atD d xs i = x := by
  have hlt := (List.getElem?_eq_some_iff.1 h).1
  rw [atD, if_pos ⟨h0, by omega⟩, List.getD_eq_getElem?_getD, h]; rfl
/-- Of literals that may be: in conflict just with the mates. -/
theorem mates_just {preds : List PredD} {cl : List Int} {a b : LitD} (hcl : cl.length = preds.length) (ha : a.guard = 0) (hra : rightD preds (-1) a = true) (hrb : rightD preds (-1) b = true) (hgb : b.guard = 0) :
    b ∈ matesD (plainOf preds a) cl a ↔ conflictD cl (preds.map fun p => p.sort) a b = true := by
  obtain ⟨ha0, p, hp, hak, haa, hav⟩ := (rightD_iff ha).1 hra
  obtain ⟨hb0, q, hq, hbk, hba, hbv⟩ := (rightD_iff hgb).1 hrb
  have hso : ∀ {d : Int}, atD d (preds.map fun p => p.sort) a.pred = p.sort := atD_in ha0 (by rw [List.getElem?_map, hp]; rfl)
  have hsb : ∀ {d : Int}, atD d (preds.map fun p => p.sort) b.pred = q.sort := atD_in hb0 (by rw [List.getElem?_map, hq]; rfl)
  have hpl := (List.getElem?_eq_some_iff.1 hp).1
  have hql := (List.getElem?_eq_some_iff.1 hq).1
  have hca : ∀ {d : Int}, atD d cl a.pred = cl.getD a.pred.toNat 0 := atD_in ha0 (by rw [List.getD_eq_getElem?_getD, List.getElem?_eq_getElem (by omega)]; rfl)
  have hcb : ∀ {d : Int}, atD d cl b.pred = cl.getD b.pred.toNat 0 := atD_in hb0 (by rw [List.getD_eq_getElem?_getD, List.getElem?_eq_getElem (by omega)]; rfl)
  obtain ⟨pv, hpv, hmv⟩ : ∃ vs, (plainOf preds a)[a.pred.toNat]? = some ⟨p.sort, p.kinds, vs⟩ ∧ ∀ v, v ∈ vs ↔ p.sort = 3 ∧ v ∈ p.vals := by
    refine ⟨_, plainOf_at hp, fun v => ?_⟩
    by_cases h : p.sort = 3
    · rw [if_pos h]; simp [h]
    · rw [if_neg h]; simp [h]
  have hcd : (compD a).1 = ⟨!a.neg, a.pred, a.args, a.value, a.guard⟩ := by rw [compD, if_neg (fun k => k ha)]
  rw [mem_matesD hpv, plainOf_len, hcd, conflictD, if_neg (fun k => k ha), if_neg (fun k => k hgb)]
  obtain ⟨an, ap, aa, av, ag⟩ := a
  obtain ⟨bn, bp, ba, bv, bg⟩ := b
  simp only at *
  subst ha hgb
  simp only [withV, withP, LitD.mk.injEq, and_true]
  by_cases h3 : aa = ba
  case neg =>
    rw [if_pos h3]
    constructor
    · rintro (⟨_, _, k, _⟩ | ⟨_, ⟨v, _, _, _, _, k, _⟩ | ⟨i, _, _, _, _, k, _⟩⟩) <;> exact absurd k.symm h3
    · intro k; cases k
  subst h3
  rw [if_neg (by simp)]
  by_cases h4 : ap = bp
  · subst h4
    rw [hp] at hq
    cases hq
    by_cases h5 : av = bv
    · subst h5
      rw [if_pos ⟨rfl, rfl⟩, decide_eq_true_eq]
      constructor
      · rintro (⟨k, _⟩ | ⟨_, ⟨v, _, hv, _, _, _, k⟩ | ⟨i, _, hm, _, k, _⟩⟩)
        · rw [k]; cases an <;> decide
        · exact absurd k.symm hv
        · rw [mateB] at hm
          simp only [Bool.and_eq_true, decide_eq_true_eq] at hm
          exact absurd k.symm hm.1.1.1.1.1
      · intro k
        left
        refine ⟨?_, rfl, rfl, rfl⟩
        cases an <;> cases bn <;> simp_all
    · rw [if_neg (fun k => h5 k.2)]
      have h5' : ¬ bv = av := fun k => h5 k.symm
      cases an with
      | true =>
        rw [if_pos rfl]
        constructor
        · rintro (⟨_, _, _, k⟩ | ⟨k, _⟩)
          · exact absurd k h5'
          · cases k
        · intro k; cases k
      | false =>
        rw [if_neg (by decide)]
        cases bn with
        | true =>
          rw [if_pos rfl]
          constructor
          · rintro (⟨_, _, _, k⟩ | ⟨_, ⟨v, _, _, k, _⟩ | ⟨i, _, _, k, _⟩⟩)
            · exact absurd k h5'
            · cases k
            · cases k
          · intro k; cases k
        | false =>
          rw [if_neg (by decide), if_pos rfl, hso, decide_eq_true_eq]
          constructor
          · rintro (⟨k, _⟩ | ⟨_, ⟨v, hv, _, _⟩ | ⟨i, _, hm, _, k, _⟩⟩)
            · cases k
            · exact ((hmv v).1 hv).1
            · rw [mateB] at hm
              simp only [Bool.and_eq_true, decide_eq_true_eq] at hm
              exact absurd k.symm hm.1.1.1.1.1
          · intro k
            right
            refine ⟨rfl, .inl ⟨bv, (hmv bv).2 ⟨k, ?_⟩, h5', rfl, rfl, rfl, rfl⟩⟩
            rcases hbv with ⟨h, _⟩ | ⟨_, h⟩
            · omega
            · exact h
  · have h4' : ¬ bp = ap := fun k => h4 k.symm
    rw [if_neg (fun k => h4 k.1)]
    cases an with
    | true =>
      rw [if_pos rfl]
      constructor
      · rintro (⟨_, k, _⟩ | ⟨k, _⟩)
        · exact absurd k h4'
        · cases k
      · intro k; cases k
    | false =>
      rw [if_neg (by decide)]
      cases bn with
      | true =>
        rw [if_pos rfl]
        constructor
        · rintro (⟨_, k, _⟩ | ⟨_, ⟨v, _, _, k, _⟩ | ⟨i, _, _, k, _⟩⟩)
          · exact absurd k h4'
          · cases k
          · cases k
        · intro k; cases k
      | false =>
        rw [if_neg (by decide), if_neg h4, hso, hsb, hca, hcb]
        constructor
        · rintro (⟨k, _⟩ | ⟨_, ⟨v, _, _, _, k, _⟩ | ⟨i, hi, hm, _, k, _⟩⟩)
          · cases k
          · exact absurd k h4'
          · have hne : ¬ i = ap.toNat := by omega
            have hbi : bp.toNat = i := by omega
            rw [mateB, plainOf_ne hne, ← hbi, hq] at hm
            simp only [Bool.and_eq_true, decide_eq_true_eq] at hm
            obtain ⟨⟨⟨⟨⟨_, h1⟩, h2⟩, h6⟩, h7⟩, _⟩ := hm
            rw [if_pos ⟨h1, h2, h7.symm⟩]
            exact decide_eq_true h6
        · intro k
          split at k
          · rename_i h6
            right
            refine ⟨rfl, .inr ⟨bp.toNat, hql, ?_, rfl, by omega, rfl, ?_⟩⟩
            · rw [mateB, plainOf_ne (by show ¬ bp.toNat = ap.toNat; omega), hq]
              simp only [Bool.and_eq_true, decide_eq_true_eq]
              refine ⟨⟨⟨⟨⟨by show ¬ (bp.toNat : Int) = ap; omega, h6.1⟩, h6.2.1⟩, of_decide_eq_true k⟩, h6.2.2.symm⟩, ?_⟩
              refine (rightD_iff rfl).2 ⟨by show (0 : Int) ≤ (bp.toNat : Int); omega, q, ?_, hbk, haa, ?_⟩
              · show (plainOf preds _)[((bp.toNat : Int)).toNat]? = _
                rw [Int.toNat_natCast, plainOf_ne (by show ¬ bp.toNat = ap.toNat; omega)]
                exact hq
              · left
                refine ⟨h6.2.1, ?_⟩
                show av = 0
                rcases hav with ⟨_, h⟩ | ⟨h, _⟩
                · exact h
                · omega
            · rcases hav with ⟨_, h⟩ | ⟨h, _⟩
              · rcases hbv with ⟨_, h'⟩ | ⟨h', _⟩
                · rw [h, h']
                · omega
              · omega
          · cases k
end Go.Proofs.Ytoknohnodlaimaa
