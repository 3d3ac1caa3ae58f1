/- The plain law of Close and Foes: Close rises, holds each literal's mates; who is in conflict within it are just the mates. Conditions: none. -/
import Derived.Test.YtoknohnodlaimaaL24
set_option linter.unusedVariables false
set_option linter.unusedSimpArgs false
namespace Go.Proofs.Ytoknohnodlaimaa
open Go Go.RowKit

theorem lt_trans_lit {a b c : LitD} (h : cmpLit a b < 0) (k : cmpLit b c < 0) : cmpLit a c < 0 := by
  have := (cmpLit_tr a b c).l
  omega
theorem lt_irrefl_lit {a : LitD} : ¬ cmpLit a a < 0 := by
  have := cmpLit_zero.2 (rfl : a = a)
  omega
abbrev Rising (ls : List LitD) : Prop := ls.Pairwise fun a b => cmpLit a b < 0
theorem Rising.nodup {ls : List LitD} (h : Rising ls) : ls.Nodup := h.imp fun {a b} hab he => by
  subst he
  exact lt_irrefl_lit hab
theorem bsGo_part {p : Nat → Bool} (mono : ∀ a b, a ≤ b → p b = true → p a = true) : ∀ (f i j : Nat), j - i ≤ f → (∀ k, k < i → p k = true) → (∀ k, j ≤ k → p k = false) → i ≤ j → (∀ k, k < bsGo p f i j → p k = true) ∧ (∀ k, bsGo p f i j ≤ k → p k = false) := by
  intro f
  induction f with
  | zero =>
    intro i j h1 h2 h3 h4
    have : i = j := by omega
    subst this
    exact ⟨h2, h3⟩
  | succ f ih =>
    intro i j h1 h2 h3 h4
    rw [bsGo]
    by_cases hij : i < j
    · rw [if_pos hij]
      by_cases hp : p ((i + j) / 2) = true
      · rw [if_pos hp]
        exact ih _ _ (by omega) (fun k hk => mono k _ (by omega) hp) h3 (by omega)
      · rw [if_neg hp]
        exact ih _ _ (by omega) h2 (fun k hk => by
          cases hk' : p k with
          | false => rfl
          | true => exact absurd (mono _ _ hk hk') hp) (by omega)
    · rw [if_neg hij]
      have : i = j := by omega
      subst this
      exact ⟨h2, h3⟩
theorem rising_at {ls : List LitD} (h : Rising ls) {a b : Nat} {x y : LitD} (ha : ls[a]? = some x) (hb : ls[b]? = some y) (hab : a < b) : cmpLit x y < 0 := by
  obtain ⟨h1, rfl⟩ := List.getElem?_eq_some_iff.1 ha
  obtain ⟨h2, rfl⟩ := List.getElem?_eq_some_iff.1 hb
  exact List.pairwise_iff_getElem.1 h a b h1 h2 hab
theorem bs_part {ls : List LitD} (h : Rising ls) (x : LitD) : (∀ k y, k < bsD ls x → ls[k]? = some y → cmpLit y x < 0) ∧ (∀ k y, bsD ls x ≤ k → ls[k]? = some y → ¬ cmpLit y x < 0) := by
  have hm : ∀ a b, a ≤ b → lessAt ls x b = true → lessAt ls x a = true := by
    intro a b hab hb
    unfold lessAt at hb ⊢
    cases hy : ls[b]? with
    | none => rw [hy] at hb; cases hb
    | some y =>
      rw [hy] at hb
      have hb' : cmpLit y x < 0 := of_decide_eq_true hb
      have hbl := (List.getElem?_eq_some_iff.1 hy).1
      have hz : ls[a]? = some ls[a] := List.getElem?_eq_getElem (by omega)
      rw [hz]
      rcases Nat.lt_or_ge a b with hlt | hge
      · exact decide_eq_true (lt_trans_lit (rising_at h hz hy hlt) hb')
      · have : a = b := by omega
        subst this
        have hye := Option.some.inj (hz.symm.trans hy)
        exact decide_eq_true (by rw [hye]; exact hb')
  obtain ⟨h1, h2⟩ := bsGo_part hm ls.length 0 ls.length (by omega) (fun k hk => absurd hk (by omega)) (fun k hk => by rw [lessAt, List.getElem?_eq_none hk]) (Nat.zero_le _)
  refine ⟨fun k y hk hy => ?_, fun k y hk hy hlt => ?_⟩
  · have := h1 k hk
    rw [lessAt, hy] at this
    exact of_decide_eq_true this
  · have := h2 k hk
    rw [lessAt, hy] at this
    exact absurd hlt (of_decide_eq_false this)
theorem addD_rising {ls : List LitD} (h : Rising ls) (x : LitD) : Rising (addD ls x) := by
  obtain ⟨h1, h2⟩ := bs_part h x
  unfold addD
  split
  · exact h
  · rename_i hf
    have hge : ∀ k y, bsD ls x ≤ k → ls[k]? = some y → cmpLit x y < 0 := by
      intro k y hk hy
      have hkl := (List.getElem?_eq_some_iff.1 hy).1
      have hz : ls[bsD ls x]? = some ls[bsD ls x] := List.getElem?_eq_getElem (by omega)
      have hn := h2 _ _ (Nat.le_refl _) hz
      have hne : ¬ cmpLit ls[bsD ls x] x = 0 := by
        unfold foundD at hf
        rw [hz] at hf
        simpa using hf
      have hneg := cmpLit_neg x ls[bsD ls x]
      have hx : cmpLit x ls[bsD ls x] < 0 := by omega
      rcases Nat.lt_or_ge (bsD ls x) k with hlt | hge
      · exact lt_trans_lit hx (rising_at h hz hy hlt)
      · have : k = bsD ls x := by omega
        subst this
        rw [hz] at hy
        cases hy
        exact hx
    have hlo : ∀ a ∈ ls.take (bsD ls x), cmpLit a x < 0 := by
      intro a ha
      obtain ⟨k, hk⟩ := List.mem_iff_getElem?.1 ha
      rw [List.getElem?_take] at hk
      split at hk
      · rename_i hlt
        exact h1 k a hlt hk
      · cases hk
    have hhi : ∀ b ∈ ls.drop (bsD ls x), cmpLit x b < 0 := by
      intro b hb
      obtain ⟨k, hk⟩ := List.mem_iff_getElem?.1 hb
      rw [List.getElem?_drop] at hk
      exact hge _ b (by omega) hk
    unfold Rising
    rw [List.append_assoc, List.pairwise_append]
    refine ⟨h.sublist (List.take_sublist _ _), ?_, fun a ha b hb => ?_⟩
    · rw [List.singleton_append, List.pairwise_cons]
      exact ⟨hhi, h.sublist (List.drop_sublist _ _)⟩
    · rcases List.mem_append.1 hb with hb | hb
      · rw [List.mem_singleton] at hb
        rw [hb]; exact hlo a ha
      · exact lt_trans_lit (hlo a ha) (hhi b hb)
theorem foldl_rising {α : Type} {f : List LitD → α → List LitD} (hf : ∀ o a, Rising o → Rising (f o a)) : ∀ (xs : List α) {o : List LitD}, Rising o → Rising (xs.foldl f o) := by
  intro xs
  induction xs with
  | nil => intro o h; exact h
  | cons x xs ih => intro o h; exact ih (hf o x h)
theorem matesD_rising (preds : List PredD) (cl : List Int) (l : LitD) : Rising (matesD preds cl l) := by
  have h1 : Rising [(compD l).1] := List.pairwise_singleton _ _
  unfold matesD
  split
  · exact h1
  · split
    · exact h1
    · refine foldl_rising (fun o a h => ?_) _ (foldl_rising (fun o a h => ?_) _ h1)
      · unfold putP; split
        · exact addD_rising h _
        · exact h
      · unfold putV; split
        · exact addD_rising h _
        · exact h
theorem addAll_rising : ∀ {all o o' : List LitD}, Rising o → addAll all o = some o' → Rising o' := by
  intro all
  induction all with
  | nil => intro o o' h h2; cases h2; exact h
  | cons y r ih =>
    intro o o' h h2
    rw [addAll] at h2
    split at h2
    · cases h2
    · exact ih (addD_rising h y) h2
theorem closeGo_rising {preds : List PredD} {cl : List Int} : ∀ {ls o o' : List LitD}, Rising o → closeGo preds cl ls o = some o' → Rising o' := by
  intro ls
  induction ls with
  | nil => intro o o' h h2; cases h2; exact h
  | cons x r ih =>
    intro o o' h h2
    rw [closeGo] at h2
    cases ha : addAll (closeAll preds cl x) o with
    | none => rw [ha] at h2; cases h2
    | some o1 =>
      rw [ha] at h2
      exact ih (addAll_rising h ha) h2
theorem mem_addAll : ∀ {all o o' : List LitD} {z : LitD}, addAll all o = some o' → (z ∈ o' ↔ z ∈ o ∨ z ∈ all) := by
  intro all
  induction all with
  | nil => intro o o' z h; cases h; simp
  | cons y r ih =>
    intro o o' z h
    rw [addAll] at h
    split at h
    · cases h
    · rw [ih h, mem_addD, List.mem_cons, or_assoc]
theorem mem_closeGo {preds : List PredD} {cl : List Int} : ∀ {ls o o' : List LitD} {z : LitD}, closeGo preds cl ls o = some o' → (z ∈ o' ↔ z ∈ o ∨ ∃ x ∈ ls, z ∈ closeAll preds cl x) := by
  intro ls
  induction ls with
  | nil => intro o o' z h; cases h; simp
  | cons x r ih =>
    intro o o' z h
    rw [closeGo] at h
    cases ha : addAll (closeAll preds cl x) o with
    | none => rw [ha] at h; cases h
    | some o1 =>
      rw [ha] at h
      rw [ih h, mem_addAll ha, or_assoc]
      constructor
      · rintro (k | k | ⟨y, hy, k⟩)
        · exact .inl k
        · exact .inr ⟨x, by simp, k⟩
        · exact .inr ⟨y, by simp [hy], k⟩
      · rintro (k | ⟨y, hy, k⟩)
        · exact .inl k
        · rcases List.mem_cons.1 hy with rfl | hy
          · exact .inr (.inl k)
          · exact .inr (.inr ⟨y, hy, k⟩)
theorem closeD_ok {preds : List PredD} {cl : List Int} {ls : List LitD} (h : (closeD preds cl ls).2 = 0) : cl.length = preds.length ∧ (∀ x ∈ ls, rightD preds (-1) x = true) ∧ closeGo preds cl ls [] = some (closeD preds cl ls).1 := by
  unfold closeD at h ⊢
  by_cases h1 : cl.length = preds.length
  case neg => rw [if_pos h1] at h; cases h
  rw [if_neg (fun k => k h1)] at h ⊢
  by_cases h2 : (ls.any fun x => !rightD preds (-1) x) = true
  · rw [if_pos h2] at h; cases h
  rw [if_neg h2] at h ⊢
  cases hg : closeGo preds cl ls [] with
  | none => rw [hg] at h; cases h
  | some o =>
    refine ⟨h1, fun x hx => ?_, rfl⟩
    have h3 : (ls.any fun x => !rightD preds (-1) x) = false := by simpa using h2
    rw [List.any_eq_false] at h3
    have := h3 x hx
    simpa using this
theorem closeD_err {preds : List PredD} {cl : List Int} {ls : List LitD} (h : ¬ (closeD preds cl ls).2 = 0) : (closeD preds cl ls).1 = [] := by
  unfold closeD at h ⊢
  split
  · rfl
  · split
    · rfl
    · split
      · rfl
      · rename_i h1 h2 _ o ho
        rw [if_neg h1, if_neg h2, ho] at h
        exact absurd rfl h
theorem Mates_of_right {preds : List PredD} {cl : List Int} {a : LitD} (hc : cl.length = preds.length) (hg : a.guard = 0) (hr : rightD preds (-1) a = true) : MatesD preds cl a = (matesD (plainOf preds a) cl a, 0) := by
  rw [MatesD, if_neg (fun k => k hc), if_neg (fun k => k hg), if_pos hr]
/-- Mates of what may be, may be. -/
theorem mates_right {preds : List PredD} {cl : List Int} {a z : LitD} (hg : a.guard = 0) (hr : rightD preds (-1) a = true) (hz : z ∈ matesD (plainOf preds a) cl a) : z.guard = 0 ∧ rightD preds (-1) z = true := by
  refine ⟨mates_guard hg hz, ?_⟩
  obtain ⟨ha0, p, hp, hak, haa, hav⟩ := (rightD_iff hg).1 hr
  obtain ⟨pv, hpv, hmv⟩ : ∃ vs, (plainOf preds a)[a.pred.toNat]? = some ⟨p.sort, p.kinds, vs⟩ ∧ ∀ v, v ∈ vs ↔ p.sort = 3 ∧ v ∈ p.vals := by
    refine ⟨_, plainOf_at hp, fun v => ?_⟩
    by_cases h : p.sort = 3
    · rw [if_pos h]; simp [h]
    · rw [if_neg h]; simp [h]
  have hcd : (compD a).1 = ⟨!a.neg, a.pred, a.args, a.value, a.guard⟩ := by rw [compD, if_neg (fun k => k hg)]
  rw [mem_matesD hpv, hcd] at hz
  rcases hz with rfl | ⟨_, ⟨v, hv, _, rfl⟩ | ⟨i, _, hm, rfl⟩⟩
  · exact (rightD_iff (l := ⟨!a.neg, a.pred, a.args, a.value, a.guard⟩) hg).2 ⟨ha0, p, hp, hak, haa, hav⟩
  · obtain ⟨h3, hv'⟩ := (hmv v).1 hv
    exact (rightD_iff (l := withV a v) hg).2 ⟨ha0, p, hp, hak, haa, .inr ⟨h3, hv'⟩⟩
  · rw [mateB] at hm
    simp only [Bool.and_eq_true, decide_eq_true_eq] at hm
    obtain ⟨⟨⟨⟨⟨hne, _⟩, h2⟩, _⟩, _⟩, h6⟩ := hm
    obtain ⟨h0, q, hq, hk, hb, hv⟩ := (rightD_iff (l := withP a i) hg).1 h6
    have hne' : ¬ (withP a i).pred.toNat = a.pred.toNat := by
      show ¬ (i : Int).toNat = a.pred.toNat
      omega
    rw [plainOf_ne hne'] at hq
    exact (rightD_iff (l := withP a i) hg).2 ⟨h0, q, hq, hk, hb, hv⟩
theorem hits_len {cl so : List Int} {x : LitD} {C : List LitD} : ∀ (n : Nat), n ≤ C.length → (hitsD cl so x C n).length = ((C.take n).filter (conflictD cl so x)).length := by
  intro n
  induction n with
  | zero => intro _; simp [hitsD]
  | succ n ih =>
    intro hn
    have hlt : n < C.length := by omega
    have hh : hitD cl so x C n = conflictD cl so x C[n] := by rw [hitD, List.getElem?_eq_getElem hlt]
    rw [hitsD_succ, List.take_succ_eq_append_getElem hlt, List.filter_append, List.length_append, ← ih (by omega), hh]
    cases hc : conflictD cl so x C[n] with
    | true => simp [hc]
    | false => simp [hc]
/-- Within Close the literals in conflict with one of those closed are as many as its mates. -/
theorem closed_count {preds : List PredD} {cl : List Int} {ls : List LitD} {x : LitD} (h : (closeD preds cl ls).2 = 0) (hx : x ∈ ls) (hg : x.guard = 0) :
    (MatesD preds cl x).2 = 0 ∧ (rowD cl (sortsD preds) (closeD preds cl ls).1 x).length = (MatesD preds cl x).1.length := by
  obtain ⟨h1, h2, h3⟩ := closeD_ok h
  have hM := Mates_of_right h1 hg (h2 x hx)
  refine ⟨by rw [hM], ?_⟩
  generalize (closeD preds cl ls).1 = C at h3
  have hC : Rising C := closeGo_rising List.Pairwise.nil h3
  have hmem : ∀ z, z ∈ C ↔ ∃ y ∈ ls, z ∈ closeAll preds cl y := fun z => by rw [mem_closeGo h3]; simp
  have hright : ∀ z ∈ C, rightD preds (-1) z = true := by
    intro z hz
    obtain ⟨y, hy, hzy⟩ := (hmem z).1 hz
    rw [closeAll, List.mem_append, List.mem_singleton] at hzy
    rcases hzy with rfl | hzy
    · exact h2 z hy
    · split at hzy
      · rename_i hgy
        rw [Mates_of_right h1 hgy (h2 y hy)] at hzy
        exact (mates_right hgy (h2 y hy) hzy).2
      · cases hzy
  rw [rowD, List.length_map, hits_len _ (Nat.le_refl _), List.take_length, hM]
  show _ = (matesD (plainOf preds x) cl x).length
  refine List.Perm.length_eq ((List.perm_ext_iff_of_nodup ((hC.nodup).filter _) (matesD_rising _ _ _).nodup).2 fun z => ?_)
  rw [List.mem_filter]
  constructor
  · rintro ⟨hz, hc⟩
    have hgz : z.guard = 0 := Classical.byContradiction fun k => by
      rw [conflictD, if_neg (fun k => k hg), if_pos k] at hc
      cases hc
    exact (mates_just h1 hg (h2 x hx) (hright z hz) hgz).2 hc
  · intro hz
    have hzC : z ∈ C := (hmem z).2 ⟨x, hx, by rw [closeAll, if_pos hg, hM]; exact List.mem_append.2 (.inr hz)⟩
    obtain ⟨hgz, hrz⟩ := mates_right hg (h2 x hx) hz
    exact ⟨hzC, (mates_just h1 hg (h2 x hx) hrz hgz).1 hz⟩
theorem closed_mem {preds : List PredD} {cl : List Int} {ls : List LitD} {x : LitD} (h : (closeD preds cl ls).2 = 0) (hx : x ∈ ls) : x ∈ (closeD preds cl ls).1 := by
  obtain ⟨_, _, h3⟩ := closeD_ok h
  exact (mem_closeGo h3).2 (.inr ⟨x, hx, by rw [closeAll]; exact List.mem_append.2 (.inl (List.mem_singleton.2 rfl))⟩)
theorem closed_foes {preds : List PredD} {cl so : List Int} {ls : List LitD} (h : (closeD preds cl ls).2 = 0) : foesD cl so (closeD preds cl ls).1 = ((closeD preds cl ls).1.map (rowD cl so (closeD preds cl ls).1), 0) := by
  obtain ⟨_, _, h3⟩ := closeD_ok h
  have hC : Rising (closeD preds cl ls).1 := closeGo_rising List.Pairwise.nil h3
  rw [foesD, if_pos (risingD_iff.2 fun j hj => List.pairwise_iff_getElem.1 hC j (j + 1) (by omega) hj (by omega))]
/-- An element of a row of foes. -/
theorem row_mem {cl so : List Int} {C : List LitD} {x : LitD} {v : Int} (h : v ∈ rowD cl so C x) : ∃ k : Nat, v = k ∧ k < C.length ∧ ∃ y, C[k]? = some y ∧ conflictD cl so x y = true := by
  rw [rowD] at h
  obtain ⟨k, hk, rfl⟩ := List.mem_map.1 h
  have hlt := hitsD_lt hk
  refine ⟨k, rfl, hlt, C[k], List.getElem?_eq_getElem hlt, ?_⟩
  have := (List.mem_filter.1 hk).2
  rw [hitD, List.getElem?_eq_getElem hlt] at this
  exact this
theorem row_has {cl so : List Int} {C : List LitD} {x y : LitD} {k : Nat} (h : C[k]? = some y) (hc : conflictD cl so x y = true) : (k : Int) ∈ rowD cl so C x := by
  rw [rowD]
  refine List.mem_map.2 ⟨k, List.mem_filter.2 ⟨List.mem_range.2 (List.getElem?_eq_some_iff.1 h).1, ?_⟩, rfl⟩
  rw [hitD, h]
  exact hc
end Go.Proofs.Ytoknohnodlaimaa
