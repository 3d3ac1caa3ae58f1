/- The plain law of the stage's theorem: in what is taken each argument has its place's kind. Conditions: none. -/
import Derived.Test.YtkfmlekomfnleaaR21
set_option linter.unusedVariables false
set_option linter.unusedSimpArgs false
set_option maxRecDepth 10000
namespace Go.Proofs.Ytkfmlekomfnleaa
open Go Go.RowKit

theorem name_not_var {a : Str} (h : isNameD a = true) : isVarD a = false := by
  unfold isNameD at h
  unfold isVarD
  simp only [Bool.and_eq_true] at h
  have h1 := h.1.1
  unfold headB at h1 ⊢
  cases ha : a[0]? with
  | none => rw [ha] at h1; cases h1
  | some c =>
    rw [ha] at h1
    simp only [smallD, bigD, Bool.and_eq_true, decide_eq_true_eq] at h1 ⊢
    have : (decide (65 ≤ c.toNat) && decide (c.toNat ≤ 90)) = false := by
      rw [Bool.and_eq_false_iff, decide_eq_false_iff_not, decide_eq_false_iff_not]
      omega
    rw [this]
    rfl
theorem name_ne {a : Str} (h : isNameD a = true) : a ≠ ByteArray.empty := by
  rintro rfl
  cases h
/-- A rule's variables, as they should be. -/
structure ScOK (s : kStat.V) (c : Sc) : Prop where
  var : ∀ a ∈ c.names, isVarD a = true
  has : ∀ a, a ∈ c.names ↔ (getM c.km a).isSome = true
  kind : ∀ a k, getM c.km a = some k → k = ByteArray.empty ∨ k ∈ sKinds s
structure Ext (c c' : Sc) : Prop where
  keep : ∀ a k, getM c.km a = some k → k ≠ ByteArray.empty → getM c'.km a = some k
theorem Ext.refl (c : Sc) : Ext c c := ⟨fun _ _ h _ => h⟩
theorem Ext.trans {c c' c'' : Sc} (h : Ext c c') (k : Ext c' c'') : Ext c c'' := ⟨fun a x h1 h2 => k.keep a x (h.keep a x h1 h2) h2⟩
/-- What a step leaves. -/
structure Good (s : kStat.V) (c c' : Sc) : Prop where
  ok : ScOK s c'
  ext : Ext c c'
theorem Good.refl {s : kStat.V} {c : Sc} (h : ScOK s c) : Good s c c := ⟨h, Ext.refl c⟩
theorem Good.trans {s : kStat.V} {c c' c'' : Sc} (h : Good s c c') (k : Good s c' c'') : Good s c c'' := ⟨k.ok, h.ext.trans k.ext⟩
section
variable {s : kStat.V}
theorem see_good {c : Sc} {a : Str} (h : ScOK s c) (ha : isVarD a = true) : Good s c (seeD c a) ∧ ∃ k, getM (seeD c a).km a = some k := by
  unfold seeD
  cases hg : getM c.km a with
  | some k => exact ⟨Good.refl h, k, hg⟩
  | none =>
    refine ⟨⟨⟨fun b hb => ?_, fun b => ?_, fun b k hk => ?_⟩, ⟨fun b k hk hne => ?_⟩⟩, ByteArray.empty, by show getM (putM _ _ _) _ = _; rw [getM_put, if_pos rfl]⟩
    · rcases List.mem_append.1 hb with hb | hb
      · exact h.var b hb
      · rw [List.mem_singleton.1 hb]; exact ha
    · show b ∈ c.names ++ [a] ↔ (getM (putM c.km a ByteArray.empty) b).isSome = true
      rw [getM_put, List.mem_append, List.mem_singleton, h.has b]
      by_cases hab : a = b
      · rw [if_pos hab]; exact ⟨fun _ => rfl, fun _ => .inr hab.symm⟩
      · rw [if_neg hab]; exact ⟨fun hh => hh.elim id (fun e => absurd e.symm hab), .inl⟩
    · change getM (putM c.km a ByteArray.empty) b = some k at hk
      rw [getM_put] at hk
      by_cases hab : a = b
      · rw [if_pos hab] at hk; exact .inl (Option.some.inj hk).symm
      · rw [if_neg hab] at hk; exact h.kind b k hk
    · show getM (putM c.km a ByteArray.empty) b = some k
      rw [getM_put, if_neg (fun e => by subst e; rw [hg] at hk; cases hk)]
      exact hk
/-- An argument at a place of a kind. -/
def ArgOK (s : kStat.V) (c : Sc) (a k : Str) : Prop := (isVarD a = true ∧ getM c.km a = some k) ∨ (isVarD a = false ∧ isNameD a = true ∧ (mGet s a).isSome = true ∧ (memAt s a).2 = k)
theorem ArgOK.ext {c c' : Sc} {a k : Str} (h : ArgOK s c a k) (e : Ext c c') (hk : k ≠ ByteArray.empty) : ArgOK s c' a k := h.imp (fun h => ⟨h.1, e.keep a k h.2 hk⟩) id
theorem arg_good {c c' : Sc} {a k : Str} {at_ : Int} {fr : Bool} (hc : ScOK s c) (hk : k ∈ sKinds s) (hne : k ≠ ByteArray.empty) (h : argD s at_ fr c a k = .ok c') : Good s c c' ∧ ArgOK s c' a k := by
  unfold argD at h
  split at h
  · rename_i hv
    obtain ⟨_, _, h⟩ := bnd_inv h
    obtain ⟨_, h2, h⟩ := bnd_inv h
    cases h
    obtain ⟨g, k0, hk0⟩ := see_good hc hv
    have h3 := want_inv h2
    rw [hk0] at h3
    simp only [Option.getD_some, Bool.or_eq_true, decide_eq_true_eq] at h3
    refine ⟨g.trans ⟨⟨g.ok.var, fun b => ?_, fun b x hx => ?_⟩, ⟨fun b x hx hx2 => ?_⟩⟩, .inl ⟨hv, by show getM (putM _ _ _) _ = _; rw [getM_put, if_pos rfl]⟩⟩
    · show b ∈ (seeD c a).names ↔ (getM (putM (seeD c a).km a k) b).isSome = true
      rw [getM_put, g.ok.has b]
      by_cases hab : a = b
      · subst hab; rw [if_pos rfl, hk0]; exact ⟨fun _ => rfl, fun _ => rfl⟩
      · rw [if_neg hab]
    · change getM (putM (seeD c a).km a k) b = some x at hx
      rw [getM_put] at hx
      by_cases hab : a = b
      · rw [if_pos hab] at hx; exact .inr ((Option.some.inj hx) ▸ hk)
      · rw [if_neg hab] at hx; exact g.ok.kind b x hx
    · show getM (putM (seeD c a).km a k) b = some x
      rw [getM_put]
      by_cases hab : a = b
      · subst hab
        rw [if_pos rfl]
        rw [hk0] at hx
        obtain rfl := Option.some.inj hx
        rcases h3 with h3 | h3
        · exact absurd h3 hx2
        · rw [h3]
      · rw [if_neg hab]; exact hx
  · rename_i hv
    obtain ⟨_, h1, h⟩ := bnd_inv h
    obtain ⟨_, h2, h⟩ := bnd_inv h
    obtain ⟨_, h3, h⟩ := bnd_inv h
    cases h
    exact ⟨Good.refl hc, .inr ⟨by simpa using hv, want_inv h1, want_inv h2, of_decide_eq_true (want_inv h3)⟩⟩
/-- The predicates' kinds are kinds. -/
def KindsOK (s : kStat.V) : Prop := ∀ p ∈ sPreds s, ∀ k ∈ p.2.2.1, k ∈ sKinds s ∧ k ≠ ByteArray.empty
theorem args_good {c c' : Sc} {l : List Str} {p : kPredT.V} {at_ : Int} {fr : Bool} (hc : ScOK s c) (hp : ∀ k ∈ p.2.2.1, k ∈ sKinds s ∧ k ≠ ByteArray.empty) (h : argsD s at_ fr c l p = .ok c') : Good s c c' ∧ l.length = p.2.2.1.length ∧ ∀ q ∈ l.zip p.2.2.1, ArgOK s c' q.1 q.2 := by
  obtain ⟨_, h1, h⟩ := bnd_inv h
  obtain ⟨c1, h2, h⟩ := bnd_inv h
  cases h
  have hl := of_decide_eq_true (want_inv h1)
  have key : ∀ (l : List (Str × Str)) (c c' : Sc), ScOK s c → (∀ q ∈ l, q.2 ∈ sKinds s ∧ q.2 ≠ ByteArray.empty) → foldX (fun x (a : Str × Str) => argD s at_ fr x a.1 a.2) c l = .ok c' → Good s c c' ∧ ∀ q ∈ l, ArgOK s c' q.1 q.2 := by
    intro l
    induction l with
    | nil => intro c c' hc _ h; cases h; exact ⟨Good.refl hc, fun q hq => by cases hq⟩
    | cons q l ih =>
      intro c c' hc hq h
      obtain ⟨c1, h1, h2⟩ := bnd_inv h
      obtain ⟨k1, k2⟩ := hq q (by simp)
      obtain ⟨g1, a1⟩ := arg_good hc k1 k2 h1
      obtain ⟨g2, a2⟩ := ih c1 c' g1.ok (fun q hq' => hq q (by simp [hq'])) h2
      refine ⟨g1.trans g2, fun q' hq' => ?_⟩
      rcases List.mem_cons.1 hq' with rfl | hq'
      · exact a1.ext g2.ext k2
      · exact a2 q' hq'
  obtain ⟨g, a⟩ := key _ _ _ hc (fun q hq => hp q.2 (List.of_mem_zip hq).2) h2
  exact ⟨g, by omega, a⟩
/-- A literal whose arguments fit. -/
structure LitOK (s : kStat.V) (c : Sc) (l : kLitT.V) : Prop where
  pred : (pGet s l.2.1).isSome = true
  len : l.2.2.1.length = (predAt s l.2.1).2.2.1.length
  args : ∀ q ∈ l.2.2.1.zip (predAt s l.2.1).2.2.1, ArgOK s c q.1 q.2
theorem predAt_mem {n : Str} (h : (pGet s n).isSome = true) : predAt s n ∈ sPreds s := List.mem_of_getElem? (predAt_get n (pSome h))
theorem LitOK.ext (hK : KindsOK s) {c c' : Sc} {l : kLitT.V} (h : LitOK s c l) (e : Ext c c') : LitOK s c' l := ⟨h.pred, h.len, fun q hq => (h.args q hq).ext e (hK _ (predAt_mem h.pred) _ (List.of_mem_zip hq).2).2⟩
theorem literal_good (hK : KindsOK s) {c c' : Sc} {l : kLitT.V} {at_ : Int} {fr : Bool} (hc : ScOK s c) (h : literalD s at_ fr c l = .ok c') : Good s c c' ∧ LitOK s c' l := by
  obtain ⟨_, h1, h⟩ := bnd_inv h
  obtain ⟨_, _, h⟩ := bnd_inv h
  obtain ⟨c1, h2, h⟩ := bnd_inv h
  obtain ⟨_, _, h⟩ := bnd_inv h
  obtain ⟨_, _, h⟩ := bnd_inv h
  cases h
  obtain ⟨g, hl, ha⟩ := args_good hc (hK _ (predAt_mem (want_inv h1))) h2
  exact ⟨g, want_inv h1, hl, ha⟩
theorem term_good (hK : KindsOK s) {c c' : Sc} {t : kTerm.V} {at_ : Int} {fr : Bool} (hc : ScOK s c) (h : termD s at_ fr c t = .ok c') : Good s c c' := by
  unfold termD at h
  split at h
  · obtain ⟨_, _, h⟩ := bnd_inv h
    obtain ⟨_, _, h⟩ := bnd_inv h
    cases h
    exact Good.refl hc
  · obtain ⟨_, h1, h⟩ := bnd_inv h
    obtain ⟨_, _, h⟩ := bnd_inv h
    obtain ⟨_, _, h⟩ := bnd_inv h
    obtain ⟨c1, h2, h⟩ := bnd_inv h
    cases h
    exact (args_good hc (hK _ (predAt_mem (want_inv h1))) h2).1
theorem fold_good {α : Type} {f : Sc → α → Ex Sc} (hf : ∀ c x c', ScOK s c → f c x = .ok c' → Good s c c') : ∀ {l : List α} {c c' : Sc}, ScOK s c → foldX f c l = .ok c' → Good s c c' := by
  intro l
  induction l with
  | nil => intro c c' hc h; cases h; exact Good.refl hc
  | cons x l ih =>
    intro c c' hc h
    obtain ⟨c1, h1, h2⟩ := bnd_inv h
    have g1 := hf _ _ _ hc h1
    exact g1.trans (ih g1.ok h2)
theorem guard_good (hK : KindsOK s) {c c' : Sc} {g : kGuard.V} {at_ : Int} {fr : Bool} (hc : ScOK s c) (h : guardD s at_ fr c g = .ok c') : Good s c c' := by
  obtain ⟨_, _, h⟩ := bnd_inv h
  obtain ⟨c1, h1, h⟩ := bnd_inv h
  cases h
  exact fold_good (fun c l c' hc h => fold_good (fun c t c' hc h => term_good hK hc h) hc h) hc h1
theorem unlike_good {c c' : Sc} {a : Str} {at_ : Int} (hc : ScOK s c) (h : unlikeD s at_ c a = .ok c') : Good s c c' := by
  unfold unlikeD at h
  split at h
  · rename_i hv
    cases h
    exact (see_good hc hv).1
  · obtain ⟨_, _, h⟩ := bnd_inv h
    obtain ⟨_, _, h⟩ := bnd_inv h
    cases h
    exact Good.refl hc
theorem premise_good (hK : KindsOK s) {c c' : Sc} {p : kPrem.V} {at_ : Int} {fr : Bool} (hc : ScOK s c) (h : premiseD s at_ fr c p = .ok c') : Good s c c' ∧ (p.1 = 1 → LitOK s c' p.2.1) := by
  unfold premiseD at h
  split at h
  · rename_i h1
    obtain ⟨c1, h2, h⟩ := bnd_inv h
    cases h
    obtain ⟨g, hl⟩ := literal_good hK hc h2
    exact ⟨g, fun _ => hl⟩
  · rename_i h1
    refine ⟨?_, fun e => absurd e h1⟩
    split at h
    · obtain ⟨c1, h2, h⟩ := bnd_inv h
      cases h
      exact guard_good hK hc h2
    · split at h
      · obtain ⟨c1, h2, h⟩ := bnd_inv h
        obtain ⟨c2, h3, h⟩ := bnd_inv h
        cases h
        have g1 := unlike_good hc h2
        exact g1.trans (unlike_good g1.ok h3)
      · obtain ⟨_, h2, _⟩ := bnd_inv h
        cases h2
/-- A rule that is taken. -/
structure RuleOK (s : kStat.V) (x : kRule.V) (c : Sc) : Prop where
  ok : ScOK s c
  head : LitOK s c x.2.2.2.2.2.2
  body : ∀ p ∈ x.2.2.2.2.1, p.1 = 1 → LitOK s c p.2.1
  bound : ∀ a ∈ c.names, ∃ k, getM c.km a = some k ∧ k ∈ sKinds s
theorem rule_good (hK : KindsOK s) {c : Sc} {x : kRule.V} {at_ : Int} (h : ruleD s at_ x = .ok c) : RuleOK s x c := by
  obtain ⟨c1, h1, h⟩ := bnd_inv h
  obtain ⟨c2, h2, h⟩ := bnd_inv h
  obtain ⟨_, h3, h⟩ := bnd_inv h
  cases h
  have key : ∀ (l : List kPrem.V) (c c' : Sc), ScOK s c → foldX (premiseD s at_ false) c l = .ok c' → Good s c c' ∧ ∀ p ∈ l, p.1 = 1 → LitOK s c' p.2.1 := by
    intro l
    induction l with
    | nil => intro c c' hc h; cases h; exact ⟨Good.refl hc, fun p hp => by cases hp⟩
    | cons p l ih =>
      intro c c' hc h
      obtain ⟨c1, h1, h2⟩ := bnd_inv h
      obtain ⟨g1, a1⟩ := premise_good hK hc h1
      obtain ⟨g2, a2⟩ := ih c1 c' g1.ok h2
      refine ⟨g1.trans g2, fun p' hp' e => ?_⟩
      rcases List.mem_cons.1 hp' with rfl | hp'
      · exact (a1 e).ext hK g2.ext
      · exact a2 p' hp' e
  have h0 : ScOK s ⟨[], []⟩ := ⟨(fun a ha => by cases ha), (fun a => ⟨(fun h => by cases h), (fun h => by cases h)⟩), (fun a k h => by cases h)⟩
  obtain ⟨g1, hb⟩ := key _ _ _ h0 h1
  obtain ⟨g2, hh⟩ := literal_good hK g1.ok h2
  refine ⟨g2.ok, hh, fun p hp e => (hb p hp e).ext hK g2.ext, fun a ha => ?_⟩
  have hfree : ∀ (l : List Str), allX (freeD at_ c.km) l = .ok () → ∀ a ∈ l, (getM c.km a).getD ByteArray.empty ≠ ByteArray.empty := by
    intro l
    induction l with
    | nil => intro _ a ha; cases ha
    | cons b l ih =>
      intro h a ha
      obtain ⟨_, k1, k2⟩ := bnd_inv h
      rcases List.mem_cons.1 ha with rfl | ha
      · obtain ⟨_, k3, _⟩ := bnd_inv k1
        exact of_decide_eq_true (want_inv k3)
      · exact ih k2 a ha
  have h4 := hfree _ h3 a ha
  obtain ⟨k, hk⟩ := Option.isSome_iff_exists.1 ((g2.ok.has a).1 ha)
  rw [hk] at h4
  exact ⟨k, hk, (g2.ok.kind a k hk).resolve_left h4⟩
end
/-! ### what Check says of the items -/
theorem fst?_isSome {l : List Str} {k : Str} (h : (fst? l k).isSome = true) : k ∈ l := by
  obtain ⟨i, hi⟩ := Option.isSome_iff_exists.1 h
  exact List.mem_of_getElem? (fst?_some hi).2.2
theorem fold_all {α : Type} {f : α → Ex Unit} {φ : α → Prop} (hf : ∀ x, f x = .ok () → φ x) : ∀ {l : List α}, allX f l = .ok () → ∀ x ∈ l, φ x := by
  intro l
  induction l with
  | nil => intro _ x hx; cases hx
  | cons y l ih =>
    intro h x hx
    obtain ⟨_, h1, h2⟩ := bnd_inv h
    rcases List.mem_cons.1 hx with rfl | hx
    · exact hf _ h1
    · exact ih h2 x hx
/-- What is known of a statute that is taken. -/
structure Taken (s : kStat.V) : Prop where
  kinds : KindsOK s
  members : ∀ m ∈ sMembers s, isNameD m.1 = true ∧ m.2 ∈ sKinds s
  rules : ∀ x ∈ sRules s, x.2.2.2.2.1.length ≤ 16 ∧ ∃ c, ruleD s 0 x = .ok c
  four : fourK s
  counts : countsD s = true
theorem taken {s : kStat.V} {n : Int} (h : itemsD s 0 = .ok n) : Taken s := by
  obtain ⟨hK, hr⟩ := items_rules h
  obtain ⟨_, h0, h⟩ := bnd_inv h
  obtain ⟨z1, h1, h⟩ := bnd_inv h
  obtain ⟨z2, h2, h⟩ := bnd_inv h
  obtain ⟨z3, h3, h⟩ := bnd_inv h
  have hkn : ∀ k ∈ sKinds s, isNameD k = true := eachD_all (fun a i y x y' h => by
    obtain ⟨_, h4, _⟩ := bnd_inv h
    obtain ⟨_, h5, _⟩ := bnd_inv h4
    exact want_inv h5) h1
  have hin : ∀ (a : Int) (k : Str), kindD s a k = .ok () → k ∈ sKinds s := fun a k h => by
    obtain ⟨_, h4, _⟩ := bnd_inv h
    have h5 := want_inv h4
    rw [indexD_get] at h5
    exact fst?_isSome h5
  refine ⟨eachD_all (fun a i y p y' h => ?_) h3, eachD_all (fun a i y m y' h => ?_) h2, hr, hK, want_inv h0⟩
  · obtain ⟨_, _, h⟩ := bnd_inv h
    obtain ⟨_, _, h⟩ := bnd_inv h
    obtain ⟨_, _, h⟩ := bnd_inv h
    obtain ⟨_, h4, _⟩ := bnd_inv h
    exact fun k hk => ⟨fold_all (hin a) h4 k hk, name_ne (hkn k (fold_all (hin a) h4 k hk))⟩
  · obtain ⟨_, h4, h⟩ := bnd_inv h
    obtain ⟨_, h5, _⟩ := bnd_inv h
    obtain ⟨_, h6, _⟩ := bnd_inv h4
    exact ⟨want_inv h6, hin a _ h5⟩
/-! ### what fits asks -/
abbrev kNum (s : kStat.V) (k : Str) : Int := (getM (indexD (sKinds s)) k).getD 0
/-- The last number at that name. -/
def gotD (a : Str) : List Str → List Int → Int → Int
  | n :: ns, i :: is, g => gotD a ns is (if n = a then i else g)
  | _, _, g => g
theorem gotD_eq {a : Str} {f : Str → Int} : ∀ {ns : List Str} {g : Int}, (a ∈ ns ∨ g = f a) → gotD a ns (ns.map f) g = f a := by
  intro ns
  induction ns with
  | nil => intro g h; exact h.resolve_left (by simp)
  | cons n ns ih =>
    intro g h
    rw [List.map_cons, gotD]
    by_cases hn : n = a
    · rw [if_pos hn]; exact ih (.inr (by rw [hn]))
    · rw [if_neg hn]
      refine ih ?_
      rcases h with h | h
      · rcases List.mem_cons.1 h with h | h
        · exact absurd h.symm hn
        · exact .inl h
      · exact .inr h
/-- What fits comes to at an argument. -/
def argNum (s : kStat.V) (names : List Str) (kinds : List Int) (a : Str) : Int := if (mGet s a).isSome then kNum s (memAt s a).2 else gotD a names kinds (-1)
theorem mGet_name {s : kStat.V} (hT : Taken s) {a : Str} (h : (mGet s a).isSome = true) : isNameD a = true := by
  obtain ⟨i, hi⟩ := Option.isSome_iff_exists.1 h
  obtain ⟨_, _, h3⟩ := mGet_lt hi
  cases hm : (sMembers s)[i.toNat]? with
  | none => rw [hm] at h3; cases h3
  | some m =>
    rw [hm] at h3
    have := (hT.members m (List.mem_of_getElem? hm)).1
    rw [Option.map_some, Option.some.injEq] at h3
    rw [← h3]; exact this
theorem arg_fits {s : kStat.V} (hT : Taken s) {c : Sc} {x : kRule.V} (hc : RuleOK s x c) {a k : Str} (h : ArgOK s c a k) : argNum s c.names (c.names.map (kindNo s c)) a = kNum s k := by
  unfold argNum
  rcases h with ⟨h1, h2⟩ | ⟨h1, h2, h3, h4⟩
  · have hno : ¬ (mGet s a).isSome = true := fun h => by rw [name_not_var (mGet_name hT h)] at h1; cases h1
    rw [if_neg hno, gotD_eq (.inl ((hc.ok.has a).2 (by rw [h2]; rfl)))]
    unfold kindNo
    rw [h2]
    rfl
  · rw [if_pos h3, h4]
theorem kNum_lt {s : kStat.V} {k : Str} (h : k ∈ sKinds s) : 0 ≤ kNum s k ∧ kNum s k < (sKinds s).length := by
  unfold kNum
  obtain ⟨i, hi⟩ := fst?_mem h
  rw [indexD_get, hi]
  obtain ⟨h1, h2, _⟩ := fst?_some hi
  exact ⟨h1, h2⟩
/-! ### the members of a kind -/
def ofGo (s : kStat.V) (k : Int) : List kMember.V → Int → List Int
  | [], _ => []
  | m :: r, i => if getM (indexD (sKinds s)) m.2 = some k then i :: ofGo s k r (i + 1) else ofGo s k r (i + 1)
def ofD (s : kStat.V) (k : Int) : List Int := ofGo s k (sMembers s) 0
theorem ofGo_len (s : kStat.V) (k : Int) : ∀ (l : List kMember.V) (i : Int), (ofGo s k l i).length ≤ l.length := by
  intro l
  induction l with
  | nil => intro i; exact Nat.le_refl _
  | cons m l ih =>
    intro i
    rw [ofGo]
    split
    · simp only [List.length_cons]; have := ih (i + 1); omega
    · simp only [List.length_cons]; have := ih (i + 1); omega
def sumTo (f : Nat → Nat) : Nat → Nat
  | 0 => 0
  | n + 1 => sumTo f n + f n
theorem sumTo_add (f g : Nat → Nat) : ∀ n, sumTo (fun k => f k + g k) n = sumTo f n + sumTo g n
  | 0 => rfl
  | n + 1 => by rw [sumTo, sumTo, sumTo, sumTo_add f g n]; omega
theorem sumTo_congr {f g : Nat → Nat} (h : ∀ k, f k = g k) (n : Nat) : sumTo f n = sumTo g n := by rw [show f = g from funext h]
theorem sumTo_one (j : Int) (h0 : 0 ≤ j) : ∀ n : Nat, sumTo (fun k => if (k : Int) = j then 1 else 0) n = if j < n then 1 else 0
  | 0 => by rw [if_neg (by omega)]; rfl
  | n + 1 => by
    rw [sumTo, sumTo_one j h0 n]
    by_cases h : (n : Int) = j
    · rw [if_neg (by omega), if_pos h, if_pos (by omega)]
    · rw [if_neg h]
      by_cases h2 : j < n
      · rw [if_pos h2, if_pos (by omega)]
      · rw [if_neg h2, if_neg (by omega)]
theorem ofGo_sum (s : kStat.V) : ∀ (l : List kMember.V) (i : Int), (∀ m ∈ l, m.2 ∈ sKinds s) → sumTo (fun k => (ofGo s (k : Int) l i).length) (sKinds s).length = l.length := by
  intro l
  induction l with
  | nil =>
    intro i _
    have : ∀ n, sumTo (fun k => (ofGo s (k : Int) [] i).length) n = 0 := by
      intro n
      induction n with
      | zero => rfl
      | succ n ih => rw [sumTo, ih]; rfl
    exact this _
  | cons m l ih =>
    intro i h
    obtain ⟨j, hj⟩ := fst?_mem (h m (by simp))
    obtain ⟨h1, h2, _⟩ := fst?_some hj
    have hs : ∀ k : Nat, (ofGo s (k : Int) (m :: l) i).length = (ofGo s (k : Int) l (i + 1)).length + (if (k : Int) = j then 1 else 0) := fun k => by
      rw [ofGo, indexD_get, hj]
      by_cases hk : (k : Int) = j
      · rw [if_pos (by rw [hk]), if_pos hk]; rfl
      · rw [if_neg (fun e => hk (Option.some.inj e).symm), if_neg hk]; rfl
    rw [sumTo_congr hs, sumTo_add, ih (i + 1) (fun m hm => h m (by simp [hm])), sumTo_one j h1, if_pos h2]
    rfl
theorem of_sum {s : kStat.V} (hT : Taken s) : sumTo (fun k => (ofD s (k : Int)).length) (sKinds s).length = (sMembers s).length := ofGo_sum s _ 0 (fun m hm => (hT.members m hm).2)
end Go.Proofs.Ytkfmlekomfnleaa
