/- The plain law of what is taken away: a statute that is taken is taken without its last rule, its last class, its exceptions, its totals. Conditions: none. -/
import Derived.Test.YtkfmlekomfnleaaR14
set_option linter.unusedVariables false
set_option linter.unusedSimpArgs false
set_option maxRecDepth 10000
namespace Go.Proofs.Ytkfmlekomfnleaa
open Go Go.RowKit

/-- What passes there passes here, and comes to the same. -/
def Imp {α : Type} (x y : Ex α) : Prop := ∀ v, x = .ok v → y = .ok v
theorem Imp.refl {α : Type} {x : Ex α} : Imp x x := fun _ h => h
theorem Imp.bnd {α β : Type} {x x' : Ex α} {k k' : α → Ex β} (h : Imp x x') (hk : ∀ v, Imp (k v) (k' v)) : Imp (Go.Proofs.Ytkfmlekomfnleaa.bnd x k) (Go.Proofs.Ytkfmlekomfnleaa.bnd x' k') := fun v hv => by
  obtain ⟨y, h1, h2⟩ := bnd_inv hv
  rw [bnd_ok (h _ h1)]
  exact hk y v h2
theorem Imp.want {b b' : Bool} {e a e' a' : Int} (h : b = true → b' = true) : Imp (wantD b e a) (wantD b' e' a') := fun v hv => by
  rw [h (want_inv hv)]; rfl
theorem Imp.fold {σ α : Type} {f g : σ → α → Ex σ} (h : ∀ m x, Imp (f m x) (g m x)) : ∀ {l : List α} {m : σ}, Imp (foldX f m l) (foldX g m l) := by
  intro l
  induction l with
  | nil => intro m; exact Imp.refl
  | cons x l ih => intro m; exact Imp.bnd (h m x) fun _ => ih
theorem each_le {σ α : Type} {f f' : Int → Int → σ → α → Ex σ} : ∀ {l l' : List α} {a a' i : Int} {y : σ} {z : Int × σ}, (∀ (k : Nat) (x : α), l'[k]? = some x → ∀ a a' y, Imp (f a (i + k) y x) (f' a' (i + k) y x)) → l' <+: l → eachD f a i y l = .ok z → ∃ y', eachD f' a' i y l' = .ok (a' + l'.length, y') := by
  intro l
  induction l with
  | nil =>
    intro l' a a' i y z _ hp _
    obtain rfl := List.prefix_nil.1 hp
    exact ⟨y, by simp [eachD]⟩
  | cons x l ih =>
    intro l' a a' i y z hf hp h
    cases l' with
    | nil => exact ⟨y, by simp [eachD]⟩
    | cons x' l' =>
      obtain ⟨rfl, hp2⟩ := List.cons_prefix_cons.1 hp
      obtain ⟨y1, h1, h2⟩ := bnd_inv h
      have h3 := hf 0 x' rfl a a' y _ (by simpa using h1)
      obtain ⟨y', h4⟩ := ih (l' := l') (a' := a' + 1) (fun k x hx a a' y => by
        have := hf (k + 1) x (by simpa using hx) a a' y
        rw [show i + 1 + (k : Int) = i + ((k + 1 : Nat) : Int) by omega]
        exact this) hp2 h2
      refine ⟨y', ?_⟩
      rw [eachD, bnd_ok (by simpa using h3), h4]
      simp only [List.length_cons]
      congr 2
      omega
theorem fst?_append (a t : List Str) (k : Str) : fst? (a ++ t) k = match fst? a k with | some v => some v | none => (fst? t k).map (· + a.length) := by
  induction a with
  | nil => show fst? t k = _; cases fst? t k <;> simp [fst?]
  | cons x a ih =>
    rw [List.cons_append, fst?, fst?, ih]
    by_cases h : x = k
    · rw [if_pos h, if_pos h]
    · rw [if_neg h, if_neg h]
      cases fst? a k with
      | some v => rfl
      | none =>
        cases fst? t k with
        | none => rfl
        | some v => simp; omega
theorem fst?_mem {l : List Str} {k : Str} (h : k ∈ l) : ∃ v, fst? l k = some v := by
  induction l with
  | nil => cases h
  | cons x l ih =>
    rw [fst?]
    by_cases hx : x = k
    · exact ⟨0, by rw [if_pos hx]⟩
    · rcases List.mem_cons.1 h with h | h
      · exact absurd h.symm hx
      · obtain ⟨v, hv⟩ := ih h
        exact ⟨v + 1, by rw [if_neg hx, hv]; rfl⟩
theorem fst?_prefix {l' l : List Str} (h : l' <+: l) {k : Str} (hk : k ∈ l') : fst? l k = fst? l' k := by
  obtain ⟨t, rfl⟩ := h
  obtain ⟨v, hv⟩ := fst?_mem hk
  rw [fst?_append, hv]
/-- The same kinds, members, predicates, sources. -/
structure Like (s s' : kStat.V) : Prop where
  kinds : sKinds s' = sKinds s
  members : sMembers s' = sMembers s
  preds : sPreds s' = sPreds s
  sources : sSources s' = sSources s
section
variable {s s' : kStat.V}
theorem Like.pGet (h : Like s s') (n : Str) : pGet s' n = pGet s n := by unfold Go.Proofs.Ytkfmlekomfnleaa.pGet; rw [h.preds]
theorem Like.predAt (h : Like s s') (n : Str) : predAt s' n = predAt s n := by unfold Go.Proofs.Ytkfmlekomfnleaa.predAt pIdx; rw [h.pGet, h.preds]
theorem Like.mGet (h : Like s s') (n : Str) : mGet s' n = mGet s n := by unfold Go.Proofs.Ytkfmlekomfnleaa.mGet; rw [h.members]
theorem Like.memAt (h : Like s s') (n : Str) : memAt s' n = memAt s n := by unfold Go.Proofs.Ytkfmlekomfnleaa.memAt; rw [h.mGet, h.members]
theorem imp_fresh {l : List Str} {a a' i : Int} {n : Str} : Imp (freshD l a n i) (freshD l a' n i) := Imp.bnd (Imp.want id) fun _ => Imp.bnd (Imp.want id) fun _ => Imp.refl
theorem imp_fresh_prefix {l l' : List Str} {a a' i : Int} {n : Str} (h : l' <+: l) (hn : n ∈ l') : Imp (freshD l a n i) (freshD l' a' n i) :=
  Imp.bnd (Imp.want id) fun _ => Imp.bnd (Imp.want (by rw [indexD_get, indexD_get, fst?_prefix h hn]; exact id)) fun _ => Imp.refl
theorem imp_kind (h : Like s s') {a a' : Int} {n : Str} : Imp (kindD s a n) (kindD s' a' n) := Imp.bnd (Imp.want (by rw [h.kinds]; exact id)) fun _ => Imp.refl
theorem imp_pred (h : Like s s') {a a' i : Int} {p : kPredT.V} : Imp (predD s a p i) (predD s' a' p i) := by
  refine Imp.bnd (by rw [h.preds]; exact imp_fresh) fun _ => Imp.bnd (Imp.want id) fun _ => Imp.bnd (Imp.want id) fun _ => Imp.bnd (Imp.fold fun _ _ => imp_kind h) fun _ => ?_
  split
  · exact Imp.bnd (Imp.want id) fun _ => Imp.bnd (Imp.fold fun _ _ => Imp.bnd (Imp.want id) fun _ => Imp.refl) fun _ => Imp.refl
  · exact Imp.bnd (Imp.want id) fun _ => Imp.refl
theorem imp_class (h : Like s s') {a a' : Int} {l : List Str} {m : List (Str × Int)} : Imp (classD s a l m) (classD s' a' l m) :=
  Imp.bnd (Imp.want id) fun _ => Imp.bnd (Imp.fold fun _ _ => Imp.bnd (Imp.want (by rw [h.pGet]; exact id)) fun _ => Imp.bnd (Imp.want (by rw [h.predAt]; exact id)) fun _ => Imp.bnd (Imp.want (by rw [h.predAt, h.predAt]; exact id)) fun _ => Imp.bnd (Imp.want id) fun _ => Imp.refl) fun _ => Imp.refl
theorem imp_arg (h : Like s s') {a a' : Int} {fr : Bool} {x : Sc} {v k : Str} : Imp (argD s a fr x v k) (argD s' a' fr x v k) := by
  unfold argD
  split
  · exact Imp.bnd (Imp.want id) fun _ => Imp.bnd (Imp.want id) fun _ => Imp.refl
  · exact Imp.bnd (Imp.want id) fun _ => Imp.bnd (Imp.want (by rw [h.mGet]; exact id)) fun _ => Imp.bnd (Imp.want (by rw [h.memAt]; exact id)) fun _ => Imp.refl
theorem imp_args (h : Like s s') {a a' : Int} {fr : Bool} {x : Sc} {l : List Str} {p : kPredT.V} : Imp (argsD s a fr x l p) (argsD s' a' fr x l p) := Imp.bnd (Imp.want id) fun _ => Imp.bnd (Imp.fold fun _ _ => imp_arg h) fun _ => Imp.refl
theorem imp_literal (h : Like s s') {a a' : Int} {fr : Bool} {x : Sc} {l : kLitT.V} : Imp (literalD s a fr x l) (literalD s' a' fr x l) := by
  unfold literalD
  rw [h.pGet, h.predAt]
  exact Imp.bnd (Imp.want id) fun _ => Imp.bnd (Imp.want id) fun _ => Imp.bnd (imp_args h) fun _ => Imp.bnd (Imp.want id) fun _ => Imp.bnd (Imp.want id) fun _ => Imp.refl
theorem imp_term (h : Like s s') {a a' : Int} {fr : Bool} {x : Sc} {t : kTerm.V} : Imp (termD s a fr x t) (termD s' a' fr x t) := by
  unfold termD
  rw [h.pGet, h.predAt]
  split
  · exact Imp.bnd (Imp.want id) fun _ => Imp.bnd (Imp.want id) fun _ => Imp.refl
  · exact Imp.bnd (Imp.want id) fun _ => Imp.bnd (Imp.want id) fun _ => Imp.bnd (Imp.want id) fun _ => Imp.bnd (imp_args h) fun _ => Imp.refl
theorem imp_unlike (h : Like s s') {a a' : Int} {x : Sc} {v : Str} : Imp (unlikeD s a x v) (unlikeD s' a' x v) := by
  unfold unlikeD
  rw [h.mGet]
  split
  · exact Imp.refl
  · exact Imp.bnd (Imp.want id) fun _ => Imp.bnd (Imp.want id) fun _ => Imp.refl
theorem imp_guard (h : Like s s') {a a' : Int} {fr : Bool} {x : Sc} {g : kGuard.V} : Imp (guardD s a fr x g) (guardD s' a' fr x g) := Imp.bnd (Imp.want id) fun _ => Imp.bnd (Imp.fold fun _ _ => Imp.fold fun _ _ => imp_term h) fun _ => Imp.refl
theorem imp_premise (h : Like s s') {a a' : Int} {fr : Bool} {x : Sc} {p : kPrem.V} : Imp (premiseD s a fr x p) (premiseD s' a' fr x p) := by
  unfold premiseD
  split
  · exact Imp.bnd (imp_literal h) fun _ => Imp.refl
  · split
    · exact Imp.bnd (imp_guard h) fun _ => Imp.refl
    · split
      · exact Imp.bnd (imp_unlike h) fun _ => Imp.bnd (imp_unlike h) fun _ => Imp.refl
      · exact Imp.bnd (Imp.want id) fun _ => Imp.refl
theorem imp_rule (h : Like s s') {a a' : Int} {x : kRule.V} : Imp (ruleD s a x) (ruleD s' a' x) := Imp.bnd (Imp.fold fun _ _ => imp_premise h) fun _ => Imp.bnd (imp_literal h) fun _ => Imp.bnd (Imp.fold fun _ _ => Imp.bnd (Imp.want id) fun _ => Imp.refl) fun _ => Imp.refl
theorem imp_ruleItem (h : Like s s') {a a' i : Int} {x : kRule.V} (hr : sRules s' <+: sRules s) (hx : x ∈ sRules s') : Imp (ruleItemD s a x i) (ruleItemD s' a' x i) :=
  Imp.bnd (imp_fresh_prefix (hr.map nameOf) (List.mem_map.2 ⟨x, hx, rfl⟩)) fun _ => Imp.bnd (Imp.want (by rw [h.sources]; exact id)) fun _ => Imp.bnd (Imp.want id) fun _ => Imp.bnd (Imp.want id) fun _ => Imp.bnd (Imp.want id) fun _ => Imp.bnd (Imp.want id) fun _ => Imp.bnd (imp_rule h) fun _ => Imp.refl
theorem imp_total (h : Like s s') {a a' i : Int} {x : kTotal.V} (ht : sTotals s' = sTotals s) : Imp (totalD s a x i) (totalD s' a' x i) := by
  unfold totalD
  rw [ht]
  refine Imp.bnd imp_fresh fun _ => Imp.bnd (imp_kind h) fun _ => Imp.bnd (Imp.want id) fun _ => Imp.bnd (Imp.fold fun _ _ => ?_) fun _ => Imp.bnd (Imp.want id) fun _ => Imp.bnd (Imp.want id) fun _ => Imp.refl
  unfold totalStep
  rw [h.pGet, h.predAt]
  exact Imp.bnd (Imp.want id) fun _ => Imp.bnd (Imp.want id) fun _ => Imp.bnd (Imp.want id) fun _ => Imp.bnd (Imp.want id) fun _ => Imp.refl
/-- What has been taken away at its ends. -/
structure Less (s s' : kStat.V) : Prop extends Like s s' where
  classes : sClasses s' <+: sClasses s
  rules : sRules s' <+: sRules s
  excepts : sExcepts s' = [] ∨ (sExcepts s' = sExcepts s ∧ sRules s' = sRules s)
  totals : sTotals s' = [] ∨ sTotals s' = sTotals s
theorem items_less (h : Less s s') {a n : Int} (ho : itemsD s a = .ok n) : ∃ n', itemsD s' a = .ok n' ∧ n' ≤ n := by
  have hL := h.toLike
  obtain ⟨_, h0, ho⟩ := bnd_inv ho
  obtain ⟨z1, h1, ho⟩ := bnd_inv ho
  obtain ⟨z2, h2, ho⟩ := bnd_inv ho
  obtain ⟨z3, h3, ho⟩ := bnd_inv ho
  obtain ⟨z4, h4, ho⟩ := bnd_inv ho
  obtain ⟨z5, h5, ho⟩ := bnd_inv ho
  obtain ⟨z6, h6, ho⟩ := bnd_inv ho
  obtain ⟨z7, h7, ho⟩ := bnd_inv ho
  obtain ⟨z8, h8, ho⟩ := bnd_inv ho
  cases ho
  have lc := h.classes.length_le
  have lr := h.rules.length_le
  have le : (sExcepts s').length ≤ (sExcepts s).length := by rcases h.excepts with h | ⟨h, _⟩ <;> rw [h] <;> simp
  have lt : (sTotals s').length ≤ (sTotals s).length := by rcases h.totals with h | h <;> rw [h] <;> simp
  have e1 := eachD_at h1
  have e2 := eachD_at h2
  have e3 := eachD_at h3
  have e4 := eachD_at h4
  have e5 := eachD_at h5
  have e6 := eachD_at h6
  have e7 := eachD_at h7
  have e8 := eachD_at h8
  obtain ⟨_, g1⟩ := each_le (f' := kindItemD s') (l' := sKinds s') (a' := a) (fun k x hx a a' y => by unfold kindItemD; rw [hL.kinds]; exact Imp.bnd imp_fresh fun _ => Imp.refl) (by rw [hL.kinds]; exact List.prefix_refl _) h1
  obtain ⟨_, g2⟩ := each_le (f' := memberItemD s') (l' := sMembers s') (a' := a + (sKinds s').length) (fun k x hx a a' y => by unfold memberItemD; rw [hL.members]; exact Imp.bnd imp_fresh fun _ => Imp.bnd (imp_kind hL) fun _ => Imp.refl) (by rw [hL.members]; exact List.prefix_refl _) h2
  obtain ⟨_, g3⟩ := each_le (f' := predItemD s') (l' := sPreds s') (a' := a + (sKinds s').length + (sMembers s').length) (fun k x hx a a' y => imp_pred hL) (by rw [hL.preds]; exact List.prefix_refl _) h3
  obtain ⟨_, g4⟩ := each_le (f' := classItemD s') (l' := sClasses s') (a' := a + (sKinds s').length + (sMembers s').length + (sPreds s').length) (fun k x hx a a' y => Imp.bnd (imp_class hL) fun _ => Imp.refl) h.classes h4
  obtain ⟨_, g5⟩ := each_le (f' := sourceItemD s') (l' := sSources s') (a' := a + (sKinds s').length + (sMembers s').length + (sPreds s').length + (sClasses s').length) (fun k x hx a a' y => by unfold sourceItemD; rw [hL.sources]; exact Imp.bnd imp_fresh fun _ => Imp.bnd (Imp.want id) fun _ => Imp.refl) (by rw [hL.sources]; exact List.prefix_refl _) h5
  obtain ⟨_, g6⟩ := each_le (f' := rulesItemD s') (l' := sRules s') (a' := a + (sKinds s').length + (sMembers s').length + (sPreds s').length + (sClasses s').length + (sSources s').length) (fun k x hx a a' y => imp_ruleItem hL h.rules (List.mem_of_getElem? hx)) h.rules h6
  obtain ⟨_, g7⟩ : ∃ y', eachD (exceptItemD s') (a + (sKinds s').length + (sMembers s').length + (sPreds s').length + (sClasses s').length + (sSources s').length + (sRules s').length) 0 [] (sExcepts s') = .ok (a + (sKinds s').length + (sMembers s').length + (sPreds s').length + (sClasses s').length + (sSources s').length + (sRules s').length + (sExcepts s').length, y') := by
    rcases h.excepts with he | ⟨he, hr⟩
    · rw [he]; exact ⟨[], by simp [eachD]⟩
    · exact each_le (f' := exceptItemD s') (l' := sExcepts s') (fun k x hx a a' y => by unfold exceptItemD rGet; rw [hr]; exact Imp.bnd (Imp.want id) fun _ => Imp.bnd (Imp.want id) fun _ => Imp.refl) (by rw [he]; exact List.prefix_refl _) h7
  obtain ⟨_, g8⟩ : ∃ y', eachD (totalItemD s') (a + (sKinds s').length + (sMembers s').length + (sPreds s').length + (sClasses s').length + (sSources s').length + (sRules s').length + (sExcepts s').length) 0 () (sTotals s') = .ok (a + (sKinds s').length + (sMembers s').length + (sPreds s').length + (sClasses s').length + (sSources s').length + (sRules s').length + (sExcepts s').length + (sTotals s').length, y') := by
    rcases h.totals with he | he
    · rw [he]; exact ⟨(), by simp [eachD]⟩
    · exact each_le (f' := totalItemD s') (l' := sTotals s') (fun k x hx a a' y => imp_total hL he) (by rw [he]; exact List.prefix_refl _) h8
  have hc : countsD s' = true := by
    have hc := want_inv h0
    unfold countsD at hc ⊢
    simp only [Bool.and_eq_true, decide_eq_true_eq] at hc ⊢
    rw [hL.kinds, hL.members, hL.preds, hL.sources]
    omega
  refine ⟨a + (sKinds s').length + (sMembers s').length + (sPreds s').length + (sClasses s').length + (sSources s').length + (sRules s').length + (sExcepts s').length + (sTotals s').length, ?_, ?_⟩
  · unfold itemsD
    rw [hc, bnd_ok (show wantD true 3 a = .ok () from rfl), bnd_ok g1, bnd_ok g2, bnd_ok g3, bnd_ok g4, bnd_ok g5, bnd_ok g6, bnd_ok g7, bnd_ok g8]
  · rw [e8, e7, e6, e5, e4, e3, e2, e1, hL.kinds, hL.members, hL.preds, hL.sources]
    omega
end
end Go.Proofs.Ytkfmlekomfnleaa
