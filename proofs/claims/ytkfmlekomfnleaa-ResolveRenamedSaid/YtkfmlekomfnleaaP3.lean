/- The plain law of a new name: a statute that is taken is taken with a member renamed to a name that no member has; its variables stay. Conditions: none. -/
import Derived.Test.YtkfmlekomfnleaaP2
import Derived.Test.YtkfmlekomfnleaaR38
set_option linter.unusedVariables false
set_option linter.unusedSimpArgs false
set_option maxRecDepth 10000
namespace Go.Proofs.Ytkfmlekomfnleaa
open Go Go.RowKit

theorem Imp.foldMap {σ α β : Type} {f : σ → α → Ex σ} {g : σ → β → Ex σ} {u : α → β} (h : ∀ m x, Imp (f m x) (g m (u x))) : ∀ {l : List α} {m : σ}, Imp (foldX f m l) (foldX g m (l.map u)) := by
  intro l
  induction l with
  | nil => intro m; exact Imp.refl
  | cons x l ih => intro m; exact Imp.bnd (h m x) fun _ => ih
theorem Imp.eachMap {σ α β : Type} {f : Int → Int → σ → α → Ex σ} {g : Int → Int → σ → β → Ex σ} {u : α → β} : ∀ {l : List α} {a i : Int} {y : σ}, (∀ x ∈ l, ∀ a i y, Imp (f a i y x) (g a i y (u x))) → Imp (eachD f a i y l) (eachD g a i y (l.map u)) := by
  intro l
  induction l with
  | nil => intro a i y _; exact Imp.refl
  | cons x l ih => intro a i y h; exact Imp.bnd (h x (by simp) a i y) fun _ => ih fun x hx => h x (by simp [hx])
theorem turn_eq {a b x n : Str} (hx : x ≠ b) (hn : n ≠ b) : turnD a b x = turnD a b n ↔ x = n := by
  unfold turnD
  by_cases h1 : x = a <;> by_cases h2 : n = a
  · rw [if_pos h1, if_pos h2, h1, h2]; simp
  · rw [if_pos h1, if_neg h2]
    exact ⟨fun h => absurd h.symm hn, fun h => absurd (h ▸ h1) h2⟩
  · rw [if_neg h1, if_pos h2]
    exact ⟨fun h => absurd h hx, fun h => absurd (h ▸ h2) h1⟩
  · rw [if_neg h1, if_neg h2]
theorem fst?_turn {a b : Str} {l : List Str} (hl : ∀ x ∈ l, x ≠ b) {n : Str} (hn : n ≠ b) : fst? (l.map (turnD a b)) (turnD a b n) = fst? l n := by
  induction l with
  | nil => rfl
  | cons x l ih =>
    rw [List.map_cons, fst?, fst?, ih fun y hy => hl y (by simp [hy])]
    by_cases h : x = n
    · rw [if_pos h, if_pos ((turn_eq (hl x (by simp)) hn).2 h)]
    · rw [if_neg h, if_neg fun k => h ((turn_eq (hl x (by simp)) hn).1 k)]
theorem fst?_no {l : List Str} {b : Str} (h : fst? l b = none) : ∀ x ∈ l, x ≠ b := by
  intro x hx e
  obtain ⟨v, hv⟩ := fst?_mem (e ▸ hx)
  rw [h] at hv
  cases hv
section
variable {s : kStat.V} {a b : Str} (hm : mGet s b = none) (hav : isVarD a = false) (hbn : isNameD b = true)
theorem names_turn : (sMembers (statR a b s)).map nameOf = ((sMembers s).map nameOf).map (turnD a b) := by
  show ((sMembers s).map (memR a b)).map nameOf = _
  rw [List.map_map, List.map_map]
  rfl
include hm
theorem no_b : ∀ x ∈ (sMembers s).map nameOf, x ≠ b := fst?_no (by rw [← indexD_get]; exact hm)
theorem mGet_turn {n : Str} (hn : n ≠ b) : mGet (statR a b s) (turnD a b n) = mGet s n := by
  unfold mGet
  rw [names_turn, indexD_get, indexD_get, fst?_turn (no_b hm) hn]
theorem memAt_turn {n : Str} (hn : n ≠ b) : (memAt (statR a b s) (turnD a b n)).2 = (memAt s n).2 := by
  unfold memAt
  rw [mGet_turn hm hn]
  show ((((sMembers s).map (memR a b))[((mGet s n).getD 0).toNat]?).getD _).2 = _
  rw [List.getElem?_map]
  cases (sMembers s)[((mGet s n).getD 0).toNat]? with
  | none => rfl
  | some x => rfl
include hav hbn
theorem imp_argR {at_ : Int} {fr : Bool} {x : Sc} {v k : Str} : Imp (argD s at_ fr x v k) (argD (statR a b s) at_ fr x (turnD a b v) k) := by
  unfold argD
  by_cases hv : isVarD v = true
  · have e : turnD a b v = v := by
      unfold turnD
      rw [if_neg]
      intro e
      rw [e, hav] at hv
      cases hv
    rw [e, if_pos hv, if_pos hv]
    exact Imp.refl
  · rw [if_neg hv]
    by_cases hb : v = b
    · subst hb
      intro r hr
      obtain ⟨_, _, hr⟩ := bnd_inv hr
      obtain ⟨_, h2, _⟩ := bnd_inv hr
      have := want_inv h2
      rw [hm] at this
      cases this
    · have h1 : isVarD (turnD a b v) = false := by
        unfold turnD
        split
        · exact name_not_var hbn
        · simpa using hv
      rw [if_neg (by rw [h1]; simp)]
      refine Imp.bnd (Imp.want fun h => ?_) fun _ => Imp.bnd (Imp.want (by rw [mGet_turn hm hb]; exact id)) fun _ => Imp.bnd (Imp.want (by rw [memAt_turn hm hb]; exact id)) fun _ => Imp.refl
      unfold turnD
      split
      · exact hbn
      · exact h
theorem imp_argsR {at_ : Int} {fr : Bool} {x : Sc} {l : List Str} {p : kPredT.V} : Imp (argsD s at_ fr x l p) (argsD (statR a b s) at_ fr x (l.map (turnD a b)) p) := by
  unfold argsD
  rw [List.length_map, List.zip_map_left]
  exact Imp.bnd (Imp.want id) fun _ => Imp.bnd (Imp.foldMap (u := Prod.map (turnD a b) id) fun _ y => imp_argR hm hav hbn) fun _ => Imp.refl
theorem imp_literalR {at_ : Int} {fr : Bool} {x : Sc} {l : kLitT.V} : Imp (literalD s at_ fr x l) (literalD (statR a b s) at_ fr x (litR a b l)) :=
  Imp.bnd (Imp.want id) fun _ => Imp.bnd (Imp.want id) fun _ => Imp.bnd (imp_argsR hm hav hbn) fun _ => Imp.bnd (Imp.want id) fun _ => Imp.bnd (Imp.want id) fun _ => Imp.refl
theorem imp_termR {at_ : Int} {fr : Bool} {x : Sc} {t : kTerm.V} : Imp (termD s at_ fr x t) (termD (statR a b s) at_ fr x (termR a b t)) := by
  have e : List.length (termR a b t).2.2.1 = List.length t.2.2.1 := List.length_map _
  unfold termD
  rw [e]
  show Imp (if t.2.1 = ByteArray.empty then _ else _) (if t.2.1 = ByteArray.empty then _ else _)
  split
  · exact Imp.bnd (Imp.want id) fun _ => Imp.bnd (Imp.want id) fun _ => Imp.refl
  · exact Imp.bnd (Imp.want id) fun _ => Imp.bnd (Imp.want id) fun _ => Imp.bnd (Imp.want id) fun _ => Imp.bnd (imp_argsR hm hav hbn) fun _ => Imp.refl
theorem imp_unlikeR {at_ : Int} {x : Sc} {v : Str} : Imp (unlikeD s at_ x v) (unlikeD (statR a b s) at_ x (turnD a b v)) := by
  unfold unlikeD
  by_cases hv : isVarD v = true
  · have e : turnD a b v = v := by
      unfold turnD
      rw [if_neg]
      intro e
      rw [e, hav] at hv
      cases hv
    rw [e, if_pos hv, if_pos hv]
    exact Imp.refl
  · rw [if_neg hv]
    by_cases hb : v = b
    · subst hb
      intro r hr
      obtain ⟨_, _, hr⟩ := bnd_inv hr
      obtain ⟨_, h2, _⟩ := bnd_inv hr
      have := want_inv h2
      rw [hm] at this
      cases this
    · have h1 : isVarD (turnD a b v) = false := by
        unfold turnD
        split
        · exact name_not_var hbn
        · simpa using hv
      rw [if_neg (by rw [h1]; simp)]
      refine Imp.bnd (Imp.want fun h => ?_) fun _ => Imp.bnd (Imp.want (by rw [mGet_turn hm hb]; exact id)) fun _ => Imp.refl
      unfold turnD
      split
      · exact hbn
      · exact h
theorem imp_guardR {at_ : Int} {fr : Bool} {x : Sc} {g : kGuard.V} : Imp (guardD s at_ fr x g) (guardD (statR a b s) at_ fr x (guardR a b g)) := by
  have e1 : List.length (guardR a b g).1 = List.length g.1 := List.length_map _
  have e2 : List.length (guardR a b g).2.2 = List.length g.2.2 := List.length_map _
  unfold guardD
  rw [e1, e2]
  refine Imp.bnd (Imp.want id) fun _ => Imp.bnd ?_ fun _ => Imp.refl
  have h1 : ∀ (m : Sc) (t : kTerm.V), Imp (termD s at_ fr m t) (termD (statR a b s) at_ fr m (termR a b t)) := fun m t => imp_termR hm hav hbn
  have h2 : ∀ (m : Sc) (l : List kTerm.V), Imp (foldX (termD s at_ fr) m l) (foldX (termD (statR a b s) at_ fr) m (l.map (termR a b))) := fun m l => Imp.foldMap h1
  exact Imp.foldMap (u := fun l : List kTerm.V => l.map (termR a b)) (l := [g.1, g.2.2]) h2
theorem imp_premR {at_ : Int} {fr : Bool} {x : Sc} {p : kPrem.V} : Imp (premiseD s at_ fr x p) (premiseD (statR a b s) at_ fr x (premR a b p)) := by
  unfold premiseD
  show Imp (if p.1 = 1 then _ else if p.1 = 2 then _ else if p.1 = 3 then _ else _) (if p.1 = 1 then _ else if p.1 = 2 then _ else if p.1 = 3 then _ else _)
  split
  · exact Imp.bnd (imp_literalR hm hav hbn) fun _ => Imp.refl
  · split
    · exact Imp.bnd (imp_guardR hm hav hbn) fun _ => Imp.refl
    · split
      · exact Imp.bnd (imp_unlikeR hm hav hbn) fun _ => Imp.bnd (imp_unlikeR hm hav hbn) fun _ => Imp.refl
      · exact Imp.bnd (Imp.want id) fun _ => Imp.refl
theorem imp_ruleR {at_ : Int} {x : kRule.V} : Imp (ruleD s at_ x) (ruleD (statR a b s) at_ (ruleR a b x)) := by
  have h1 : ∀ (m : Sc) (p : kPrem.V), Imp (premiseD s at_ false m p) (premiseD (statR a b s) at_ false m (premR a b p)) := fun m p => imp_premR hm hav hbn
  have h2 : Imp (foldX (premiseD s at_ false) ⟨[], []⟩ (rPrems x)) (foldX (premiseD (statR a b s) at_ false) ⟨[], []⟩ ((rPrems x).map (premR a b))) := Imp.foldMap h1
  unfold ruleD
  exact Imp.bnd h2 fun _ => Imp.bnd (imp_literalR hm hav hbn) fun _ => Imp.refl
omit hm hav hbn in
theorem rules_turn : (sRules (statR a b s)).map nameOf = (sRules s).map nameOf := by
  show ((sRules s).map (ruleR a b)).map nameOf = _
  rw [List.map_map]
  rfl
theorem imp_ruleItemR {at_ i : Int} {x : kRule.V} : Imp (ruleItemD s at_ x i) (ruleItemD (statR a b s) at_ (ruleR a b x) i) := by
  have e : List.length (ruleR a b x).2.2.2.2.1 = List.length x.2.2.2.2.1 := List.length_map _
  unfold ruleItemD
  rw [rules_turn, e]
  exact Imp.bnd imp_fresh fun _ => Imp.bnd (Imp.want id) fun _ => Imp.bnd (Imp.want id) fun _ => Imp.bnd (Imp.want id) fun _ => Imp.bnd (Imp.want id) fun _ => Imp.bnd (Imp.want id) fun _ => Imp.bnd (imp_ruleR hm hav hbn) fun _ => Imp.refl
omit hav in
theorem imp_memberR {at_ i : Int} {x : kMember.V} (hx : x.1 ≠ b) : Imp (memberItemD s at_ i () x) (memberItemD (statR a b s) at_ i () (memR a b x)) := by
  unfold memberItemD freshD
  rw [names_turn, show (memR a b x).1 = turnD a b x.1 from rfl, indexD_get, indexD_get, fst?_turn (no_b hm) hx]
  refine Imp.bnd (Imp.bnd (Imp.want fun h => ?_) fun _ => Imp.bnd (Imp.want id) fun _ => Imp.refl) fun _ => Imp.refl
  unfold turnD
  split
  · exact hbn
  · exact h
theorem items_turn {a0 : Int} : Imp (itemsD s a0) (itemsD (statR a b s) a0) := by
  have hc : countsD (statR a b s) = countsD s := by
    have e1 : (sMembers (statR a b s)).length = (sMembers s).length := List.length_map _
    have e2 : (sRules (statR a b s)).length = (sRules s).length := List.length_map _
    unfold countsD
    rw [e1, e2]
    rfl
  have hx : ∀ m c, exceptItemD (statR a b s) m c = exceptItemD s m c := fun m c => by
    funext m2 x
    unfold exceptItemD rGet
    rw [rules_turn]
  unfold itemsD
  rw [hc]
  refine Imp.bnd Imp.refl fun _ => Imp.bnd Imp.refl fun z1 => Imp.bnd (Imp.eachMap fun x hx a i y => imp_memberR hm hbn (no_b hm _ (List.mem_map.2 ⟨x, hx, rfl⟩))) fun z2 => Imp.bnd Imp.refl fun z3 => Imp.bnd Imp.refl fun z4 => Imp.bnd Imp.refl fun z5 => Imp.bnd (Imp.eachMap fun x _ a i y => imp_ruleItemR hm hav hbn) fun z6 => Imp.bnd ?_ fun z7 => Imp.refl
  rw [show exceptItemD (statR a b s) = exceptItemD s from funext fun m => funext fun c => hx m c]
  exact Imp.refl
end
/-- What the law of a new name asks. -/
theorem renamed_law {s : kStat.V} {n : Int} (h : itemsD s 0 = .ok n) {k : Nat} {m : kMember.V} (hk : (sMembers s)[k]? = some m) {b : Str} (hm : mGet s b = none) (hbn : isNameD b = true) :
    itemsD (statR m.1 b s) 0 = .ok n ∧ (∀ i, varsD (statR m.1 b s) i = varsD s i) ∧ getM (indexD ((sMembers (statR m.1 b s)).map nameOf)) b = getM (indexD ((sMembers s).map nameOf)) m.1 ∧ (getM (indexD ((sMembers s).map nameOf)) m.1).isSome = true := by
  have hT := taken h
  have hav : isVarD m.1 = false := name_not_var (hT.members m (List.mem_of_getElem? hk)).1
  have h1 := items_turn hm hav hbn n h
  have hin : m.1 ∈ (sMembers s).map nameOf := List.mem_map.2 ⟨m, List.mem_of_getElem? hk, rfl⟩
  refine ⟨h1, fun i => ?_, ?_, ?_⟩
  · obtain ⟨hK, hr⟩ := items_rules h
    have el : (sRules (statR m.1 b s)).length = (sRules s).length := List.length_map _
    unfold varsD checkD
    rw [h, h1, el]
    show (if (0 : Int) = 0 then _ else _) = (if (0 : Int) = 0 then _ else _)
    rw [if_pos rfl, if_pos rfl]
    by_cases hi : i < 0 ∨ ((sRules s).length : Int) ≤ i
    · rw [if_pos hi, if_pos hi]
    · rw [if_neg hi, if_neg hi]
      have hn : i.toNat < (sRules s).length := by omega
      have ea : ruleAt (statR m.1 b s) i = ruleR m.1 b (ruleAt s i) := by
        unfold ruleAt
        show (((sRules s).map (ruleR m.1 b))[i.toNat]?).getD noRule = _
        rw [List.getElem?_map, List.getElem?_eq_getElem hn]
        rfl
      have hat : (sRules s)[i.toNat]? = some (ruleAt s i) := by unfold ruleAt; rw [List.getElem?_eq_getElem hn]; rfl
      obtain ⟨_, c, hc⟩ := hr _ (List.mem_of_getElem? hat)
      rw [ea, hc, imp_ruleR hm hav hbn _ hc]
      rfl
  · have hne : m.1 ≠ b := no_b hm _ hin
    have := mGet_turn hm (a := m.1) hne
    rw [show turnD m.1 b m.1 = b from if_pos rfl] at this
    exact this
  · rw [indexD_get]
    obtain ⟨v, hv⟩ := fst?_mem hin
    rw [hv]
    rfl
theorem vars_bound {s : kStat.V} {n : Int} (h : itemsD s 0 = .ok n) (hsk : (sKinds s).length * 16 ≤ reach) (i : Int) : (∀ a ∈ (varsD s i).2.1, -1 ≤ a ∧ a ≤ 140737488355328) ∧ (varsD s i).2.1.length * 8 ≤ reach := by
  obtain ⟨hK, hr⟩ := items_rules h
  unfold varsD
  split
  · split
    · exact ⟨fun a ha => (by cases ha), Nat.zero_le _⟩
    · rename_i hi
      have hn : i.toNat < (sRules s).length := by omega
      have hat : (sRules s)[i.toNat]? = some (ruleAt s i) := by unfold ruleAt; rw [List.getElem?_eq_getElem hn]; rfl
      obtain ⟨hB, c, hc⟩ := hr _ (List.mem_of_getElem? hat)
      rw [hc]
      have hl := ruleD_len hK hB hc
      refine ⟨fun a ha => ?_, ?_⟩
      · obtain ⟨v, _, rfl⟩ := List.mem_map.1 ha
        unfold kindNo
        rw [indexD_get]
        unfold reach at hsk
        cases hf : fst? (sKinds s) ((getM c.km v).getD ByteArray.empty) with
        | none => exact ⟨by decide, by decide⟩
        | some j =>
          obtain ⟨h1, h2, _⟩ := fst?_some hf
          show -1 ≤ j ∧ j ≤ 140737488355328
          omega
      · show (c.names.map (kindNo s c)).length * 8 ≤ reach
        rw [List.length_map]
        unfold reach
        omega
  · exact ⟨fun a ha => (by cases ha), Nat.zero_le _⟩
end Go.Proofs.Ytkfmlekomfnleaa
