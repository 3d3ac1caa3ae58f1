/- Parts of the proof: The plain law of Check, second part: classes, sources, exceptions, totals: the document's codes are the resolver's. · What a rule's variables are seen in. · The plain law of Check, third part: rules: the document's book goes with the resolver's scope. · The plain law of Check, fourth part: the document's Check is the resolver's. · The resolver's arg, args, literal where no variable may be. · The calculus (printed by gen_e4.py): open orders, an operation that sees what another has laid and turns what is given. · The calculus: a statement whose order is open and in which data of one's own grows: each operation in turn, the append among them. · resolve.Literal. · The document's Literal. Conditions: none. -/
import Derived.Test.YtkfmlekomfnleaaGreatPl9
/- The plain law of Check, second part: classes, sources, exceptions, totals: the document's codes are the resolver's. Conditions: none. -/
set_option linter.unusedVariables false
set_option linter.unusedSimpArgs false
set_option maxRecDepth 10000
namespace Go.Proofs.YtkfmlekomfnleaaGreat
open Go Go.RowKit

noncomputable instance memDec {α : Type} (x : α) (l : List α) : Decidable (x ∈ l) := Classical.propDecidable _
section
variable {β : Type} {k : Unit → Ex β} {c a e : Int} {b : Bool} {ψ : β → Prop} {p : Prop} [Decidable p]
theorem IsP.bad (he : ¬ e = 0) (hb : b = true ↔ ¬ p) (hk : ¬ p → IsP (k ()) c a ψ) : IsP (bnd (wantD b e a) k) (if p then e else c) a ψ := by
  by_cases h : p
  · rw [if_pos h]
    have : b = false := by cases b with
      | false => rfl
      | true => exact absurd h (hb.1 rfl)
    subst this
    exact ⟨fun h => absurd h he, fun _ => rfl⟩
  · rw [if_neg h]
    obtain rfl := hb.2 h
    exact hk h
theorem IsP.good (he : ¬ e = 0) (hb : b = true ↔ p) (hk : p → IsP (k ()) c a ψ) : IsP (bnd (wantD b e a) k) (if p then c else e) a ψ := by
  by_cases h : p
  · rw [if_pos h]
    obtain rfl := hb.2 h
    exact hk h
  · rw [if_neg h]
    have : b = false := by cases b with
      | false => rfl
      | true => exact absurd (hb.1 rfl) h
    subst this
    exact ⟨fun h => absurd h he, fun _ => rfl⟩
theorem IsP.fin {α : Type} {x : Ex α} {c a : Int} {φ : α → Prop} (h : IsP x c a φ) : IsP (bnd x .ok) c a φ := by
  rw [show bnd x .ok = x by cases x <;> rfl]; exact h
theorem if_two {p q : Prop} [Decidable p] [Decidable q] {e c : Int} : (if p then e else if q then e else c) = if p ∨ q then e else c := by
  by_cases hp : p
  · rw [if_pos hp, if_pos (.inl hp)]
  · rw [if_neg hp]
    by_cases hq : q
    · rw [if_pos hq, if_pos (.inr hq)]
    · rw [if_neg hq, if_neg (by rintro (h | h) <;> contradiction)]
/-- A code of what goes ahead, then another's. -/
theorem IsP.then {α : Type} {x : Ex α} {k : α → Ex β} {c1 : Int} {φ : α → Prop} (h : IsP x c1 a φ) (hk : c1 = 0 → ∀ v, φ v → IsP (k v) c a ψ) : IsP (Go.Proofs.YtkfmlekomfnleaaGreat.bnd x k) (if c1 = 0 then c else c1) a ψ := IsP.bnd h hk
theorem IsP.thenN {α : Type} {x : Ex α} {k : α → Ex β} {c1 : Int} {φ : α → Prop} (h : IsP x c1 a φ) (hk : c1 = 0 → ∀ v, φ v → IsP (k v) c a ψ) : IsP (Go.Proofs.YtkfmlekomfnleaaGreat.bnd x k) (if ¬ c1 = 0 then c1 else c) a ψ := by
  have := IsP.bnd h hk
  by_cases h : c1 = 0
  · rw [if_neg (not_not_intro h)]; rwa [if_pos h] at this
  · rw [if_pos h]; rwa [if_neg h] at this
end
theorem isSome_atN {l : List Str} {x : Str} : (getM (indexD l) x).isSome = true ↔ ¬ atN l x < 0 := by
  rw [indexD_get, some_atN]; exact decide_eq_true_iff
theorem atN_mem {l : List Str} {x : Str} : atN l x < 0 ↔ x ∉ l := by
  rw [atN_neg]
  induction l with
  | nil => simp [fst?]
  | cons y l ih =>
    rw [fst?]
    by_cases h : y = x
    · rw [if_pos h]; simp [h]
    · rw [if_neg h, Option.map_eq_none_iff, ih]; simp [Ne.symm h]
theorem atN_mem' {l : List Str} {x : Str} : ¬ atN l x < 0 ↔ x ∈ l := by rw [atN_mem]; exact Decidable.not_not
theorem atN_ahead {p r : List Str} {x : Str} : atN (p ++ x :: r) x < (p.length : Int) ↔ x ∈ p := by
  unfold atN
  rw [fst?_append]
  cases h : fst? p x with
  | some v =>
    have h1 := (fst?_some h).2.1
    refine ⟨fun _ => ?_, fun _ => by simpa using h1⟩
    refine atN_mem'.1 fun k => ?_
    rw [atN_neg.1 k] at h; cases h
  | none =>
    refine ⟨fun k => ?_, fun k => ?_⟩
    · simp [fst?] at k
    · exact absurd k (atN_mem.1 (atN_neg.2 h))
section
variable {s : kStat.V} {a : Int}
theorem pGet_at {x : Str} : (pGet s x).isSome = true ↔ ¬ atN (pN s) x < 0 := isSome_atN
theorem mGet_at {x : Str} : (mGet s x).isSome = true ↔ ¬ atN (mN s) x < 0 := isSome_atN
theorem rGet_at {x : Str} : (rGet s x).isSome = true ↔ ¬ atN (rN s) x < 0 := isSome_atN
theorem mark_step {κ : Type} [DecidableEq κ] {m : List (κ × Int)} {pre : List κ} {x : κ} (hm : ∀ u, (getM m u).getD 0 = 0 ↔ u ∉ pre) (u : κ) : (getM (putM m x 1) u).getD 0 = 0 ↔ u ∉ pre ++ [x] := by
  rw [getM_put]
  by_cases h : x = u
  · subst h; simp
  · rw [if_neg h, hm u]; simp [Ne.symm h]
theorem taken_any {n : Nat} {x : Str} : ((sClasses s).take n).any (fun c => decide (0 ≤ atN c x)) = true ↔ x ∈ ((sClasses s).take n).flatten := by
  rw [List.any_eq_true, List.mem_flatten]
  refine ⟨fun ⟨c, h1, h2⟩ => ⟨c, h1, ?_⟩, fun ⟨c, h1, h2⟩ => ⟨c, h1, ?_⟩⟩
  · have : 0 ≤ atN c x := of_decide_eq_true h2
    exact atN_mem'.1 (by omega)
  · have := atN_mem'.2 h2
    exact decide_eq_true (by omega)
theorem cls_is {n : Nat} {l : List Str} : ∀ {r p : List Str} {m : List (Str × Int)}, l = p ++ r → (∀ u, (getM m u).getD 0 = 0 ↔ u ∉ ((sClasses s).take n).flatten ++ p) →
    IsP (foldX (classStep s a (l[0]?.getD ByteArray.empty)) m r) (rCls s n l r p.length) a (fun m' => ∀ u, (getM m' u).getD 0 = 0 ↔ u ∉ ((sClasses s).take n).flatten ++ l) := by
  intro r
  induction r with
  | nil => intro p m hl hm; rw [List.append_nil] at hl; subst hl; exact IsP.ok hm
  | cons x r ih =>
    intro p m hl hm
    have hl2 : l = (p ++ [x]) ++ r := by rw [hl]; simp
    have h6 : ∀ {c : Int}, (if atN l x < (p.length : Int) then 6 else if ((sClasses s).take n).any (fun c => decide (0 ≤ atN c x)) = true then 6 else c) = if x ∈ ((sClasses s).take n).flatten ++ p then 6 else c := by
      intro c
      rw [if_two]
      refine ite_congr (propext ?_) (fun _ => rfl) (fun _ => rfl)
      rw [hl, atN_ahead, taken_any, List.mem_append]
      exact Or.comm
    rw [foldX, rCls, h6]
    unfold classStep
    rw [bnd_assoc]
    refine IsP.bad (by decide) pGet_at fun h1 => ?_
    rw [bnd_assoc]
    refine IsP.bad (by decide) (by rw [decide_eq_true_iff]; exact Decidable.not_not.symm) fun h2 => ?_
    rw [bnd_assoc]
    refine IsP.good (by decide) decide_eq_true_iff fun h3 => ?_
    rw [bnd_assoc]
    refine IsP.bad (by decide) (by rw [decide_eq_true_iff]; exact hm x) fun h4 => ?_
    have := ih (p := p ++ [x]) (m := putM m x 1) hl2 (fun u => by rw [← List.append_assoc]; exact mark_step hm u)
    rw [List.length_append] at this
    exact this
theorem class_is {i : Int} {n : Nat} {l : List Str} {m : List (Str × Int)} (hm : ∀ u, (getM m u).getD 0 = 0 ↔ u ∉ ((sClasses s).take n).flatten) :
    IsP (classItemD s a i m l) (rClass s n l) a (fun m' => ∀ u, (getM m' u).getD 0 = 0 ↔ u ∉ ((sClasses s).take n).flatten ++ l) := by
  unfold classItemD classD rClass
  refine IsP.fin ?_
  rw [if_two]
  refine IsP.bad (by decide) ?_ fun h1 => IsP.fin ?_
  · simp only [Bool.and_eq_true, decide_eq_true_eq]; omega
  · have := cls_is (s := s) (a := a) (n := n) (l := l) (r := l) (p := []) (m := m) rfl (fun u => by rw [List.append_nil]; exact hm u)
    exact this
theorem member_is {n : Nat} {x : kMember.V} (hx : (sMembers s)[n]? = some x) : IsP (memberItemD s a n () x) (rMem s x n) a (fun _ => True) := by
  have hx' : (mN s)[n]? = some x.1 := by rw [List.getElem?_map, hx]; rfl
  unfold memberItemD rMem
  refine IsP.then (fresh_is hx') fun _ _ _ => ?_
  exact (IsP.bnd (c2 := 0) kind_is fun _ _ _ => IsP.ok trivial).code (by by_cases h : atN (sKinds s) x.2 < 0 <;> simp [h])
theorem source_is {n : Nat} {x : kSource.V} (hx : (sSources s)[n]? = some x) : IsP (sourceItemD s a n () x) (rSrc s x n) a (fun _ => True) := by
  have hx' : (uN s)[n]? = some x.1 := by rw [List.getElem?_map, hx]; rfl
  unfold sourceItemD rSrc
  refine IsP.then (fresh_is hx') fun _ _ _ => ?_
  rw [if_two]
  have e : ∀ v : Int, (decide (0 ≤ v) && decide (v ≤ 1000)) = true ↔ ¬ (v < 0 ∨ 1000 < v) := fun v => by
    simp only [Bool.and_eq_true, decide_eq_true_eq]; omega
  exact IsP.bad (by decide) (e x.2) fun _ => IsP.ok trivial
theorem except_is {n : Nat} {x : kExc.V} {m : List (Strs2 × Int)} (hx : (sExcepts s)[n]? = some x) (hm : ∀ u : Strs2, (getM m u).getD 0 = 0 ↔ u ∉ ((sExcepts s).take n : List Strs2)) :
    IsP (exceptItemD s a n m x) (rExc s n x) a (fun m' => ∀ u : Strs2, (getM m' u).getD 0 = 0 ↔ u ∉ ((sExcepts s).take (n + 1) : List Strs2)) := by
  have ht : ((sExcepts s).take (n + 1) : List Strs2) = (sExcepts s).take n ++ [x] := by
    obtain ⟨h1, h2⟩ := List.getElem?_eq_some_iff.1 hx
    rw [← h2]
    exact List.take_succ_eq_append_getElem h1
  unfold exceptItemD rExc
  rw [if_two]
  refine IsP.bad (by decide) ?_ fun _ => ?_
  · rw [Bool.and_eq_true, rGet_at, rGet_at]
    exact not_or.symm
  refine IsP.bad (by decide) ?_ fun _ => IsP.ok fun u => ?_
  · rw [decide_eq_true_iff, hm x, List.any_eq_true]
    refine not_congr ⟨fun h => ⟨x, h, decide_eq_true rfl⟩, fun ⟨y, h1, h2⟩ => ?_⟩
    rw [← of_decide_eq_true h2]; exact h1
  · rw [ht]; exact mark_step hm u
theorem tot_is {t : kTotal.V} : ∀ {r p : List Str} {m : List (Str × Int)}, t.2.2.1 = p ++ r → (∀ u, (getM m u).getD 0 = 0 ↔ u ∉ p) →
    IsP (foldX (totalStep s a t.2.1) m r) (rTotL s t r p.length) a (fun _ => True) := by
  intro r
  induction r with
  | nil => intro p m hl hm; exact IsP.ok trivial
  | cons x r ih =>
    intro p m hl hm
    have hl2 : t.2.2.1 = (p ++ [x]) ++ r := by rw [hl]; simp
    rw [foldX, rTotL]
    unfold totalStep
    rw [bnd_assoc]
    refine IsP.bad (by decide) pGet_at fun h1 => ?_
    rw [bnd_assoc]
    refine IsP.bad (by decide) (by rw [decide_eq_true_iff]; exact Decidable.not_not.symm) fun h2 => ?_
    rw [if_two, bnd_assoc]
    refine IsP.bad (by decide) ?_ fun h3 => ?_
    · rw [Bool.and_eq_true, decide_eq_true_iff, decide_eq_true_iff, not_or, Decidable.not_not, Decidable.not_not]
    rw [bnd_assoc]
    refine IsP.bad (by decide) ?_ fun h4 => ?_
    · rw [decide_eq_true_iff, hm x, hl, atN_ahead]
    have := ih (p := p ++ [x]) (m := putM m x 1) hl2 (fun u => mark_step hm u)
    rw [List.length_append] at this
    exact this
theorem total_is {n : Nat} {t : kTotal.V} (hx : (sTotals s)[n]? = some t) : IsP (totalItemD s a n () t) (rTotal s t n) a (fun _ => True) := by
  have hx' : (tN s)[n]? = some t.1 := by rw [List.getElem?_map, hx]; rfl
  unfold totalItemD totalD rTotal
  refine IsP.then (fresh_is hx') fun _ _ _ => ?_
  refine (IsP.then (c := if (t.2.2.1.length : Int) = 0 then 3 else if 16 < (t.2.2.1.length : Int) then 3
    else if rTotL s t t.2.2.1 0 = 0 then
      if (t.2.2.2.1 && (!mayD t.2.2.2.2 || decide (t.2.2.2.2 < 0))) = true then 22 else if (!t.2.2.2.1 && decide (¬ t.2.2.2.2 = 0)) = true then 1 else 0
    else rTotL s t t.2.2.1 0) kind_is fun _ _ _ => ?_).code (by by_cases h : atN (sKinds s) t.2.1 < 0 <;> simp [h])
  rw [if_two]
  refine IsP.bad (by decide) ?_ fun _ => ?_
  · simp only [Bool.and_eq_true, decide_eq_true_eq]; omega
  refine IsP.then (tot_is (p := []) rfl fun u => by simp [getM]) fun _ _ _ => ?_
  refine IsP.bad (by decide) ?_ fun _ => ?_
  · rw [may_money]
    have : decide (t.2.2.2.2 < 0) = !decide (0 ≤ t.2.2.2.2) := by rw [Bool.eq_iff_iff]; simp
    rw [this]
    cases t.2.2.2.1 <;> cases decide (0 ≤ t.2.2.2.2) <;> cases mayD t.2.2.2.2 <;> decide
  refine IsP.bad (by decide) ?_ fun _ => IsP.ok trivial
  cases t.2.2.2.1 <;> simp
end
end Go.Proofs.YtkfmlekomfnleaaGreat
/- What a rule's variables are seen in. Conditions: none. -/
set_option linter.unusedVariables false
set_option linter.unusedSimpArgs false
set_option maxRecDepth 10000
namespace Go.Proofs.YtkfmlekomfnleaaGreat
open Go Go.RowKit Go.MapKept

abbrev argsT (t : kTerm.V) : List Str := t.2.2.1
def seenP (p : kPrem.V) : List Str := if p.1 = 1 then p.2.1.2.2.1 else if p.1 = 2 then (p.2.2.1.1 : List kTerm.V).flatMap argsT ++ (p.2.2.1.2.2 : List kTerm.V).flatMap argsT else [p.2.2.2.1, p.2.2.2.2]
def rSeen (r : kRule.V) : List Str := (prU r).flatMap seenP ++ (hdU r).2.2.1
/-- Not too long. -/
structure Short (r : kRule.V) : Prop where
  prems : (prU r).length ≤ 16
  head : List.length (hdU r).2.2.1 ≤ 4
  lit : ∀ p ∈ prU r, p.1 = 1 → List.length p.2.1.2.2.1 ≤ 4
  left : ∀ p ∈ prU r, p.1 = 2 → List.length p.2.2.1.1 ≤ 8 ∧ ∀ t ∈ (p.2.2.1.1 : List kTerm.V), (argsT t).length ≤ 4
  right : ∀ p ∈ prU r, p.1 = 2 → List.length p.2.2.1.2.2 ≤ 8 ∧ ∀ t ∈ (p.2.2.1.2.2 : List kTerm.V), (argsT t).length ≤ 4
end Go.Proofs.YtkfmlekomfnleaaGreat
/- The plain law of Check, third part: rules: the document's book goes with the resolver's scope. Conditions: none. -/
set_option linter.unusedVariables false
set_option linter.unusedSimpArgs false
set_option maxRecDepth 10000
namespace Go.Proofs.YtkfmlekomfnleaaGreat
open Go Go.RowKit

/-- A variable, once. -/
def stepN (ns : List Str) (x : Str) : List Str := if isVarD x = true then (if atN ns x < 0 then ns ++ [x] else ns) else ns
def dn (ns : List Str) (l : List Str) : List Str := l.foldl stepN ns
theorem dn_snoc {ns l : List Str} {x : Str} : dn ns (l ++ [x]) = stepN (dn ns l) x := by unfold dn; rw [List.foldl_append]; rfl
structure Rel (s : kStat.V) (c : Sc) (b : Bk) (L : List Str) : Prop where
  names : c.names = dn [] L
  here : ∀ x, (getM c.km x).isSome = true ↔ x ∈ c.names
  bound : ∀ x ∈ b.names, ∃ k, getM c.km x = some k ∧ k ∈ sKinds s ∧ b.kinds[(atN b.names x).toNat]? = some (atN (sKinds s) k)
  free : ∀ x, x ∉ b.names → (getM c.km x).getD ByteArray.empty = ByteArray.empty
  loose : ∀ x ∈ b.loose, x ∈ c.names
  only : ∀ x ∈ c.names, x ∈ b.names ∨ x ∈ b.loose
  len : b.kinds.length = b.names.length
theorem not_both {x : Str} (h : isVarD x = true) : ¬ isNameD x = true := by
  unfold isVarD at h
  unfold isNameD
  simp only [Bool.and_eq_true] at h ⊢
  intro k
  have h1 := h.1.1
  have k1 := k.1.1
  unfold headB at h1 k1
  cases hx : x[0]? with
  | none => rw [hx] at h1; cases h1
  | some c =>
    rw [hx] at h1 k1
    simp only [bigD, smallD, Bool.and_eq_true, decide_eq_true_eq] at h1 k1
    omega
theorem no_name : ¬ isNameD ByteArray.empty = true := by decide
/-- What the document's items ahead of the rules have shown. -/
structure Fit (s : kStat.V) : Prop where
  kinds : ∀ p ∈ sPreds s, ∀ k ∈ p.2.2.1, k ∈ sKinds s
  no : ByteArray.empty ∉ sKinds s
  four : fourK s
theorem see_names {c : Sc} {x : Str} (hx : isVarD x = true) (h : ∀ x, (getM c.km x).isSome = true ↔ x ∈ c.names) : (seeD c x).names = stepN c.names x := by
  unfold seeD stepN
  rw [if_pos hx]
  have := h x
  cases hg : getM c.km x with
  | none =>
    rw [hg] at this
    have : x ∉ c.names := fun k => by have := this.2 k; cases this
    rw [if_pos (atN_mem.2 this)]
  | some k =>
    rw [hg] at this
    have : x ∈ c.names := this.1 rfl
    rw [if_neg (atN_mem'.2 this)]
theorem see_get {c : Sc} {x y : Str} : (getM (seeD c x).km y).getD ByteArray.empty = (getM c.km y).getD ByteArray.empty := by
  unfold seeD
  cases hg : getM c.km x with
  | some k => rfl
  | none =>
    show (getM (putM c.km x ByteArray.empty) y).getD _ = _
    rw [getM_put]
    by_cases h : x = y
    · subst h; rw [if_pos rfl, hg]; rfl
    · rw [if_neg h]
theorem see_some {c : Sc} {x y : Str} {k : Str} (h : getM c.km y = some k) : getM (seeD c x).km y = some k := by
  unfold seeD
  cases hg : getM c.km x with
  | some k => exact h
  | none =>
    show getM (putM c.km x ByteArray.empty) y = _
    rw [getM_put]
    by_cases hxy : x = y
    · subst hxy; rw [hg] at h; cases h
    · rw [if_neg hxy, h]
theorem see_here {c : Sc} {x : Str} (h : ∀ x, (getM c.km x).isSome = true ↔ x ∈ c.names) : ∀ y, (getM (seeD c x).km y).isSome = true ↔ y ∈ (seeD c x).names := by
  intro y
  unfold seeD
  cases hg : getM c.km x with
  | some k => exact h y
  | none =>
    show (getM (putM c.km x ByteArray.empty) y).isSome = true ↔ y ∈ c.names ++ [x]
    rw [getM_put]
    by_cases hxy : x = y
    · subst hxy; simp
    · rw [if_neg hxy, h y]; simp [Ne.symm hxy]
theorem see_mem {c : Sc} {x : Str} (h : ∀ x, (getM c.km x).isSome = true ↔ x ∈ c.names) (y : Str) : y ∈ (seeD c x).names ↔ y ∈ c.names ∨ y = x := by
  rw [← see_here h y, ← h y]
  unfold seeD
  cases hg : getM c.km x with
  | some k =>
    refine ⟨.inl, fun k => ?_⟩
    rcases k with k | k
    · exact k
    · subst k; rw [hg]; rfl
  | none =>
    show (getM (putM c.km x ByteArray.empty) y).isSome = true ↔ _
    rw [getM_put]
    by_cases hxy : x = y
    · subst hxy; simp
    · rw [if_neg hxy]; simp [Ne.symm hxy]
theorem Rel.skip {s : kStat.V} {c : Sc} {b : Bk} {L : List Str} {x : Str} (h : Rel s c b L) (hx : ¬ isVarD x = true) : Rel s c b (L ++ [x]) :=
  ⟨by rw [dn_snoc, stepN, if_neg hx]; exact h.names, h.here, h.bound, h.free, h.loose, h.only, h.len⟩
theorem Rel.see {s : kStat.V} {c : Sc} {b : Bk} {L : List Str} {x : Str} (h : Rel s c b L) (hx : isVarD x = true) : Rel s (seeD c x) ⟨b.names, b.kinds, b.loose ++ [x]⟩ (L ++ [x]) where
  names := by rw [dn_snoc, ← h.names]; exact see_names hx h.here
  here := see_here h.here
  bound y hy := by
    obtain ⟨k, h1, h2, h3⟩ := h.bound y hy
    exact ⟨k, see_some h1, h2, h3⟩
  free y hy := by rw [see_get]; exact h.free y hy
  loose y hy := by
    rw [see_mem h.here]
    rcases List.mem_append.1 hy with hy | hy
    · exact .inl (h.loose y hy)
    · exact .inr (List.mem_singleton.1 hy)
  only y hy := by
    rcases (see_mem h.here y).1 hy with hy | rfl
    · rcases h.only y hy with k | k
      · exact .inl k
      · exact .inr (List.mem_append.2 (.inl k))
    · exact .inr (List.mem_append.2 (.inr (List.mem_singleton.2 rfl)))
  len := h.len
theorem atN_last {l : List Str} {x : Str} (h : x ∉ l) : atN (l ++ [x]) x = (l.length : Int) := by
  unfold atN
  rw [fst?_append, atN_neg.1 (atN_mem.2 h)]
  simp [fst?]
theorem atN_app {l r : List Str} {x : Str} (h : x ∈ l) : atN (l ++ r) x = atN l x := by
  unfold atN
  rw [fst?_append]
  obtain ⟨v, hv⟩ := fst?_mem h
  rw [hv]
theorem Rel.mark {s : kStat.V} {c : Sc} {b b' : Bk} {L : List Str} {x k : Str} (h : Rel s c b L) (hx : isVarD x = true) (hk : k ∈ sKinds s)
    (hb : (x ∉ b.names ∧ b' = ⟨b.names ++ [x], b.kinds ++ [atN (sKinds s) k], b.loose⟩) ∨ (x ∈ b.names ∧ getM c.km x = some k ∧ b' = b)) : Rel s ⟨(seeD c x).names, putM (seeD c x).km x k⟩ b' (L ++ [x]) where
  names := by rw [dn_snoc, ← h.names]; exact see_names hx h.here
  here y := by
    show (getM (putM (seeD c x).km x k) y).isSome = true ↔ y ∈ (seeD c x).names
    rw [getM_put]
    by_cases hxy : x = y
    · subst hxy; rw [if_pos rfl, see_mem h.here]; simp
    · rw [if_neg hxy]; exact see_here h.here y
  bound y hy := by
    show ∃ k', getM (putM (seeD c x).km x k) y = some k' ∧ _
    rw [getM_put]
    rcases hb with ⟨hb, rfl⟩ | ⟨hb, hg, rfl⟩
    · by_cases hxy : x = y
      · subst hxy
        refine ⟨k, by rw [if_pos rfl], hk, ?_⟩
        show (b.kinds ++ [atN (sKinds s) k])[(atN (b.names ++ [x]) x).toNat]? = _
        rw [atN_last hb, Int.toNat_natCast, ← h.len]
        simp
      · have hy' : y ∈ b.names := by
          rcases List.mem_append.1 hy with hy | hy
          · exact hy
          · exact absurd (List.mem_singleton.1 hy).symm hxy
        obtain ⟨k', h1, h2, h3⟩ := h.bound y hy'
        refine ⟨k', by rw [if_neg hxy]; exact see_some h1, h2, ?_⟩
        show (b.kinds ++ [atN (sKinds s) k])[(atN (b.names ++ [x]) y).toNat]? = _
        rw [atN_app hy', List.getElem?_append_left (List.getElem?_eq_some_iff.1 h3).1]
        exact h3
    · obtain ⟨k', h1, h2, h3⟩ := h.bound y hy
      by_cases hxy : x = y
      · subst hxy
        rw [hg] at h1
        cases h1
        exact ⟨k, by rw [if_pos rfl], h2, h3⟩
      · exact ⟨k', by rw [if_neg hxy]; exact see_some h1, h2, h3⟩
  free y hy := by
    show (getM (putM (seeD c x).km x k) y).getD _ = _
    rw [getM_put]
    rcases hb with ⟨hb, rfl⟩ | ⟨hb, hg, rfl⟩
    · have hn : y ∉ b.names ∧ x ≠ y := ⟨fun k => hy (List.mem_append.2 (.inl k)), fun k => hy (List.mem_append.2 (.inr (List.mem_singleton.2 k.symm)))⟩
      rw [if_neg hn.2, see_get]
      exact h.free y hn.1
    · have : x ≠ y := fun e => hy (e ▸ hb)
      rw [if_neg this, see_get]
      exact h.free y hy
  loose y hy := by
    show y ∈ (seeD c x).names
    rw [see_mem h.here]
    rcases hb with ⟨_, rfl⟩ | ⟨_, _, rfl⟩ <;> exact .inl (h.loose y hy)
  only y hy := by
    rcases (see_mem h.here y).1 hy with hy | rfl
    · rcases hb with ⟨_, rfl⟩ | ⟨_, _, rfl⟩
      · rcases h.only y hy with k | k
        · exact .inl (List.mem_append.2 (.inl k))
        · exact .inr k
      · exact h.only y hy
    · rcases hb with ⟨_, rfl⟩ | ⟨hb, _, rfl⟩
      · exact .inl (List.mem_append.2 (.inr (List.mem_singleton.2 rfl)))
      · exact .inl hb
  len := by
    rcases hb with ⟨_, rfl⟩ | ⟨_, _, rfl⟩
    · show (b.kinds ++ [_]).length = (b.names ++ [_]).length
      rw [List.length_append, List.length_append, h.len]; rfl
    · exact h.len
theorem IsP.err {α : Type} {e c a : Int} {φ : α → Prop} (h : ¬ e = 0) (hc : c = e) : IsP (.error (e, a)) c a φ := by subst hc; exact ⟨fun k => absurd k h, fun _ => rfl⟩
/-- The resolver's answer goes with the document's code and book. -/
def IsQ (s : kStat.V) (x : Ex Sc) (z : Int × Bk) (a : Int) (L : List Str) : Prop := IsP x z.1 a (fun c => Rel s c z.2 L)
section
variable {s : kStat.V} {a e : Int} {k : Unit → Ex Sc} {z z2 : Int × Bk} {bk : Bk} {L M : List Str} {b : Bool} {p : Prop} [Decidable p] {x : Ex Sc} {kk : Sc → Ex Sc}
theorem IsQ.bad (he : ¬ e = 0) (hb : b = true ↔ ¬ p) (hk : ¬ p → IsQ s (k ()) z a L) : IsQ s (bnd (wantD b e a) k) (if p then (e, bk) else z) a L := by
  by_cases h : p
  · rw [if_pos h]
    have : b = false := by cases b with
      | false => rfl
      | true => exact absurd h (hb.1 rfl)
    subst this
    exact ⟨fun h => absurd h he, fun _ => rfl⟩
  · rw [if_neg h]
    obtain rfl := hb.2 h
    exact hk h
theorem IsQ.then (h : IsQ s x z a L) (hk : z.1 = 0 → ∀ c, Rel s c z.2 L → IsQ s (kk c) z2 a M) : IsQ s (bnd x kk) (if z.1 = 0 then z2 else z) a M := by
  by_cases h1 : z.1 = 0
  · rw [if_pos h1]
    obtain ⟨v, hv, hφ⟩ := h.1 h1
    rw [bnd_ok hv]
    exact hk h1 v hφ
  · rw [if_neg h1, bnd_err (h.2 h1)]
    exact ⟨fun h => absurd h h1, fun _ => rfl⟩
theorem IsQ.thenN (h : IsQ s x z a L) (hk : z.1 = 0 → ∀ c, Rel s c z.2 L → IsQ s (kk c) z2 a M) : IsQ s (bnd x kk) (if ¬ z.1 = 0 then z else z2) a M := by
  rw [ite_not]; exact IsQ.then h hk
theorem IsQ.fin (h : IsQ s x z a L) : IsQ s (bnd x .ok) z a L := IsP.fin h
theorem if_twoQ {α : Type} {p q : Prop} [Decidable p] [Decidable q] {e c : α} : (if p then e else if q then e else c) = if p ∨ q then e else c := by
  by_cases hp : p
  · rw [if_pos hp, if_pos (.inl hp)]
  · rw [if_neg hp]
    by_cases hq : q
    · rw [if_pos hq, if_pos (.inr hq)]
    · rw [if_neg hq, if_neg (by rintro (h | h) <;> contradiction)]
theorem foldQ {α : Type} {f : Sc → α → Ex Sc} {g : Bk → α → Int × Bk} {seen : α → List Str} : ∀ {l : List α}, (∀ x ∈ l, ∀ c b L, Rel s c b L → IsQ s (f c x) (g b x) a (L ++ seen x)) →
    ∀ {c b L}, Rel s c b L → IsQ s (foldX f c l) (foldC g b l) a (L ++ l.flatMap seen) := by
  intro l
  induction l with
  | nil => intro _ c b L h; rw [List.flatMap_nil, List.append_nil]; exact IsP.ok h
  | cons x l ih =>
    intro hf c b L h
    rw [foldX, foldC, List.flatMap_cons, ← List.append_assoc]
    exact IsQ.then (hf x (by simp) c b L h) fun _ c' h' => ih (fun y hy => hf y (by simp [hy])) h'
theorem foldX_append {α σ : Type} {f : σ → α → Ex σ} {l m : List α} {c : σ} : foldX f c (l ++ m) = bnd (foldX f c l) fun c' => foldX f c' m := by
  induction l generalizing c with
  | nil => rfl
  | cons x l ih =>
    rw [List.cons_append, foldX, foldX, bnd_assoc]
    congr 1
    funext c'
    exact ih
end
section
variable {s : kStat.V} {a : Int} {c : Sc} {b : Bk} {L : List Str}
theorem atN_inj {l : List Str} {x y : Str} (hx : x ∈ l) (hy : y ∈ l) (h : atN l x = atN l y) : x = y := by
  obtain ⟨i, _, h1, h2⟩ := atN_in (atN_mem'.2 hx)
  obtain ⟨j, _, h3, h4⟩ := atN_in (atN_mem'.2 hy)
  have : i = j := by rw [h1, h3] at h; omega
  subst this
  rw [h2] at h4
  exact Option.some.inj h4
theorem arg_is (hno : ByteArray.empty ∉ sKinds s) {x k : Str} (hk : k ∈ sKinds s) (h : Rel s c b L) : IsQ s (argD s a false c x k) (rArg s b x k) a (L ++ [x]) := by
  by_cases hv : isVarD x = true
  · unfold argD rArg
    rw [if_pos hv, if_neg (not_both hv), if_pos hv]
    show IsQ s (bnd (wantD (decide ((getM (seeD c x).km x).getD ByteArray.empty = ByteArray.empty) || decide ((getM (seeD c x).km x).getD ByteArray.empty = k)) 81 a) _) _ a _
    rw [see_get]
    by_cases hb : atN b.names x < 0
    · have hb' := atN_mem.1 hb
      rw [if_pos hb, h.free x hb', decide_eq_true rfl, Bool.true_or]
      exact IsP.ok (h.mark hv hk (.inl ⟨hb', rfl⟩))
    · have hb' := atN_mem'.1 hb
      obtain ⟨k', h1, h2, h3⟩ := h.bound x hb'
      have hne : ¬ k' = ByteArray.empty := fun e => hno (e ▸ h2)
      rw [if_neg hb, h1, h3]
      simp only [Option.getD_some]
      rw [decide_eq_false hne, Bool.false_or]
      by_cases hkk : k' = k
      · subst hkk
        rw [if_pos rfl, decide_eq_true rfl]
        exact IsP.ok (h.mark hv hk (.inr ⟨hb', h1, rfl⟩))
      · rw [if_neg (fun e => hkk (atN_inj h2 hk e)), decide_eq_false hkk]
        exact IsP.err (e := 81) (by decide) rfl
  · unfold argD rArg
    rw [if_neg hv, if_neg hv]
    by_cases hn : isNameD x = true
    · rw [if_pos hn, hn]
      show IsQ s (bnd (wantD (mGet s x).isSome 82 a) _) _ a _
      show IsP _ (if atN (mN s) x < 0 then 82 else if (memAt s x).2 = k then 0 else 81) a (fun c => Rel s c b _)
      refine IsP.bad (by decide) mGet_at fun _ => ?_
      exact IsP.good (by decide) decide_eq_true_iff fun _ => IsP.ok (h.skip hv)
    · rw [if_neg hn, Bool.eq_false_iff.2 hn]
      exact IsP.err (e := 71) (by decide) rfl
theorem args_is (hf : Fit s) {p : kPredT.V} (hp : p ∈ sPreds s) {l : List Str} (h : Rel s c b L) : IsQ s (argsD s a false c l p) (rArgs s b p l) a (L ++ l) := by
  unfold argsD rArgs
  refine IsQ.bad (by decide) (by rw [decide_eq_true_iff]; exact Decidable.not_not.symm) fun hl => IsQ.fin ?_
  have hl : (l.length : Int) = p.2.2.1.length := Decidable.of_not_not hl
  have := foldQ (s := s) (a := a) (f := fun x (y : Str × Str) => argD s a false x y.1 y.2) (g := fun b (y : Str × Str) => rArg s b y.1 y.2) (seen := fun y => [y.1]) (l := l.zip p.2.2.1) (fun y hy c b L h => arg_is hf.no (hf.kinds p hp _ (List.of_mem_zip hy).2) h) h
  rwa [show (l.zip p.2.2.1).flatMap (fun y => [y.1]) = l by rw [← List.map_eq_flatMap]; exact List.map_fst_zip (by omega)] at this
theorem pred_mem {x : Str} (h : ¬ atN (pN s) x < 0) : predAt s x ∈ sPreds s := by
  obtain ⟨k, h1, h2, _⟩ := atN_in h
  have hk : k < (sPreds s).length := by simpa using h1
  rw [pred_of h2 hk]
  exact List.getElem_mem hk
theorem lit_is (hf : Fit s) {l : kLitT.V} (h : Rel s c b L) : IsQ s (literalD s a false c l) (rLit s b l) a (L ++ l.2.2.1) := by
  unfold literalD rLit
  refine IsQ.bad (by decide) pGet_at fun h1 => ?_
  refine IsQ.bad (by decide) decide_eq_true_iff fun h2 => ?_
  refine IsQ.thenN (args_is hf (pred_mem h1) h) fun h3 c' h' => ?_
  generalize rArgs s b (predAt s l.2.1) l.2.2.1 = z at *
  have hh : hasD (predAt s l.2.1).2.2.2 l.2.2.2.2 = (predAt s l.2.1).2.2.2.any (fun x => decide (x = l.2.2.2.2)) := rfl
  show IsP _ (if ¬ l.2.2.2.1 = decide ((predAt s l.2.1).2.1 = 3) then 84 else if l.2.2.2.1 = true then (if hasD (predAt s l.2.1).2.2.2 l.2.2.2.2 = true then 0 else 85) else if ¬ l.2.2.2.2 = 0 then 84 else 0) a (fun c => Rel s c z.2 _)
  rw [← hh]
  generalize hasD (predAt s l.2.1).2.2.2 l.2.2.2.2 = B
  generalize decide ((predAt s l.2.1).2.1 = 3) = D
  cases hv : l.2.2.2.1 <;> cases D
  · by_cases h0 : l.2.2.2.2 = 0
    · rw [decide_eq_true h0]
      exact IsP.code (c := 0) (IsP.ok h') (by simp [h0])
    · rw [decide_eq_false h0]
      exact IsP.err (e := 84) (by decide) (by simp [h0])
  · exact IsP.err (e := 84) (by decide) (by simp)
  · exact IsP.err (e := 84) (by decide) (by simp)
  · cases B
    · exact IsP.err (e := 85) (by decide) (by simp)
    · exact IsP.code (c := 0) (IsP.ok h') (by simp)
theorem term_is (hf : Fit s) {t : kTerm.V} (h : Rel s c b L) : IsQ s (termD s a false c t) (rTerm s b t) a (L ++ argsT t) := by
  unfold termD rTerm
  by_cases h0 : t.2.1 = ByteArray.empty
  · rw [if_pos h0, if_pos h0]
    show IsP _ (if ¬ t.1 = 0 then 101 else if 0 < (t.2.2.1.length : Int) then 101 else if mayD t.2.2.2 = true then 0 else 22) a (fun c => Rel s c b _)
    rw [if_two]
    have e : ∀ (v : Int) (n : Nat), (decide (v = 0) && decide ((n : Int) = 0)) = true ↔ ¬ (¬ v = 0 ∨ 0 < (n : Int)) := fun v n => by
      rw [Bool.and_eq_true, decide_eq_true_iff, decide_eq_true_iff]; omega
    refine IsP.bad (by decide) (e _ _) fun h1 => ?_
    refine IsP.good (by decide) ?_ fun h2 => IsP.ok ?_
    · rw [may_money]
    have : argsT t = [] := List.eq_nil_of_length_eq_zero (by unfold argsT; omega)
    rw [this, List.append_nil]
    exact h
  · rw [if_neg h0, if_neg h0]
    refine IsQ.bad (by decide) pGet_at fun h1 => ?_
    refine IsQ.bad (by decide) (by rw [decide_eq_true_iff]; exact Decidable.not_not.symm) fun h2 => ?_
    rw [if_twoQ, if_twoQ, if_twoQ]
    have e : ∀ v u : Int, (decide (¬ v = 0) && decide (-1000 ≤ v) && decide (v ≤ 1000) && decide (u = 0)) = true ↔ ¬ (((v = 0 ∨ v < -1000) ∨ 1000 < v) ∨ ¬ u = 0) := fun v u => by
      simp only [Bool.and_eq_true, decide_eq_true_eq]; omega
    exact IsQ.bad (by decide) (e _ _) fun h3 => IsQ.fin (args_is hf (pred_mem h1) h)
theorem guard_is (hf : Fit s) {g : kGuard.V} (h : Rel s c b L) : IsQ s (guardD s a false c g) (rGuard s b g) a (L ++ ((g.1 : List kTerm.V).flatMap argsT ++ (g.2.2 : List kTerm.V).flatMap argsT)) := by
  unfold guardD rGuard
  rw [if_twoQ, if_twoQ, if_twoQ, if_twoQ, if_twoQ]
  have e : ∀ v n m : Int, (decide (1 ≤ v) && decide (v ≤ 6) && sideD n && sideD m) = true ↔ 1 ≤ v ∧ v ≤ 6 ∧ 1 ≤ n ∧ n ≤ 8 ∧ 1 ≤ m ∧ m ≤ 8 := fun v n m => by
    simp only [sideD, Bool.and_eq_true, decide_eq_true_eq]; omega
  have e2 : ∀ (v : Int) (n m : Nat), (1 ≤ v ∧ v ≤ 6 ∧ 1 ≤ (n : Int) ∧ (n : Int) ≤ 8 ∧ 1 ≤ (m : Int) ∧ (m : Int) ≤ 8) ↔ ¬ (((((v < 1 ∨ 6 < v) ∨ (n : Int) = 0) ∨ 8 < (n : Int)) ∨ (m : Int) = 0) ∨ 8 < (m : Int)) := fun v n m => by omega
  refine IsQ.bad (by decide) ((e _ _ _).trans (e2 _ _ _)) fun _ => IsQ.fin ?_
  have e : foldX (fun x l => foldX (termD s a false) x l) c [g.1, g.2.2] = foldX (termD s a false) c ((g.1 : List kTerm.V) ++ g.2.2) := by
    rw [foldX_append]
    show bnd (foldX (termD s a false) c g.1) (fun c' => bnd (foldX (termD s a false) c' g.2.2) .ok) = _
    congr 1
    funext c'
    cases foldX (termD s a false) c' g.2.2 <;> rfl
  rw [e, ← List.flatMap_append]
  exact foldQ (f := termD s a false) (g := rTerm s) (seen := argsT) (fun t _ c b L h => term_is hf h) h
theorem unlike_is {x : Str} (h : Rel s c b L) : IsQ s (unlikeD s a c x) (rLoose s b x) a (L ++ [x]) := by
  unfold unlikeD rLoose
  by_cases hv : isVarD x = true
  · rw [if_pos hv, if_neg (not_both hv), if_pos hv]
    exact IsP.ok (h.see hv)
  · rw [if_neg hv, if_neg hv]
    by_cases hn : isNameD x = true
    · rw [if_pos hn, hn]
      show IsP (bnd (wantD (mGet s x).isSome 82 a) _) (if atN (mN s) x < 0 then 82 else 0) a (fun c => Rel s c b _)
      exact IsP.bad (by decide) mGet_at fun _ => IsP.ok (h.skip hv)
    · rw [if_neg hn, Bool.eq_false_iff.2 hn]
      exact IsP.err (e := 71) (by decide) rfl
theorem premise_is (hf : Fit s) {p : kPrem.V} (h : Rel s c b L) : IsQ s (premiseD s a false c p) (rPrem s b p) a (L ++ seenP p) := by
  unfold premiseD rPrem seenP
  by_cases h1 : p.1 = 1
  · rw [if_pos h1, if_pos h1, if_pos h1]; exact IsQ.fin (lit_is hf h)
  rw [if_neg h1, if_neg h1, if_neg h1]
  by_cases h2 : p.1 = 2
  · rw [if_pos h2, if_pos h2, if_pos h2]; exact IsQ.fin (guard_is hf h)
  rw [if_neg h2, if_neg h2, if_neg h2]
  by_cases h3 : p.1 = 3
  · rw [if_pos h3, if_pos h3]
    refine IsQ.then (unlike_is h) fun _ c' h' => IsQ.fin ?_
    have := unlike_is (a := a) (x := p.2.2.2.2) h'
    rwa [List.append_assoc] at this
  · rw [if_neg h3, if_neg h3]
    exact IsP.err (e := 1) (by decide) rfl
/-- The document's answer of a rule's variables. -/
def rRest (s : kStat.V) (b : Bk) (r : kRule.V) : Int × Bk := if ¬ (rBody s b r).1 = 0 then rBody s b r else if ¬ (rHead s b r).1 = 0 then rHead s b r else (if looseOK (rHead s b r).2 = true then 0 else 86, (rHead s b r).2)
theorem rRule_rest {n : Nat} {r : kRule.V} : rRule s b n r = if ¬ rRuleC s r n = 0 then (rRuleC s r n, b) else rRest s b r := rfl
theorem all_is {α : Type} {f : α → Ex Unit} {g : α → Bool} {e : Int} : ∀ {l : List α}, (∀ x ∈ l, IsP (f x) (if g x = true then 0 else e) a (fun _ => True)) → IsP (allX f l) (if l.all g = true then 0 else e) a (fun _ => True) := by
  intro l
  induction l with
  | nil => intro _; exact IsP.ok trivial
  | cons x l ih =>
    intro h
    refine (IsP.bnd (h x (by simp)) fun _ _ _ => ih fun y hy => h y (by simp [hy])).code ?_
    rw [List.all_cons]
    cases g x with
    | false => simp only [Bool.false_and]; by_cases he : e = 0 <;> simp [he]
    | true => rfl
theorem rule_is (hf : Fit s) {r : kRule.V} : IsQ s (ruleD s a r) (rRest s noBk r) a (rSeen r) := by
  have h0 : Rel s ⟨[], []⟩ noBk [] := ⟨rfl, fun x => (by simp [getM]), fun x hx => (by cases hx), fun x _ => rfl, fun x hx => (by cases hx), fun x hx => (by cases hx), rfl⟩
  unfold ruleD rRest
  have hB := foldQ (s := s) (a := a) (l := prU r) (f := premiseD s a false) (g := rPrem s) (seen := seenP) (fun p _ c b L h => premise_is hf h) h0
  rw [List.nil_append] at hB
  refine IsQ.thenN (z := rBody s noBk r) hB fun _ c1 h1 => ?_
  have hH := lit_is (a := a) (l := hdU r) hf h1
  refine IsQ.thenN (z := rHead s noBk r) hH fun _ c2 h2 => ?_
  have key : ∀ x ∈ c2.names, (¬ (getM c2.km x).getD ByteArray.empty = ByteArray.empty ↔ x ∈ (rHead s noBk r).2.names) := fun x _ => by
    refine ⟨fun k => Decidable.byContradiction fun hn => k (h2.free x hn), fun hx k => ?_⟩
    obtain ⟨k', g1, g2, _⟩ := h2.bound x hx
    rw [g1] at k
    exact hf.no (k ▸ g2)
  show IsP _ (if looseOK (rHead s noBk r).2 = true then 0 else 86) a (fun c => Rel s c (rHead s noBk r).2 _)
  have hall := all_is (a := a) (e := 86) (f := freeD a c2.km) (g := fun x => decide (x ∈ (rHead s noBk r).2.names)) (l := c2.names) fun x hx => by
    unfold freeD
    refine IsP.good (by decide) ?_ fun _ => IsP.ok trivial
    rw [decide_eq_true_iff, decide_eq_true_iff]
    exact key x hx
  have e : c2.names.all (fun x => decide (x ∈ (rHead s noBk r).2.names)) = looseOK (rHead s noBk r).2 := by
    unfold looseOK
    rw [Bool.eq_iff_iff, List.all_eq_true, List.all_eq_true]
    refine ⟨fun k x hx => ?_, fun k x hx => ?_⟩
    · exact decide_eq_true (atN_mem'.2 (of_decide_eq_true (k x (h2.loose x hx))))
    · rcases h2.only x hx with g | g
      · exact decide_eq_true g
      · exact decide_eq_true (atN_mem'.1 (of_decide_eq_true (k x g)))
  rw [e] at hall
  have hfin : IsP (Except.ok c2 : Ex Sc) 0 a (fun c => Rel s c (rHead s noBk r).2 (rSeen r)) := IsP.ok h2
  exact (IsP.bnd (c2 := 0) hall fun _ _ _ => hfin).code (by by_cases h : looseOK (rHead s noBk r).2 = true <;> simp [h])
theorem ifR {A : Prop} [Decidable A] {x c : Int} {b : Bk} {R : Int × Bk} (hx : A → ¬ x = 0) : (if ¬ (if A then x else c) = 0 then ((if A then x else c), b) else R).1 = if A then x else (if ¬ c = 0 then (c, b) else R).1 := by
  by_cases h : A
  · rw [if_pos h, if_pos h, if_pos (hx h)]
  · rw [if_neg h, if_neg h]
theorem ruleItem_is (hf : Fit s) {n : Nat} {r : kRule.V} (hx : (sRules s)[n]? = some r) : IsP (rulesItemD s a n () r) (rRule s noBk n r).1 a (fun _ => True) := by
  have hx' : (rN s)[n]? = some r.1 := by rw [List.getElem?_map, hx]; rfl
  have e : (rRule s noBk n r).1 = if ¬ rNm (rN s) r.1 n = 0 then rNm (rN s) r.1 n
      else if atN (uN s) r.2.1 < 0 then 88
      else if (!dayD r.2.2.1 || (!decide (r.2.2.2.1 = 0) && !dayD r.2.2.2.1)) = true then 31
      else if (!decide (r.2.2.2.1 = 0) && decide (r.2.2.2.1 ≤ r.2.2.1)) = true then 7
      else if (r.2.2.2.2.2.1 < 1 ∨ 3 < r.2.2.2.2.2.1) then 1
      else if 16 < ((prU r).length : Int) then 3 else (rRest s noBk r).1 := by
    rw [rRule_rest]
    unfold rRuleC
    rw [ifR (fun h => h), ifR (fun _ => by decide), ifR (fun _ => by decide), ifR (fun _ => by decide), ifR (fun _ => by decide), ifR (fun _ => by decide), ifR (fun _ => by decide), if_neg (not_not_intro rfl), if_two]
  rw [e]
  unfold rulesItemD ruleItemD
  refine IsP.thenN (fresh_is hx') fun _ _ _ => ?_
  refine IsP.bad (by decide) isSome_atN fun _ => ?_
  refine IsP.bad (by decide) ?_ fun _ => ?_
  · cases dayD r.2.2.1 <;> cases decide (r.2.2.2.1 = 0) <;> cases dayD r.2.2.2.1 <;> decide
  refine IsP.bad (by decide) ?_ fun _ => ?_
  · have : decide (r.2.2.1 < r.2.2.2.1) = !decide (r.2.2.2.1 ≤ r.2.2.1) := by rw [Bool.eq_iff_iff]; simp
    rw [this]
    cases decide (r.2.2.2.1 = 0) <;> cases decide (r.2.2.2.1 ≤ r.2.2.1) <;> decide
  have e1 : ∀ v : Int, (decide (1 ≤ v) && decide (v ≤ 3)) = true ↔ ¬ (v < 1 ∨ 3 < v) := fun v => by
    rw [Bool.and_eq_true, decide_eq_true_iff, decide_eq_true_iff]; omega
  refine IsP.bad (by decide) (e1 _) fun _ => ?_
  have e2 : ∀ v : Int, decide (v ≤ 16) = true ↔ ¬ 16 < v := fun v => by
    rw [decide_eq_true_iff]; omega
  refine IsP.bad (by decide) (e2 _) fun _ => ?_
  exact (IsP.bnd (c2 := 0) (rule_is hf) fun _ _ _ => IsP.ok trivial).code (by by_cases h : (rRest s noBk r).1 = 0 <;> simp [h])
end
end Go.Proofs.YtkfmlekomfnleaaGreat
/- The plain law of Check, fourth part: the document's Check is the resolver's. Conditions: none. -/
set_option linter.unusedVariables false
set_option linter.unusedSimpArgs false
set_option maxRecDepth 10000
namespace Go.Proofs.YtkfmlekomfnleaaGreat
open Go Go.RowKit

/-- All items in one row, counted. -/
def IsS {σ : Type} (x : Ex (Int × σ)) (z : Int × Int) : Prop := (z.1 = 0 → ∃ y, x = .ok (z.2, y)) ∧ (¬ z.1 = 0 → x = .error z)
theorem scan_append {A B : List Int} {a : Int} : scanR (A ++ B) a = if (scanR A a).1 = 0 then scanR B (scanR A a).2 else scanR A a := by
  induction A generalizing a with
  | nil => rfl
  | cons e A ih =>
    rw [List.cons_append, scanR, scanR]
    by_cases h : e = 0
    · rw [if_pos h, if_pos h]; exact ih
    · rw [if_neg h, if_neg h, if_neg h]
theorem scan_zero {A : List Int} {a : Int} (h : (scanR A a).1 = 0) : ∀ e ∈ A, e = 0 := by
  induction A generalizing a with
  | nil => intro e he; cases he
  | cons x A ih =>
    rw [scanR] at h
    by_cases hx : x = 0
    · rw [if_pos hx] at h
      intro e he
      rcases List.mem_cons.1 he with rfl | he
      · exact hx
      · exact ih h e he
    · rw [if_neg hx] at h; exact absurd h hx
theorem each_is {s : kStat.V} {α σ : Type} {f : Int → Int → σ → α → Ex σ} {sort : Nat} {l : List α} (hl : manyN s sort = l.length) {I : Nat → σ → Prop}
    (hf : ∀ (n : Nat) x, l[n]? = some x → ∀ a y, I n y → IsP (f a n y x) (rItem s sort n) a (I (n + 1))) : ∀ {k n : Nat} {a : Int} {y : σ}, l.length - n = k → I n y → IsS (eachD f a n y (l.drop n)) (scanR (rowR s sort n) a) := by
  intro k
  induction k with
  | zero =>
    intro n a y hk hI
    rw [eachD_end (by omega), rowR_end (by omega)]
    exact ⟨fun _ => ⟨y, rfl⟩, fun h => absurd rfl h⟩
  | succ k ih =>
    intro n a y hk hI
    have hn : n < l.length := by omega
    rw [eachD_step hn, rowR_step (by omega), scanR]
    have h1 := hf n l[n] (List.getElem?_eq_getElem hn) a y hI
    by_cases h0 : rItem s sort n = 0
    · obtain ⟨y', hy, hI'⟩ := h1.1 h0
      rw [if_pos h0, bnd_ok hy]
      exact ih (n := n + 1) (by omega) hI'
    · rw [if_neg h0, bnd_err (h1.2 h0)]
      exact ⟨fun h => absurd h h0, fun _ => rfl⟩
theorem IsS.bnd {σ τ : Type} {x : Ex (Int × σ)} {k : Int × σ → Ex τ} {A B : List Int} {a : Int} {φ : Ex τ → Int × Int → Prop} (h : IsS x (scanR A a)) (hbad : ∀ z : Int × Int, ¬ z.1 = 0 → φ (.error z) z) (hk : (∀ e ∈ A, e = 0) → ∀ y, φ (k ((scanR A a).2, y)) (scanR B (scanR A a).2)) :
    φ (Go.Proofs.YtkfmlekomfnleaaGreat.bnd x k) (scanR (A ++ B) a) := by
  rw [scan_append]
  by_cases h0 : (scanR A a).1 = 0
  · obtain ⟨y, hy⟩ := h.1 h0
    rw [if_pos h0, bnd_ok hy]
    exact hk (scan_zero h0) y
  · rw [if_neg h0, bnd_err (h.2 h0)]
    exact hbad _ h0
theorem row_zero {s : kStat.V} {sort n : Nat} (h : ∀ e ∈ rowR s sort 0, e = 0) (hn : n < manyN s sort) : rItem s sort n = 0 :=
  h _ (List.mem_map.2 ⟨n, List.mem_range'_1.2 ⟨Nat.zero_le _, by omega⟩, rfl⟩)
theorem fit_of {s : kStat.V} (h0 : ∀ e ∈ rowR s 0 0, e = 0) (h2 : ∀ e ∈ rowR s 2 0, e = 0) : Fit s := by
  have hp : ∀ p ∈ sPreds s, ∃ n, rPred s p n = 0 := fun p hp => by
    obtain ⟨n, hn⟩ := List.mem_iff_getElem?.1 hp
    refine ⟨n, ?_⟩
    rw [← row_zero h2 (n := n) (List.getElem?_eq_some_iff.1 hn).1]
    unfold rItem; rw [hn]; rfl
  have hq : ∀ p ∈ sPreds s, p.2.2.1.length ≤ 4 ∧ rKinds s p.2.2.1 = true := fun p hp' => by
    obtain ⟨n, this⟩ := hp p hp'
    unfold rPred at this
    split at this
    · split at this
      · cases this
      split at this
      · cases this
      split at this
      · cases this
      split at this
      · cases this
      split at this
      · rename_i hh; exact ⟨by omega, hh⟩
      · cases this
    · rename_i hh; exact absurd this hh
  refine ⟨fun p hp' k hk => ?_, fun he => ?_, fun p hp' => (hq p hp').1⟩
  · have := List.all_eq_true.1 (hq p hp').2 k hk
    exact atN_mem'.1 (of_decide_eq_true this)
  · obtain ⟨n, hn⟩ := List.mem_iff_getElem?.1 he
    have : rNm (sKinds s) ByteArray.empty n = 0 := by
      rw [← row_zero h0 (n := n) (List.getElem?_eq_some_iff.1 hn).1]
      unfold rItem; rw [hn]; rfl
    unfold rNm at this
    rw [if_neg no_name] at this
    cases this
theorem check_of {x : Ex Int} {z : Int × Int} : ((z.1 = 0 → x = .ok z.2) ∧ (¬ z.1 = 0 → x = .error z)) → (match x with | .ok n => (0, n) | .error e => e : Int × Int) = z := by
  intro h
  by_cases h0 : z.1 = 0
  · rw [h.1 h0]; show (0, z.2) = z; rw [← h0]
  · rw [h.2 h0]
theorem check_eq (s : kStat.V) : checkD s = rCheck s := by
  unfold checkD rCheck itemsD
  cases hc : countsD s with
  | false => rfl
  | true =>
    rw [if_pos rfl]
    show (match bnd (eachD (kindItemD s) 0 0 () (sKinds s)) _ with | .ok n => (0, n) | .error e => e : Int × Int) = _
    refine check_of ?_
    rw [restR_step (by decide), restR_step (by decide), restR_step (by decide), restR_step (by decide), restR_step (by decide), restR_step (by decide), restR_step (by decide), restR_step (by decide)]
    have hbad : ∀ z : Int × Int, ¬ z.1 = 0 → (z.1 = 0 → (Except.error z : Ex Int) = .ok z.2) ∧ (¬ z.1 = 0 → (Except.error z : Ex Int) = .error z) := fun z h => ⟨fun k => absurd k h, fun _ => rfl⟩
    refine IsS.bnd (φ := fun x z => (z.1 = 0 → x = .ok z.2) ∧ (¬ z.1 = 0 → x = .error z)) (each_is (s := s) (sort := 0) (l := sKinds s) (n := 0) rfl (I := fun _ _ => True) (fun n x hx a y _ => ?_) rfl trivial) hbad fun h0 _ => ?_
    · rw [show rItem s 0 n = rNm (sKinds s) x n by unfold rItem; rw [hx]; rfl]
      exact (IsP.bnd (c2 := 0) (fresh_is hx) fun _ _ _ => IsP.ok trivial).code (by by_cases h : rNm (sKinds s) x n = 0 <;> simp [h])
    refine IsS.bnd (φ := fun x z => (z.1 = 0 → x = .ok z.2) ∧ (¬ z.1 = 0 → x = .error z)) (each_is (s := s) (sort := 1) (l := sMembers s) (n := 0) rfl (I := fun _ _ => True) (fun n x hx a y _ => ?_) rfl trivial) hbad fun h1 _ => ?_
    · rw [show rItem s 1 n = rMem s x n by unfold rItem; rw [hx]; rfl]
      exact member_is hx
    refine IsS.bnd (φ := fun x z => (z.1 = 0 → x = .ok z.2) ∧ (¬ z.1 = 0 → x = .error z)) (each_is (s := s) (sort := 2) (l := sPreds s) (n := 0) rfl (I := fun _ _ => True) (fun n x hx a y _ => ?_) rfl trivial) hbad fun h2 _ => ?_
    · rw [show rItem s 2 n = rPred s x n by unfold rItem; rw [hx]; rfl]
      exact pred_is hx
    have hf := fit_of h0 h2
    refine IsS.bnd (φ := fun x z => (z.1 = 0 → x = .ok z.2) ∧ (¬ z.1 = 0 → x = .error z)) (each_is (s := s) (sort := 3) (l := sClasses s) (n := 0) rfl (I := fun n (m : List (Str × Int)) => ∀ u, (getM m u).getD 0 = 0 ↔ u ∉ ((sClasses s).take n).flatten) (fun n x hx a y hy => ?_) rfl (fun u => by simp [getM])) hbad fun h3 _ => ?_
    · rw [show rItem s 3 n = rClass s n x by unfold rItem; rw [hx]; rfl]
      obtain ⟨h1, h2⟩ := List.getElem?_eq_some_iff.1 hx
      rw [List.take_succ_eq_append_getElem h1, h2, List.flatten_append, List.flatten_singleton]
      exact class_is hy
    refine IsS.bnd (φ := fun x z => (z.1 = 0 → x = .ok z.2) ∧ (¬ z.1 = 0 → x = .error z)) (each_is (s := s) (sort := 4) (l := sSources s) (n := 0) rfl (I := fun _ _ => True) (fun n x hx a y _ => ?_) rfl trivial) hbad fun h4 _ => ?_
    · rw [show rItem s 4 n = rSrc s x n by unfold rItem; rw [hx]; rfl]
      exact source_is hx
    refine IsS.bnd (φ := fun x z => (z.1 = 0 → x = .ok z.2) ∧ (¬ z.1 = 0 → x = .error z)) (each_is (s := s) (sort := 5) (l := sRules s) (n := 0) rfl (I := fun _ _ => True) (fun n x hx a y _ => ?_) rfl trivial) hbad fun h5 _ => ?_
    · rw [show rItem s 5 n = (rRule s noBk n x).1 by unfold rItem; rw [hx]; rfl]
      exact ruleItem_is hf hx
    refine IsS.bnd (φ := fun x z => (z.1 = 0 → x = .ok z.2) ∧ (¬ z.1 = 0 → x = .error z)) (each_is (s := s) (sort := 6) (l := sExcepts s) (n := 0) rfl (I := fun n (m : List (Strs2 × Int)) => ∀ u : Strs2, (getM m u).getD 0 = 0 ↔ u ∉ ((sExcepts s).take n : List Strs2)) (fun n x hx a y hy => ?_) rfl (fun u => by simp [getM])) hbad fun h6 _ => ?_
    · rw [show rItem s 6 n = rExc s n x by unfold rItem; rw [hx]; rfl]
      exact except_is hx hy
    refine IsS.bnd (φ := fun x z => (z.1 = 0 → x = .ok z.2) ∧ (¬ z.1 = 0 → x = .error z)) (each_is (s := s) (sort := 7) (l := sTotals s) (n := 0) rfl (I := fun _ _ => True) (fun n x hx a y _ => ?_) rfl trivial) hbad fun h7 _ => ?_
    · rw [show rItem s 7 n = rTotal s x n by unfold rItem; rw [hx]; rfl]
      exact total_is hx
    exact ⟨fun _ => rfl, fun h => absurd rfl h⟩
theorem fit_check {s : kStat.V} (h : (rCheck s).1 = 0) : Fit s ∧ ∀ (n : Nat) r, (sRules s)[n]? = some r → (rRule s noBk n r).1 = 0 := by
  unfold rCheck at h
  split at h
  · have hz := scan_zero h
    have row : ∀ k, k < 8 → ∀ e ∈ rowR s k 0, e = 0 := fun k hk e he => hz e (List.mem_flatMap.2 ⟨k, List.mem_range'_1.2 ⟨Nat.zero_le _, by omega⟩, he⟩)
    refine ⟨fit_of (row 0 (by decide)) (row 2 (by decide)), fun n r hr => ?_⟩
    rw [← row_zero (row 5 (by decide)) (n := n) (List.getElem?_eq_some_iff.1 hr).1]
    unfold rItem; rw [hr]; rfl
  · cases h
end Go.Proofs.YtkfmlekomfnleaaGreat
/- The resolver's arg, args, literal where no variable may be. Conditions: none. -/
set_option linter.unusedVariables false
set_option linter.unusedSimpArgs false
set_option maxRecDepth 10000
namespace Go.Proofs.YtkfmlekomfnleaaGreat
open Go Go.RowKit Go.MapKept

abbrev frH (bc : Nat) : List HP := [blk bc [.slice none 0 0, .map none, .bool true] 123]
attribute [local irreducible] RW CW
set_option maxHeartbeats 4000000 in
theorem argF_ret {br bc : Nat} {s : kStat.V} {at_ : Int} {x : RC} {y : Sc} {a kind : Str} {w : World} {F : Nat → Prop} (hR : RS w (fun b => ¬ F b) br s at_ x) (hH : Sep (frH bc) w F) :
    RetE Tryz.prog 180 [.pointer (some ⟨br, 0, none⟩), .pointer (some ⟨bc, 0, none⟩), .string a, .string kind] w F (argD s at_ true y a kind) (fun _ _ => .tuple #[]) (fun _ (_ : Unit) => frH bc) := by
  generalize hS : argD s at_ true y a kind = SP
  have hS := hS.symm
  unfold argD at hS
  have hle : Mem.le (mem w (fun b => ¬ F b)) (mem w (fun b => ¬ F b)) := Mem.le_refl _
  refine Calls.enter Tryz.func180 rfl _ rfl rfl (S := F) (H := frH bc) hH ?_
  refine CW.seq ?_
  refine Ja ?_;refine Jc ?_
  refine RW.call Tryz.call191 rfl (fun w hw => IsVar_ret) rfl ?_
  refine Jb ?_
  refine CW.cond rfl (fun h1 => ?_) (fun h1 => ?_)
  · rw [if_pos h1] at hS
    refine Ja ?_;refine Jc ?_;refine Jc ?_;refine Jf ?_;refine Je ?_;refine JA ?_;refine Js ?_
    refine RW.want hS rfl (rfl) (fun w hw => RS.at_cell hR hw) rfl rfl rfl fun hb _ => absurd hb (by decide)
  · rw [if_neg (by simp [h1])] at hS
    refine JM ?_;refine Ja ?_;refine Jc ?_;refine Jc ?_
    refine RW.call Tryz.call165 rfl (fun w hw => IsName_ret) rfl ?_
    refine RW.want hS rfl (rfl) (fun w hw => RS.at_cell hR hw) rfl rfl rfl fun hb hS => ?_
    refine Jb ?_;refine Ja ?_;refine Jc ?_;refine Jf ?_;refine Je ?_
    refine RW.load_ro rfl hle (hR.cell 11 _ rfl) rfl rfl ?_
    refine Jc ?_
    refine RW.lookupMOk (D := indexD ((sMembers s).map nameOf)) hR.members rfl rfl rfl rfl ?_
    refine Jc ?_;refine Jt ?_;refine Jt ?_;refine Jd ?_;refine Jd ?_;refine Jb ?_;refine Ja ?_;refine Jc ?_;refine Jc ?_
    refine RW.want hS rfl (rfl) (fun w hw => RS.at_cell hR hw) rfl rfl rfl fun hb hS => ?_
    obtain ⟨hi0, hi1, hg⟩ := memAt_get (s := s) (name := a) hb
    obtain ⟨B2, O2, es2, hA2, _, hr2, hm2⟩ := sl_get hR.stat.members hg
    obtain ⟨c1, c2, rfl, h5, h6⟩ := hr2
    obtain rfl := str_cell h5
    obtain rfl := str_cell h6
    generalize hmm : memAt s a = mm at *
    refine Jb ?_
    refine CW.region ?_
    refine Jc ?_;refine Jc ?_;refine Jf ?_;refine Je ?_;refine Je ?_
    refine RW.load_ro rfl hle (hR.cell 2 _ rfl) rfl rfl ?_
    refine Jc ?_
    refine RW.indexAddrE hA2 rfl rfl hi0 hi1 rfl ?_
    refine Je ?_
    refine RW.load_ro rfl hle (hm2 1 _ rfl) rfl rfl ?_
    refine Jc ?_;refine Jo ?_
    refine RW.want hS rfl (rfl) (fun w hw => RS.at_cell hR hw) rfl rfl rfl fun hb hS => ?_
    refine RW.nil ?_
    exact PW.ret (rs := []) (vs := []) Tryz.results180 rfl ResOK.nil fun w hw => XP.ok (V := fun _ _ => .tuple #[]) () hS hw
set_option maxHeartbeats 4000000 in
theorem argsF_ret {br bc : Nat} {s : kStat.V} {at_ : Int} {x : RC} {y : Sc} {A : Option Addr} {c : Nat} {l : List Str} {cs : List Value} {p : kPredT.V} {w : World} {F : Nat → Prop} (hR : RS w (fun b => ¬ F b) br s at_ x) (hl : Rd kStrs (mem w (fun b => ¬ F b)) [.slice A l.length c] l) (hp : Rd kPredT (mem w (fun b => ¬ F b)) cs p)
    (hH : Sep (frH bc) w F) :
    RetE Tryz.prog 134 [.pointer (some ⟨br, 0, none⟩), .pointer (some ⟨bc, 0, none⟩), .slice A l.length c, .agg cs.toArray] w F (argsD s at_ true y l p) (fun _ _ => .tuple #[]) (fun _ (_ : Unit) => frH bc) := by
  generalize hS : argsD s at_ true y l p = SP
  have hS := hS.symm
  unfold argsD at hS
  obtain ⟨PA, pc, PB, pd, rfl, hkd, hvd⟩ := Rd.predT hp
  have hl1 := sl_small hl
  unfold reach at hl1
  have hle : Mem.le (mem w (fun b => ¬ F b)) (mem w (fun b => ¬ F b)) := Mem.le_refl _
  refine Calls.enter Tryz.func134 rfl _ rfl rfl (S := F) (H := frH bc) hH ?_
  refine CW.seqR ?_
  refine RW.box_agg rfl rfl fun b7 _ => ?_
  refine Jb ?_;refine Ja ?_;refine Jc ?_;refine Jc ?_;refine Jg ?_;refine Je ?_;refine JA ?_;refine Jg ?_;refine Ji ?_
  refine RW.want hS rfl (rfl) (fun w hw => RS.at_cell hR hw) rfl rfl rfl fun hb hS => ?_
  have hlen : l.length = p.2.2.1.length := by have := of_decide_eq_true hb; omega
  refine Jb ?_;refine Ja ?_;refine Jc ?_;refine Jg ?_;refine Jc ?_;refine Jb ?_
  refine CW.block ?_
  refine CW.loop (ι := { q : Nat × Sc // q.1 ≤ l.length ∧ SP = bnd (foldX (fun x (a : Str × Str) => argD s at_ true x a.1 a.2) q.2 ((l.zip p.2.2.1).drop q.1)) _ }) (fun q => [(0, .pointer (some ⟨br, 0, none⟩)), (1, .pointer (some ⟨bc, 0, none⟩)), (7, .pointer (some ⟨b7, 0, none⟩)), (18, .slice A l.length c), (19, .int .i64 l.length), (20, .int .i64 q.1.1)])
    (fun q => blk b7 [.string p.1, .int .i64 p.2.1, .slice PA p.2.2.1.length pc, .slice PB p.2.2.2.length pd] 151 :: frH bc) (fun q => l.length - q.1.1) ⟨(0, y), Nat.zero_le _, hS⟩ ⟨rfl, rfl, rfl, rfl, rfl, rfl, trivial⟩ (fun h => h) ?_
  intro ⟨⟨k, z⟩, hk, hS⟩
  dsimp only at hS hk ⊢
  refine Ja ?_;refine Jk ?_;refine Jb ?_
  refine CW.seq ?_
  refine CW.ite rfl (fun hlt => ?_) (fun hge => ?_)
  · have hlt' : k < l.length := by simpa using hlt
    have hlt2 : k < p.2.2.1.length := by omega
    have hlt3 : k < (l.zip p.2.2.1).length := by rw [List.length_zip]; omega
    rw [foldX_step hlt3, List.getElem_zip] at hS
    obtain ⟨B1, O1, es1, hA, hl1, hr, hm⟩ := sl_get hl (List.getElem?_eq_getElem hlt')
    obtain rfl := str_cell hr
    obtain ⟨B2, O2, es2, hA2, hl2, hr2, hm2⟩ := sl_get hkd (List.getElem?_eq_getElem hlt2)
    obtain rfl := str_cell hr2
    refine JM ?_
    refine CW.seq ?_
    refine CW.block ?_
    refine Ja ?_;refine Jc ?_
    refine RW.indexAddrE hA rfl rfl (by omega) hlt rfl ?_
    skip
    refine RW.load_ro rfl hle (hm 0 _ rfl) rfl rfl ?_
    refine Jd ?_;refine Jd ?_;refine Jb ?_
    refine CW.region ?_
    refine Jc ?_;refine Jc ?_;refine Jc ?_;refine Je ?_;refine JA ?_;refine Jc ?_
    refine RW.indexAddrE hA2 rfl rfl (by omega) (by omega) rfl ?_
    skip
    refine RW.load_ro rfl hle (hm2 0 _ rfl) rfl rfl ?_
    refine RW.take [1, 0] ?_
    refine RW.callE (r := [_]) (frH bc) hS Tryz.call180 rfl (fun w2 F2 hw2 hF2 h1 _ => argF_ret (RS.callF hR hw2 hF2) h1) rfl rfl rfl fun z' u' hz hS => ?_
    refine RW.nil ?_
    refine PW.code ?_
    refine CW.region ?_
    refine RW.add rfl rfl (w64 (by omega) (by omega)) rfl ?_
    refine Jc ?_
    refine RW.nil ?_
    exact PW.againT ⟨(k + 1, z'), hlt', hS⟩ [1, 0] ⟨rfl, rfl, rfl, rfl, rfl, rfl, trivial⟩ rfl (by show l.length - (k + 1) < l.length - k; omega)
  · have hge' : l.length ≤ k := by simpa using hge
    rw [foldX_end (by rw [List.length_zip]; omega)] at hS
    refine CW.exit rfl ?_
    exact PW.ret (rs := []) (vs := []) Tryz.results134 rfl ResOK.nil fun w hw => XP.ok (V := fun _ _ => .tuple #[]) () hS (hw.sub (List.Sublist.cons _ (List.Sublist.refl _)))
set_option maxHeartbeats 4000000 in
theorem literalF_ret {br bc : Nat} {s : kStat.V} {at_ : Int} {x : RC} {y : Sc} {cs : List Value} {l : kLitT.V} {w : World} {F : Nat → Prop} (hR : RS w (fun b => ¬ F b) br s at_ x) (hl : Rd kLitT (mem w (fun b => ¬ F b)) cs l) (hK : fourK s)
    (hH : Sep (frH bc) w F) :
    RetE Tryz.prog 54 [.pointer (some ⟨br, 0, none⟩), .pointer (some ⟨bc, 0, none⟩), .agg cs.toArray] w F (literalD s at_ true y l) (fun _ _ => .tuple #[]) (fun _ (_ : Unit) => frH bc) := by
  generalize hS : literalD s at_ true y l = SP
  have hS := hS.symm
  unfold literalD at hS
  obtain ⟨A, c, rfl, hargs⟩ := Rd.litT hl
  have hle : Mem.le (mem w (fun b => ¬ F b)) (mem w (fun b => ¬ F b)) := Mem.le_refl _
  refine Calls.enter Tryz.func54 rfl _ rfl rfl (S := F) (H := frH bc) hH ?_
  refine CW.seqR ?_
  refine RW.box_agg rfl rfl fun b5 _ => ?_
  refine RW.next ?_
  refine CW.seqA (by kernel_rfl) rfl ?_
  refine AW.val rfl (fun _ _ => by refine Jc ?_;exact RW.done rfl) ?_;refine AW.val rfl (fun _ _ => by refine Jf ?_;exact RW.done rfl) ?_;refine AW.val rfl (fun _ _ => by refine Je ?_;exact RW.done rfl) ?_
  (apply AW.val rfl; · intro Gx X; (first | refine RW.yes rfl ?_ | skip); refine RW.load_ro rfl hle (hR.cell 12 _ rfl) rfl rfl ?_; exact RW.done rfl)
  refine AW.val rfl (fun _ _ => by refine Je ?_;exact RW.done rfl) ?_;refine AW.val rfl (fun _ _ => by refine JA ?_;exact RW.done rfl) ?_
  (apply AW.val rfl; · intro Gx X; (first | refine RW.yes rfl ?_ | skip); refine RW.lookupMOk (D := indexD ((sPreds s).map nameOf)) hR.preds rfl rfl rfl rfl ?_; exact RW.done rfl)
  refine AW.val rfl (fun _ _ => by refine Jc ?_;exact RW.done rfl) ?_;refine AW.val rfl (fun _ _ => by refine Jt ?_;exact RW.done rfl) ?_;refine AW.val rfl (fun _ _ => by refine Jt ?_;exact RW.done rfl) ?_;refine AW.val rfl (fun _ _ => by refine Jd ?_;exact RW.done rfl) ?_;refine AW.val rfl (fun _ _ => by refine Jd ?_;exact RW.done rfl) ?_
  refine AW.stop (by kernel_rfl) (by kernel_rfl) fun bs => ?_
  refine Jb ?_;refine Ja ?_;refine Jc ?_;refine Jc ?_
  refine RW.want hS rfl (rfl) (fun w hw => RS.at_cell hR hw) rfl rfl rfl fun hb hS => ?_
  have hp := pSome (s := s) hb
  have hi := pIdx_lt l.2.1 hp
  have hf := predAt_four hK l.2.1
  obtain ⟨B2, O2, es2, hA2, _, hr2, hm2⟩ := sl_get hR.stat.preds (predAt_get l.2.1 hp)
  have hr2' := hr2
  obtain ⟨PA, pc, PB, pd, rfl, hpk, hpv⟩ := Rd.predT hr2
  generalize hpn : predAt s l.2.1 = p at *
  refine Jb ?_;refine Ja ?_;refine Jc ?_;refine Jf ?_;refine Je ?_;refine Je ?_
  refine RW.load_ro rfl hle (hR.cell 3 _ rfl) rfl rfl ?_
  refine Jc ?_
  refine RW.indexAddrE hA2 rfl rfl hi.1 hi.2 rfl ?_
  refine RW.load_ros rfl hle hm2 rfl rfl (Nat.zero_lt_succ _) rfl ?_
  refine RW.alloc (c := [.string ByteArray.empty, .int .i64 0, .slice none 0 0, .slice none 0 0]) rfl rfl fun b8 _ => ?_
  refine RW.store_whole [] rfl rfl rfl rfl rfl (by simp [Value.oneCell']) ?_
  refine Jb ?_;refine Ja ?_;refine Jc ?_;refine Je ?_;refine JA ?_;refine Jj ?_
  refine RW.want hS rfl (rfl) (fun w hw => RS.at_cell hR hw) rfl rfl rfl fun hb hS => ?_
  refine Jb ?_;refine Ja ?_;refine Jc ?_;refine Jc ?_;refine Je ?_;refine JB ?_;refine JE ?_
  refine RW.take [2, 0, 1] ?_
  refine RW.callE (r := [_, _]) (frH bc) hS Tryz.call134 rfl (fun w2 F2 hw2 hF2 h1 _ => argsF_ret (RS.callF hR hw2 hF2) (hargs.mono (ro_callF hw2 hF2)) (hr2'.mono (ro_callF hw2 hF2)) h1) rfl rfl rfl fun z u hz hS => ?_
  refine RW.take [1, 2, 0] ?_
  refine Jb ?_;refine Ja ?_;refine Jc ?_;refine Je ?_;refine JB ?_;refine Je ?_;refine JA ?_;refine Ji ?_;refine Jq ?_;refine Jc ?_
  refine RW.splitD 48 rfl (fun h1 => ?_) (fun h1 => ?_)
  · refine Jy ?_;refine Je ?_;refine Jy ?_;refine JB ?_;refine Jy ?_;refine Jc ?_
    cases hv : l.2.2.2.1 with
    | true =>
      rw [hv] at h1
      refine Jz ?_;refine Jz ?_;refine Jz ?_;refine Jy ?_;refine Jv ?_;refine Jv ?_
      refine RW.want hS rfl (by rw [hv]; simp [← h1]) (fun w hw => RS.at_cell hR hw) rfl rfl rfl fun hb hS => ?_
      refine Jb ?_
      refine CW.region ?_
      refine Jc ?_;refine Je ?_;refine JB ?_;refine Js ?_;refine Jc ?_;refine Jy ?_;refine Je ?_;refine Jy ?_;refine JA ?_;refine Jy ?_;refine Je ?_;refine Jy ?_;refine JB ?_;refine Jy ?_
      refine RW.call Tryz.call135 rfl (fun w2 hw => has_ret (N := mem w (fun b => ¬ F b)) (ro_call hw) hpv) rfl ?_
      refine Jw ?_
      refine RW.want hS rfl (by rw [hv]; rfl) (fun w hw => RS.at_cell hR hw) rfl rfl rfl fun hb hS => ?_
      exact RW.nil (PW.ret (rs := []) (vs := []) Tryz.results54 rfl ResOK.nil fun w hw => XP.ok (V := fun _ _ => .tuple #[]) () hS (hw.take [2]))
    | false =>
      rw [hv] at h1
      refine Jy ?_;refine Je ?_;refine Jy ?_;refine JB ?_;refine Jy ?_;refine Ji ?_;refine Jy ?_;refine Jw ?_;refine Jv ?_
      refine RW.want hS rfl (by rw [hv]; simp [← h1]) (fun w hw => RS.at_cell hR hw) rfl rfl rfl fun hb hS => ?_
      refine Jb ?_
      refine CW.region ?_
      refine Jc ?_;refine Je ?_;refine JB ?_;refine Js ?_;refine Jc ?_;refine Jz ?_;refine Jz ?_;refine Jz ?_;refine Jz ?_;refine Jz ?_;refine Jv ?_
      refine RW.want hS rfl (by rw [hv]; rfl) (fun w hw => RS.at_cell hR hw) rfl rfl rfl fun hb hS => ?_
      exact RW.nil (PW.ret (rs := []) (vs := []) Tryz.results54 rfl ResOK.nil fun w hw => XP.ok (V := fun _ _ => .tuple #[]) () hS (hw.take [2]))
  · refine Jz ?_;refine Jz ?_;refine Jz ?_;refine Jz ?_;refine Jz ?_;refine Jz ?_;refine Jz ?_;refine Jw ?_
    refine RW.want hS rfl ((by rw [decide_eq_false h1, Bool.false_and])) (fun w hw => RS.at_cell hR hw) rfl rfl rfl fun hb _ => absurd hb (by decide)
end Go.Proofs.YtkfmlekomfnleaaGreat
/- The calculus (printed by gen_e4.py): open orders, an operation that sees what another has laid and turns what is given. Conditions: none; everything holds over any program. -/
set_option linter.unusedVariables false
set_option linter.unusedSimpArgs false
namespace Go.Proofs.YtkfmlekomfnleaaGreat
open Go Go.RowKit

section
variable {P : Program} {E : Env} {Q : Pst} {G : List (Nat × Value)} {H : List HP} {l : List Oper} {n : Nat} {ks : List PK}
/-- A statement whose order is open; the operation at place q sees what the one at j2 has laid, turns the chunks that are given, and lays one. -/
theorem WA.anyA (q j2 : Nat) (Hd : Bool → List HP) (n : Nat) (ks : List PK) (hk : ks.length = n) (hn : Nat.ble n l.length = true) (hb : backB l = true) (hf : forcedB l n = true) (hd : dstB l ks n G = true) (hput : PutOK l ks) (hpd : ∀ (i : Nat) (o : Oper) (d : Nat), i < n → l[i]? = some o → o.dst = some d → PK.isPut ks[i]? = true → False)
    (prems : ∀ (i : Nat) (o : Oper) (k : PK), i ≠ q → l[i]? = some o → ks[i]? = some k → (∀ b, Prem P E l.toArray Q (depG l ks o) G (Hd b) o k) ∨ ∃ (e : Edge) (oj : Oper) (dj : Nat) (v : Value) (cj : Nat → HP) (tj : Nat → Value) (pj : Nat), e ∈ o.after.toList ∧ Region.binds .any e = true ∧ l[e.on]? = some oj ∧ oj.dst = some dj ∧ k = .val v ∧ ks[e.on]? = some (.new cj tj pj cj) ∧ ∀ (b0 : Bool) (b : Nat) (Gx : List (Nat × Value)) (X : List HP), RW P E l.toArray (Pst.then (fun a w => ∃ d, o.dst = some d ∧ Fr E.N E.ds a ((d, v) :: (dj, tj b) :: (depG l ks o ++ G ++ Gx)) ∧ St E.w0 E.S (cj b :: (Hd b0 ++ X)) w) Q) [o] ((dj, tj b) :: (depG l ks o ++ G ++ Gx)) (cj b :: (Hd b0 ++ X)))
    (hq2 : ∀ o, q < n → l[q]? = some o → ∃ (e : Edge) (oj : Oper) (dj : Nat) (c : Nat → HP) (t : Nat → Value) (p : Nat) (c2 cj : Nat → HP) (tj : Nat → Value) (pj : Nat), e ∈ o.after.toList ∧ Region.binds .any e = true ∧ e.on = j2 ∧ l[j2]? = some oj ∧ oj.dst = some dj ∧ ks[q]? = some (.new c t p c2) ∧ ks[j2]? = some (.new cj tj pj cj) ∧
      ∀ (b : Nat) (Gx : List (Nat × Value)) (X : List HP), RW P E l.toArray (Pst.then (fun a w => ∃ b' d, o.dst = some d ∧ Fr E.N E.ds a ((d, t b') :: (dj, tj b) :: (depG l ks o ++ G ++ Gx)) ∧ St E.w0 E.S (c b' :: cj b :: (Hd true ++ X)) w) Q) [o] ((dj, tj b) :: (depG l ks o ++ G ++ Gx)) (cj b :: (Hd false ++ X)))
    (tail : ∀ bs, RW P E l.toArray Q (l.drop n) (outG l ks bs ++ G) (Hd (decide (q < n)) ++ newH l ks bs)) : WA P E l Q G (Hd false) := by
  have hnl : n ≤ l.length := by simpa [Nat.ble_eq] using hn
  have hback : ∀ (i : Nat) (o : Oper), l[i]? = some o → ∀ e ∈ o.after.toList, Region.binds .any e = true → e.on < i := by
    intro i o ho e he hbe
    have hi : i < l.length := (List.getElem?_eq_some_iff.1 ho).1
    have := (List.all_eq_true.1 hb) i (List.mem_range.2 hi)
    rw [ho] at this
    have h9 := (List.all_eq_true.1 this) e he
    simpa [hbe] using h9
  have hdst : ∀ i, i < n → PK.isPut ks[i]? = false → ∃ (o : Oper) (d : Nat), l[i]? = some o ∧ o.dst = some d ∧ look G d = none ∧ ∀ (j : Nat) (o' : Oper) (d' : Nat), j < n → l[j]? = some o' → o'.dst = some d' → d = d' → i = j := by
    intro i hi hnp
    have h1 := (List.all_eq_true.1 hd) i (List.mem_range.2 hi)
    have hi' : i < l.length := by omega
    rw [List.getElem?_eq_getElem hi'] at h1
    simp only at h1
    cases hdd : l[i].dst with
    | none => rw [hdd] at h1; rw [hnp] at h1; cases h1
    | some d =>
      rw [hdd] at h1
      simp only [Bool.and_eq_true] at h1
      refine ⟨l[i], d, List.getElem?_eq_getElem hi', hdd, by simpa using h1.1, fun j o' d' hj ho' hd' he => ?_⟩
      have h2 := (List.all_eq_true.1 h1.2) j (List.mem_range.2 hj)
      rw [ho'] at h2
      simp only [hd'] at h2
      subst he
      simpa using h2
  have hnodst : ∀ i, i < n → PK.isPut ks[i]? = true → ∀ o, l[i]? = some o → ∀ d, o.dst ≠ some d := by
    intro i hi hp o ho d hdd
    exact hpd i o d hi ho hdd hp
  have toTail : ∀ (listed : Array Bool) (a : Act) (w : World) (bs : Nat → Nat), Mid P E l n ks G Hd q listed a w bs → (∀ i, i < n → listed.getD i false = true) → wpList P l.toArray Q.fn (l.drop n) a w := by
    intro listed a w bs M hall
    refine tail bs a w ⟨M.fN, M.fd, fun s u hs => ?_⟩ ?_
    · rcases look_append hs with hs | hs
      · obtain ⟨i, o, k, h1, h2, h3, h4⟩ := look_outG hs
        have hi : i < n := by have := (List.getElem?_eq_some_iff.1 h2).1; omega
        rw [h4]
        exact M.fV i o s k (hall i hi) h1 h3 h2
      · exact M.fG s u hs
    · have := M.st
      rw [show listed.getD q false = decide (q < n) from (by
        by_cases hqn : q < n
        · rw [hall q hqn, decide_eq_true hqn]
        · rw [M.below q (by omega), decide_eq_false hqn])] at this
      rwa [laidH_all (fun j _ hj => hall j (by omega)) (fun c t p c2 hm => ?_)] at this
      obtain ⟨j, hj⟩ := List.mem_iff_getElem?.1 hm
      rcases hput.new j c t p c2 hj with h | h
      · rw [h]; split <;> rfl
      · have hp : p < n := by
          rcases Nat.lt_or_ge p ks.length with h2 | h2
          · omega
          · rw [List.getElem?_eq_none h2] at h; cases h
        show (if listed.getD p false = true then c2 else c) = c2
        rw [if_pos (hall p hp)]
  intro a w hfr hst
  have key : ∀ (fuel : Nat) (listed : Array Bool) (a : Act) (w : World) (bs : Nat → Nat), Mid P E l n ks G Hd q listed a w bs → cnt (fun i => listed.getD i false) l.length ≤ fuel → wpAny P .any l.toArray Q.fn fuel listed a w := by
    intro fuel
    induction fuel with
    | zero =>
      intro listed a w bs M hc
      -- nothing is left: n = l.length
      have hall : ∀ i, i < l.length → listed.getD i false = true := fun i hi => by
        cases hx : listed.getD i false with
        | true => rfl
        | false => exact absurd (cnt_pos (L := fun i => listed.getD i false) hx l.length hi) (by omega)
      have hnl' : n = l.length := by
        rcases Nat.lt_or_ge n l.length with h | h
        · have := M.below n (Nat.le_refl _); rw [hall n h] at this; cases this
        · omega
      refine tail_any hb hf 0 l.length (by omega) (by omega) 0 listed a w (Nat.le_refl _) M.size (fun j hj => ⟨fun _ => hj, fun _ => hall j hj⟩) ?_
      rw [← hnl']
      exact toTail listed a w bs M (fun i hi => hall i (by omega))
    | succ fuel ih =>
      intro listed a w bs M hc
      by_cases hall : ∀ i, i < n → listed.getD i false = true
      · have hcn : l.length - n ≤ fuel + 1 := by
          have : cnt (fun i => listed.getD i false) l.length = l.length - n := cnt_upto hall M.below l.length hnl
          omega
        exact tail_any hb hf (l.length - n) n (by omega) (Nat.le_refl _) (fuel + 1) listed a w hcn M.size (fun j hj => ⟨fun h => M.lt h, fun h => hall j h⟩) (toTail listed a w bs M hall)
      · have hex : ∃ i, i < n ∧ listed.getD i false = false ∧ ∀ j, j < i → listed.getD j false = true := by
          have : ∀ m, (∀ i, i < m → listed.getD i false = true) ∨ ∃ i, i < m ∧ listed.getD i false = false ∧ ∀ j, j < i → listed.getD j false = true := by
            intro m
            induction m with
            | zero => exact .inl (fun i hi => by omega)
            | succ m ihm =>
              rcases ihm with h | ⟨i, h1, h2, h3⟩
              · cases hx : listed.getD m false with
                | true => exact .inl (fun i hi => if h4 : i < m then h i h4 else (show m = i by omega) ▸ hx)
                | false => exact .inr ⟨m, by omega, hx, h⟩
              · exact .inr ⟨i, by omega, h2, h3⟩
          rcases this n with h | h
          · exact absurd h hall
          · exact h
        obtain ⟨i0, hi0, hi0f, hi0a⟩ := hex
        have hrdy : i0 ∈ Region.ready .any l.toArray listed := (ready_iff M.size i0).2 ⟨l[i0], List.getElem?_eq_getElem (by omega), hi0f, fun e he hbe => hi0a _ (hback i0 _ (List.getElem?_eq_getElem (by omega)) e he hbe)⟩
        refine ⟨(fun h => by rw [h] at hrdy; cases hrdy), fun i hi => ?_⟩
        obtain ⟨o, ho, hlf, hej⟩ := (ready_iff M.size i).1 hi
        have hin : i < n := by
          rcases Nat.lt_or_ge i n with h | h
          · exact h
          · have := closed_forced (L := fun i => listed.getD i false) hb hf h ho (show i0 < i by omega) M.down hej
            rw [hi0f] at this; cases this
        have hki : i < ks.length := by omega
        have hget : ∀ j, j ≠ i → (listed.setIfInBounds i true).getD j false = listed.getD j false := fun j hj => by rw [getD_set (by rw [M.size]; omega), if_neg (Ne.symm hj)]
        have hseti : (listed.setIfInBounds i true).getD i false = true := by rw [getD_set (by rw [M.size]; omega), if_pos rfl]
        have hcells : PK.isPut ks[i]? = false → ∀ c t q c2, PK.new c t q c2 ∈ ks → (if listed.getD q false = true then c2 else c) = (if (listed.setIfInBounds i true).getD q false = true then c2 else c) := fun hnp c t q c2 hm => by
          obtain ⟨j, hj⟩ := List.mem_iff_getElem?.1 hm
          rcases hput.new j c t q c2 hj with h | h
          · rw [h]; simp
          · rw [hget q (fun e => by subst e; rw [hnp] at h; cases h)]
        have hP00 := fun (hiq : i ≠ q) => prems i o ks[i] hiq ho (List.getElem?_eq_getElem hki)
        have hP0 : i ≠ q → (∀ v, ks[i] ≠ .val v) → Prem P E l.toArray Q (depG l ks o) G (Hd (listed.getD q false)) o ks[i] := fun hiq hv => (hP00 hiq).elim (fun h => h _) (fun ⟨_, _, _, v, _, _, _, _, _, _, _, h, _⟩ => absurd h (hv v))
        have hnew2 : i = q → ∃ c t p c2, ks[i] = .new c t p c2 := fun e => by
          obtain ⟨_, _, _, c, t, p, c2, _, _, _, _, _, _, _, _, h, _⟩ := hq2 o (by omega) (by rw [← e]; exact ho)
          rw [← e, List.getElem?_eq_getElem hki] at h
          exact ⟨c, t, p, c2, Option.some.inj h⟩
        have hbq : i ≠ q → (listed.setIfInBounds i true).getD q false = listed.getD q false := fun h => hget q (Ne.symm h)
        have hvq : (∀ c t p c2, ks[i] ≠ .new c t p c2) → i ≠ q := fun h e => by
          obtain ⟨c, t, p, c2, hh⟩ := hnew2 e
          exact h _ _ _ _ hh
        have hDep := depG_true M hej
        have hsnap : Fr E.N E.ds a (depG l ks o ++ G ++ idx 0 a.tmps.toList) := ⟨M.fN, M.fd, fun s u hs => by
          rcases look_append hs with hs | hs
          · exact (look_append hs).elim (hDep s u) (M.fG s u)
          · have := look_idx _ 0 s u hs; simpa using this.2⟩
        have hcnt : cnt (fun j => (listed.setIfInBounds i true).getD j false) l.length ≤ fuel := by
          have := cnt_set (L := fun j => listed.getD j false) (L' := fun j => (listed.setIfInBounds i true).getD j false) (p := i) (fun j hj => by show (listed.setIfInBounds i true).getD j false = listed.getD j false; rw [getD_set (by rw [M.size]; omega), if_neg (Ne.symm hj)]) hlf (by show (listed.setIfInBounds i true).getD i false = true; rw [getD_set (by rw [M.size]; omega), if_pos rfl]) l.length (by omega)
          omega
        have hdown' : ∀ (m : Nat) (o' : Oper), (listed.setIfInBounds i true).getD m false = true → l[m]? = some o' → ∀ e ∈ o'.after.toList, Region.binds .any e = true → (listed.setIfInBounds i true).getD e.on false = true := by
          intro m o' hm' ho' e he hbi
          rw [getD_set (by rw [M.size]; omega)] at hm' ⊢
          split
          · rfl
          · split at hm'
            · rename_i e2; subst e2; rw [ho] at ho'; injection ho' with ho'; subst ho'; exact hej e he hbi
            · exact M.down m o' hm' ho' e he hbi
        have hbelow' : ∀ j, n ≤ j → (listed.setIfInBounds i true).getD j false = false := fun j hj => by rw [getD_set (by rw [M.size]; omega), if_neg (by omega)]; exact M.below j hj
        cases hkk : ks[i] with
        | put dj c t c2 =>
          have hiq := hvq (fun c t p c2 e => by rw [hkk] at e; cases e)
          have hP := hP0 hiq (fun v e => by rw [hkk] at e; cases e)
          rw [hkk] at hP
          obtain ⟨j, oj, op, e, hkj, hoj, hdj, hop, he, hbe, hej2⟩ := hput.put i dj c t c2 (by rw [List.getElem?_eq_getElem hki, hkk])
          rw [ho] at hop; injection hop with hop; subst hop
          have hjl : listed.getD j false = true := hej2 ▸ hej e he hbe
          have hji : j ≠ i := fun e2 => by rw [e2, hlf] at hjl; cases hjl
          have hptr := M.fV j oj dj _ hjl hoj hdj hkj
          obtain ⟨X, hX, hX'⟩ := laidH_put (L := fun i => listed.getD i false) (L' := fun j => (listed.setIfInBounds i true).getD j false) (bs := bs) (p := i) (j := j) (fun m hm => (hget m hm).symm) hlf hseti hjl (os := l) (r := ks) (i := 0) (Nat.zero_le _)
            (fun m c' t' q c2' _ hm hk' => by
              rw [Nat.sub_zero] at hk'
              show (if listed.getD q false = true then c2' else c') = (if (listed.setIfInBounds i true).getD q false = true then c2' else c')
              by_cases hq : q = i
              · subst hq
                rw [hput.uniq j m q c t c2 c' t' c2' hkj hk' (Ne.symm hm)]
                simp
              · rw [hget q hq])
            (fun _ => by rw [Nat.sub_zero, List.getElem?_eq_getElem hki, hkk]; rfl) (o := oj) (d := dj) (c := c) (t := t) (c2 := c2) (by simpa using hoj) hdj (by simpa using hkj)
          have hfr1 : Fr E.N E.ds a ((dj, t (bs dj)) :: (depG l ks o ++ G ++ idx 0 a.tmps.toList)) := ⟨M.fN, M.fd, fun s u hs => by
            unfold look at hs
            cases hb : Nat.beq dj s with
            | true =>
              rw [hb] at hs
              have : dj = s := Nat.eq_of_beq_eq_true hb
              subst this
              simp only [Option.some.injEq] at hs
              subst hs
              exact hptr
            | false => rw [hb] at hs; exact hsnap.at_ s u hs⟩
          have hst1 : St E.w0 E.S (c (bs dj) :: (Hd (listed.getD q false) ++ X)) w := M.st.perm ((List.Perm.append_left _ hX).trans List.perm_middle)
          have h1 := hP (bs dj) (idx 0 a.tmps.toList) X a w hfr1 hst1
          refine wpOp_then (wpOp_mono (fun a' w' h' => ?_) (wpOp_of_list ho h1))
          obtain ⟨hfr', hst'⟩ := h'
          have hkeep : ∀ s u, a.tmps[s]? = some u → a'.tmps[s]? = some u := fun s u hs => by
            by_cases hsd : s = dj
            · subst hsd
              rw [hptr] at hs
              injection hs with hs
              subst hs
              exact hfr'.at_ _ _ (by simp [look, Nat.beq_refl, PK.out])
            · exact slot_kept hDep M.fG hfr' hsd hs
          refine ih _ a' w' bs ⟨by simp [M.size], hbelow', hdown', hfr'.size, hfr'.defers, fun s u hs => hkeep s u (M.fG s u hs), fun m o' d' k hm' ho' hd' hk' => ?_, ?_⟩ hcnt
          · by_cases hmi : m = i
            · subst hmi
              rw [List.getElem?_eq_getElem hki, hkk] at hk'; injection hk' with hk'; subst hk'
              rw [ho] at ho'; injection ho' with ho'; subst ho'
              exact absurd hd' (hnodst m hin (by rw [List.getElem?_eq_getElem hki, hkk]; rfl) o ho d')
            · rw [hget m hmi] at hm'
              exact hkeep _ _ (M.fV m o' d' k hm' ho' hd' hk')
          · rw [hbq hiq]
            exact hst'.perm (List.perm_middle.symm.trans (List.Perm.append_left _ hX'.symm))
        | val v =>
          have hnp : PK.isPut ks[i]? = false := by rw [List.getElem?_eq_getElem hki, hkk]; rfl
          obtain ⟨o2, d, ho2, hdd, hGd, huniq⟩ := hdst i hin hnp
          rw [ho] at ho2
          injection ho2 with ho2
          subst ho2
          have hop : Go.wpOp P l.toArray Q.fn i (fun a' w => ∃ d, o.dst = some d ∧ Fr E.N E.ds a' ((d, v) :: (depG l ks o ++ G ++ idx 0 a.tmps.toList)) ∧ St E.w0 E.S (Hd ((listed.setIfInBounds i true).getD q false) ++ laidH (fun i => listed.getD i false) l ks 0 bs) w) a w := by
            have hiq := hvq (fun c t p c2 e => by rw [hkk] at e; cases e)
            rw [hbq hiq]
            rcases hP00 hiq with hP | ⟨e, oj, dj, v', cj, tj, pj, he, hbe, hoj, hdj, hk2, hkj, hp2⟩
            · have hP := hP (listed.getD q false)
              rw [hkk] at hP
              exact wpOp_then (wpOp_of_list ho (hP (idx 0 a.tmps.toList) (laidH (fun i => listed.getD i false) l ks 0 bs) a w hsnap M.st))
            · rw [hkk] at hk2
              injection hk2 with e1
              subst e1
              have hjl : listed.getD e.on false = true := hej e he hbe
              have hptr := M.fV e.on oj dj _ hjl hoj hdj hkj
              obtain ⟨X, hX⟩ := laidH_get (L := fun i => listed.getD i false) (bs := bs) (j := e.on) hjl (os := l) (r := ks) (i := 0) (Nat.zero_le _) (by simpa using hoj) hdj (by simpa using hkj)
              have hfr1 : Fr E.N E.ds a ((dj, tj (bs dj)) :: (depG l ks o ++ G ++ idx 0 a.tmps.toList)) := ⟨M.fN, M.fd, fun s u hs => by
                unfold look at hs
                cases hb : Nat.beq dj s with
                | true =>
                  rw [hb] at hs
                  have : dj = s := Nat.eq_of_beq_eq_true hb
                  subst this
                  simp only [Option.some.injEq] at hs
                  subst hs
                  exact hptr
                | false => rw [hb] at hs; exact hsnap.at_ s u hs⟩
              have hst1 : St E.w0 E.S (cj (bs dj) :: (Hd (listed.getD q false) ++ X)) w := M.st.perm ((List.Perm.append_left _ hX).trans List.perm_middle)
              have h1 := hp2 (listed.getD q false) (bs dj) (idx 0 a.tmps.toList) X a w hfr1 hst1
              refine wpOp_then (wpOp_mono (fun a' w' h' => ?_) (wpOp_of_list ho h1))
              obtain ⟨d', hd', hfr', hst'⟩ := h'
              rw [hdd] at hd'
              injection hd' with hd'
              subst hd'
              refine ⟨d, hdd, ⟨hfr'.size, hfr'.defers, fun s u hs => ?_⟩, hst'.perm (List.perm_middle.symm.trans (List.Perm.append_left _ hX.symm))⟩
              unfold look at hs
              cases hb : Nat.beq d s with
              | true => rw [hb] at hs; exact hfr'.at_ s u (by unfold look; rw [hb]; exact hs)
              | false =>
                rw [hb] at hs
                refine hfr'.at_ s u (by
                  unfold look
                  rw [hb]
                  simp only
                  unfold look
                  cases hb2 : Nat.beq dj s with
                  | false => exact hs
                  | true =>
                    have : dj = s := Nat.eq_of_beq_eq_true hb2
                    subst this
                    have h9 := hsnap.at_ _ u hs
                    rw [hptr] at h9
                    simpa [PK.out] using h9)
          refine wpOp_mono (fun a' w' h' => ?_) hop
          obtain ⟨d2, hd2, hfr', hst'⟩ := h'
          rw [hdd] at hd2
          injection hd2 with hd2
          subst hd2
          refine ih _ a' w' bs ⟨by simp [M.size], hbelow', hdown', hfr'.size, hfr'.defers, fun s u hs => ?_, fun m o' d' k hm' ho' hd' hk' => ?_, ?_⟩ hcnt
          · exact slot_kept hDep M.fG hfr' (fun e => by subst e; rw [hGd] at hs; cases hs) (M.fG s u hs)
          · rw [getD_set (by rw [M.size]; omega)] at hm'
            by_cases hmi : i = m
            · subst hmi
              rw [ho] at ho'; injection ho' with ho'; subst ho'
              rw [hdd] at hd'; injection hd' with hd'; subst hd'
              rw [List.getElem?_eq_getElem hki, hkk] at hk'; injection hk' with hk'; subst hk'
              exact hfr'.at_ _ _ (by simp [look, Nat.beq_refl, PK.out])
            · rw [if_neg hmi] at hm'
              have hmn : m < n := M.lt hm'
              refine slot_kept hDep M.fG hfr' (fun e => hmi (huniq m o' d' hmn ho' hd' e.symm)) (M.fV m o' d' k hm' ho' hd' hk')
          · have : laidH (fun i_1 => (listed.setIfInBounds i true).getD i_1 false) l ks 0 bs = laidH (fun i => listed.getD i false) l ks 0 bs := by
              exact laidH_val (p := i) (v := v) (fun j hj => by rw [getD_set (by rw [M.size]; omega), if_neg (Ne.symm hj)]) (fun _ => by rw [Nat.sub_zero, List.getElem?_eq_getElem hki, hkk]) (fun c t q c2 hm => (hcells hnp c t q c2 hm).symm)
            rw [this]; exact hst'
        | new c t q0 c2 =>
          have hnp : PK.isPut ks[i]? = false := by rw [List.getElem?_eq_getElem hki, hkk]; rfl
          obtain ⟨o2, d, ho2, hdd, hGd, huniq⟩ := hdst i hin hnp
          rw [ho] at ho2
          injection ho2 with ho2
          subst ho2
          have hop : Go.wpOp P l.toArray Q.fn i (fun a' w => ∃ b d, o.dst = some d ∧ Fr E.N E.ds a' ((d, t b) :: (depG l ks o ++ G ++ idx 0 a.tmps.toList)) ∧ St E.w0 E.S (c b :: (Hd ((listed.setIfInBounds i true).getD q false) ++ laidH (fun i => listed.getD i false) l ks 0 bs)) w) a w := by
            by_cases hi2 : i = q
            · obtain ⟨e, oj, dj, c', t', p', c2', cj, tj, pj, he, hbe, hej2, hoj, hdj, hk2, hkj, hp2⟩ := hq2 o (by omega) (by rw [← hi2]; exact ho)
              rw [← hi2, List.getElem?_eq_getElem hki, hkk] at hk2
              injection hk2 with hk2
              injection hk2 with e1 e2 e3 e4
              subst e1; subst e2
              have hjl : listed.getD j2 false = true := hej2 ▸ hej e he hbe
              have hptr := M.fV j2 oj dj _ hjl hoj hdj hkj
              obtain ⟨X, hX⟩ := laidH_get (L := fun i => listed.getD i false) (bs := bs) (j := j2) hjl (os := l) (r := ks) (i := 0) (Nat.zero_le _) (by simpa using hoj) hdj (by simpa using hkj)
              have hfr1 : Fr E.N E.ds a ((dj, tj (bs dj)) :: (depG l ks o ++ G ++ idx 0 a.tmps.toList)) := ⟨M.fN, M.fd, fun s u hs => by
                unfold look at hs
                cases hb : Nat.beq dj s with
                | true =>
                  rw [hb] at hs
                  have : dj = s := Nat.eq_of_beq_eq_true hb
                  subst this
                  simp only [Option.some.injEq] at hs
                  subst hs
                  exact hptr
                | false => rw [hb] at hs; exact hsnap.at_ s u hs⟩
              have hst0 := M.st
              rw [← hi2, hlf] at hst0
              have hst1 : St E.w0 E.S (cj (bs dj) :: (Hd false ++ X)) w := hst0.perm ((List.Perm.append_left _ hX).trans List.perm_middle)
              have h1 := hp2 (bs dj) (idx 0 a.tmps.toList) X a w hfr1 hst1
              refine wpOp_then (wpOp_mono (fun a' w' h' => ?_) (wpOp_of_list ho h1))
              obtain ⟨b', d', hd', hfr', hst'⟩ := h'
              rw [hdd] at hd'
              injection hd' with hd'
              subst hd'
              rw [← hi2, hseti]
              refine ⟨b', d, hdd, ⟨hfr'.size, hfr'.defers, fun s u hs => ?_⟩, hst'.perm (List.Perm.cons _ (List.perm_middle.symm.trans (List.Perm.append_left _ hX.symm)))⟩
              unfold look at hs
              cases hb : Nat.beq d s with
              | true => rw [hb] at hs; exact hfr'.at_ s u (by unfold look; rw [hb]; exact hs)
              | false =>
                rw [hb] at hs
                refine hfr'.at_ s u (by
                  unfold look
                  rw [hb]
                  simp only
                  unfold look
                  cases hb2 : Nat.beq dj s with
                  | false => exact hs
                  | true =>
                    have : dj = s := Nat.eq_of_beq_eq_true hb2
                    subst this
                    have h9 := hsnap.at_ _ u hs
                    rw [hptr] at h9
                    simpa [PK.out] using h9)
            · have hP := hP0 hi2 (fun v e => by rw [hkk] at e; cases e)
              rw [hkk] at hP
              rw [hbq hi2]
              exact wpOp_then (wpOp_of_list ho (hP (idx 0 a.tmps.toList) (laidH (fun i => listed.getD i false) l ks 0 bs) a w hsnap M.st))
          refine wpOp_mono (fun a' w' h' => ?_) hop
          obtain ⟨b, d2, hd2, hfr', hst'⟩ := h'
          rw [hdd] at hd2
          injection hd2 with hd2
          subst hd2
          refine ih _ a' w' (fun s => if s = d then b else bs s) ⟨by simp [M.size], hbelow', hdown', hfr'.size, hfr'.defers, fun s u hs => ?_, fun m o' d' k hm' ho' hd' hk' => ?_, ?_⟩ hcnt
          · exact slot_kept hDep M.fG hfr' (fun e => by subst e; rw [hGd] at hs; cases hs) (M.fG s u hs)
          · rw [getD_set (by rw [M.size]; omega)] at hm'
            by_cases hmi : i = m
            · subst hmi
              rw [ho] at ho'; injection ho' with ho'; subst ho'
              rw [hdd] at hd'; injection hd' with hd'; subst hd'
              rw [List.getElem?_eq_getElem hki, hkk] at hk'; injection hk' with hk'; subst hk'
              rw [if_pos rfl]
              exact hfr'.at_ _ _ (by simp [look, Nat.beq_refl, PK.out])
            · rw [if_neg hmi] at hm'
              have hmn : m < n := M.lt hm'
              have hne : d' ≠ d := fun e => hmi (huniq m o' d' hmn ho' hd' e.symm)
              rw [if_neg hne]
              exact slot_kept hDep M.fG hfr' hne (M.fV m o' d' k hm' ho' hd' hk')
          · have hp := laidH_add (L := fun i => listed.getD i false) (L' := fun j => (listed.setIfInBounds i true).getD j false) (bs := bs) (bs' := fun s => if s = d then b else bs s) (p := i) (os := l) (r := ks) (i := 0) (Nat.zero_le _)
              (fun j hj => by show listed.getD j false = (listed.setIfInBounds i true).getD j false; rw [getD_set (by rw [M.size]; omega), if_neg (Ne.symm hj)]) hlf (by show (listed.setIfInBounds i true).getD i false = true; rw [getD_set (by rw [M.size]; omega), if_pos rfl])
              (fun j o' d' h1 h2 h3 h4 => by
                simp only [Nat.zero_add] at h4
                have hne : d' ≠ d := fun e => by
                  have := huniq j o' d' (by omega) h1 h2 e.symm
                  subst this
                  rw [hlf] at h4; cases h4
                simp [hne]) (hcells hnp) (o := o) (d := d) (c := c) (t := t) (by simpa using ho) hdd (by rw [Nat.sub_zero, List.getElem?_eq_getElem hki, hkk]) (by
                show (if (listed.setIfInBounds i true).getD q0 false = true then c2 else c) = c
                have hki' : ks[i]? = some (.new c t q0 c2) := by rw [List.getElem?_eq_getElem hki, hkk]
                rcases hput.new i c t q0 c2 hki' with h | h
                · rw [h]; split <;> rfl
                · cases hq : ks[q0]? with
                  | none => rw [hq] at h; cases h
                  | some kq =>
                    rw [hq] at h
                    cases kq with
                    | put dj c' t' c2' =>
                      obtain ⟨j, oj, op, e, hkj, hoj, hdj, hop, he, hbe, hej2⟩ := hput.put q0 dj c' t' c2' hq
                      have hqi : q0 ≠ i := fun e2 => by subst e2; rw [hki'] at hq; cases hq
                      by_cases hji : j = i
                      · rw [hget q0 hqi]
                        cases hlq : listed.getD q0 false with
                        | false => rfl
                        | true =>
                          have := M.down q0 op hlq hop e he hbe
                          rw [hej2, hji, hlf] at this; cases this
                      · have := hput.uniq j i q0 c' t' c2' c t c2 hkj hki' hji
                        rw [this]; split <;> rfl
                    | val v => cases h
                    | new _ _ _ _ => cases h)
            simp only [if_true] at hp
            refine hst'.perm ?_
            exact List.perm_middle.symm.trans (List.Perm.append_left _ hp)
  have hrep : ∀ j, (Array.replicate l.toArray.size false).getD j false = false := fun j => by
    simp only [Array.getD_eq_getD_getElem?, Array.getElem?_replicate]
    split <;> rfl
  refine key l.toArray.size _ a w.drew (fun _ => 0) ⟨by simp, fun i _ => hrep i, fun i o h => (by rw [hrep i] at h; cases h), hfr.size, hfr.defers, hfr.at_, fun i o d k h => (by rw [hrep i] at h; cases h), ?_⟩ ?_
  · have : laidH (fun i => (Array.replicate l.toArray.size false).getD i false) l ks 0 (fun _ => 0) = [] := laidH_none hrep
    rw [this, List.append_nil, hrep q]
    exact hst.drew
  · simpa using cnt_le (fun i => (Array.replicate l.toArray.size false).getD i false) l.length
end
end Go.Proofs.YtkfmlekomfnleaaGreat
/- The calculus: a statement whose order is open and in which data of one's own grows: each operation in turn, the append among them. Conditions: none; everything holds over any program. -/
set_option linter.unusedVariables false
set_option linter.unusedSimpArgs false
namespace Go.Proofs.YtkfmlekomfnleaaGreat
open Go Go.RowKit

section
variable {P : Program} {E : Env} {Q : Pst} {G : List (Nat × Value)} {H : List HP} {l : List Oper} {own : HP} {q j2 : Nat}
theorem wpList1_mono {ops : Array Oper} {o : Oper} {a : Act} {w : World} {K1 K2 : Act → World → Prop} (hk : ∀ a w, K1 a w → K2 a w) (h : wpList P ops (Pst.then K1 Q).fn [o] a w) : wpList P ops (Pst.then K2 Q).fn [o] a w := by
  have hl : LetsOut (Pst.then K1 Q).fn → LetsOut (Pst.then K2 Q).fn := fun h => h
  unfold wpList at h ⊢
  split
  · rename_i hw
    rw [if_pos hw] at h
    rcases h with h | ⟨h1, h2⟩
    · refine .inl ?_
      unfold Oper.wp at h ⊢
      generalize (execOp a.eval o).run P w = r at *
      cases r with
      | ok n w' =>
        cases n <;> simp only [Oper.upon] at h ⊢ <;>
          first
            | exact hk _ _ h
            | exact Calls.mono h (fun e w'' he => by cases e <;> first | exact hk _ _ he | exact he)
            | exact Rows.mono h (fun _ _ he => hk _ _ he)
      | halt x w' => cases x <;> simp only [Oper.upon] at h ⊢ <;> exact h
    · exact .inr ⟨h1, hl h2⟩
  · rename_i hw
    rw [if_neg hw] at h
    exact hk _ _ h
theorem perm_own {A : List HP} {X : List HP} : ((own :: A) ++ X).Perm (A ++ own :: X) := (List.perm_middle (a := own) (l₁ := A) (l₂ := X)).symm
/-- What needs not what is one's own stays true where that lies. -/
theorem Prem.with {ops : Array Oper} {Gd : List (Nat × Value)} {o : Oper} {k : PK} (h : Prem P E ops Q Gd G H o k) : Prem P E ops Q Gd G (own :: H) o k := by
  cases k with
  | val v =>
    intro Gx X a w hf hw
    refine wpList1_mono (fun a' w' ⟨d, h1, h2, h3⟩ => ⟨d, h1, h2, h3.perm perm_own.symm⟩) (h Gx (own :: X) a w hf (hw.perm perm_own))
  | new c t p c2 =>
    intro Gx X a w hf hw
    refine wpList1_mono (fun a' w' ⟨b, d, h1, h2, h3⟩ => ⟨b, d, h1, h2, h3.perm (List.Perm.cons _ perm_own.symm)⟩) (h Gx (own :: X) a w hf (hw.perm perm_own))
  | put dj c t c2 =>
    intro b Gx X a w hf hw
    refine wpList1_mono (fun a' w' ⟨h2, h3⟩ => ⟨h2, h3.perm (List.Perm.cons _ perm_own.symm)⟩) (h b Gx (own :: X) a w hf (hw.perm (List.Perm.cons _ perm_own)))
/-- What an operation of the list is to bring: the one at q takes what is one's own and what the one at j2 has laid. -/
def PrA (P : Program) (E : Env) (Q : Pst) (l : List Oper) (G : List (Nat × Value)) (own : HP) (H : List HP) (q j2 : Nat) (ks : List PK) (m : Nat) (o : Oper) (k : PK) : Prop :=
  (m ≠ q → Prem P E l.toArray Q (depG l ks o) G H o k ∨ ∃ (e : Edge) (oj : Oper) (dj : Nat) (v : Value) (cj : Nat → HP) (tj : Nat → Value) (pj : Nat), e ∈ o.after.toList ∧ Region.binds .any e = true ∧ l[e.on]? = some oj ∧ oj.dst = some dj ∧ k = .val v ∧ ks[e.on]? = some (.new cj tj pj cj) ∧ ∀ (b : Nat) (Gx : List (Nat × Value)) (X : List HP), RW P E l.toArray (Pst.then (fun a w => ∃ d, o.dst = some d ∧ Fr E.N E.ds a ((d, v) :: (dj, tj b) :: (depG l ks o ++ G ++ Gx)) ∧ St E.w0 E.S (cj b :: (H ++ X)) w) Q) [o] ((dj, tj b) :: (depG l ks o ++ G ++ Gx)) (cj b :: (H ++ X))) ∧
  (m = q → ∃ (e : Edge) (oj : Oper) (dj : Nat) (c : Nat → HP) (t : Nat → Value) (p : Nat) (c2 cj : Nat → HP) (tj : Nat → Value) (pj : Nat), e ∈ o.after.toList ∧ Region.binds .any e = true ∧ e.on = j2 ∧ l[j2]? = some oj ∧ oj.dst = some dj ∧ k = .new c t p c2 ∧ ks[j2]? = some (.new cj tj pj cj) ∧
    ∀ (b : Nat) (Gx : List (Nat × Value)) (X : List HP), RW P E l.toArray (Pst.then (fun a w => ∃ b' d, o.dst = some d ∧ Fr E.N E.ds a ((d, t b') :: (dj, tj b) :: (depG l ks o ++ G ++ Gx)) ∧ St E.w0 E.S (c b' :: cj b :: (H ++ X)) w) Q) [o] ((dj, tj b) :: (depG l ks o ++ G ++ Gx)) (cj b :: ((own :: H) ++ X)))
/-- What is done is D (the last first), what is left os. -/
structure AB (P : Program) (E : Env) (Q : Pst) (l : List Oper) (G : List (Nat × Value)) (own : HP) (H : List HP) (q j2 : Nat) (D : List (Nat × PK)) (os : List Oper) : Prop where
  out : ∀ acc : List PK, D.reverse = zp l acc → acc.length ≤ l.length → (∀ (i : Nat) (o : Oper), l[i]? = some o → ∀ e ∈ o.after.toList, Region.binds .any e = true → e.on < i) → l.drop acc.length = os → ∃ ks : List PK,
    (Dist l (acc ++ ks).length → ∀ (m : Nat) (o : Oper) (k : PK), acc.length ≤ m → l[m]? = some o → (acc ++ ks)[m]? = some k → PrA P E Q l G own H q j2 (acc ++ ks) m o k) ∧
    (Nat.ble (acc ++ ks).length l.length = true ∧ forcedB l (acc ++ ks).length = true ∧ dstB l [] (acc ++ ks).length G = true ∧ (Dist l (acc ++ ks).length → ∀ bs, RW P E l.toArray Q (l.drop (acc ++ ks).length) (outG l (acc ++ ks) bs ++ G) (H ++ newH l (acc ++ ks) bs))) ∧
    (∀ k ∈ ks, k.plain) ∧ q < (acc ++ ks).length
theorem AB.stop {D : List (Nat × PK)} {os : List Oper} (hq : Nat.blt q D.length = true) (h2 : forcedB l D.length = true) (h3 : dstB l [] D.length G = true) (tail : ∀ bs, RW P E l.toArray Q os (outD D bs ++ G) (H ++ newD D bs)) : AB P E Q l G own H q j2 D os := by
  refine ⟨fun acc hD hle hb hos => ⟨[], fun _ m o k h1 h2 h3 => ?_, by rw [List.append_nil]; exact stop_out h2 h3 tail hD hle hos, by simp, ?_⟩⟩
  · rw [List.append_nil, List.getElem?_eq_none h1] at h3; cases h3
  · have : D.length = acc.length := by rw [← List.length_reverse, hD, zp, List.length_zipWith, Nat.min_eq_right hle]
    rw [List.append_nil, ← this]
    rwa [Nat.blt_eq] at hq
theorem AB.of {D : List (Nat × PK)} {o : Oper} {os : List Oper} {d : Nat} {k : PK} (hkp : k.plain) (hd : o.dst = some d)
    (hp : ∀ (acc ks : List PK), D.reverse = zp l acc → acc.length ≤ l.length → l[acc.length]? = some o → Dist l (acc ++ k :: ks).length → depG l (acc ++ k :: ks) o = depD l D o.after.toList → PrA P E Q l G own H q j2 (acc ++ k :: ks) acc.length o k) (h : AB P E Q l G own H q j2 ((d, k) :: D) os) : AB P E Q l G own H q j2 D (o :: os) := by
  refine ⟨fun acc hD hle hb hos => ?_⟩
  obtain ⟨hlt, ho, hos', hD'⟩ := step_acc (k := k) hd hD hle hos
  obtain ⟨ks, h1, h2, h6, h7⟩ := h.out (acc ++ [k]) hD' (by simp; omega) hb hos'
  have hass : acc ++ [k] ++ ks = acc ++ k :: ks := by simp
  rw [hass] at h1 h2 h7
  refine ⟨k :: ks, fun hdist m o' k' hm ho' hk' => ?_, h2, fun k' hk' => (List.mem_cons.1 hk').elim (fun e => e ▸ hkp) (h6 k'), h7⟩
  rcases Nat.eq_or_lt_of_le hm with e | hlt'
  · subst e
    rw [ho] at ho'
    cases ho'
    rw [List.getElem?_append_right (Nat.le_refl _), Nat.sub_self] at hk'
    cases hk'
    exact hp acc ks hD hle ho hdist (depD_eq hdist (by simp) hD (fun e he hbe => hb _ _ ho e he hbe))
  · exact h1 hdist m o' k' (by simp; omega) ho' hk'
theorem AB.step {D : List (Nat × PK)} {o : Oper} {os : List Oper} {d : Nat} {k : PK} (hkp : k.plain) (hd : o.dst = some d) (hq : Nat.beq D.length q = false) (hp : Prem P E l.toArray Q (depD l D o.after.toList) G H o k) (h : AB P E Q l G own H q j2 ((d, k) :: D) os) : AB P E Q l G own H q j2 D (o :: os) :=
  AB.of hkp hd (fun acc ks hD hle ho hdist hdep => by
    have : D.length = acc.length := by rw [← List.length_reverse, hD, zp, List.length_zipWith, Nat.min_eq_right hle]
    refine ⟨fun _ => .inl (by rw [hdep]; exact hp), fun e => ?_⟩
    rw [this, e] at hq
    simp at hq) h
theorem AB.val {D : List (Nat × PK)} {o : Oper} {os : List Oper} {d : Nat} {v : Value} (hd : o.dst = some d) (hq : Nat.beq D.length q = false)
    (hp : ∀ (Gx : List (Nat × Value)) (X : List HP), RW P E l.toArray (Pst.then (fun a w => ∃ d, o.dst = some d ∧ Fr E.N E.ds a ((d, v) :: (depD l D o.after.toList ++ G ++ Gx)) ∧ St E.w0 E.S (H ++ X) w) Q) [o] (depD l D o.after.toList ++ G ++ Gx) (H ++ X))
    (h : AB P E Q l G own H q j2 ((d, .val v) :: D) os) : AB P E Q l G own H q j2 D (o :: os) := AB.step (k := .val v) trivial hd hq hp h
theorem AB.gen {D : List (Nat × PK)} {o : Oper} {os : List Oper} {d : Nat} (V : Nat → Value) (c : Nat → HP) (hd : o.dst = some d) (hq : Nat.beq D.length q = false)
    (hp : ∀ (Gx : List (Nat × Value)) (X : List HP), RW P E l.toArray (Pst.then (fun a w => ∃ b d, o.dst = some d ∧ Fr E.N E.ds a ((d, V b) :: (depD l D o.after.toList ++ G ++ Gx)) ∧ St E.w0 E.S (c b :: (H ++ X)) w) Q) [o] (depD l D o.after.toList ++ G ++ Gx) (H ++ X))
    (h : AB P E Q l G own H q j2 ((d, .new c V 0 c) :: D) os) : AB P E Q l G own H q j2 D (o :: os) := AB.step (k := .new c V 0 c) rfl hd hq hp h
/-- One of a known value that sees what the one at j has laid. -/
theorem AB.see {D : List (Nat × PK)} {o oj : Oper} {os : List Oper} {d dj : Nat} {v : Value} (j : Nat) {cj : Nat → HP} {tj : Nat → Value} {pj : Nat} (hd : o.dst = some d) (hq : Nat.beq D.length q = false)
    (he : (o.after.toList.any fun e => Region.binds .any e && Nat.beq e.on j) = true) (hoj : l[j]? = some oj) (hdj : oj.dst = some dj) (hkj : D.reverse[j]? = some (dj, .new cj tj pj cj))
    (hp : ∀ (b : Nat) (Gx : List (Nat × Value)) (X : List HP), RW P E l.toArray (Pst.then (fun a w => ∃ d, o.dst = some d ∧ Fr E.N E.ds a ((d, v) :: (dj, tj b) :: (depD l D o.after.toList ++ G ++ Gx)) ∧ St E.w0 E.S (cj b :: (H ++ X)) w) Q) [o] ((dj, tj b) :: (depD l D o.after.toList ++ G ++ Gx)) (cj b :: (H ++ X)))
    (h : AB P E Q l G own H q j2 ((d, .val v) :: D) os) : AB P E Q l G own H q j2 D (o :: os) :=
  AB.of (k := .val v) trivial hd (fun acc ks hD hle ho hdist hdep => by
    have hlen : D.length = acc.length := by rw [← List.length_reverse, hD, zp, List.length_zipWith, Nat.min_eq_right hle]
    refine ⟨fun _ => .inr ?_, fun e => (by rw [hlen, e] at hq; simp at hq)⟩
    rw [List.any_eq_true] at he
    obtain ⟨e, he1, he2⟩ := he
    rw [Bool.and_eq_true] at he2
    rw [hdep]
    have ee := Nat.eq_of_beq_eq_true he2.2
    refine ⟨e, oj, dj, v, cj, tj, pj, he1, he2.1, by rw [ee]; exact hoj, hdj, rfl, ?_, hp⟩
    rw [ee]
    rw [hD] at hkj
    have hj : j < acc.length := by
      have := (List.getElem?_eq_some_iff.1 hkj).1
      rw [zp, List.length_zipWith] at this
      omega
    rw [List.getElem?_append_left hj, List.getElem?_eq_getElem hj]
    rw [zp_at (k := acc[j]) hoj hdj (List.getElem?_eq_getElem hj)] at hkj
    have := Option.some.inj hkj
    rw [Prod.mk.injEq] at this
    rw [this.2]) h
/-- The one that takes what is one's own. -/
theorem AB.app {D : List (Nat × PK)} {o oj : Oper} {os : List Oper} {d dj : Nat} (V : Nat → Value) (c : Nat → HP) {cj : Nat → HP} {tj : Nat → Value} {pj : Nat} (hd : o.dst = some d) (hq : Nat.beq D.length q = true)
    (he : (o.after.toList.any fun e => Region.binds .any e && Nat.beq e.on j2) = true) (hoj : l[j2]? = some oj) (hdj : oj.dst = some dj) (hkj : D.reverse[j2]? = some (dj, .new cj tj pj cj))
    (hp : ∀ (b : Nat) (Gx : List (Nat × Value)) (X : List HP), RW P E l.toArray (Pst.then (fun a w => ∃ b' d, o.dst = some d ∧ Fr E.N E.ds a ((d, V b') :: (dj, tj b) :: (depD l D o.after.toList ++ G ++ Gx)) ∧ St E.w0 E.S (c b' :: cj b :: (H ++ X)) w) Q) [o] ((dj, tj b) :: (depD l D o.after.toList ++ G ++ Gx)) (cj b :: ((own :: H) ++ X)))
    (h : AB P E Q l G own H q j2 ((d, .new c V 0 c) :: D) os) : AB P E Q l G own H q j2 D (o :: os) :=
  AB.of (k := .new c V 0 c) rfl hd (fun acc ks hD hle ho hdist hdep => by
    have hlen : D.length = acc.length := by rw [← List.length_reverse, hD, zp, List.length_zipWith, Nat.min_eq_right hle]
    refine ⟨fun hn => absurd (hlen.symm.trans (Nat.eq_of_beq_eq_true hq)) hn, fun _ => ?_⟩
    rw [List.any_eq_true] at he
    obtain ⟨e, he1, he2⟩ := he
    rw [Bool.and_eq_true] at he2
    rw [hdep]
    refine ⟨e, oj, dj, c, V, 0, c, cj, tj, pj, he1, he2.1, Nat.eq_of_beq_eq_true he2.2, hoj, hdj, rfl, ?_, hp⟩
    rw [hD] at hkj
    have hj : j2 < acc.length := by
      have := (List.getElem?_eq_some_iff.1 hkj).1
      rw [zp, List.length_zipWith] at this
      omega
    rw [List.getElem?_append_left hj, List.getElem?_eq_getElem hj]
    rw [zp_at (k := acc[j2]) hoj hdj (List.getElem?_eq_getElem hj)] at hkj
    have := Option.some.inj hkj
    rw [Prod.mk.injEq] at this
    rw [this.2]) h
theorem WA.app (hb : backB l = true) (h : AB P E Q l G own H q j2 [] l) : WA P E l Q G (own :: H) := by
  have hback : ∀ (i : Nat) (o : Oper), l[i]? = some o → ∀ e ∈ o.after.toList, Region.binds .any e = true → e.on < i := by
    intro i o ho e he hbe
    have hi : i < l.length := (List.getElem?_eq_some_iff.1 ho).1
    have := (List.all_eq_true.1 hb) i (List.mem_range.2 hi)
    rw [ho] at this
    have h9 := (List.all_eq_true.1 this) e he
    simpa [hbe] using h9
  obtain ⟨ks, h1, ⟨h2, h3, h4, h5⟩, hpl, hqn⟩ := h.out [] (by cases l <;> rfl) (by simp) hback rfl
  rw [List.nil_append] at h1 h2 h3 h4 h5 hqn
  have hdist : Dist l ks.length := by
    intro i hi
    have h6 := (List.all_eq_true.1 h4) i (List.mem_range.2 hi)
    have hi' : i < l.length := by rw [Nat.ble_eq] at h2; omega
    rw [List.getElem?_eq_getElem hi'] at h6
    simp only at h6
    cases hdd : l[i].dst with
    | none => rw [hdd] at h6; cases h6
    | some d =>
      rw [hdd] at h6
      simp only [Bool.and_eq_true] at h6
      refine ⟨l[i], d, List.getElem?_eq_getElem hi', hdd, fun j o' hj ho' hd' => ?_⟩
      have h7 := (List.all_eq_true.1 h6.2) j (List.mem_range.2 hj)
      rw [ho'] at h7
      simp only [hd'] at h7
      simpa using h7
  have hnoput : ∀ i : Nat, PK.isPut ks[i]? = false := fun i => by
    cases hk : ks[i]? with
    | none => rfl
    | some k =>
      have := hpl k (List.mem_of_getElem? hk)
      cases k with
      | put _ _ _ _ => exact this.elim
      | val v => rfl
      | new _ _ _ _ => rfl
  have h4' : dstB l ks ks.length G = true := by
    unfold dstB at h4 ⊢
    rw [List.all_eq_true] at h4 ⊢
    intro i hi
    have := h4 i hi
    rw [hnoput i]
    exact this
  have h1 := h1 hdist
  refine WA.anyA q j2 (fun b => if b = true then H else own :: H) ks.length ks rfl h2 hb h3 h4' (PutOK.plain (fun dj c t c2 hm => hpl _ hm) (fun c t p c2 hm => hpl _ hm)) (fun i o d _ _ _ hp => by rw [hnoput i] at hp; cases hp)
    (fun i o k hi ho hk => ?_) (fun o hq ho => ?_) (fun bs => ?_)
  · rcases (h1 i o k (Nat.zero_le _) ho hk).1 hi with this | ⟨e, oj, dj, v, cj, tj, pj, g1, g2, g3, g4, g5, g6, g7⟩
    · refine .inl fun b => ?_
      cases b with
      | true => exact this
      | false => exact Prem.with this
    · refine .inr ⟨e, oj, dj, v, cj, tj, pj, g1, g2, g3, g4, g5, g6, fun b0 b Gx X => ?_⟩
      cases b0 with
      | true => exact g7 b Gx X
      | false =>
        intro a w hf hw
        exact wpList1_mono (fun a' w' ⟨d, h1, h2, h3⟩ => ⟨d, h1, h2, h3.perm (List.Perm.cons _ perm_own.symm)⟩) (g7 b Gx (own :: X) a w hf (hw.perm (List.Perm.cons _ perm_own)))
  · have hk : ks[q]? = some ks[q] := List.getElem?_eq_getElem hq
    obtain ⟨e, oj, dj, c, t, p, c2, cj, tj, pj, g1, g2, g3, g4, g5, g6, g7, g8⟩ := (h1 q o ks[q] (Nat.zero_le _) ho hk).2 rfl
    exact ⟨e, oj, dj, c, t, p, c2, cj, tj, pj, g1, g2, g3, g4, g5, by rw [hk, g6], g7, fun b Gx X => g8 b Gx X⟩
  · rw [decide_eq_true hqn]
    exact h5 hdist bs
theorem RW.done_app {ops : Array Oper} {o : Oper} {n d : Nat} {V : Nat → Value} {c : Nat → HP} {cj : HP} {G' : List (Nat × Value)} {H' : List HP} (hd : o.dst = some d) :
    RW P E ops (Pst.then (fun a w => ∃ b d, o.dst = some d ∧ Fr E.N E.ds a ((d, V b) :: G') ∧ St E.w0 E.S (c b :: cj :: H') w) Q) [] ((d, V n) :: G') (cj :: c n :: H') := fun a w hf hw => ⟨n, d, hd, hf, hw.perm (List.Perm.swap _ _ _)⟩
theorem CW.seqB {id : Nat} {y : Code} (q j2 : Nat) (own : HP) {H : List HP} (hm : P.follows .mixedOrders = true) (hb : backB l = true) (h : AB P E (Pst.then (y.wp P Q.fn) Q) l G own H q j2 [] l) : CW P E (.seq (.region id l.toArray true) y) Q G (own :: H) := CW.seq (CW.of hm (WA.app hb h))
theorem CW.regB {id : Nat} (q j2 : Nat) (own : HP) {H : List HP} (hm : P.follows .mixedOrders = true) (hb : backB l = true) (h : AB P E Q l G own H q j2 [] l) : CW P E (.region id l.toArray true) Q G (own :: H) := CW.of hm (WA.app hb h)
/-! ### few orders: each of them -/
def readyL (l : List Oper) (L : List Bool) : List Nat := (List.range l.length).filter fun i => !L.getD i true && ((l[i]?).map fun o => o.after.toList.all fun e => !Region.binds .any e || L.getD e.on false).getD false
def WT (P : Program) (E : Env) (l : List Oper) (Q : Pst) (L : List Bool) (G : List (Nat × Value)) (H : List HP) : Prop := ∀ (a : Act) (w : World), Fr E.N E.ds a G → St E.w0 E.S H w → wpAny P .any l.toArray Q.fn (L.count false) L.toArray a w
/-- Each of the operations that may come next. -/
def AllR (P : Program) (E : Env) (l : List Oper) (Q : Pst) (L : List Bool) (G : List (Nat × Value)) (H : List HP) : List Nat → Prop
  | [] => True
  | i :: r => (∃ o, l[i]? = some o ∧ RW P E l.toArray (Pst.then (fun a w => wpAny P .any l.toArray Q.fn ((L.set i true).count false) (L.set i true).toArray a w) Q) [o] G H) ∧ AllR P E l Q L G H r
theorem AllR.at_ {L : List Bool} {is : List Nat} (h : AllR P E l Q L G H is) : ∀ i ∈ is, ∃ o, l[i]? = some o ∧ RW P E l.toArray (Pst.then (fun a w => wpAny P .any l.toArray Q.fn ((L.set i true).count false) (L.set i true).toArray a w) Q) [o] G H := by
  induction is with
  | nil => intro i hi; cases hi
  | cons j is ih =>
    intro i hi
    rcases List.mem_cons.1 hi with rfl | hi
    · exact h.1
    · exact ih h.2 i hi
theorem readyL_eq {L : List Bool} (hL : L.length = l.length) : Region.ready .any l.toArray L.toArray = readyL l L := by
  unfold Region.ready readyL
  simp only [List.size_toArray]
  refine List.filter_congr fun i hi => ?_
  simp only [List.getElem?_toArray, Array.getD_eq_getD_getElem?, List.getD_eq_getElem?_getD]
  congr 2
  congr 1
  funext o
  rw [← Array.all_toList]
theorem set_count {L : List Bool} : ∀ {i : Nat}, L[i]? = some false → (L.set i true).count false + 1 = L.count false := by
  induction L with
  | nil => intro i h; simp at h
  | cons b L ih =>
    intro i h
    cases i with
    | zero => simp at h; subst h; simp
    | succ i =>
      have := ih (i := i) (by simpa using h)
      cases b <;> simp [List.count_cons] <;> omega
theorem WT.step {L : List Bool} {is : List Nat} (hl : Nat.beq L.length l.length = true) (hr : readyL l L = is) (hne : is.isEmpty = false) (h : AllR P E l Q L G H is) : WT P E l Q L G H := by
  have hL := Nat.eq_of_beq_eq_true hl
  subst hr
  intro a w hf hw
  obtain ⟨i0, hi0⟩ : ∃ i, i ∈ readyL l L := by
    cases hh : readyL l L with
    | nil => rw [hh] at hne; cases hne
    | cons i r => exact ⟨i, by simp⟩
  have hfalse : ∀ i ∈ readyL l L, L[i]? = some false := fun i hi => by
    unfold readyL at hi
    rw [List.mem_filter] at hi
    have h1 := List.mem_range.1 hi.1
    have h2 := hi.2
    rw [Bool.and_eq_true] at h2
    have h3 : i < L.length := by omega
    rw [List.getD_eq_getElem?_getD, List.getElem?_eq_getElem h3] at h2
    rw [List.getElem?_eq_getElem h3]
    have := h2.1
    simp at this
    rw [this]
  have hc := set_count (hfalse i0 hi0)
  rw [← hc]
  refine ⟨fun hn => ?_, fun i hi => ?_⟩
  · rw [readyL_eq hL] at hn
    rw [hn] at hi0
    cases hi0
  · rw [readyL_eq hL] at hi
    obtain ⟨o, ho, h1⟩ := h.at_ i hi
    have h2 := h1 a w hf hw
    have hset : L.toArray.setIfInBounds i true = (L.set i true).toArray := by simp
    have hcnt : (L.set i true).count false = (L.set i0 true).count false := by
      have := set_count (hfalse i hi)
      omega
    rw [hset, ← hcnt]
    exact wpOp_then (wpOp_of_list ho h2)
theorem WT.done {L : List Bool} (hl : Nat.beq L.length l.length = true) (hc : L.all id = true) (h : RW P E l.toArray Q [] G H) : WT P E l Q L G H := by
  have hL := Nat.eq_of_beq_eq_true hl
  intro a w hf hw
  have h0 : L.count false = 0 := by
    rw [List.count_eq_zero]
    intro hm
    have := List.all_eq_true.1 hc false hm
    cases this
  rw [h0]
  refine ⟨?_, h a w hf hw⟩
  rw [readyL_eq hL]
  unfold readyL
  refine List.eq_nil_iff_forall_not_mem.2 fun i hi => ?_
  rw [List.mem_filter] at hi
  have h1 := List.mem_range.1 hi.1
  have h3 : i < L.length := by omega
  have h2 := hi.2
  rw [Bool.and_eq_true, List.getD_eq_getElem?_getD, List.getElem?_eq_getElem h3] at h2
  have h4 := List.all_eq_true.1 hc L[i] (List.getElem_mem h3)
  simp at h4
  rw [h4] at h2
  simp at h2
theorem WA.tree (h : WT P E l Q (List.replicate l.length false) G H) : WA P E l Q G H := fun a w hf hw => by
  have := h a w.drew hf hw.drew
  have e : (List.replicate l.length false).count false = l.toArray.size := by simp
  rw [e] at this
  have e2 : (List.replicate l.length false).toArray = Array.replicate l.toArray.size false := by simp
  rw [e2] at this
  exact this
theorem RW.tree {ops : Array Oper} {L : List Bool} (h : WT P E l Q L G H) : RW P E ops (Pst.then (fun a w => wpAny P .any l.toArray Q.fn (L.count false) L.toArray a w) Q) [] G H := h
end
end Go.Proofs.YtkfmlekomfnleaaGreat
/- resolve.Literal. Conditions: none. -/
set_option linter.unusedVariables false
set_option linter.unusedSimpArgs false
set_option maxRecDepth 10000
namespace Go.Proofs.YtkfmlekomfnleaaGreat
open Go Go.RowKit Go.MapKept

theorem bnd_self {α : Type} (x : Ex α) : x = bnd x .ok := by cases x <;> rfl
theorem encU_cells (L n : Nat) : (encU L n).cells = #[encU L n] ∧ (encU L n).oneCell' = true := by unfold encU; split <;> exact ⟨rfl, rfl⟩
attribute [local irreducible] RW CW
set_option maxHeartbeats 4000000 in
theorem lit1_ret {br b8 b3 : Nat} {s : kStat.V} {x : RC} {cs : List Value} {l : kLitT.V} {w : World} {F : Nat → Prop} (hR : RS w (fun b => ¬ F b) br s 0 x) (h8 : mem w (fun b => ¬ F b) b8 0 (ptrV br)) (h3 : ∀ (j : Nat) (v : Value), cs[j]? = some v → mem w (fun b => ¬ F b) b3 j v) (hl : Rd kLitT (mem w (fun b => ¬ F b)) cs l) (hK : fourK s) :
    RetE Tryz.prog 53 [ptrV b8, ptrV b3] w F (literalD s 0 true ⟨[], []⟩ l) (fun _ _ => .tuple #[]) (fun _ (_ : Unit) => []) := by
  have hS := bnd_self (literalD s 0 true ⟨[], []⟩ l)
  generalize hSP : literalD s 0 true ⟨[], []⟩ l = SP at hS ⊢
  have hle : Mem.le (mem w (fun b => ¬ F b)) (mem w (fun b => ¬ F b)) := Mem.le_refl _
  have hl' := hl
  obtain ⟨A, c, rfl, hargs⟩ := Rd.litT hl
  refine Calls.enter Tryz.func53 rfl _ rfl rfl (S := F) (H := []) trivial ?_
  skip
  refine CW.region ?_
  skip
  refine RW.load_ro rfl hle h8 rfl rfl ?_
  refine RW.build (v := .agg #[.slice none 0 0, .map none, .bool true]) rfl (fun w => by kernel_rfl) rfl ?_
  refine RW.box_agg (l := [.slice none 0 0, .map none, .bool true]) rfl rfl fun b4 _ => ?_
  refine RW.load_ros (cs := [.bool l.1, .string l.2.1, .slice A l.2.2.1.length c, .bool l.2.2.2.1, .int .i64 l.2.2.2.2]) rfl hle (fun i v h => by rw [Nat.zero_add]; exact h3 i v h) rfl rfl (by simp) rfl ?_
  refine RW.callE (r := []) (frH b4) hS Tryz.call54 rfl (fun w2 F2 hw2 hF2 h1 _ => hSP ▸ literalF_ret (RS.callF hR hw2 hF2) (hl'.mono (ro_callF hw2 hF2)) hK h1) rfl rfl rfl fun z u hz hS => ?_
  exact RW.nil (PW.ret (rs := []) (vs := []) Tryz.results53 rfl ResOK.nil fun w hw => XP.ok (V := fun _ _ => .tuple #[]) () hS (hw.take []))
/-- A literal's answer: denied, its predicate's number, its members' numbers, its value; and an error. -/
abbrev LitV := Bool × Int × List Int × Int
def litD (s : kStat.V) (l : kLitT.V) : LitV × Int :=
  if (checkD s).1 = 0 then match literalD s 0 true ⟨[], []⟩ l with
    | .ok _ => ((l.1, (pGet s l.2.1).getD 0, l.2.2.1.map (fun a => (mGet s a).getD 0), l.2.2.2.2), 0)
    | .error e => ((false, 0, [], 0), e.1)
  else ((false, 0, [], 0), (checkD s).1)
abbrev litC (x : LitV) (v : Value) : List Value := [.bool x.1, .int .i64 x.2.1, v, .int .i64 x.2.2.2, .int .i64 0]
set_option maxHeartbeats 16000000 in
theorem literal_call {s : kStat.V} {x : RC} {cs : List Value} {l : kLitT.V} {w : World} (hst : StatOn (mem w (fun b => ¬ No b)) s x) (hl : Rd kLitT (mem w (fun b => ¬ No b)) cs l) :
    RetC Tryz.prog 17 [.agg (x.stat s).toArray, .agg cs.toArray] w No (fun v : Value => .tuple #[.agg (litC (litD s l).1 v).toArray, .int .i64 (litD s l).2]) (fun v => [ownHP 3 1 v ((litD s l).1.2.2.1.map intE)]) := by
  generalize hV : litD s l = V
  unfold litD at hV
  have nilH : ∀ (w2 : World) (H : List HP), St w No H w2 → St w No [ownHP 3 1 (.slice none 0 0) (([] : List Int).map intE)] w2 := fun w2 H hw =>
    ⟨hw.kp, No, fun b hb => hb.elim, .inl ⟨rfl, rfl⟩, trivial⟩
  have hle : Mem.le (mem w (fun b => ¬ No b)) (mem w (fun b => ¬ No b)) := Mem.le_refl _
  have hl' := hl
  obtain ⟨A, c, rfl, hargs⟩ := Rd.litT hl
  have hal := sl_small hargs
  unfold reach at hal
  refine Calls.enter Tryz.func17 rfl _ rfl rfl (S := No) (H := []) trivial ?_
  refine CW.seqR ?_
  refine RW.box_agg (l := x.stat s) rfl rfl fun b2 _ => ?_
  refine RW.box_agg (l := [.bool l.1, .string l.2.1, .slice A l.2.2.1.length c, .bool l.2.2.2.1, .int .i64 l.2.2.2.2]) rfl rfl fun b3 _ => ?_
  refine RW.alloc (c := litC (false, 0, [], 0) (.slice none 0 0)) rfl rfl fun b4 _ => ?_
  refine Jd ?_;refine Jb ?_
  refine CW.seq ?_
  refine Ja ?_;refine JG ?_
  refine RW.call Tryz.call7 rfl (fun w2 hw => check_ret (StatOn.mono hst (ro_call hw))) rfl ?_
  refine Jc ?_;refine Jt ?_;refine Jt ?_;refine Jd ?_;refine Jd ?_;refine Jb ?_;refine Ja ?_;refine Jc ?_;refine Jj ?_;refine Jb ?_
  refine CW.ite rfl (fun h1 => ?_) (fun h1 => ?_)
  · rw [if_neg h1] at hV
    subst hV
    refine Ja ?_
    refine RW.build (v := .agg (litC (false, 0, [], 0) (.slice none 0 0)).toArray) rfl (fun w => by kernel_rfl) rfl ?_
    refine Jc ?_
    refine RW.store_whole [] rfl rfl (vs := litC (false, 0, [], 0) (.slice none 0 0)) rfl rfl rfl (by simp [Value.oneCell']) ?_
    refine Jd ?_;refine Jb ?_
    exact CW.rets (rs := [.cell 4 56, .tmp 5]) (vs := [_, _]) rfl Tryz.results17 rfl (ResOK.cell [] rfl rfl rfl (ResOK.tmp rfl ResOK.nil)) fun w hw => ⟨.slice none 0 0, rfl, nilH w _ hw⟩
  have h1 : (checkD s).1 = 0 := Decidable.of_not_not h1
  rw [if_pos h1] at hV
  obtain ⟨m, hm, _⟩ := check_ok h1
  obtain ⟨hK, hrs⟩ := items_rules hm
  refine JM ?_;refine Ja ?_;refine JG ?_
  refine RW.callN Tryz.call36 rfl (fun w2 hw => resolve_ret (StatOn.mono hst (ro_call hw))) rfl fun q => ?_
  obtain ⟨br, y⟩ := q
  refine RW.purely [_, _, _, _, _, _, _] (fun hy => ?_)
  dsimp only at hy ⊢
  have hst2 : StatOn (mem w (fun b => ¬ No b)) s y := by rw [hy]; exact hst.with _ _ _ _ _ _
  clear hy
  refine RW.take [7, 8, 0, 1, 2, 3, 4, 5, 6] ?_
  refine RW.alloc (c := [.pointer none]) rfl rfl fun b8 _ => ?_
  refine RW.store_blk [] rfl rfl rfl rfl rfl (by decide) ?_
  refine RW.change [] (blk b8 [ptrV br] 105) (fun w F hp => hp) ?_
  refine Jb ?_
  refine CW.seq ?_
  refine Ja ?_;refine Jx ?_
  refine RW.callXT (sp := literalD s 0 true ⟨[], []⟩ l) (β := Unit) (c := fun _ _ => []) [] Tryz.call37 rfl (fun w2 F2 hw2 hF2 h1 h2 => try_ret (pre := []) (caps := [ptrV b8, ptrV b3]) Tryz.call53 h1 fun w3 F3 hst3 hsep => ?_) rfl (fun er he => ?_) fun n u he => ?_
  · have k8 := Sep.blk_at h2
    have k3 := Sep.blk_at (Sep.pull (pre := [_, _]) h2)
    have kr := Sep.blk_at (Sep.pull (pre := [_, _, _]) h2)
    have kd : RD w3 (fun b => ¬ F3 b) s y := (RD.of (StatOn.mono (M := Env.ro ⟨Tryz.f17.ntmps, [], w, No⟩) hst2 (ro_callF hw2 hF2)) (Sep.tail (Sep.tail (Sep.tail (Sep.tail h2))))).stay hst3
    have km := Stay.mem hst3
    exact lit1_ret ⟨fun j v hj => km _ _ _ (blk_mem kr.1.2 kr.2 j v hj), kd.stat, kd.kinds, kd.members, kd.preds, kd.sources, kd.rules, kd.totals⟩ (km _ _ _ (blk_mem k8.1.2 k8.2 0 _ rfl)) (fun j v hj => km _ _ _ (blk_mem k3.1.2 k3.2 j v hj)) ((hl'.mono (ro_callF (E := ⟨Tryz.f17.ntmps, [], w, No⟩) hw2 hF2)).mono km) hK
  · rw [he] at hV
    subst hV
    have hne := nz_literal er he
    refine RW.alloc (c := [.int .i64 0, .int .i64 0]) rfl rfl fun b9 _ => ?_
    refine RW.store_whole [] rfl rfl (vs := [.int .i64 er.1, .int .i64 er.2]) rfl rfl rfl (by simp [Value.oneCell']) ?_
    refine Jb ?_;refine Ja ?_;refine Je ?_;refine JA ?_;refine Jj ?_;refine Jb ?_
    refine CW.ite rfl (fun _ => ?_) (fun h => absurd hne h)
    refine CW.keep [(4, ptrV b4), (9, ptrV b9)] ⟨rfl, rfl, trivial⟩ ?_
    refine CW.cut (ι := Unit) (fun _ => [(4, ptrV b4), (5, .int .i64 er.1)]) (fun _ => [blk b4 (litC (false, 0, [], 0) (.slice none 0 0)) 56]) ?_ (fun _ => ?_)
    · (refine CW.of (by kernel_rfl) (WA.tree ?_); repeat' (first | exact trivial | refine WT.step rfl rfl rfl ?_ | refine ⟨⟨_, rfl, ?_⟩, ?_⟩ | refine RW.tree ?_ | (first|refine Jc ?_|refine Jd ?_|refine Je ?_|refine Jf ?_|refine Jg ?_|refine Jh ?_|refine Ji ?_|refine Jj ?_|refine Jk ?_|refine Jl ?_|refine Jm ?_|refine Jn ?_|refine Jo ?_|refine Jp ?_|refine Jq ?_|refine Jr ?_|refine Js ?_|refine Jt ?_|refine Ju ?_|refine Jv ?_|refine Jw ?_|refine Jx ?_|refine Jz ?_|refine JA ?_|refine JB ?_|refine JC ?_|refine JD ?_|refine JE ?_|refine JF ?_|refine JG ?_|refine JH ?_|refine JI ?_|refine JJ ?_|refine JK ?_|refine JL ?_) | (first | refine RW.build (v := .agg (litC (false, 0, [], 0) (.slice none 0 0)).toArray) rfl (fun w => by kernel_rfl) rfl ?_ | refine RW.store_whole [_, _] rfl rfl (vs := litC (false, 0, [], 0) (.slice none 0 0)) rfl rfl rfl (by simp [Value.oneCell']) ?_ | exact WT.done rfl rfl (RW.nil (PW.meetT () [2] ⟨rfl, rfl, trivial⟩ rfl)))))
    skip
    exact CW.rets (rs := [.cell 4 56, .tmp 5]) (vs := [_, _]) rfl Tryz.results17 rfl (ResOK.cell [] rfl rfl rfl (ResOK.tmp rfl ResOK.nil)) fun w hw => ⟨.slice none 0 0, rfl, nilH w _ hw⟩
  rw [he] at hV
  subst hV
  refine RW.alloc (c := [.int .i64 0, .int .i64 0]) rfl rfl fun b9 _ => ?_
  refine RW.store_whole [] rfl rfl (vs := [.int .i64 0, .int .i64 0]) rfl rfl rfl (by simp [Value.oneCell']) ?_
  refine Jb ?_;refine Ja ?_;refine Je ?_;refine JA ?_;refine Jj ?_;refine Jb ?_
  refine CW.ite rfl (fun h => absurd rfl h) (fun _ => ?_)
  refine CW.skip ?_
  refine PW.code ?_
  refine CW.keep [(3, ptrV b3), (4, ptrV b4), (8, ptrV b8)] ⟨rfl, rfl, rfl, trivial⟩ ?_
  refine CW.take [1, 3, 4, 7, 6, 2] ?_
  refine CW.seqA (by kernel_rfl) rfl ?_
  refine AW.val rfl (fun _ _ => by refine Je ?_;exact RW.done rfl) ?_;refine AW.val rfl (fun _ _ => by refine JB ?_;exact RW.done rfl) ?_;refine AW.val rfl (fun _ _ => by refine JA ?_;exact RW.done rfl) ?_;refine AW.val rfl (fun _ _ => by refine Jf ?_;exact RW.done rfl) ?_;refine AW.val rfl (fun _ _ => by refine Je ?_;exact RW.done rfl) ?_;refine AW.val rfl (fun _ _ => by refine JC ?_;exact RW.done rfl) ?_;refine AW.val rfl (fun _ _ => by refine Je ?_;exact RW.done rfl) ?_;refine AW.val rfl (fun _ _ => by refine JB ?_;exact RW.done rfl) ?_
  (apply AW.val rfl; · intro Gx X; (first | refine RW.yes rfl ?_ | skip); refine RW.lookup [_, _, _] (a0 := (0 : Int)) rfl rfl rfl rfl ?_; exact RW.done rfl)
  refine AW.val rfl (fun _ _ => by refine Je ?_;exact RW.done rfl) ?_;refine AW.val rfl (fun _ _ => by refine JB ?_;exact RW.done rfl) ?_
  (apply AW.val rfl; · intro Gx X; (first | refine RW.yes rfl ?_ | skip); refine RW.build (v := .agg #[.int .i64 ((pGet s l.2.1).getD 0), .slice none 0 0, .int .i64 l.2.2.2.2]) rfl (fun w => by kernel_rfl) rfl ?_; exact RW.done rfl)
  (apply AW.val rfl; · intro Gx X; (first | refine RW.yes rfl ?_ | skip); refine RW.build (v := .agg (litC (l.1, (pGet s l.2.1).getD 0, [], l.2.2.2.2) (.slice none 0 0)).toArray) rfl (fun w => by kernel_rfl) rfl ?_; exact RW.done rfl)
  (apply AW.gen (fun b => ptrV b) (fun b => blk b (litC (false, 0, [], 0) (.slice none 0 0)) 56 ) rfl; · intro Gx X; refine RW.alloc (c := (litC (false, 0, [], 0) (.slice none 0 0))) rfl rfl fun b _ => ?_; exact RW.done_gen rfl)
  refine AW.stop (by kernel_rfl) (by kernel_rfl) fun bs => ?_
  refine RW.store_whole [_, _, _, _, _, _] rfl rfl (vs := litC (l.1, (pGet s l.2.1).getD 0, [], l.2.2.2.2) (.slice none 0 0)) rfl rfl rfl (by simp [Value.oneCell']) ?_
  refine Jb ?_
  refine CW.seq ?_
  refine CW.take [1, 0, 2, 4, 5, 6] ?_
  refine Ja ?_;refine Je ?_;refine JA ?_;refine Jg ?_;refine Jc ?_;refine Jb ?_
  refine CW.take [1, 5, 2, 3, 4] ?_
  refine CW.block ?_
  refine CW.loop (ι := { q : Nat × Value // q.1 ≤ l.2.2.1.length }) (fun q => [(4, ptrV b4), (8, ptrV b8), (10, ptrV (bs 10)), (46, .slice A l.2.2.1.length c), (47, .int .i64 l.2.2.1.length), (48, .int .i64 q.1.1)])
    (fun q => [ownHP 3 1 q.1.2 (((l.2.2.1.map (fun a => (mGet s a).getD 0)).take q.1.1).map intE), blk b8 [ptrV br] 105, blk (bs 10) (litC (l.1, (pGet s l.2.1).getD 0, [], l.2.2.2.2) q.1.2) 56, blk br (y.cells s 0) 112, mapHP strK intK .string y.b2 (indexD ((sMembers s).map nameOf)), blk b4 (litC (false, 0, [], 0) (.slice none 0 0)) 56]) (fun q => l.2.2.1.length - q.1.1) ⟨(0, .slice none 0 0), Nat.zero_le _⟩ ⟨rfl, rfl, rfl, rfl, rfl, rfl, trivial⟩ (fun h => ⟨h.kp, Sep.addp (.inl ⟨rfl, rfl⟩) h.sep⟩) ?_
  intro ⟨⟨j, v⟩, hj⟩
  dsimp only at hj ⊢
  refine Ja ?_;refine Jk ?_;refine Jb ?_
  refine CW.seq ?_
  refine CW.ite rfl (fun hlt => ?_) (fun hge => ?_)
  · have hlt' : j < l.2.2.1.length := by simpa using hlt
    obtain ⟨B1, O1, es1, hA, hl1, hr, hmm⟩ := sl_get hargs (List.getElem?_eq_getElem hlt')
    obtain rfl := str_cell hr
    have hml : ((l.2.2.1.map (fun a => (mGet s a).getD 0)).take j).length = j := by rw [List.length_take, List.length_map]; omega
    have hts : (l.2.2.1.map (fun a => (mGet s a).getD 0)).take (j + 1) = (l.2.2.1.map (fun a => (mGet s a).getD 0)).take j ++ [(mGet s l.2.2.1[j]).getD 0] := by
      rw [List.take_succ_eq_append_getElem (by rw [List.length_map]; exact hlt'), List.getElem_map]
    generalize hx : l.2.2.1[j] = a at *
    generalize hms : (l.2.2.1.map (fun a => (mGet s a).getD 0)).take j = ms at *
    refine JM ?_
    refine CW.seq ?_
    refine CW.block ?_
    refine Ja ?_
    refine RW.indexAddrE hA rfl rfl (by omega) hlt rfl ?_
    refine RW.load_ro rfl hle (hmm 0 _ rfl) rfl rfl ?_
    refine Jd ?_;refine Jb ?_
    refine CW.regB 10 9 (ownHP 3 1 v (ms.map intE)) (by kernel_rfl) (by kernel_rfl) ?_
    refine AB.val rfl rfl (fun _ _ => by refine Je ?_;exact RW.done rfl) ?_;refine AB.val rfl rfl (fun _ _ => by refine Je ?_;exact RW.done rfl) ?_;refine AB.val rfl rfl (fun _ _ => by refine JB ?_;exact RW.done rfl) ?_;refine AB.val rfl rfl (fun _ _ => by refine JA ?_;exact RW.done rfl) ?_;refine AB.val rfl rfl (fun _ _ => by refine Jf ?_;exact RW.done rfl) ?_;refine AB.val rfl rfl (fun _ _ => by refine Je ?_;exact RW.done rfl) ?_;refine AB.val rfl rfl (fun _ _ => by refine JC ?_;exact RW.done rfl) ?_;refine AB.val rfl rfl (fun _ _ => by refine Jc ?_;exact RW.done rfl) ?_
    (apply AB.val rfl rfl; · intro Gx X; (first | refine RW.yes rfl ?_ | skip); refine RW.lookup [_, _, _] (a0 := (0 : Int)) rfl rfl rfl rfl ?_; exact RW.done rfl)
    (apply AB.gen (fun b => .slice (some ⟨b, 0, none⟩) 1 1) (fun b => blk b [.int .i64 ((mGet s a).getD 0)] 3) rfl rfl; · intro Gx X; refine RW.buildSlice (e := 3) (c := [.int .i64 ((mGet s a).getD 0)]) rfl (fun w => by kernel_rfl) rfl fun b _ => ?_; exact RW.done_gen rfl)
    refine AB.app (fun n => encU (j + 1) n) (fun n => ownHP 3 1 (encU (j + 1) n) ((ms ++ [(mGet s a).getD 0]).map intE)) rfl rfl rfl rfl rfl rfl (fun b Gx X => ?_) ?_
    · refine RW.append [_] (e := 3) (sz := 1) (news := [[.int .i64 ((mGet s a).getD 0)]]) (zc := [.int .i64 0]) rfl rfl rfl rfl rfl (by simp) (by simp [Value.oneCell']) (fun w hw hn => ?_) ?_ ?_ rfl fun u1 => ?_
      · exact ⟨b, 0, rfl, CellsAt.of_blk (St.blk (pre := []) hw)⟩
      · rw [List.length_map]; omega
      · rw [List.length_map]; unfold maxN; omega
      rw [show ms.map intE ++ [[.int .i64 ((mGet s a).getD 0)]] = (ms ++ [(mGet s a).getD 0]).map intE by rw [List.map_append]; rfl]
      refine RW.have_ (φ := ∃ n, u1 = encU (j + 1) n) (fun w hw => by have := enc_ownU (pre := [_]) hw; rwa [List.length_map, List.length_append, List.length_singleton, hml] at this) (fun ⟨n, hn⟩ => ?_)
      subst hn
      exact RW.done_app rfl
    refine AB.val rfl rfl (fun _ _ => by refine Je ?_;exact RW.done rfl) ?_;refine AB.val rfl rfl (fun _ _ => by refine Je ?_;exact RW.done rfl) ?_
    refine AB.stop rfl (by kernel_rfl) (by kernel_rfl) fun bs2 => ?_
    have hv1 := encU_cells (j + 1) (bs2 62)
    refine RW.store_blk [_] rfl rfl rfl hv1.1 hv1.2 (by show 2 < 5; omega) ?_
    refine RW.change [_] (blk (bs 10) (litC (l.1, (pGet s l.2.1).getD 0, [], l.2.2.2.2) (encU (j + 1) (bs2 62))) 56) (fun w F hp => hp) ?_
    refine RW.nil ?_
    refine PW.code ?_
    refine CW.region ?_
    skip
    refine RW.add rfl rfl (w64 (by omega) (by omega)) rfl ?_
    refine Jc ?_
    refine RW.nil ?_
    refine PW.againT ⟨(j + 1, encU (j + 1) (bs2 62)), hlt'⟩ [5, 0, 1, 2, 3, 4] ⟨rfl, rfl, rfl, rfl, rfl, rfl, trivial⟩ ?_ (by show l.2.2.1.length - (j + 1) < l.2.2.1.length - j; omega)
    dsimp only
    rw [hts]
    rfl
  have hge' : l.2.2.1.length ≤ j := by simpa using hge
  rw [List.take_of_length_le (by rw [List.length_map]; exact hge')]
  refine CW.have_ (φ := v.oneCell' = true) (fun w hw => ?_) (fun hv1 => ?_)
  · obtain ⟨F2, hp, _⟩ := St.get (pre := []) hw
    rcases hp with ⟨rfl, _⟩ | ⟨B, c, tl, rfl, _⟩ <;> rfl
  refine CW.exit rfl ?_
  refine PW.code ?_
  refine Ja ?_;refine JG ?_
  refine RW.store_whole [_, _, _, _, _] rfl rfl (vs := litC (l.1, (pGet s l.2.1).getD 0, [], l.2.2.2.2) v) rfl rfl rfl (fun u hu => by simp only [List.mem_cons, List.not_mem_nil, or_false] at hu; rcases hu with rfl | rfl | rfl | rfl | rfl <;> first | exact hv1 | rfl) ?_
  refine Jd ?_;refine Jb ?_
  exact CW.rets (rs := [.cell 4 56, .tmp 5]) (vs := [_, _]) rfl Tryz.results17 rfl (ResOK.cell [_, _, _, _, _] rfl rfl rfl (ResOK.tmp rfl ResOK.nil)) fun w hw => ⟨v, rfl, hw.take [0]⟩
end Go.Proofs.YtkfmlekomfnleaaGreat
/- The document's Literal. Conditions: none. -/
set_option linter.unusedVariables false
set_option linter.unusedSimpArgs false
set_option maxRecDepth 10000
namespace Go.Proofs.YtkfmlekomfnleaaGreat
open Go Go.RowKit Go.MapKept

/-- The members' numbers, or a fault. -/
def rLitL (s : kStat.V) : List (Str × Str) → List Int → Int × List Int
  | [], acc => (0, acc)
  | a :: r, acc => if isVarD a.1 = true then (86, []) else if ¬ (rArg s noBk a.1 a.2).1 = 0 then ((rArg s noBk a.1 a.2).1, []) else rLitL s r (acc ++ [atN (mN s) a.1])
def rLitD (s : kStat.V) (l : kLitT.V) : LitV × Int :=
  if ¬ (rCheck s).1 = 0 then ((false, 0, [], 0), (rCheck s).1)
  else if atN (pN s) l.2.1 < 0 then ((false, 0, [], 0), 82)
  else if (predAt s l.2.1).2.1 = 2 then ((false, 0, [], 0), 84)
  else if ¬ (l.2.2.1.length : Int) = (predAt s l.2.1).2.2.1.length then ((false, 0, [], 0), 83)
  else if ¬ (rLitL s (l.2.2.1.zip (predAt s l.2.1).2.2.1) []).1 = 0 then ((false, 0, [], 0), (rLitL s (l.2.2.1.zip (predAt s l.2.1).2.2.1) []).1)
  else if ¬ (rLit s noBk l).1 = 0 then ((false, 0, [], 0), (rLit s noBk l).1)
  else ((l.1, atN (pN s) l.2.1, (rLitL s (l.2.2.1.zip (predAt s l.2.1).2.2.1) []).2, l.2.2.2.2), 0)
attribute [local irreducible] RW CW
set_option maxHeartbeats 32000000 in
theorem ref_Literal_ret {s : kStat.V} {x : RC} {cs : List Value} {l : kLitT.V} {w : World} (hst : StatOn (mem w (fun b => ¬ No b)) s x) (hl : Rd kLitT (mem w (fun b => ¬ No b)) cs l) :
    RetC Tryz.prog 18 [.agg (x.stat s).toArray, .agg cs.toArray] w No (fun v : Value => .tuple #[.agg (litC (rLitD s l).1 v).toArray, .int .i64 (rLitD s l).2]) (fun v => [ownHP 3 1 v ((rLitD s l).1.2.2.1.map intE)]) := by
  generalize hV : rLitD s l = V
  unfold rLitD at hV
  have nilH : ∀ (w2 : World) (H : List HP), St w No H w2 → St w No [ownHP 3 1 (.slice none 0 0) (([] : List Int).map intE)] w2 := fun w2 H hw =>
    ⟨hw.kp, No, fun b hb => hb.elim, .inl ⟨rfl, rfl⟩, trivial⟩
  have hle : Mem.le (mem w (fun b => ¬ No b)) (mem w (fun b => ¬ No b)) := Mem.le_refl _
  have hpn := names_ok hst.preds (by decide)
  have hmn := names_ok hst.members (by decide)
  have hsp := sl_small hst.preds
  unfold reach at hsp
  have hl' := hl
  obtain ⟨A, c, rfl, hargs⟩ := Rd.litT hl
  have hal := sl_small hargs
  unfold reach at hal
  refine Calls.enter Tryz.func18 rfl _ rfl rfl (S := No) (H := []) trivial ?_
  refine CW.seqR ?_
  refine RW.box_agg (l := x.stat s) rfl rfl fun b2 _ => ?_
  refine RW.box_agg (l := [.bool l.1, .string l.2.1, .slice A l.2.2.1.length c, .bool l.2.2.2.1, .int .i64 l.2.2.2.2]) rfl rfl fun b3 _ => ?_
  refine RW.alloc (c := litC (false, 0, [], 0) (.slice none 0 0)) rfl rfl fun b4 _ => ?_
  refine Jd ?_;refine Jb ?_;refine Ja ?_;refine JG ?_
  refine RW.call Tryz.call8 rfl (fun w2 hw => ref_check_ret (StatOn.mono hst (ro_call hw))) rfl ?_
  refine Jc ?_;refine Jt ?_;refine Jt ?_;refine Jd ?_;refine Jd ?_;refine Jb ?_
  refine CW.seq ?_
  refine Ja ?_;refine Jc ?_;refine Jj ?_;refine Jb ?_
  refine CW.ite rfl (fun h1 => ?_) (fun h1 => ?_)
  · rw [if_pos h1] at hV
    subst hV
    refine Ja ?_
    refine RW.build (v := .agg (litC (false, 0, [], 0) (.slice none 0 0)).toArray) rfl (fun w => by kernel_rfl) rfl ?_
    refine Jc ?_
    refine RW.store_whole [] rfl rfl (vs := litC (false, 0, [], 0) (.slice none 0 0)) rfl rfl rfl (by simp [Value.oneCell']) ?_
    refine Jd ?_;refine Jb ?_
    exact CW.rets (rs := [.cell 4 56, .tmp 5]) (vs := [_, _]) rfl Tryz.results18 rfl (ResOK.cell [] rfl rfl rfl (ResOK.tmp rfl ResOK.nil)) fun w hw => ⟨.slice none 0 0, rfl, nilH w _ hw⟩
  rw [if_neg h1] at hV
  have h1 : (rCheck s).1 = 0 := Decidable.of_not_not h1
  have hK := (fit_check h1).1.four
  refine CW.skip ?_
  refine PW.code ?_
  refine CW.keep [(2, ptrV b2), (3, ptrV b3), (4, ptrV b4)] ⟨rfl, rfl, rfl, trivial⟩ ?_
  refine CW.seqA (by kernel_rfl) rfl ?_
  refine AW.val rfl (fun _ _ => by refine JG ?_;exact RW.done rfl) ?_
  (apply AW.gen (fun n => encU (pN s).length n) (fun n => ownHP 9 1 (encU (pN s).length n) ((pN s).map strE)) rfl; · intro Gx X; refine RW.callN Tryz.call55 rfl (fun w2 hw => ref_preds_ret (StatOn.mono hst (ro_call hw))) rfl fun v => ?_; refine RW.have_ (φ := ∃ n, v = encU (pN s).length n) (fun w hw => by have := enc_ownU (pre := []) hw; rwa [List.length_map] at this) (fun ⟨n, hn⟩ => ?_); subst hn; exact RW.done_gen rfl)
  refine AW.val rfl (fun _ _ => by refine Je ?_;exact RW.done rfl) ?_;refine AW.val rfl (fun _ _ => by refine JB ?_;exact RW.done rfl) ?_
  refine AW.stop (by kernel_rfl) (by kernel_rfl) fun bs => ?_
  refine RW.call Tryz.call44 rfl (fun w2 hw => find_own (pre := [_, _, _]) hw hpn) rfl ?_
  refine RW.take [0, 1, 2] ?_
  refine Jd ?_;refine Jb ?_
  refine CW.seq ?_
  refine Ja ?_;refine Jc ?_;refine Jk ?_;refine Jb ?_
  refine CW.ite rfl (fun h2 => ?_) (fun h2 => ?_)
  · rw [if_pos h2] at hV
    subst hV
    refine Ja ?_
    refine RW.build (v := .agg (litC (false, 0, [], 0) (.slice none 0 0)).toArray) rfl (fun w => by kernel_rfl) rfl ?_
    skip
    refine RW.store_whole [] rfl rfl (vs := litC (false, 0, [], 0) (.slice none 0 0)) rfl rfl rfl (by simp [Value.oneCell']) ?_
    refine Jd ?_;refine Jb ?_
    exact CW.rets (rs := [.cell 4 56, .tmp 5]) (vs := [_, _]) rfl Tryz.results18 rfl (ResOK.cell [] rfl rfl rfl (ResOK.tmp rfl ResOK.nil)) fun w hw => ⟨.slice none 0 0, rfl, nilH w _ hw⟩
  rw [if_neg h2] at hV
  obtain ⟨k, hk, ek, _⟩ := atN_in h2
  have hk2 : k < (sPreds s).length := by simpa using hk
  have hfour := predAt_four hK l.2.1
  rw [pred_of ek hk2] at hV hfour
  obtain ⟨B1, O1, es1, hA1, hl1, hr1, hm1⟩ := sl_get hst.preds (List.getElem?_eq_getElem hk2)
  generalize hp : (sPreds s)[k] = p at *
  obtain ⟨PA, pc, PB, pd, rfl, hkd, hvd⟩ := Rd.predT hr1
  rw [ek] at hV
  refine CW.keep [(2, ptrV b2), (3, ptrV b3), (4, ptrV b4), (8, .int .i64 (k : Int))] ⟨rfl, rfl, rfl, congrArg (fun z => some (Value.int .i64 z)) ek, trivial⟩ ?_
  refine CW.skip ?_
  refine PW.code ?_
  refine Ja ?_;refine Je ?_;refine JC ?_;refine Jc ?_
  refine RW.indexAddrE hA1 rfl rfl (by omega) (by omega) rfl ?_
  refine RW.load_ros (cs := [.string p.1, .int .i64 p.2.1, .slice PA p.2.2.1.length pc, .slice PB p.2.2.2.length pd]) rfl hle hm1 rfl rfl (by simp) rfl ?_
  refine RW.alloc (c := [.string ByteArray.empty, .int .i64 0, .slice none 0 0, .slice none 0 0]) rfl rfl fun b9 _ => ?_
  refine RW.store_whole [] rfl rfl (vs := [.string p.1, .int .i64 p.2.1, .slice PA p.2.2.1.length pc, .slice PB p.2.2.2.length pd]) rfl rfl rfl (by simp [Value.oneCell']) ?_
  refine RW.take [1, 2, 0, 3] ?_
  refine Jb ?_
  refine CW.seq ?_
  refine Ja ?_;refine Je ?_;refine JC ?_;refine Ji ?_;refine Jb ?_
  refine CW.ite rfl (fun h3 => ?_) (fun h3 => ?_)
  · rw [if_pos h3] at hV
    subst hV
    refine Ja ?_
    refine RW.build (v := .agg (litC (false, 0, [], 0) (.slice none 0 0)).toArray) rfl (fun w => by kernel_rfl) rfl ?_
    skip
    refine RW.store_whole [] rfl rfl (vs := litC (false, 0, [], 0) (.slice none 0 0)) rfl rfl rfl (by simp [Value.oneCell']) ?_
    refine Jd ?_;refine Jb ?_
    exact CW.rets (rs := [.cell 4 56, .tmp 5]) (vs := [_, _]) rfl Tryz.results18 rfl (ResOK.cell [] rfl rfl rfl (ResOK.tmp rfl ResOK.nil)) fun w hw => ⟨.slice none 0 0, rfl, nilH w _ hw⟩
  rw [if_neg h3] at hV
  refine CW.skip ?_
  refine PW.code ?_
  refine CW.seq ?_
  refine Ja ?_;refine Je ?_;refine JB ?_;refine Jg ?_;refine Je ?_;refine JC ?_;refine Jg ?_;refine Jj ?_;refine Jb ?_
  refine CW.ite rfl (fun h4 => ?_) (fun h4 => ?_)
  · rw [if_pos h4] at hV
    subst hV
    refine Ja ?_
    refine RW.build (v := .agg (litC (false, 0, [], 0) (.slice none 0 0)).toArray) rfl (fun w => by kernel_rfl) rfl ?_
    skip
    refine RW.store_whole [] rfl rfl (vs := litC (false, 0, [], 0) (.slice none 0 0)) rfl rfl rfl (by simp [Value.oneCell']) ?_
    refine Jd ?_;refine Jb ?_
    exact CW.rets (rs := [.cell 4 56, .tmp 5]) (vs := [_, _]) rfl Tryz.results18 rfl (ResOK.cell [] rfl rfl rfl (ResOK.tmp rfl ResOK.nil)) fun w hw => ⟨.slice none 0 0, rfl, nilH w _ hw⟩
  rw [if_neg h4] at hV
  have hlen : l.2.2.1.length = p.2.2.1.length := by omega
  refine CW.skip ?_
  refine PW.code ?_
  refine CW.seqR ?_
  refine Je ?_;refine JB ?_;refine Jc ?_;refine Je ?_;refine JB ?_
  refine RW.build (v := .agg #[.int .i64 (k : Int), .slice none 0 0, .int .i64 l.2.2.2.2]) rfl (fun w => by kernel_rfl) rfl ?_
  refine RW.build (v := .agg (litC (l.1, (k : Int), [], l.2.2.2.2) (.slice none 0 0)).toArray) rfl (fun w => by kernel_rfl) rfl ?_
  refine RW.alloc (c := litC (false, 0, [], 0) (.slice none 0 0)) rfl rfl fun b10 _ => ?_
  refine RW.store_whole [] rfl rfl (vs := litC (l.1, (k : Int), [], l.2.2.2.2) (.slice none 0 0)) rfl rfl rfl (by simp [Value.oneCell']) ?_
  refine RW.add_ (ownHP 3 1 (.slice none 0 0) []) (fun w _ => .inl ⟨rfl, rfl⟩) ?_
  refine RW.take [0, 5, 3, 4, 1, 2] ?_
  refine Jb ?_
  refine CW.seq ?_
  refine Ja ?_;refine Jd ?_;refine Jb ?_
  refine CW.block ?_
  have hzl : (l.2.2.1.zip p.2.2.1).length = l.2.2.1.length := by rw [List.length_zip]; omega
  refine CW.loop (ι := { q : Nat × Value × List Int // q.1 ≤ l.2.2.1.length ∧ rLitL s (l.2.2.1.zip p.2.2.1) [] = rLitL s ((l.2.2.1.zip p.2.2.1).drop q.1) q.2.2 ∧ q.2.2.length = q.1 }) (fun q => [(2, ptrV b2), (3, ptrV b3), (4, ptrV b4), (9, ptrV b9), (10, ptrV b10), (11, .int .i64 q.1.1)])
    (fun q => [ownHP 3 1 q.1.2.1 (q.1.2.2.map intE), blk b2 (x.stat s) 31, blk b3 [.bool l.1, .string l.2.1, .slice A l.2.2.1.length c, .bool l.2.2.2.1, .int .i64 l.2.2.2.2] 51, blk b9 [.string p.1, .int .i64 p.2.1, .slice PA p.2.2.1.length pc, .slice PB p.2.2.2.length pd] 151, blk b10 (litC (l.1, (k : Int), [], l.2.2.2.2) q.1.2.1) 56, blk b4 (litC (false, 0, [], 0) (.slice none 0 0)) 56]) (fun q => l.2.2.1.length - q.1.1) ⟨(0, .slice none 0 0, []), Nat.zero_le _, rfl, rfl⟩ ⟨rfl, rfl, rfl, rfl, rfl, rfl, trivial⟩ (fun h => h) ?_
  intro ⟨⟨j, v, acc⟩, hj, hS, hacc⟩
  dsimp only at hj hS hacc ⊢
  refine CW.seq ?_
  refine Ja ?_;refine Jc ?_;refine Je ?_;refine JC ?_;refine Jg ?_;refine Jk ?_;refine Jb ?_
  refine CW.ite rfl (fun hlt => ?_) (fun hge => ?_)
  rotate_left
  · have hge' : l.2.2.1.length ≤ j := by simpa using hge
    rw [List.drop_eq_nil_of_le (by omega), rLitL] at hS
    rw [hS, if_neg (not_not_intro rfl)] at hV
    refine CW.have_ (φ := v.oneCell' = true) (fun w hw => ?_) (fun hv1 => ?_)
    · obtain ⟨F2, hp, _⟩ := St.get (pre := []) hw
      rcases hp with ⟨rfl, _⟩ | ⟨B, c, tl, rfl, _⟩ <;> rfl
    refine CW.exit rfl ?_
    refine PW.code ?_
    refine CW.keep [(2, ptrV b2), (3, ptrV b3), (4, ptrV b4), (10, ptrV b10)] ⟨rfl, rfl, rfl, rfl, trivial⟩ ?_
    refine Ja ?_
    refine RW.build (v := .agg #[.slice none 0 0, .slice none 0 0, .slice none 0 0]) rfl (fun w => by kernel_rfl) rfl ?_
    refine RW.box_agg (l := [.slice none 0 0, .slice none 0 0, .slice none 0 0]) rfl rfl fun b13 _ => ?_
    refine RW.add_ (ownHP 9 1 (.slice none 0 0) []) (fun w _ => .inl ⟨rfl, rfl⟩) ?_
    refine RW.add_ (ownHP 3 1 (.slice none 0 0) []) (fun w _ => .inl ⟨rfl, rfl⟩) ?_
    refine RW.add_ (ownHP 9 1 (.slice none 0 0) []) (fun w _ => .inl ⟨rfl, rfl⟩) ?_
    refine RW.take [5, 6, 8, 9, 4, 3, 0, 1, 2] ?_
    refine Jd ?_;refine Jb ?_;refine Ja ?_;refine Jc ?_;refine JE ?_;refine JF ?_
    refine RW.callT [5, 6, 7, 8, 0, 1, 2, 3, 4] (bkH b13 noBk (.slice none 0 0, .slice none 0 0, .slice none 0 0)) rfl rfl rfl Tryz.call58 (fun w2 F2 hM h1 _ => ref_literal_ret (StatOn.mono hst hM) (hl'.mono hM) hK h1 noBk_ok (by decide)) fun ⟨v1, v2, v3⟩ => ?_
    refine RW.take [4, 5, 6, 7, 8] ?_
    refine Jd ?_;refine Jb ?_
    refine CW.seq ?_
    refine Ja ?_;refine Jc ?_;refine Jj ?_;refine Jb ?_
    refine CW.ite rfl (fun h6 => ?_) (fun h6 => ?_)
    · rw [if_pos h6] at hV
      subst hV
      refine Ja ?_
      refine RW.build (v := .agg (litC (false, 0, [], 0) (.slice none 0 0)).toArray) rfl (fun w => by kernel_rfl) rfl ?_
      refine Jc ?_
      refine RW.store_whole [_, _, _] rfl rfl (vs := litC (false, 0, [], 0) (.slice none 0 0)) rfl rfl rfl (by simp [Value.oneCell']) ?_
      refine Jd ?_;refine Jb ?_
      exact CW.rets (rs := [.cell 4 56, .tmp 5]) (vs := [_, _]) rfl Tryz.results18 rfl (ResOK.cell [_, _, _] rfl rfl rfl (ResOK.tmp rfl ResOK.nil)) fun w hw => ⟨.slice none 0 0, rfl, nilH w _ hw⟩
    rw [if_neg h6] at hV
    subst hV
    refine CW.skip ?_
    refine PW.code ?_
    refine Ja ?_;refine JG ?_
    refine RW.store_whole [_, _, _] rfl rfl (vs := litC (l.1, (k : Int), [], l.2.2.2.2) v) rfl rfl rfl (fun u hu => by simp only [List.mem_cons, List.not_mem_nil, or_false] at hu; rcases hu with rfl | rfl | rfl | rfl | rfl <;> first | exact hv1 | rfl) ?_
    refine Jd ?_;refine Jb ?_
    exact CW.rets (rs := [.cell 4 56, .tmp 5]) (vs := [_, _]) rfl Tryz.results18 rfl (ResOK.cell [_, _, _] rfl rfl rfl (ResOK.tmp rfl ResOK.nil)) fun w hw => ⟨v, rfl, hw.take [4]⟩
  have hlt' : j < l.2.2.1.length := by simpa using hlt
  have hltk : j < p.2.2.1.length := by omega
  have hltz : j < (l.2.2.1.zip p.2.2.1).length := by omega
  rw [List.drop_eq_getElem_cons hltz, List.getElem_zip, rLitL] at hS
  obtain ⟨B2, O2, es2, hA2, hl2, hr2, hm2⟩ := sl_get hargs (List.getElem?_eq_getElem hlt')
  obtain rfl := str_cell hr2
  obtain ⟨B3, O3, es3, hA3, hl3, hr3, hm3⟩ := sl_get hkd (List.getElem?_eq_getElem hltk)
  obtain rfl := str_cell hr3
  generalize ha : l.2.2.1[j] = a at *
  generalize hkn : p.2.2.1[j] = kn at *
  refine JM ?_
  refine CW.seq ?_
  refine CW.block ?_
  refine CW.seq ?_
  refine Ja ?_;refine Je ?_;refine JC ?_;refine Jc ?_
  refine RW.indexAddrE hA2 rfl rfl (by omega) hlt rfl ?_
  refine RW.load_ro rfl hle (hm2 0 _ rfl) rfl rfl ?_
  refine RW.call Tryz.call43 rfl (fun w2 hw => r8_IsVar_ret) rfl ?_
  refine Jb ?_
  cases hv : isVarD a with
  | true =>
    rw [if_pos hv] at hS
    rw [hS, if_pos (by decide)] at hV
    subst hV
    refine CW.ct rfl ?_
    refine Ja ?_
    refine RW.build (v := .agg (litC (false, 0, [], 0) (.slice none 0 0)).toArray) rfl (fun w => by kernel_rfl) rfl ?_
    skip
    refine RW.store_whole [_, _, _, _, _] rfl rfl (vs := litC (false, 0, [], 0) (.slice none 0 0)) rfl rfl rfl (by simp [Value.oneCell']) ?_
    refine Jd ?_;refine Jb ?_
    exact CW.rets (rs := [.cell 4 56, .tmp 5]) (vs := [_, _]) rfl Tryz.results18 rfl (ResOK.cell [_, _, _, _, _] rfl rfl rfl (ResOK.tmp rfl ResOK.nil)) fun w hw => ⟨.slice none 0 0, rfl, nilH w _ hw⟩
  | false =>
  rw [if_neg (by rw [hv]; simp)] at hS
  refine CW.cf rfl ?_
  refine CW.skip ?_
  refine PW.code ?_
  refine Ja ?_
  refine RW.build (v := .agg #[.slice none 0 0, .slice none 0 0, .slice none 0 0]) rfl (fun w => by kernel_rfl) rfl ?_
  refine RW.box_agg (l := [.slice none 0 0, .slice none 0 0, .slice none 0 0]) rfl rfl fun b12 _ => ?_
  refine RW.add_ (ownHP 9 1 (.slice none 0 0) []) (fun w _ => .inl ⟨rfl, rfl⟩) ?_
  refine RW.add_ (ownHP 3 1 (.slice none 0 0) []) (fun w _ => .inl ⟨rfl, rfl⟩) ?_
  refine RW.add_ (ownHP 9 1 (.slice none 0 0) []) (fun w _ => .inl ⟨rfl, rfl⟩) ?_
  refine RW.take [5, 6, 7, 4, 8, 9, 3, 0, 1, 2] ?_
  refine Jd ?_;refine Jb ?_
  refine CW.keep [(2, ptrV b2), (3, ptrV b3), (4, ptrV b4), (9, ptrV b9), (10, ptrV b10), (11, .int .i64 j), (12, ptrV b12)] ⟨rfl, rfl, rfl, rfl, rfl, rfl, rfl, trivial⟩ ?_
  refine CW.seqA (by kernel_rfl) rfl ?_
  refine AW.val rfl (fun _ _ => by refine Jc ?_;exact RW.done rfl) ?_;refine AW.val rfl (fun _ _ => by refine JE ?_;exact RW.done rfl) ?_;refine AW.val rfl (fun _ _ => by refine Je ?_;exact RW.done rfl) ?_;refine AW.val rfl (fun _ _ => by refine JB ?_;exact RW.done rfl) ?_;refine AW.val rfl (fun _ _ => by refine Jc ?_;exact RW.done rfl) ?_
  (apply AW.val rfl; · intro Gx X; (first | refine RW.yes rfl ?_ | skip); refine RW.indexAddrE hA2 rfl rfl (by omega) hlt rfl ?_; exact RW.done rfl)
  (apply AW.val rfl; · intro Gx X; (first | refine RW.yes rfl ?_ | skip); refine RW.load_ro rfl hle (hm2 0 _ rfl) rfl rfl ?_; exact RW.done rfl)
  refine AW.val rfl (fun _ _ => by refine Je ?_;exact RW.done rfl) ?_;refine AW.val rfl (fun _ _ => by refine JC ?_;exact RW.done rfl) ?_;refine AW.val rfl (fun _ _ => by refine Jc ?_;exact RW.done rfl) ?_
  (apply AW.val rfl; · intro Gx X; (first | refine RW.yes rfl ?_ | skip); refine RW.indexAddrE hA3 rfl rfl (by omega) (by omega) rfl ?_; exact RW.done rfl)
  (apply AW.val rfl; · intro Gx X; (first | refine RW.yes rfl ?_ | skip); refine RW.load_ro rfl hle (hm3 0 _ rfl) rfl rfl ?_; exact RW.done rfl)
  refine AW.stop (by kernel_rfl) (by kernel_rfl) fun bs3 => ?_
  refine RW.callT [6, 7, 8, 9, 0, 1, 2, 3, 4, 5] (bkH b12 noBk (.slice none 0 0, .slice none 0 0, .slice none 0 0)) rfl rfl rfl Tryz.call56 (fun w2 F2 hM h1 _ => ref_arg_ret (StatOn.mono hst hM) h1 noBk_ok (by decide)) fun ⟨v1, v2, v3⟩ => ?_
  refine RW.take [4, 5, 6, 7, 8, 9] ?_
  refine Jd ?_;refine Jb ?_
  refine CW.seq ?_
  refine Ja ?_;refine Jc ?_;refine Jj ?_;refine Jb ?_
  refine CW.ite rfl (fun h5 => ?_) (fun h5 => ?_)
  · rw [if_pos h5] at hS
    rw [hS, if_pos h5] at hV
    subst hV
    refine Ja ?_
    refine RW.build (v := .agg (litC (false, 0, [], 0) (.slice none 0 0)).toArray) rfl (fun w => by kernel_rfl) rfl ?_
    refine Jc ?_
    refine RW.store_whole [_, _, _, _, _] rfl rfl (vs := litC (false, 0, [], 0) (.slice none 0 0)) rfl rfl rfl (by simp [Value.oneCell']) ?_
    refine Jd ?_;refine Jb ?_
    exact CW.rets (rs := [.cell 4 56, .tmp 5]) (vs := [_, _]) rfl Tryz.results18 rfl (ResOK.cell [_, _, _, _, _] rfl rfl rfl (ResOK.tmp rfl ResOK.nil)) fun w hw => ⟨.slice none 0 0, rfl, nilH w _ hw⟩
  rw [if_neg h5] at hS
  refine CW.skip ?_
  refine PW.code ?_
  refine CW.take [3, 0, 1, 2, 4, 5] ?_
  refine CW.keep [(2, ptrV b2), (3, ptrV b3), (4, ptrV b4), (9, ptrV b9), (10, ptrV b10), (11, .int .i64 j)] ⟨rfl, rfl, rfl, rfl, rfl, rfl, trivial⟩ ?_
  refine CW.regB 12 11 (ownHP 3 1 v (acc.map intE)) (by kernel_rfl) (by kernel_rfl) ?_
  refine AB.val rfl rfl (fun _ _ => by refine Je ?_;exact RW.done rfl) ?_;refine AB.val rfl rfl (fun _ _ => by refine Je ?_;exact RW.done rfl) ?_;refine AB.val rfl rfl (fun _ _ => by refine JD ?_;exact RW.done rfl) ?_;refine AB.val rfl rfl (fun _ _ => by refine JE ?_;exact RW.done rfl) ?_
  (apply AB.gen (fun n => encU (mN s).length n) (fun n => ownHP 9 1 (encU (mN s).length n) ((mN s).map strE)) rfl rfl; · intro Gx X; refine RW.callN Tryz.call57 rfl (fun w2 hw => ref_members_ret (StatOn.mono hst (ro_call hw))) rfl fun v => ?_; refine RW.have_ (φ := ∃ n, v = encU (mN s).length n) (fun w hw => by have := enc_ownU (pre := []) hw; rwa [List.length_map] at this) (fun ⟨n, hn⟩ => ?_); subst hn; exact RW.done_gen rfl)
  refine AB.val rfl rfl (fun _ _ => by refine Je ?_;exact RW.done rfl) ?_;refine AB.val rfl rfl (fun _ _ => by refine JB ?_;exact RW.done rfl) ?_;refine AB.val rfl rfl (fun _ _ => by refine Jc ?_;exact RW.done rfl) ?_
  (apply AB.val rfl rfl; · intro Gx X; (first | refine RW.yes rfl ?_ | skip); refine RW.indexAddrE hA2 rfl rfl (by omega) hlt rfl ?_; exact RW.done rfl)
  (apply AB.val rfl rfl; · intro Gx X; (first | refine RW.yes rfl ?_ | skip); refine RW.load_ro rfl hle (hm2 0 _ rfl) rfl rfl ?_; exact RW.done rfl)
  (refine AB.see (v := .int .i64 (atN (mN s) a)) 4 rfl rfl rfl rfl rfl rfl (fun b Gx X => ?_) ?_; · refine RW.call Tryz.call44 rfl (fun w2 hw => find_own (pre := []) hw hmn) rfl ?_; exact RW.done rfl)
  (apply AB.gen (fun b => .slice (some ⟨b, 0, none⟩) 1 1) (fun b => blk b [.int .i64 (atN (mN s) a)] 3) rfl rfl; · intro Gx X; refine RW.buildSlice (e := 3) (c := [.int .i64 (atN (mN s) a)]) rfl (fun w => by kernel_rfl) rfl fun b _ => ?_; exact RW.done_gen rfl)
  refine AB.app (fun n => encU (j + 1) n) (fun n => ownHP 3 1 (encU (j + 1) n) ((acc ++ [atN (mN s) a]).map intE)) rfl rfl rfl rfl rfl rfl (fun b Gx X => ?_) ?_
  · refine RW.append [_] (e := 3) (sz := 1) (news := [[.int .i64 (atN (mN s) a)]]) (zc := [.int .i64 0]) rfl rfl rfl rfl rfl (by simp) (by simp [Value.oneCell']) (fun w hw hn => ?_) ?_ ?_ rfl fun u1 => ?_
    · exact ⟨b, 0, rfl, CellsAt.of_blk (St.blk (pre := []) hw)⟩
    · rw [List.length_map]; omega
    · rw [List.length_map]; unfold maxN; omega
    rw [show acc.map intE ++ [[.int .i64 (atN (mN s) a)]] = (acc ++ [atN (mN s) a]).map intE by rw [List.map_append]; rfl]
    refine RW.have_ (φ := ∃ n, u1 = encU (j + 1) n) (fun w hw => by have := enc_ownU (pre := [_]) hw; rwa [List.length_map, List.length_append, List.length_singleton, hacc] at this) (fun ⟨n, hn⟩ => ?_)
    subst hn
    exact RW.done_app rfl
  refine AB.val rfl rfl (fun _ _ => by refine Je ?_;exact RW.done rfl) ?_;refine AB.val rfl rfl (fun _ _ => by refine Je ?_;exact RW.done rfl) ?_
  refine AB.stop rfl (by kernel_rfl) (by kernel_rfl) fun bs2 => ?_
  have hv1 := encU_cells (j + 1) (bs2 100)
  refine RW.store_blk [_, _, _] rfl rfl rfl hv1.1 hv1.2 (by show 2 < 5; omega) ?_
  refine RW.change [_, _, _] (blk b10 (litC (l.1, (k : Int), [], l.2.2.2.2) (encU (j + 1) (bs2 100))) 56) (fun w F hp => hp) ?_
  refine RW.nil ?_
  refine PW.code ?_
  refine CW.region ?_
  refine Jc ?_
  refine RW.add rfl rfl (w64 (by omega) (by omega)) rfl ?_
  refine Jd ?_
  refine RW.nil ?_
  exact PW.againT ⟨(j + 1, encU (j + 1) (bs2 100), acc ++ [atN (mN s) a]), hlt', hS, by show (acc ++ [atN (mN s) a]).length = j + 1; rw [List.length_append, List.length_singleton, hacc]⟩ [5, 0, 1, 2, 3, 4] ⟨rfl, rfl, rfl, rfl, rfl, rfl, trivial⟩ rfl (by show l.2.2.1.length - (j + 1) < l.2.2.1.length - j; omega)
end Go.Proofs.YtkfmlekomfnleaaGreat
