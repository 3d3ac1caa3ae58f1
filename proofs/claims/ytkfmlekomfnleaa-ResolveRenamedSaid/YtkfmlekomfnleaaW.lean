/- The calculus, eighteenth part: deep data of one's own. Conditions: none; everything holds over any program. -/
import Derived.Test.YtkfmlekomfnleaaZ
import Derived.Test.YtkfmlekomfnleaaH
set_option linter.unusedVariables false
set_option linter.unusedSimpArgs false
namespace Go.Proofs.Ytkfmlekomfnleaa
open Go Go.RowKit

/-- Cells that read as data, all memory behind them one's own, nothing of it shared. -/
def OwnD : (t : K) → World → (Nat → Prop) → List Value → t.V → Prop
  | .int k, _, _, cs, x => cs = [.int k x] ∧ inR k x
  | .bool, _, _, cs, x => cs = [.bool x]
  | .str, _, _, cs, x => cs = [.string x] ∧ x.size ≤ reach
  | .sl by_ t, w, F, cs, x => ∃ (v : Value) (e : TypeId) (es : List (List Value)) (F0 : Nat → Prop) (G : Nat → Nat → Prop), cs = [v] ∧ (ownHP e t.sz v es).p w F0 ∧ (∀ b, F0 b → F b) ∧ List.length (α := t.V) x * by_ ≤ reach ∧ es.length = List.length (α := t.V) x ∧ (∀ i b, G i b → F b ∧ ¬ F0 b) ∧ (∀ i j b, i ≠ j → G i b → ¬ G j b) ∧
      ∀ (i : Nat) (cs' : List Value) (y : t.V), es[i]? = some cs' → (show List t.V from x)[i]? = some y → OwnD t w (G i) cs' y
  | .pr a b, w, F, cs, x => ∃ (c1 c2 : List Value) (G : Nat → Prop), cs = c1 ++ c2 ∧ (∀ b, G b → F b) ∧ OwnD a w G c1 x.1 ∧ OwnD b w (fun b => F b ∧ ¬ G b) c2 x.2
theorem OwnD.up : ∀ {t : K} {w : World} {F F' : Nat → Prop} {cs : List Value} {x : t.V}, (∀ b, F b → F' b) → OwnD t w F cs x → OwnD t w F' cs x := by
  intro t
  induction t with
  | int k => intro _ _ _ _ _ _ h; exact h
  | bool => intro _ _ _ _ _ _ h; exact h
  | str => intro _ _ _ _ _ _ h; exact h
  | sl e t ih =>
    intro w F F' cs x hF h
    obtain ⟨v, e, es, F0, G, h1, h2, h3, h4, h5, h6, h7, h8⟩ := h
    exact ⟨v, e, es, F0, G, h1, h2, fun b hb => hF b (h3 b hb), h4, h5, fun i b hb => ⟨hF b (h6 i b hb).1, (h6 i b hb).2⟩, h7, h8⟩
  | pr a b iha ihb =>
    intro w F F' cs x hF h
    obtain ⟨c1, c2, G, h1, h2, h3, h4⟩ := h
    exact ⟨c1, c2, G, h1, fun b hb => hF b (h2 b hb), h3, ihb (fun b hb => ⟨hF b hb.1, hb.2⟩) h4⟩
theorem OwnD.st : ∀ {t : K} {w w' : World} {F : Nat → Prop} {cs : List Value} {x : t.V}, (∀ b, F b → b < w.heap.size → w'.heap[b]? = w.heap[b]?) → w.heap.size ≤ w'.heap.size → OwnD t w F cs x → OwnD t w' F cs x := by
  intro t
  induction t with
  | int k => intro _ _ _ _ _ _ _ h; exact h
  | bool => intro _ _ _ _ _ _ _ h; exact h
  | str => intro _ _ _ _ _ _ _ h; exact h
  | sl e t ih =>
    intro w w' F cs x hF hs h
    obtain ⟨v, e, es, F0, G, h1, h2, h3, h4, h5, h6, h7, h8⟩ := h
    exact ⟨v, e, es, F0, G, h1, (ownHP e t.sz v es).st (fun b hb => hF b (h3 b hb)) hs h2, h3, h4, h5, h6, h7, fun i cs' y hc hy => ih (fun b hb => hF b (h6 i b hb).1) hs (h8 i cs' y hc hy)⟩
  | pr a b iha ihb =>
    intro w w' F cs x hF hs h
    obtain ⟨c1, c2, G, h1, h2, h3, h4⟩ := h
    exact ⟨c1, c2, G, h1, h2, iha (fun b hb => hF b (h2 b hb)) hs h3, ihb (fun b hb => hF b hb.1) hs h4⟩
theorem OwnD.rd : ∀ {t : K} {w : World} {F : Nat → Prop} {cs : List Value} {x : t.V}, OwnD t w F cs x → Rd t (mem w F) cs x := by
  intro t
  induction t with
  | int k => intro _ _ _ _ h; exact h
  | bool => intro _ _ _ _ h; exact h
  | str => intro _ _ _ _ h; exact h
  | sl e t ih =>
    intro w F cs x h
    obtain ⟨v, e, es, F0, G, rfl, h2, h3, h4, h5, h6, h7, h8⟩ := h
    exact rd_of_own h2 rfl (mem_up h3) ⟨h5, fun i cs' y hc hy => (ih (h8 i cs' y hc hy)).mono (mem_up fun b hb => (h6 i b hb).1)⟩ h4
  | pr a b iha ihb =>
    intro w F cs x h
    obtain ⟨c1, c2, G, rfl, h2, h3, h4⟩ := h
    exact ⟨c1, c2, rfl, (iha h3).mono (mem_up h2), (ihb h4).mono (mem_up fun b hb => hb.1)⟩
theorem OwnD.one {t : K} {w : World} {F : Nat → Prop} {cs : List Value} {x : t.V} (h : OwnD t w F cs x) : ∀ v ∈ cs, v.oneCell' = true := h.rd.one
theorem OwnD.len {t : K} {w : World} {F : Nat → Prop} {cs : List Value} {x : t.V} (h : OwnD t w F cs x) : cs.length = t.sz := h.rd.len
def ownDHP (t : K) (cs : List Value) (x : t.V) : HP where
  p w F := OwnD t w F cs x
  st := fun h hs k => k.st h hs
  up := fun h k => k.up h
/-- The elements of a slice, but perhaps one. -/
def elemsHP (o : Option Nat) (t : K) (es : List (List Value)) (xs : List t.V) : HP where
  p w F := es.length = xs.length ∧ ∃ G : Nat → Nat → Prop, (∀ i b, G i b → F b) ∧ (∀ i j b, i ≠ j → G i b → ¬ G j b) ∧ ∀ (i : Nat) (cs : List Value) (y : t.V), o ≠ some i → es[i]? = some cs → xs[i]? = some y → OwnD t w (G i) cs y
  st := fun h hs ⟨h1, G, h2, h3, h4⟩ => ⟨h1, G, h2, h3, fun i cs y ho hc hy => (h4 i cs y ho hc hy).st (fun b hb => h b (h2 i b hb)) hs⟩
  up := fun h ⟨h1, G, h2, h3, h4⟩ => ⟨h1, G, fun i b hb => h b (h2 i b hb), h3, h4⟩
section
variable {t : K} {w : World} {A F F2 : Nat → Prop} {es : List (List Value)} {xs : List t.V} {cs : List Value} {x : t.V} {r : List HP}
theorem elems_nil : (elemsHP none t [] []).p w F := ⟨rfl, fun _ _ => False, fun _ _ h => h.elim, fun _ _ _ _ h => h.elim, fun i cs y _ h => by simp at h⟩
/-- Footprints of two chunks side by side. -/
theorem elems_append (h : Sep (elemsHP none t es xs :: ownDHP t cs x :: r) w A) : Sep (elemsHP none t (es ++ [cs]) (xs ++ [x]) :: r) w A := by
  obtain ⟨F, hF, ⟨h1, G, h2, h3, h4⟩, F2, hF2, h5, hr⟩ := h
  refine ⟨fun b => F b ∨ F2 b, fun b hb => hb.elim (hF b) (fun k => ⟨(hF2 b k).1.1, (hF2 b k).2⟩), ⟨by simp [h1], fun i => if i = es.length then F2 else (if i < es.length then G i else fun _ => False), ?_, ?_, ?_⟩, Sep.up (fun b hb => ⟨hb.1.1, fun k => k.elim hb.1.2 hb.2⟩) hr⟩
  · intro i b hb
    try dsimp only at hb
    split at hb
    · exact .inr hb
    · split at hb
      · exact .inl (h2 i b hb)
      · exact hb.elim
  · intro i j b hij hi hj
    try dsimp only at hi hj
    split at hi
    · rename_i e1
      rw [if_neg (by omega)] at hj
      split at hj
      · exact (hF2 b hi).1.2 (h2 j b hj)
      · exact hj
    · split at hi
      · split at hj
        · exact (hF2 b hj).1.2 (h2 i b hi)
        · split at hj
          · exact h3 i j b hij hi hj
          · exact hj
      · exact hi
  · intro i cs' y ho hc hy
    try dsimp only
    by_cases he : i = es.length
    · subst he
      rw [if_pos rfl]
      rw [List.getElem?_append_right (Nat.le_refl _), Nat.sub_self] at hc
      rw [h1, List.getElem?_append_right (Nat.le_refl _), Nat.sub_self] at hy
      simp only [List.getElem?_cons_zero, Option.some.injEq] at hc hy
      subst hc; subst hy
      exact h5
    · have hl : i < es.length := by
        have := (List.getElem?_eq_some_iff.1 hc).1
        simp at this
        omega
      rw [if_neg he, if_pos hl]
      rw [List.getElem?_append_left hl] at hc
      rw [List.getElem?_append_left (by omega)] at hy
      exact h4 i cs' y ho hc hy
/-- A slice, and what lies behind it. -/
theorem slice_open {by_ : Nat} {v : Value} (h : (ownDHP (.sl by_ t) [v] xs).p w F) : ∃ q : TypeId × List (List Value), (starHP (starHP (ownHP q.1 t.sz v q.2) (elemsHP none t q.2 xs)) (pureHP (xs.length * by_ ≤ reach ∧ q.2.length = xs.length))).p w F := by
  obtain ⟨v', e, es, F0, G, hv, h2, h3, h4, h5, h6, h7, h8⟩ := h
  obtain rfl := (List.cons.inj hv).1
  exact ⟨(e, es), F, fun b hb => hb, ⟨F0, h3, h2, h5, G, fun i b hb => h6 i b hb, h7, fun i cs y _ hc hy => h8 i cs y hc hy⟩, h4, h5⟩
theorem slice_close {by_ : Nat} {v : Value} {e : TypeId} {sz : Nat} (hsz : sz = t.sz) (hb : xs.length * by_ ≤ reach) (h : Sep (ownHP e sz v es :: elemsHP none t es xs :: r) w A) : Sep (ownDHP (.sl by_ t) [v] xs :: r) w A := by
  subst hsz
  obtain ⟨F, hF, hp, F2, hF2, ⟨h1, G, h2, h3, h4⟩, hr⟩ := h
  exact ⟨fun b => F b ∨ F2 b, fun b hb => hb.elim (hF b) (fun k => ⟨(hF2 b k).1.1, (hF2 b k).2⟩), ⟨v, e, es, F, G, rfl, hp, fun b hb => .inl hb, hb, h1, fun i b hb => ⟨.inr (h2 i b hb), (hF2 b (h2 i b hb)).1.2⟩, h3, fun i cs y hc hy => h4 i cs y (by simp) hc hy⟩, Sep.up (fun b hb => ⟨hb.1.1, fun k => k.elim hb.1.2 hb.2⟩) hr⟩
/-- One element taken out. -/
theorem elems_focus {i : Nat} (hc : es[i]? = some cs) (hx : xs[i]? = some x) (h : Sep (elemsHP none t es xs :: r) w A) : Sep (ownDHP t cs x :: elemsHP (some i) t es xs :: r) w A := by
  obtain ⟨F, hF, ⟨h1, G, h2, h3, h4⟩, hr⟩ := h
  refine ⟨G i, fun b hb => hF b (h2 i b hb), h4 i cs x (by simp) hc hx, fun b => F b ∧ ¬ G i b, fun b hb => ⟨⟨(hF b hb.1).1, hb.2⟩, (hF b hb.1).2⟩, ⟨h1, fun j b => G j b ∧ ¬ G i b, fun j b hb => ⟨h2 j b hb.1, hb.2⟩, fun j k b hjk hj hk => h3 j k b hjk hj.1 hk.1, fun j cs' y ho hc' hy => ?_⟩, Sep.up (fun b hb => ⟨⟨hb.1, fun k => hb.2 (h2 i b k)⟩, fun k => hb.2 k.1⟩) hr⟩
  refine (h4 j cs' y (by simp) hc' hy).up fun b hb => ⟨hb, h3 j i b (fun e => ho (by rw [e])) hb⟩
/-- .. put back, perhaps another. -/
theorem elems_put {i : Nat} {cs' : List Value} {x' : t.V} (hi : i < es.length) (h : Sep (ownDHP t cs' x' :: elemsHP (some i) t es xs :: r) w A) : Sep (elemsHP none t (es.set i cs') (xs.set i x') :: r) w A := by
  obtain ⟨F, hF, hp, F2, hF2, ⟨h1, G, h2, h3, h4⟩, hr⟩ := h
  refine ⟨fun b => F b ∨ F2 b, fun b hb => hb.elim (hF b) (fun k => ⟨(hF2 b k).1.1, (hF2 b k).2⟩), ⟨by simp [h1], fun j => if j = i then F else G j, ?_, ?_, ?_⟩, Sep.up (fun b hb => ⟨hb.1.1, fun k => k.elim hb.1.2 hb.2⟩) hr⟩
  · intro j b hb
    try dsimp only at hb
    split at hb
    · exact .inl hb
    · exact .inr (h2 j b hb)
  · intro j k b hjk hj hk
    try dsimp only at hj hk
    split at hj
    · rw [if_neg (by omega)] at hk
      exact (hF2 b (h2 k b hk)).1.2 hj
    · split at hk
      · exact (hF2 b (h2 j b hj)).1.2 hk
      · exact h3 j k b hjk hj hk
  · intro j c y _ hc hy
    try dsimp only
    by_cases he : j = i
    · subst he
      rw [if_pos rfl]
      rw [List.getElem?_set_self hi] at hc
      rw [List.getElem?_set_self (by omega)] at hy
      cases hc; cases hy
      exact hp
    · rw [if_neg he]
      rw [List.getElem?_set_ne (Ne.symm he)] at hc hy
      exact h4 j c y (fun e => he (Option.some.inj e).symm) hc hy
theorem pr_close {a b : K} {c1 c2 : List Value} {y : a.V} {z : b.V} (h : Sep (ownDHP a c1 y :: ownDHP b c2 z :: r) w A) : Sep (ownDHP (.pr a b) (c1 ++ c2) (y, z) :: r) w A := by
  obtain ⟨F, hF, hp, F2, hF2, hp2, hr⟩ := h
  exact ⟨fun b => F b ∨ F2 b, fun b hb => hb.elim (hF b) (fun k => ⟨(hF2 b k).1.1, (hF2 b k).2⟩), ⟨c1, c2, F, rfl, fun b hb => .inl hb, hp, hp2.up fun b hb => ⟨.inr hb, (hF2 b hb).1.2⟩⟩, Sep.up (fun b hb => ⟨hb.1.1, fun k => k.elim hb.1.2 hb.2⟩) hr⟩
theorem pr_open {a b : K} {y : a.V} {z : b.V} (h : Sep (ownDHP (.pr a b) cs (y, z) :: r) w A) : ∃ c1 c2, cs = c1 ++ c2 ∧ Sep (ownDHP a c1 y :: ownDHP b c2 z :: r) w A := by
  obtain ⟨F, hF, ⟨c1, c2, G, rfl, h2, h3, h4⟩, hr⟩ := h
  exact ⟨c1, c2, rfl, G, fun b hb => hF b (h2 b hb), h3, fun b => F b ∧ ¬ G b, fun b hb => ⟨⟨(hF b hb.1).1, hb.2⟩, (hF b hb.1).2⟩, h4, Sep.up (fun b hb => ⟨⟨hb.1, fun k => hb.2 (h2 b k)⟩, fun k => hb.2 k.1⟩) hr⟩
theorem own_str_pure {a : ByteArray} (h : a.size ≤ reach) : (ownDHP .str [.string a] a).p w F := ⟨rfl, h⟩
theorem own_int_pure {k : IntKind} {n : Int} (h : inR k n) : (ownDHP (.int k) [.int k n] n).p w F := ⟨rfl, h⟩
theorem own_bool_pure {b : Bool} : (ownDHP .bool [.bool b] b).p w F := rfl
end
section
variable {E : Env} {K0 : Act → World → Prop} {G : List (Nat × Value)} {H H' : List HP}
/-- A change of the chunks over the same world. -/
theorem PW.sep (hs : ∀ w A, Sep H w A → Sep H' w A) (k : PW E K0 G H') : PW E K0 G H := fun a w hf hw => k a w hf ⟨hw.kp, hs _ _ hw.sep⟩
theorem RW.sep {P : Program} {ops : Array Oper} {Q : Pst} {rest : List Oper} (H' : List HP) (hs : ∀ w A, Sep H w A → Sep H' w A) (k : RW P E ops Q rest G H') : RW P E ops Q rest G H := PW.sep hs k
theorem CW.sep {P : Program} {Q : Pst} {c : Code} (H' : List HP) (hs : ∀ w A, Sep H w A → Sep H' w A) (k : CW P E c Q G H') : CW P E c Q G H := PW.sep hs k
theorem St.sep_map {w0 w : World} {S : Nat → Prop} (h : St w0 S H w) (hs : ∀ w A, Sep H w A → Sep H' w A) : St w0 S H' w := ⟨h.kp, hs _ _ h.sep⟩
end
end Go.Proofs.Ytkfmlekomfnleaa
