/- The calculus, nineteenth part: stores into and loads from slices of one's own; deep data opened. Conditions: none; everything holds over any program. -/
import Derived.Test.YtkfmlekomfnleaaW
set_option linter.unusedVariables false
set_option linter.unusedSimpArgs false
namespace Go.Proofs.Ytkfmlekomfnleaa
open Go Go.RowKit

theorem flatten_set {es : List (List Value)} {sz : Nat} (h : ∀ x ∈ es, x.length = sz) {i : Nat} {cs : List Value} (hx : es[i]? = some cs) {j : Nat} {v : Value} (hj : j < cs.length) : es.flatten.set (i * sz + j) v = (es.set i (cs.set j v)).flatten := by
  induction es generalizing i with
  | nil => simp at hx
  | cons y es ih =>
    have hy : y.length = sz := h y (by simp)
    rw [List.flatten_cons]
    cases i with
    | zero =>
      simp at hx
      subst hx
      rw [Nat.zero_mul, Nat.zero_add, List.set_append_left _ _ hj]
      rfl
    | succ i =>
      rw [List.set_append_right _ _ (by rw [hy, Nat.add_mul]; omega), hy, show (i + 1) * sz + j - sz = i * sz + j from by rw [Nat.add_mul]; omega, ih (fun z hz => h z (by simp [hz])) (by simpa using hx)]
      rfl
theorem own_some {w0 w : World} {S : Nat → Prop} {pre r : List HP} {e : TypeId} {sz n c : Nat} {A : Option Addr} {es : List (List Value)} (h : St w0 S (pre ++ ownHP e sz (.slice A n c) es :: r) w) {i : Nat} {cs : List Value} (hi : es[i]? = some cs) : ∃ B, A = some ⟨B, 0, none⟩ := by
  rcases own_form h with ⟨_, rfl⟩ | ⟨B, c', h1, _⟩
  · simp at hi
  · simp only [Value.slice.injEq] at h1
    exact ⟨B, h1.1⟩
theorem own_at {w0 w : World} {S : Nat → Prop} {pre r : List HP} {e : TypeId} {sz B n c : Nat} {es : List (List Value)} (h : St w0 S (pre ++ ownHP e sz (.slice (some ⟨B, 0, none⟩) n c) es :: r) w) {i : Nat} {cs : List Value} (hi : es[i]? = some cs) : CellsAt w B (i * sz) cs := by
  have hl : ∀ x ∈ es, x.length = sz := by
    rcases own_form h with ⟨h1, _⟩ | ⟨_, _, _, _, _, _, h1⟩
    · cases h1
    · exact h1
  intro j v hv
  have := own_cells h (i * sz + j) v (flatten_at hl hi hv)
  simpa using this
section
variable {P : Program} {E : Env} {ops : Array Oper} {Q : Pst} {rest : List Oper} {G : List (Nat × Value)} {H : List HP} {K0 : Act → World → Prop}
variable {dst : Nat} {ty : TypeId} {pos : String} {af : Array Edge} {t e : TypeId} {d : TypeDesc} {z : Value} {sz n by_ : Nat} {x y : Operand} {v : Value}
theorem PW.sepEx {ι : Type} (φ : ι → Prop) (H' : ι → List HP) (hs : ∀ w A, Sep H w A → ∃ i, φ i ∧ Sep (H' i) w A) (k : ∀ i, φ i → PW E K0 G (H' i)) : PW E K0 G H := fun a w hf hw => by
  obtain ⟨i, hi, h⟩ := hs _ _ hw.sep
  exact k i hi a w hf ⟨hw.kp, h⟩
theorem RW.sepEx {ι : Type} (φ : ι → Prop) (H' : ι → List HP) (hs : ∀ w A, Sep H w A → ∃ i, φ i ∧ Sep (H' i) w A) (k : ∀ i, φ i → RW P E ops Q rest G (H' i)) : RW P E ops Q rest G H := PW.sepEx φ H' hs k
theorem CW.sepEx {ι : Type} {c : Code} (φ : ι → Prop) (H' : ι → List HP) (hs : ∀ w A, Sep H w A → ∃ i, φ i ∧ Sep (H' i) w A) (k : ∀ i, φ i → CW P E c Q G (H' i)) : CW P E c Q G H := PW.sepEx φ H' hs k
/-- One cell of an element. -/
theorem RW.loadOwn1 [T : Ty P t d z sz by_] (pre : List HP) {r : List HP} {B O c i j : Nat} {sz' : Nat} {es : List (List Value)} {cs : List Value} (hx : ev G x = some (.pointer (some ⟨B, O, none⟩))) (hO : O = i * sz' + j) (hi : es[i]? = some cs) (hv : cs[j]? = some v) (hd : isAggD d = false) (hN : Nat.blt dst E.N = true)
    (k : RW P E ops Q rest ((dst, v) :: G) (pre ++ ownHP e sz' (.slice (some ⟨B, 0, none⟩) n c) es :: r)) : RW P E ops Q (⟨some dst, .load t x, ty, pos, af, none⟩ :: rest) G (pre ++ ownHP e sz' (.slice (some ⟨B, 0, none⟩) n c) es :: r) :=
  RW.load_fact hx hd hN (fun w hw => by rw [hO]; exact own_at hw hi j v hv) k
/-- A whole element. -/
theorem RW.loadOwn [T : Ty P t d z sz by_] (pre : List HP) {r : List HP} {B O c i : Nat} {es : List (List Value)} {cs : List Value} (hx : ev G x = some (.pointer (some ⟨B, O, none⟩))) (hO : O = i * sz) (hi : es[i]? = some cs) (hs : cs.length = sz) (hd : isAggD d = true) (hN : Nat.blt dst E.N = true)
    (k : RW P E ops Q rest ((dst, .agg cs.toArray) :: G) (pre ++ ownHP e sz (.slice (some ⟨B, 0, none⟩) n c) es :: r)) : RW P E ops Q (⟨some dst, .load t x, ty, pos, af, none⟩ :: rest) G (pre ++ ownHP e sz (.slice (some ⟨B, 0, none⟩) n c) es :: r) :=
  RW.load_facts hx hd hs hN (fun w hw => by rw [hO]; exact own_at hw hi) k
/-- A cell of an element is filled. -/
theorem RW.storeOwn [T : Ty P t d z 1 by_] (pre : List HP) {r : List HP} {B O c i j : Nat} {es : List (List Value)} {cs : List Value} (hx : ev G x = some (.pointer (some ⟨B, O, none⟩))) (hO : O = i * sz + j) (hy : ev G y = some v) (hv : v.cells = #[v]) (h1 : v.oneCell' = true) (hi : es[i]? = some cs) (hj : j < cs.length)
    (k : RW P E ops Q rest G (pre ++ ownHP e sz (.slice (some ⟨B, 0, none⟩) n c) (es.set i (cs.set j v)) :: r)) : RW P E ops Q (⟨none, .store t x y, ty, pos, af, none⟩ :: rest) G (pre ++ ownHP e sz (.slice (some ⟨B, 0, none⟩) n c) es :: r) := by
  refine RW.open_ pre (fun tl : List Value => starHP (pureHP (n = es.length ∧ (∀ x ∈ es, x.length = sz) ∧ es.flatten.length + tl.length = c * sz ∧ es.length ≤ c ∧ c ≤ maxN)) (blk B (es.flatten ++ tl) e)) (fun w F hp => ?_) fun tl => ?_
  · rcases hp with ⟨hp, _⟩ | ⟨B', c', tl, h1, h2, h3, h4, h5, h6, h7⟩
    · cases hp
    · simp only [Value.slice.injEq, Option.some.injEq, Addr.mk.injEq] at h1
      obtain ⟨⟨rfl, _⟩, hn, rfl⟩ := h1
      exact ⟨tl, fun _ => False, fun _ h => h.elim, ⟨hn, h4, h5, h6, h7⟩, ⟨⟨h2, fun h => h.elim⟩, h3⟩⟩
  refine RW.unstar pre ?_
  refine RW.purely pre fun ⟨hn, h4, h5, h6, h7⟩ => ?_
  have hl : i * sz + j < es.flatten.length := (List.getElem?_eq_some_iff.1 (flatten_at h4 hi (List.getElem?_eq_getElem hj))).1
  have hcs : cs.length = sz := h4 cs (List.mem_of_getElem? hi)
  refine RW.store_blk pre rfl hx hy hv h1 (by rw [hO, List.length_append]; omega) ?_
  refine RW.change pre _ (fun w F hp => own_of_blk hp tl ?_ (by rw [List.length_set]; exact hn.symm) (fun x hx => ?_) (by rw [List.length_set, List.length_append]; exact h5) (by omega) h7) k
  · rw [hO, List.set_append_left _ _ hl, flatten_set h4 hi hj]
  · rcases List.mem_or_eq_of_mem_set hx with h | h
    · exact h4 x h
    · rw [h, List.length_set]; exact hcs
end
section
variable {t : K} {w : World} {A : Nat → Prop} {es : List (List Value)} {xs : List t.V} {cs : List Value} {r : List HP}
theorem elems_len {o : Option Nat} (h : Sep (elemsHP o t es xs :: r) w A) : es.length = xs.length := h.choose_spec.2.1.1
theorem str_out {x : ByteArray} (h : Sep (ownDHP .str cs x :: r) w A) : cs = [.string x] ∧ x.size ≤ reach ∧ Sep r w A := by
  obtain ⟨F, hF, hp, hr⟩ := h
  exact ⟨hp.1, hp.2, Sep.up (fun b hb => hb.1) hr⟩
theorem int_out {k : IntKind} {x : Int} (h : Sep (ownDHP (.int k) cs x :: r) w A) : cs = [.int k x] ∧ inR k x ∧ Sep r w A := by
  obtain ⟨F, hF, hp, hr⟩ := h
  exact ⟨hp.1, hp.2, Sep.up (fun b hb => hb.1) hr⟩
theorem bool_out {x : Bool} (h : Sep (ownDHP .bool cs x :: r) w A) : cs = [.bool x] ∧ Sep r w A := by
  obtain ⟨F, hF, hp, hr⟩ := h
  exact ⟨hp, Sep.up (fun b hb => hb.1) hr⟩
theorem Sep.under {ι : Type} {φ : ι → Prop} {r' : ι → List HP} {c : HP} (hs : ∀ A, Sep r w A → ∃ i, φ i ∧ Sep (r' i) w A) (h : Sep (c :: r) w A) : ∃ i, φ i ∧ Sep (c :: r' i) w A := by
  obtain ⟨F, hF, hp, hr⟩ := h
  obtain ⟨i, hi, hr⟩ := hs _ hr
  exact ⟨i, hi, F, hF, hp, hr⟩
/-- A slice of one's own, open. -/
theorem sl_open {by_ : Nat} {v : Value} (h : Sep (ownDHP (.sl by_ t) [v] xs :: r) w A) : ∃ q : TypeId × List (List Value), (xs.length * by_ ≤ reach ∧ q.2.length = xs.length) ∧ Sep (ownHP q.1 t.sz v q.2 :: elemsHP none t q.2 xs :: r) w A := by
  obtain ⟨F, hF, hp, hr⟩ := h
  obtain ⟨q, F1, hF1, ⟨F2, hF2, h1, h2⟩, h3⟩ := slice_open hp
  refine ⟨q, h3, F2, fun b hb => hF b (hF1 b (hF2 b hb)), h1, fun b => F b ∧ ¬ F2 b, fun b hb => ⟨⟨(hF b hb.1).1, hb.2⟩, (hF b hb.1).2⟩, ?_, Sep.up (fun b hb => ⟨⟨hb.1, fun k => hb.2 (hF1 b (hF2 b k))⟩, fun k => hb.2 k.1⟩) hr⟩
  exact (elemsHP none t q.2 xs).up (fun b hb => ⟨hF1 b hb.1, hb.2⟩) h2
theorem map_step {α : Type} {f : α → α} {xs : List α} {j : Nat} (hj : j < xs.length) : ((xs.take j).map f ++ xs.drop j).set j (f xs[j]) = (xs.take (j + 1)).map f ++ xs.drop (j + 1) := by
  have hl : ((xs.take j).map f).length = j := by simp; omega
  rw [List.set_append_right _ _ (by omega), hl, Nat.sub_self, List.drop_eq_getElem_cons hj, List.set_cons_zero, List.take_succ_eq_append_getElem hj, List.map_append, List.append_assoc]
  rfl
theorem map_here {α : Type} {f : α → α} {xs : List α} {j : Nat} (hj : j < xs.length) : ((xs.take j).map f ++ xs.drop j)[j]? = some xs[j] := by
  have hl : ((xs.take j).map f).length = j := by simp; omega
  rw [List.getElem?_append_right (by omega), hl, Nat.sub_self, List.drop_eq_getElem_cons hj]
  rfl
theorem map_len {α : Type} {f : α → α} {xs : List α} {j : Nat} : ((xs.take j).map f ++ xs.drop j).length = xs.length := by
  simp
  omega
theorem map_end {α : Type} {f : α → α} {xs : List α} {j : Nat} (hj : xs.length ≤ j) : (xs.take j).map f ++ xs.drop j = xs.map f := by
  rw [List.take_of_length_le hj, List.drop_eq_nil_of_le hj, List.append_nil]
end
/-- Some chunks as one. -/
def allHP (L : List HP) : HP where
  p w F := Sep L w F
  st := fun h hs k => Sep.keep h hs k
  up := fun h k => Sep.up h k
theorem Sep.pack {L r : List HP} {w : World} {A : Nat → Prop} (h : Sep (L ++ r) w A) : Sep (allHP L :: r) w A := by
  obtain ⟨F, hF, h1, h2⟩ := Sep.split h
  exact ⟨F, hF, h1, h2⟩
theorem Sep.join {L : List HP} {w : World} : ∀ {r : List HP} {A F : Nat → Prop}, (∀ b, F b → A b) → Sep L w F → Sep r w (fun b => A b ∧ ¬ F b) → Sep (L ++ r) w A := by
  induction L with
  | nil => intro r A F _ _ hr; exact Sep.up (fun b hb => hb.1) hr
  | cons c L ih =>
    intro r A F hF h hr
    obtain ⟨F1, hF1, hc, hL⟩ := h
    exact ⟨F1, fun b hb => ⟨hF b (hF1 b hb).1, (hF1 b hb).2⟩, hc, ih (F := fun b => F b ∧ ¬ F1 b) (fun b hb => ⟨hF b hb.1, hb.2⟩) hL (Sep.up (fun b hb => ⟨⟨hb.1, fun k => hb.2 (hF1 b k).1⟩, fun k => hb.2 k.1⟩) hr)⟩
theorem Sep.unpack {L r : List HP} {w : World} {A : Nat → Prop} (h : Sep (allHP L :: r) w A) : Sep (L ++ r) w A := by
  obtain ⟨F, hF, h1, h2⟩ := h
  exact Sep.join (fun b hb => (hF b hb).1) h1 h2
section
variable {P : Program} {E : Env} {ops : Array Oper} {Q : Pst} {rest : List Oper} {G : List (Nat × Value)} {H : List HP} {K0 : Act → World → Prop}
theorem PW.pack (L : List HP) {r : List HP} (k : PW E K0 G (allHP L :: r)) : PW E K0 G (L ++ r) := PW.sep (fun _ _ h => Sep.pack h) k
theorem RW.pack (L : List HP) {r : List HP} (k : RW P E ops Q rest G (allHP L :: r)) : RW P E ops Q rest G (L ++ r) := PW.pack L k
theorem CW.pack (L : List HP) {r : List HP} {c : Code} (k : CW P E c Q G (allHP L :: r)) : CW P E c Q G (L ++ r) := PW.pack L k
theorem PW.unpack {L r : List HP} (k : PW E K0 G (L ++ r)) : PW E K0 G (allHP L :: r) := PW.sep (fun _ _ h => Sep.unpack h) k
theorem RW.unpack {L r : List HP} (k : RW P E ops Q rest G (L ++ r)) : RW P E ops Q rest G (allHP L :: r) := PW.unpack k
theorem CW.unpack {L r : List HP} {c : Code} (k : CW P E c Q G (L ++ r)) : CW P E c Q G (allHP L :: r) := PW.unpack k
end
section
variable {P : Program} {E : Env} {ops : Array Oper} {Q : Pst} {rest : List Oper} {G : List (Nat × Value)} {K0 : Act → World → Prop}
variable {t : K} {es : List (List Value)} {xs : List t.V} {cs : List Value} {x : t.V} {r : List HP} {i : Nat}
theorem PW.focus (hx : xs[i]? = some x) (k : ∀ cs, es[i]? = some cs → PW E K0 G (ownDHP t cs x :: elemsHP (some i) t es xs :: r)) : PW E K0 G (elemsHP none t es xs :: r) :=
  PW.sepEx (fun cs => es[i]? = some cs) _ (fun w A h => by
    have hl := elems_len h
    have hi : i < es.length := by rw [hl]; exact (List.getElem?_eq_some_iff.1 hx).1
    exact ⟨es[i], List.getElem?_eq_getElem hi, elems_focus (List.getElem?_eq_getElem hi) hx h⟩) k
theorem CW.focus {c : Code} (hx : xs[i]? = some x) (k : ∀ cs, es[i]? = some cs → CW P E c Q G (ownDHP t cs x :: elemsHP (some i) t es xs :: r)) : CW P E c Q G (elemsHP none t es xs :: r) := PW.focus hx k
theorem RW.focus (hx : xs[i]? = some x) (k : ∀ cs, es[i]? = some cs → RW P E ops Q rest G (ownDHP t cs x :: elemsHP (some i) t es xs :: r)) : RW P E ops Q rest G (elemsHP none t es xs :: r) := PW.focus hx k
theorem PW.put {cs' : List Value} (hi : es[i]? = some cs') (k : PW E K0 G (elemsHP none t (es.set i cs) (xs.set i x) :: r)) : PW E K0 G (ownDHP t cs x :: elemsHP (some i) t es xs :: r) := PW.sep (fun w A h => elems_put (List.getElem?_eq_some_iff.1 hi).1 h) k
theorem CW.put {c : Code} {cs' : List Value} (hi : es[i]? = some cs') (k : CW P E c Q G (elemsHP none t (es.set i cs) (xs.set i x) :: r)) : CW P E c Q G (ownDHP t cs x :: elemsHP (some i) t es xs :: r) := PW.put hi k
theorem RW.put {cs' : List Value} (hi : es[i]? = some cs') (k : RW P E ops Q rest G (elemsHP none t (es.set i cs) (xs.set i x) :: r)) : RW P E ops Q rest G (ownDHP t cs x :: elemsHP (some i) t es xs :: r) := PW.put hi k
end
end Go.Proofs.Ytkfmlekomfnleaa
