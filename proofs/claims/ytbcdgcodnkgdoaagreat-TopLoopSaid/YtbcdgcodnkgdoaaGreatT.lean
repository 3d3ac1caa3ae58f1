/- From what a row's reader trod to the calculus' reading of data. Conditions: none; everything holds over any program. -/
import Derived.Test.YtbcdgcodnkgdoaaGreatD
import Derived.Deep.Slices
import Derived.ProofKit
set_option linter.unusedVariables false
set_option linter.unusedSimpArgs false
namespace Go.Proofs.YtbcdgcodnkgdoaaGreat
open Go Go.RowKit Go.ChangeShapes Go.WideShapes Go.ChangeAt Go.Deep

theorem K.sz_pos : ∀ k : K, 0 < k.sz
  | .int _ => Nat.one_pos
  | .bool => Nat.one_pos
  | .str => Nat.one_pos
  | .sl _ _ => Nat.one_pos
  | .pr a b => by
    have := K.sz_pos a
    show 0 < a.sz + b.sz
    omega
mutual
/-- A type's values read as this kind. -/
inductive TyK (P : Program) : TypeId → K → Prop
  | int {t : TypeId} {k : IntKind} : P.underlying t = some (.int k) → TyK P t (.int k)
  | bool {t : TypeId} : P.underlying t = some .bool → TyK P t .bool
  | str {t : TypeId} : P.underlying t = some .string → TyK P t .str
  | sl {t e : TypeId} {by_ : Nat} {k : K} : P.underlying t = some (.slice e) → P.bytesOf e = by_ → P.cellsOf e = k.sz → TyK P e k → TyK P t (.sl by_ k)
  | st {t : TypeId} {fs : Array Field} {k : K} : P.underlying t = some (.struct fs) → P.cellsOf t = k.sz → Flds P 0 fs.toList k → TyK P t k
inductive Flds (P : Program) : Nat → List Field → K → Prop
  | one {f : Field} {off : Nat} {k : K} : f.offset = off → P.cellsOf f.type = k.sz → TyK P f.type k → Flds P off [f] k
  | cons {f : Field} {fs : List Field} {off : Nat} {a b : K} : f.offset = off → P.cellsOf f.type = a.sz → TyK P f.type a → Flds P (off + a.sz) fs b → Flds P off (f :: fs) (.pr a b)
end
theorem addr_add {a : Addr} {n : Nat} (h : a.spot = none) : a.add n = ⟨a.block, a.off + n, none⟩ := by
  obtain ⟨b, o, s⟩ := a
  cases h
  unfold Addr.add
  split <;> simp_all
theorem list_of {α : Type} {n : Nat} {p : Nat → α → Prop} (h : ∀ i, i < n → ∃ x, p i x) : ∃ xs : List α, xs.length = n ∧ ∀ (i : Nat) (x : α), xs[i]? = some x → p i x := by
  induction n with
  | zero => exact ⟨[], rfl, fun i x h => by simp at h⟩
  | succ len ihl =>
    obtain ⟨xs, h1, h2⟩ := ihl (fun i hi => h i (by omega))
    obtain ⟨x, h3⟩ := h len (by omega)
    refine ⟨xs ++ [x], by simp [h1], fun i y hy => ?_⟩
    rcases Nat.lt_or_ge i xs.length with hi | hi
    · rw [List.getElem?_append_left hi] at hy
      exact h2 i y hy
    · rw [List.getElem?_append_right hi] at hy
      have h0 : i - xs.length = 0 := by
        have := (List.getElem?_eq_some_iff.1 hy).1
        simp at this; omega
      rw [h0] at hy
      simp only [List.getElem?_cons_zero, Option.some.injEq] at hy
      subst hy
      rw [show i = len by omega]
      exact h3
section
variable {H : Type} {enc : TypeId × Value → H} {P : Program} {w : World} {base : Nat} {spare : Nat → Bool} {held : Bool}
theorem cell_spot {a : Addr} {v : Value} (h : w.cell? a = some v) : a.spot = none := by
  unfold World.cell? at h
  cases hs : a.spot with
  | none => rfl
  | some s =>
    split at h
    · simp [hs] at h
    · cases h
theorem add_zero_ (a : Addr) : a.add 0 = a := by unfold Addr.add; simp
theorem all_append {l l' : List Nat} (h : (l ++ l').all (· ≤ reachBytes) = true) : l.all (· ≤ reachBytes) = true ∧ l'.all (· ≤ reachBytes) = true := by
  rw [List.all_append, Bool.and_eq_true] at h; exact h
theorem weightsAll_mem {e : TypeId} : ∀ {l : List (DataW H)} (h : (DataW.weightsAll P e l).all (· ≤ reachBytes) = true) {d : DataW H}, d ∈ l → (d.weights P e).all (· ≤ reachBytes) = true := by
  intro l
  induction l with
  | nil => intro _ d hd; cases hd
  | cons y l ih =>
    intro h d hd
    rw [DataW.weightsAll] at h
    obtain ⟨h1, h2⟩ := all_append h
    rcases List.mem_cons.1 hd with rfl | hd
    · exact h1
    · exact ih h2 hd
def TrodOk (enc : TypeId × Value → H) (P : Program) (w : World) (base : Nat) (spare : Nat → Bool) (held : Bool) (t : TypeId) (k : K) : Prop :=
  ∀ (fuel : Nat) (cs : List Value) (d : DataW H) (p : List MemPlace), DataW.trod enc P w base spare held fuel t cs = some (d, p) → w.noneFrozen p → (d.weights P t).all (· ≤ reachBytes) = true → ∃ x : k.V, Rd k (mem w Any) cs x
def FldsOk (enc : TypeId × Value → H) (P : Program) (w : World) (base : Nat) (spare : Nat → Bool) (held : Bool) (off : Nat) (fs : List Field) (k : K) : Prop :=
  ∀ (fuel : Nat) (cs : List Value) (xs : List (DataW H × List MemPlace)), cs.length = off + k.sz → (∀ (i : Nat) (f : Field), fs[i]? = some f → DataW.trod enc P w base spare held fuel f.type ((cs.drop f.offset).take (P.cellsOf f.type)) = xs[i]?) → xs.length = fs.length → (∀ x ∈ xs, w.noneFrozen x.2) →
    (DataW.weightsEach P (fs.map (·.type)) (xs.map (·.1))).all (· ≤ reachBytes) = true → ∃ x : k.V, Rd k (mem w Any) (cs.drop off) x
theorem trod_rd {t : TypeId} {k : K} (h : TyK P t k) : TrodOk enc P w base spare held t k := by
  refine TyK.rec (motive_1 := fun t k _ => TrodOk enc P w base spare held t k) (motive_2 := fun off fs k _ => FldsOk enc P w base spare held off fs k) ?_ ?_ ?_ ?_ ?_ ?_ ?_ h
  · intro t k ht fuel cs d p hd _ _
    obtain ⟨n, rfl, _, hw⟩ := DataW.trod_int ht hd
    exact ⟨n, rfl, hw⟩
  · intro t ht fuel cs d p hd _ _
    obtain ⟨n, rfl, _⟩ := DataW.trod_bool ht hd
    exact ⟨n, rfl⟩
  · intro t ht fuel cs d p hd _ hw
    obtain ⟨n, rfl, hx, _⟩ := DataW.trod_string ht hd
    cases hx
    rw [DataW.weights] at hw
    refine ⟨n, rfl, ?_⟩
    rw [List.all_cons, Bool.and_eq_true, decide_eq_true_eq, Array.length_toList] at hw
    exact hw.1
  · intro t e by_ k ht hb hc _ ih fuel cs d p hd hfz hw
    rcases open_slice ht hd with ⟨rfl, _⟩ | ⟨a, len, cap, m, n, D, Pl, rfl, _, hl, hm, hmm, hx, hel⟩
    · exact ⟨[], none, 0, rfl, Nat.le_refl _, Nat.zero_le _, by show 0 * _ ≤ _; omega, RowAt.nil⟩
    · cases hx
      rw [DataW.weights, ht] at hw
      simp only [List.all_cons, Bool.and_eq_true, decide_eq_true_eq, List.length_map, List.length_range] at hw
      obtain ⟨hw1, hw2⟩ := hw
      obtain ⟨hw2, hw3⟩ := all_append hw2
      have hlm : len ≤ m := by rw [hmm]; split <;> omega
      have hone : ∀ i, i < len → ∃ (x : k.V) (cs : List Value), cs.length = k.sz ∧ Rd k (mem w Any) cs x ∧ ∀ (j : Nat) (v : Value), cs[j]? = some v → w.cell? ((a.add (i * k.sz)).add j) = some v := by
        intro i hi
        obtain ⟨cs, h1, h2⟩ := hel i (by omega)
        obtain ⟨_, h3, h4⟩ := World.cells?_some h1
        rw [hc] at h3 h4
        obtain ⟨x, hx⟩ := ih n cs (D i) (Pl i) h2 (fun b o hbo => hfz b o (List.mem_append.2 (.inr (List.mem_flatMap.2 ⟨i, List.mem_range.2 (by omega), hbo⟩)))) (weightsAll_mem hw2 (List.mem_map.2 ⟨i, List.mem_range.2 hi, rfl⟩))
        refine ⟨x, cs, h3, hx, fun j v hv => ?_⟩
        have hj : j < k.sz := by rw [← h3]; exact (List.getElem?_eq_some_iff.1 hv).1
        rw [h4 j hj, hv]
      have hsome : ∃ xs : List k.V, xs.length = len ∧ ∀ (i : Nat) (x : k.V), xs[i]? = some x → ∃ cs : List Value, cs.length = k.sz ∧ Rd k (mem w Any) cs x ∧ ∀ (j : Nat) (v : Value), cs[j]? = some v → w.cell? ((a.add (i * k.sz)).add j) = some v := by
        exact list_of hone
      obtain ⟨xs, hxl, hxs⟩ := hsome
      refine ⟨xs, some a, cap, by rw [hxl], by rw [hxl]; exact hl, by unfold maxN; unfold maxLen at hm; omega, ?_, fun hne => ?_⟩
      · rw [hxl, ← hb]
        have h5 : len * P.bytesOf e ≤ (len + (m - len)) * P.bytesOf e := Nat.mul_le_mul_right _ (by omega)
        unfold reach
        unfold reachBytes at hw1
        omega
      · obtain ⟨y, hy⟩ : ∃ y, xs[0]? = some y := by
          cases xs with
          | nil => exact absurd rfl hne
          | cons y _ => exact ⟨y, rfl⟩
        have hspot : a.spot = none := by
          obtain ⟨cs, h1, _, h2⟩ := hxs 0 y hy
          have hz := K.sz_pos k
          have := cell_spot (h2 0 _ (List.getElem?_eq_getElem (by omega)))
          rwa [Nat.zero_mul, add_zero_, add_zero_] at this
        refine ⟨a.block, a.off, by rw [← hspot], fun j x hj => ?_⟩
        obtain ⟨cs, h1, h2, h3⟩ := hxs j x hj
        refine ⟨cs, h1, h2, fun i v hv => ?_⟩
        have hil : i < k.sz := by rw [← h1]; exact (List.getElem?_eq_some_iff.1 hv).1
        refine ⟨⟨trivial, hfz _ _ (List.mem_append.2 (.inl (List.mem_map.2 ⟨j * k.sz + i, List.mem_range.2 ?_, by rw [Nat.add_assoc]⟩)))⟩, ?_⟩
        · have hjl : j < len := by rw [← hxl]; exact (List.getElem?_eq_some_iff.1 hj).1
          rw [hc]
          exact Nat.lt_of_lt_of_le (Nat.add_lt_add_left hil _) (Nat.le_trans (Nat.le_of_eq (Nat.succ_mul j k.sz).symm) (Nat.mul_le_mul_right _ (by omega)))
        have := h3 i v hv
        rwa [addr_add hspot, addr_add rfl] at this
  · intro t fs k ht hc _ ih fuel cs d p hd hfz hw
    obtain ⟨xs, n, _, hx, hl, hlen, hf⟩ := DataW.trod_struct ht hd
    cases hx
    rw [DataW.weights, ht] at hw
    exact ih n cs xs (by rw [hl, hc]; omega) (fun i f hi => hf i f (by rw [← Array.getElem?_toList]; exact hi)) (by rw [hlen]; rfl) (fun x hx b o hbo => hfz b o (List.mem_flatMap.2 ⟨x, hx, hbo⟩)) hw
  · intro f off k ho hc _ ih fuel cs xs hl hf hlen hfz hw
    subst ho
    match xs, hlen with
    | [(d, p)], _ =>
      have h1 := hf 0 f rfl
      rw [List.take_of_length_le (by rw [List.length_drop, hc]; omega)] at h1
      exact ih fuel _ d p h1 (hfz _ (List.mem_cons_self ..)) (by simpa [DataW.weightsEach] using hw)
  · intro f fs off a b ho hc _ _ iha ihb fuel cs xs hl hf hlen hfz hw
    subst ho
    have hl' : cs.length = f.offset + (a.sz + b.sz) := hl
    match xs, hlen with
    | (d, p) :: xs, hlen =>
      have h1 := hf 0 f rfl
      have hw' : (d.weights P f.type ++ DataW.weightsEach P (fs.map (·.type)) (xs.map (·.1))).all (· ≤ reachBytes) = true := hw
      obtain ⟨hw1, hw2⟩ := all_append hw'
      obtain ⟨x, hx⟩ := iha fuel _ d p h1 (hfz _ (List.mem_cons_self ..)) hw1
      obtain ⟨y, hy⟩ := ihb fuel cs xs (by omega) (fun i g hg => hf (i + 1) g hg) (by simpa using hlen) (fun x hx => hfz x (List.mem_cons_of_mem _ hx)) hw2
      refine ⟨(x, y), _, _, ?_, hx, hy⟩
      rw [hc, ← List.drop_drop, List.take_append_drop]
end
end Go.Proofs.YtbcdgcodnkgdoaaGreat
