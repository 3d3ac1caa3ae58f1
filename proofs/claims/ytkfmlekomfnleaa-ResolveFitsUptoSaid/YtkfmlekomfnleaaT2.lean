/- From what a row's reader trod to the calculus' reading of data, and how much it holds. Conditions: none; everything holds over any program. -/
import Derived.Test.YtkfmlekomfnleaaT
import Derived.Deep.Slices
import Derived.ProofKit
set_option linter.unusedVariables false
set_option linter.unusedSimpArgs false
namespace Go.Proofs.Ytkfmlekomfnleaa
open Go Go.RowKit Go.ChangeShapes Go.WideShapes Go.ChangeAt Go.Deep

/-- How many elements the lists in it hold, together. -/
def bk : (k : K) → k.V → Nat
  | .int _, _ => 0
  | .bool, _ => 0
  | .str, _ => 0
  | .sl _ k, xs => List.length (α := k.V) xs + (List.map (bk k) xs).sum
  | .pr a b, x => bk a x.1 + bk b x.2
/-- A measure of readings. -/
structure Mu {H : Type} (μ : DataW H → Nat) : Prop where
  one : ∀ d, 1 ≤ μ d
  sl : ∀ es sp, (es.map μ).sum + 1 ≤ μ (.slice es sp)
  ag : ∀ ps, (ps.map μ).sum + 1 ≤ μ (.agg ps)
theorem sum_range {α : Type} {f : α → Nat} {g : Nat → Nat} : ∀ {xs : List α} {g : Nat → Nat}, (∀ (i : Nat) (x : α), xs[i]? = some x → f x + 1 ≤ g i) → xs.length + (xs.map f).sum ≤ ((List.range xs.length).map g).sum := by
  intro xs
  induction xs with
  | nil => intro g _; simp
  | cons x xs ih =>
    intro g h
    have h1 := h 0 x rfl
    have h2 := ih (g := fun i => g (i + 1)) (fun i y hy => h (i + 1) y hy)
    rw [List.length_cons, List.range_succ_eq_map, List.map_cons, List.map_cons, List.sum_cons, List.sum_cons, List.map_map]
    have h3 : ((List.range xs.length).map (g ∘ Nat.succ)).sum = ((List.range xs.length).map fun i => g (i + 1)).sum := rfl
    omega
section
variable {H : Type} {enc : TypeId × Value → H} {P : Program} {w : World} {base : Nat} {spare : Nat → Bool} {held : Bool} {μ : DataW H → Nat}
def TrodMu (μ : DataW H → Nat) (enc : TypeId × Value → H) (P : Program) (w : World) (base : Nat) (spare : Nat → Bool) (held : Bool) (t : TypeId) (k : K) : Prop :=
  ∀ (fuel : Nat) (cs : List Value) (d : DataW H) (p : List MemPlace), DataW.trod enc P w base spare held fuel t cs = some (d, p) → w.noneFrozen p → (d.weights P t).all (· ≤ reachBytes) = true → ∃ x : k.V, Rd k (mem w Any) cs x ∧ bk k x + 1 ≤ μ d
def FldsMu (μ : DataW H → Nat) (enc : TypeId × Value → H) (P : Program) (w : World) (base : Nat) (spare : Nat → Bool) (held : Bool) (off : Nat) (fs : List Field) (k : K) : Prop :=
  ∀ (fuel : Nat) (cs : List Value) (xs : List (DataW H × List MemPlace)), cs.length = off + k.sz → (∀ (i : Nat) (f : Field), fs[i]? = some f → DataW.trod enc P w base spare held fuel f.type ((cs.drop f.offset).take (P.cellsOf f.type)) = xs[i]?) → xs.length = fs.length → (∀ x ∈ xs, w.noneFrozen x.2) →
    (DataW.weightsEach P (fs.map (·.type)) (xs.map (·.1))).all (· ≤ reachBytes) = true → ∃ x : k.V, Rd k (mem w Any) (cs.drop off) x ∧ bk k x + 1 ≤ ((xs.map (·.1)).map μ).sum
theorem trod_mu {t : TypeId} {k : K} (hμ : Mu μ) (h : TyK P t k) : TrodMu μ enc P w base spare held t k := by
  refine TyK.rec (motive_1 := fun t k _ => TrodMu μ enc P w base spare held t k) (motive_2 := fun off fs k _ => FldsMu μ enc P w base spare held off fs k) ?_ ?_ ?_ ?_ ?_ ?_ ?_ h
  · intro t k ht fuel cs d p hd _ _
    obtain ⟨n, rfl, _, hw⟩ := DataW.trod_int ht hd
    exact ⟨n, ⟨rfl, hw⟩, hμ.one _⟩
  · intro t ht fuel cs d p hd _ _
    obtain ⟨n, rfl, _⟩ := DataW.trod_bool ht hd
    exact ⟨n, rfl, hμ.one _⟩
  · intro t ht fuel cs d p hd _ hw
    obtain ⟨n, rfl, hx, _⟩ := DataW.trod_string ht hd
    cases hx
    rw [DataW.weights] at hw
    rw [List.all_cons, Bool.and_eq_true, decide_eq_true_eq, Array.length_toList] at hw
    exact ⟨n, ⟨rfl, hw.1⟩, hμ.one _⟩
  · intro t e by_ k ht hb hc _ ih fuel cs d p hd hfz hw
    rcases open_slice ht hd with ⟨rfl, _⟩ | ⟨a, len, cap, m, n, D, Pl, rfl, _, hl, hm, hmm, hx, hel⟩
    · exact ⟨[], ⟨none, 0, rfl, Nat.le_refl _, Nat.zero_le _, by show 0 * _ ≤ _; omega, RowAt.nil⟩, hμ.one _⟩
    · cases hx
      rw [DataW.weights, ht] at hw
      simp only [List.all_cons, Bool.and_eq_true, decide_eq_true_eq, List.length_map, List.length_range] at hw
      obtain ⟨hw1, hw2⟩ := hw
      obtain ⟨hw2, hw3⟩ := all_append hw2
      have hlm : len ≤ m := by rw [hmm]; split <;> omega
      have hone : ∀ i, i < len → ∃ (x : k.V), (∃ cs : List Value, cs.length = k.sz ∧ Rd k (mem w Any) cs x ∧ ∀ (j : Nat) (v : Value), cs[j]? = some v → w.cell? ((a.add (i * k.sz)).add j) = some v) ∧ bk k x + 1 ≤ μ (D i) := by
        intro i hi
        obtain ⟨cs, h1, h2⟩ := hel i (by omega)
        obtain ⟨_, h3, h4⟩ := World.cells?_some h1
        rw [hc] at h3 h4
        obtain ⟨x, hx, hbx⟩ := ih n cs (D i) (Pl i) h2 (fun b o hbo => hfz b o (List.mem_append.2 (.inr (List.mem_flatMap.2 ⟨i, List.mem_range.2 (by omega), hbo⟩)))) (weightsAll_mem hw2 (List.mem_map.2 ⟨i, List.mem_range.2 hi, rfl⟩))
        refine ⟨x, ⟨cs, h3, hx, fun j v hv => ?_⟩, hbx⟩
        have hj : j < k.sz := by rw [← h3]; exact (List.getElem?_eq_some_iff.1 hv).1
        rw [h4 j hj, hv]
      have hsome : ∃ xs : List k.V, xs.length = len ∧ ∀ (i : Nat) (x : k.V), xs[i]? = some x → (∃ cs : List Value, cs.length = k.sz ∧ Rd k (mem w Any) cs x ∧ ∀ (j : Nat) (v : Value), cs[j]? = some v → w.cell? ((a.add (i * k.sz)).add j) = some v) ∧ bk k x + 1 ≤ μ (D i) := by
        exact list_of hone
      obtain ⟨xs, hxl, hxs⟩ := hsome
      refine ⟨xs, ⟨some a, cap, by rw [hxl], by rw [hxl]; exact hl, by unfold maxN; unfold maxLen at hm; omega, ?_, fun hne => ?_⟩, ?_⟩
      · rw [hxl, ← hb]
        have h5 : len * P.bytesOf e ≤ (len + (m - len)) * P.bytesOf e := Nat.mul_le_mul_right _ (by omega)
        unfold reach
        unfold reachBytes at hw1
        omega
      · obtain ⟨y, hy⟩ : ∃ y, xs[0]? = some y := by
          cases xs with
          | nil => exact absurd rfl hne
          | cons y _ => exact ⟨y, rfl⟩
        have hspot : a.spot = none := by
          obtain ⟨⟨cs, h1, _, h2⟩, _⟩ := hxs 0 y hy
          have hz := K.sz_pos k
          have := cell_spot (h2 0 _ (List.getElem?_eq_getElem (by omega)))
          rwa [Nat.zero_mul, add_zero_, add_zero_] at this
        refine ⟨a.block, a.off, by rw [← hspot], fun j x hj => ?_⟩
        obtain ⟨⟨cs, h1, h2, h3⟩, _⟩ := hxs j x hj
        refine ⟨cs, h1, h2, fun i v hv => ?_⟩
        have hil : i < k.sz := by rw [← h1]; exact (List.getElem?_eq_some_iff.1 hv).1
        refine ⟨⟨trivial, hfz _ _ (List.mem_append.2 (.inl (List.mem_map.2 ⟨j * k.sz + i, List.mem_range.2 ?_, by rw [Nat.add_assoc]⟩)))⟩, ?_⟩
        · have hjl : j < len := by rw [← hxl]; exact (List.getElem?_eq_some_iff.1 hj).1
          rw [hc]
          exact Nat.lt_of_lt_of_le (Nat.add_lt_add_left hil _) (Nat.le_trans (Nat.le_of_eq (Nat.succ_mul j k.sz).symm) (Nat.mul_le_mul_right _ (by omega)))
        have := h3 i v hv
        rwa [addr_add hspot, addr_add rfl] at this
      · have h6 := sum_range (f := bk k) (g := fun i => μ (D i)) (fun i x hi => (hxs i x hi).2)
        rw [hxl] at h6
        have h7 := hμ.sl ((List.range len).map D) ((List.range (m - len)).map fun j => D (len + j))
        rw [List.map_map] at h7
        have h8 : ((List.range len).map (μ ∘ D)).sum = ((List.range len).map fun i => μ (D i)).sum := rfl
        show List.length (α := k.V) xs + (List.map (bk k) xs).sum + 1 ≤ _
        omega
  · intro t fs k ht hc _ ih fuel cs d p hd hfz hw
    obtain ⟨xs, n, _, hx, hl, hlen, hf⟩ := DataW.trod_struct ht hd
    cases hx
    rw [DataW.weights, ht] at hw
    obtain ⟨x, hx1, hx2⟩ := ih n cs xs (by rw [hl, hc]; omega) (fun i f hi => hf i f (by rw [← Array.getElem?_toList]; exact hi)) (by rw [hlen]; rfl) (fun x hx b o hbo => hfz b o (List.mem_flatMap.2 ⟨x, hx, hbo⟩)) hw
    exact ⟨x, hx1, Nat.le_trans hx2 (Nat.le_trans (Nat.le_succ _) (hμ.ag _))⟩
  · intro f off k ho hc _ ih fuel cs xs hl hf hlen hfz hw
    subst ho
    match xs, hlen with
    | [(d, p)], _ =>
      have h1 := hf 0 f rfl
      rw [List.take_of_length_le (by rw [List.length_drop, hc]; omega)] at h1
      obtain ⟨x, hx1, hx2⟩ := ih fuel _ d p h1 (hfz _ (List.mem_cons_self ..)) (by simpa [DataW.weightsEach] using hw)
      exact ⟨x, hx1, by simpa using hx2⟩
  · intro f fs off a b ho hc _ _ iha ihb fuel cs xs hl hf hlen hfz hw
    subst ho
    have hl' : cs.length = f.offset + (a.sz + b.sz) := hl
    match xs, hlen with
    | (d, p) :: xs, hlen =>
      have h1 := hf 0 f rfl
      have hw' : (d.weights P f.type ++ DataW.weightsEach P (fs.map (·.type)) (xs.map (·.1))).all (· ≤ reachBytes) = true := hw
      obtain ⟨hw1, hw2⟩ := all_append hw'
      obtain ⟨x, hx, hbx⟩ := iha fuel _ d p h1 (hfz _ (List.mem_cons_self ..)) hw1
      obtain ⟨y, hy, hby⟩ := ihb fuel cs xs (by omega) (fun i g hg => hf (i + 1) g hg) (by simpa using hlen) (fun x hx => hfz x (List.mem_cons_of_mem _ hx)) hw2
      refine ⟨(x, y), ⟨_, _, ?_, hx, hy⟩, ?_⟩
      · rw [hc, ← List.drop_drop, List.take_append_drop]
      · show bk a x + bk b y + 1 ≤ _
        rw [List.map_cons, List.map_cons, List.sum_cons]
        have h5 : bk a x + 1 ≤ μ d := hbx
        have h6 : bk b y + 1 ≤ ((xs.map (·.1)).map μ).sum := hby
        have h7 : μ (d, p).1 = μ d := rfl
        omega
end
end Go.Proofs.Ytkfmlekomfnleaa
