/- The runner for closed calls: a statement in open order: its operations in whatever order. Conditions: none. -/
import Derived.Test.YtbcdgcodnkgdoaaGreatRu14
set_option linter.unusedVariables false
set_option linter.unusedSimpArgs false
set_option maxRecDepth 10000
namespace Go.Proofs.YtbcdgcodnkgdoaaGreat.Run
open Go Go.RowKit

/-! ### what is known when some have been done -/
def ff (L : Nat → Bool) : Nat → (Nat → Option V) → List Ev → (Nat → Option V)
  | _, g, [] => g
  | i, g, e :: r => ff L (i + 1) (if L i then (fun t => if e.g.o.dst = some t then some e.v else g t) else g) r
noncomputable def gf (L : Nat → Bool) : Nat → (Nat → Option B) → List Ev → (Nat → Option B)
  | _, g, [] => g
  | i, g, e :: r => gf L (i + 1) (if L i then (if e.tch then e.h'.get else if e.g.k = 2 ∧ e.b = true then (fun k => if k = e.h.n then some e.blk else g k) else g) else g) r
def htf (L : Nat → Bool) : Nat → Hp → List Ev → Hp
  | _, h, [] => h
  | i, h, e :: r => htf L (i + 1) (if L i then (if e.tch then e.h' else h) else h) r
def df (L : Nat → Bool) : Nat → List Df → List Ev → List Df
  | _, d, [] => d
  | i, d, e :: r => df L (i + 1) (if L i then (if e.tch then e.ds' else d) else d) r
theorem ff_app {L : Nat → Bool} {l : List Ev} : ∀ {m : List Ev} {i : Nat} {g : Nat → Option V}, ff L i g (m ++ l) = ff L (i + m.length) (ff L i g m) l := by
  intro m
  induction m with
  | nil => intro i g; rfl
  | cons e m ih => intro i g; simp only [List.cons_append, ff, ih, List.length_cons]; rw [show i + 1 + m.length = i + (m.length + 1) by omega]
theorem gf_app {L : Nat → Bool} {l : List Ev} : ∀ {m : List Ev} {i : Nat} {g : Nat → Option B}, gf L i g (m ++ l) = gf L (i + m.length) (gf L i g m) l := by
  intro m
  induction m with
  | nil => intro i g; rfl
  | cons e m ih => intro i g; simp only [List.cons_append, gf, ih, List.length_cons]; rw [show i + 1 + m.length = i + (m.length + 1) by omega]
theorem htf_app {L : Nat → Bool} {l : List Ev} : ∀ {m : List Ev} {i : Nat} {g : Hp}, htf L i g (m ++ l) = htf L (i + m.length) (htf L i g m) l := by
  intro m
  induction m with
  | nil => intro i g; rfl
  | cons e m ih => intro i g; simp only [List.cons_append, htf, ih, List.length_cons]; rw [show i + 1 + m.length = i + (m.length + 1) by omega]
theorem df_app {L : Nat → Bool} {l : List Ev} : ∀ {m : List Ev} {i : Nat} {g : List Df}, df L i g (m ++ l) = df L (i + m.length) (df L i g m) l := by
  intro m
  induction m with
  | nil => intro i g; rfl
  | cons e m ih => intro i g; simp only [List.cons_append, df, ih, List.length_cons]; rw [show i + 1 + m.length = i + (m.length + 1) by omega]
theorem f_congr {L L' : Nat → Bool} : ∀ {l : List Ev} {i : Nat}, (∀ j, j < l.length → L (i + j) = L' (i + j)) → (∀ g, ff L i g l = ff L' i g l) ∧ (∀ g, gf L i g l = gf L' i g l) ∧ (∀ g, htf L i g l = htf L' i g l) ∧ (∀ g, df L i g l = df L' i g l) := by
  intro l
  induction l with
  | nil => intro i _; exact ⟨fun _ => rfl, fun _ => rfl, fun _ => rfl, fun _ => rfl⟩
  | cons e l ih =>
    intro i h
    have h0 := h 0 (by simp)
    simp only [Nat.add_zero] at h0
    obtain ⟨a, b, c, d⟩ := ih (i := i + 1) (fun j hj => by have := h (j + 1) (by simp; omega); rwa [show i + (j + 1) = i + 1 + j by omega] at this)
    exact ⟨fun g => by simp only [ff, h0, a], fun g => by simp only [gf, h0, b], fun g => by simp only [htf, h0, c], fun g => by simp only [df, h0, d]⟩
/-! ### in order -/
section
variable {cf : CF} {rc : RC} {rnd : Bool} {N : Nat}
theorem own_plain {e : Ev} (o : Own cf rc rnd N e) (h : e.tch = false) : e.ds' = e.ds ∧ (e.g.k = 2 ∧ e.b = true ∨ e.h' = e.h) := by
  have hk : e.g.k ≤ 2 := by
    rcases Nat.lt_or_ge e.g.k 3 with h1 | h1
    · omega
    · exfalso
      have : e.tch = true := by simpa [Ev.tch, Nat.ble_eq] using h1
      rw [this] at h; cases h
  cases hb : e.b with
  | false => have := o.no hb; exact ⟨this.2.2, .inr this.2.1⟩
  | true =>
    rcases (show e.g.k ≤ 1 ∨ e.g.k = 2 by omega) with h1 | h1
    · have := o.c1 h1 hb; exact ⟨this.2.1, .inr this.1⟩
    · exact ⟨(o.c2 h1 hb).2.1, .inl ⟨h1, rfl⟩⟩
theorem Lnk.split {e : Ev} {B : List Ev} : ∀ {A : List Ev} {fr h ht ds out}, Lnk cf rc rnd N fr h ht ds (A ++ e :: B) out → ∃ m : T V × Hp × Hp × List Df, Lnk cf rc rnd N fr h ht ds A m ∧ Lnk cf rc rnd N m.1 m.2.1 m.2.2.1 m.2.2.2 (e :: B) out := by
  intro A
  induction A with
  | nil => intro fr h ht ds out hl; exact ⟨(fr, h, ht, ds), rfl, hl⟩
  | cons x A ih =>
    intro fr h ht ds out hl
    obtain ⟨a, b, c, d, o, fr', p, hl⟩ := hl
    obtain ⟨m, h1, h2⟩ := ih hl
    exact ⟨m, ⟨a, b, c, d, o, fr', p, h1⟩, h2⟩
theorem canon_fr {L : Nat → Bool} {t : Nat} : ∀ {l : List Ev} {fr h ht ds out} {i : Nat} {g : Nat → Option V}, Lnk cf rc rnd N fr h ht ds l out → (∀ v, fget N fr t = some v → g t = some v) → (∀ j e, l[j]? = some e → e.g.o.dst = some t → L (i + j) = true) →
    ∀ v, fget N out.1 t = some v → ff L i g l t = some v := by
  intro l
  induction l with
  | nil => intro fr h ht ds out i g hl hg _ v hv; obtain rfl : out = _ := hl; exact hg v hv
  | cons e l ih =>
    intro fr h ht ds out i g hl hg hL v hv
    obtain ⟨a, b, c, d, o, fr', p, hl⟩ := hl
    refine ih hl (fun u hu => ?_) (fun j e' he hd => by have := hL (j + 1) e' (by simpa using he) hd; rwa [show i + (j + 1) = i + 1 + j by omega] at this) v hv
    rcases putD_ok p with ⟨hd, rfl⟩ | ⟨k, hd, hk, rfl⟩
    · have : (if L i = true then (fun t => if e.g.o.dst = some t then some e.v else g t) else g) t = g t := by
        split
        · show (if e.g.o.dst = some t then some e.v else g t) = g t
          rw [if_neg (by rw [hd]; simp)]
        · rfl
      rw [this]; exact hg u hu
    · rcases fget_set hk hu with ⟨rfl, rfl⟩ | ⟨hne, hu⟩
      · have h0 := hL 0 e (by simp) hd
        simp only [Nat.add_zero] at h0
        rw [if_pos h0]
        show (if e.g.o.dst = some t then some e.v else g t) = _
        rw [if_pos hd]
      · have : (if L i = true then (fun t => if e.g.o.dst = some t then some e.v else g t) else g) t = g t := by
          split
          · show (if e.g.o.dst = some t then some e.v else g t) = g t
            rw [if_neg (by rw [hd]; intro hh; exact hne (Option.some.inj hh).symm)]
          · rfl
        rw [this]; exact hg u hu
theorem canon_ht {L : Nat → Bool} : ∀ {l : List Ev} {fr h ht ds out} {i : Nat}, Lnk cf rc rnd N fr h ht ds l out → (∀ j e, l[j]? = some e → e.tch = true → L (i + j) = true) → htf L i ht l = out.2.2.1 ∧ df L i ds l = out.2.2.2 := by
  intro l
  induction l with
  | nil => intro fr h ht ds out i hl _; obtain rfl : out = _ := hl; exact ⟨rfl, rfl⟩
  | cons e l ih =>
    intro fr h ht ds out i hl hL
    obtain ⟨a, b, c, d, o, fr', p, hl⟩ := hl
    have := ih (i := i + 1) hl (fun j e' he ht => by have := hL (j + 1) e' (by simpa using he) ht; rwa [show i + (j + 1) = i + 1 + j by omega] at this)
    rw [← this.1, ← this.2]
    simp only [htf, df]
    cases ht' : e.tch with
    | true =>
      have h0 := hL 0 e (by simp) ht'
      simp only [Nat.add_zero] at h0
      simp [h0]
    | false =>
      have hds := (own_plain o ht').1
      rw [hds, d]
      simp
theorem canon_g {L : Nat → Bool} : ∀ {l : List Ev} {fr h ht ds out} {i : Nat} {g : Nat → Option B}, Lnk cf rc rnd N fr h ht ds l out → (∀ k b, h.get k = some b → g k = some b) → (∀ j e, l[j]? = some e → (e.tch = true ∨ e.g.k = 2) → L (i + j) = true) →
    ∀ k b, out.2.1.get k = some b → gf L i g l k = some b := by
  intro l
  induction l with
  | nil => intro fr h ht ds out i g hl hg _ k b hv; obtain rfl : out = _ := hl; exact hg k b hv
  | cons e l ih =>
    intro fr h ht ds out i g hl hg hL k b hv
    obtain ⟨a, b', c, d, o, fr', p, hl⟩ := hl
    refine ih hl (fun k b hb => ?_) (fun j e' he hd => by have := hL (j + 1) e' (by simpa using he) hd; rwa [show i + (j + 1) = i + 1 + j by omega] at this) k b hv
    cases ht' : e.tch with
    | true =>
      have h0 := hL 0 e (by simp) (.inl ht')
      simp only [Nat.add_zero] at h0
      simp only [h0, if_true]; exact hb
    | false =>
      rcases (own_plain o ht').2 with ⟨h2, h3⟩ | h4
      · have h0 := hL 0 e (by simp) (.inr h2)
        simp only [Nat.add_zero] at h0
        simp only [h0, if_true, h2, h3, and_self, Bool.false_eq_true, if_false]
        rw [(o.c2 h2 h3).1] at hb
        rcases Hp.get_new hb with ⟨h5, h6⟩ | ⟨h5, h6⟩
        · rw [if_pos h5, h6]
        · rw [if_neg h5]; rw [b'] at h6; exact hg k b h6
      · rw [h4, b'] at hb
        have hgk := hg k b hb
        split
        · rw [if_neg (by simp)]
          split
          · rename_i h5
            exfalso
            have := (o.c2 h5.1 h5.2).1
            rw [h4] at this
            have hn := congrArg Hp.n this
            simp at hn
          · exact hgk
        · exact hgk
theorem seg_n : ∀ {l : List Ev} {fr h ht ds out}, Lnk cf rc rnd N fr h ht ds l out → (∀ (j : Nat) (e : Ev), l[j]? = some e → e.tch = false) → h.n ≤ out.2.1.n := by
  intro l
  induction l with
  | nil => intro fr h ht ds out hl _; obtain rfl : out = _ := hl; exact Nat.le_refl _
  | cons e l ih =>
    intro fr h ht ds out hl hn
    obtain ⟨a, b, c, d, o, fr', p, hl⟩ := hl
    refine Nat.le_trans ?_ (ih hl (fun j e' he => hn (j + 1) e' (by simpa using he)))
    rcases (own_plain o (hn 0 e (by simp))).2 with ⟨h2, h3⟩ | h4
    · rw [(o.c2 h2 h3).1, b]; simp
    · rw [h4, b]; exact Nat.le_refl _
theorem ht_n : ∀ {l : List Ev} {fr h ht ds out}, Lnk cf rc rnd N fr h ht ds l out → ht.n ≤ h.n → out.2.2.1.n ≤ out.2.1.n := by
  intro l
  induction l with
  | nil => intro fr h ht ds out hl hle; obtain rfl : out = _ := hl; exact hle
  | cons e l ih =>
    intro fr h ht ds out hl hle
    obtain ⟨a, b, c, d, o, fr', p, hl⟩ := hl
    refine ih hl ?_
    cases ht' : e.tch with
    | true => simp
    | false =>
      simp only [Bool.false_eq_true, if_false]
      refine Nat.le_trans hle ?_
      rcases (own_plain o ht').2 with ⟨h2, h3⟩ | h4
      · rw [(o.c2 h2 h3).1, b]; simp
      · rw [h4, b]; exact Nat.le_refl _
/-- A block that was laid behind the last that touched has a name below the count. -/
theorem laid_n {l : List Ev} {fr h ht ds out} (hl : Lnk cf rc rnd N fr h ht ds l out) {j : Nat} {e : Ev} (he : l[j]? = some e) (hk : e.g.k = 2) (hb : e.b = true) (hn : ∀ (j' : Nat) (e' : Ev), j < j' → l[j']? = some e' → e'.tch = false) : e.h.n < out.2.1.n := by
  obtain ⟨hj, hg⟩ := List.getElem?_eq_some_iff.1 he
  have hsp : l = l.take j ++ e :: l.drop (j + 1) := by
    rw [← hg, List.getElem_cons_drop hj, List.take_append_drop]
  rw [hsp] at hl
  obtain ⟨m, h1, h2⟩ := hl.split
  obtain ⟨a, b, c, d, o, fr', p, h3⟩ := h2
  have := seg_n h3 (fun j' e' he' => hn (j + 1 + j') e' (by omega) (by rw [List.getElem?_drop] at he'; exact he'))
  rw [(o.c2 hk hb).1] at this
  simp at this
  omega
end
/-! ### when nothing is done -/
theorem htf_none {L : Nat → Bool} : ∀ {l : List Ev} {i : Nat} {g : Hp}, (∀ j e, l[j]? = some e → e.tch = true → L (i + j) = false) → htf L i g l = g := by
  intro l
  induction l with
  | nil => intro i g _; rfl
  | cons e l ih =>
    intro i g h
    simp only [htf]
    rw [ih (fun j e' he ht => by have := h (j + 1) e' (by simpa using he) ht; rwa [show i + (j + 1) = i + 1 + j by omega] at this)]
    cases ht : e.tch with
    | true => have h0 := h 0 e (by simp) ht; simp only [Nat.add_zero] at h0; simp [h0]
    | false => simp
theorem df_none {L : Nat → Bool} : ∀ {l : List Ev} {i : Nat} {g : List Df}, (∀ j e, l[j]? = some e → e.tch = true → L (i + j) = false) → df L i g l = g := by
  intro l
  induction l with
  | nil => intro i g _; rfl
  | cons e l ih =>
    intro i g h
    simp only [df]
    rw [ih (fun j e' he ht => by have := h (j + 1) e' (by simpa using he) ht; rwa [show i + (j + 1) = i + 1 + j by omega] at this)]
    cases ht : e.tch with
    | true => have h0 := h 0 e (by simp) ht; simp only [Nat.add_zero] at h0; simp [h0]
    | false => simp
theorem gf_none {L : Nat → Bool} : ∀ {l : List Ev} {i : Nat} {g : Nat → Option B}, (∀ j e, l[j]? = some e → (e.tch = true ∨ e.g.k = 2) → L (i + j) = false) → gf L i g l = g := by
  intro l
  induction l with
  | nil => intro i g _; rfl
  | cons e l ih =>
    intro i g h
    simp only [gf]
    rw [ih (fun j e' he ht => by have := h (j + 1) e' (by simpa using he) ht; rwa [show i + (j + 1) = i + 1 + j by omega] at this)]
    cases hL : L i with
    | false => simp
    | true =>
      have h1 : e.tch = false := by
        cases ht : e.tch with
        | true => have h0 := h 0 e (by simp) (.inl ht); simp only [Nat.add_zero] at h0; rw [hL] at h0; cases h0
        | false => rfl
      have h2 : ¬ e.g.k = 2 := fun hk => by have h0 := h 0 e (by simp) (.inr hk); simp only [Nat.add_zero] at h0; rw [hL] at h0; cases h0
      simp [h1, h2]
theorem gf_upd {L : Nat → Bool} {n : Nat} {b : B} : ∀ {l : List Ev} {i : Nat} {g : Nat → Option B}, (∀ j e, l[j]? = some e → L (i + j) = true → e.tch = false ∧ (e.g.k = 2 → e.b = true → e.h.n ≠ n)) →
    ∀ k c, gf L i (fun k => if k = n then some b else g k) l k = some c → (k = n ∧ c = b) ∨ (k ≠ n ∧ gf L i g l k = some c) := by
  intro l
  induction l with
  | nil =>
    intro i g _ k c h
    simp only [gf] at h ⊢
    by_cases hk : k = n
    · rw [if_pos hk] at h; exact .inl ⟨hk, (Option.some.inj h).symm⟩
    · rw [if_neg hk] at h; exact .inr ⟨hk, h⟩
  | cons e l ih =>
    intro i g hL k c h
    have hL' : ∀ j e', l[j]? = some e' → L (i + 1 + j) = true → e'.tch = false ∧ (e'.g.k = 2 → e'.b = true → e'.h.n ≠ n) := fun j e' he hh => hL (j + 1) e' (by simpa using he) (by rwa [show i + (j + 1) = i + 1 + j by omega])
    simp only [gf] at h ⊢
    cases hLi : L i with
    | false => simp only [hLi, Bool.false_eq_true, if_false] at h ⊢; exact ih hL' k c h
    | true =>
      obtain ⟨h1, h2⟩ := hL 0 e (by simp) (by simpa using hLi)
      simp only [hLi, if_true, h1, Bool.false_eq_true, if_false] at h ⊢
      by_cases hk : e.g.k = 2 ∧ e.b = true
      · simp only [hk, and_self, if_true] at h ⊢
        have hne := h2 hk.1 hk.2
        have : (fun k => if k = e.h.n then some e.blk else if k = n then some b else g k) = (fun k => if k = n then some b else if k = e.h.n then some e.blk else g k) := by
          funext k
          by_cases h3 : k = e.h.n <;> by_cases h4 : k = n
          · exfalso; exact hne (h3 ▸ h4)
          · simp [h3]; intro h; exact absurd h hne
          · simp [h4]; intro h; exact absurd h.symm hne
          · simp [h3, h4]
        rw [this] at h
        exact ih hL' k c h
      · rw [if_neg hk] at h ⊢
        exact ih hL' k c h
theorem ff_at {L : Nat → Bool} {t : Nat} : ∀ {l : List Ev} {i : Nat} {g : Nat → Option V}, (∀ j e, l[j]? = some e → e.g.o.dst = some t → L (i + j) = false) → ff L i g l t = g t := by
  intro l
  induction l with
  | nil => intro i g _; rfl
  | cons e l ih =>
    intro i g h
    simp only [ff]
    rw [ih (fun j e' he ht => by have := h (j + 1) e' (by simpa using he) ht; rwa [show i + (j + 1) = i + 1 + j by omega] at this)]
    by_cases hd : e.g.o.dst = some t
    · have h0 := h 0 e (by simp) hd; simp only [Nat.add_zero] at h0; simp [h0]
    · split
      · show (if e.g.o.dst = some t then some e.v else g t) = g t
        rw [if_neg hd]
      · rfl
theorem ff_point {L : Nat → Bool} {t : Nat} : ∀ {l : List Ev} {i : Nat} {g g' : Nat → Option V}, g t = g' t → ff L i g l t = ff L i g' l t := by
  intro l
  induction l with
  | nil => intro i g g' h; exact h
  | cons e l ih =>
    intro i g g' h
    simp only [ff]
    refine ih ?_
    split
    · show (if _ then _ else _) = (if _ then _ else _)
      rw [h]
    · exact h
theorem htf_last {L : Nat → Bool} : ∀ {l : List Ev} {i : Nat} {g : Hp}, htf L i g l = g ∧ (∀ j e, l[j]? = some e → e.tch = true → L (i + j) = false) ∨ ∃ j e, l[j]? = some e ∧ e.tch = true ∧ L (i + j) = true ∧ htf L i g l = e.h' := by
  intro l
  induction l with
  | nil => intro i g; exact .inl ⟨rfl, fun j e h => by simp at h⟩
  | cons e l ih =>
    intro i g
    simp only [htf]
    rcases ih (i := i + 1) (g := if L i then (if e.tch then e.h' else g) else g) with ⟨h1, h2⟩ | ⟨j, e', h1, h2, h3, h4⟩
    · cases hL : L i with
      | false =>
        rw [hL] at h1
        refine .inl ⟨by simpa using h1, fun j e' he ht => ?_⟩
        cases j with
        | zero => simpa using hL
        | succ j => rw [show i + (j + 1) = i + 1 + j by omega]; exact h2 j e' (by simpa using he) ht
      | true =>
        cases ht : e.tch with
        | true => rw [hL, ht] at h1; exact .inr ⟨0, e, by simp, ht, by simpa using hL, by simpa using h1⟩
        | false =>
          rw [hL, ht] at h1
          refine .inl ⟨by simpa using h1, fun j e' he ht' => ?_⟩
          cases j with
          | zero => simp at he; subst he; rw [ht] at ht'; cases ht'
          | succ j => rw [show i + (j + 1) = i + 1 + j by omega]; exact h2 j e' (by simpa using he) ht'
    · exact .inr ⟨j + 1, e', by simpa using h1, h2, by rw [show i + (j + 1) = i + 1 + j by omega]; exact h3, h4⟩
/-- The memory behind the last that has touched is what lies ahead of the next, or of what is behind all. -/
theorem htf_next {cf : CF} {rc : RC} {rnd : Bool} {N : Nat} {L : Nat → Bool} : ∀ {l : List Ev} {fr h ht ds out} {i : Nat}, Lnk cf rc rnd N fr h ht ds l out → (∀ j j' a c, j < j' → l[j]? = some a → l[j']? = some c → a.tch = true → c.tch = true → L (i + j') = true → L (i + j) = true) →
    htf L i ht l = out.2.2.1 ∨ ∃ j e, l[j]? = some e ∧ e.tch = true ∧ L (i + j) = false ∧ e.ht = htf L i ht l := by
  intro l
  induction l with
  | nil => intro fr h ht ds out i hl _; obtain rfl : out = _ := hl; exact .inl rfl
  | cons e l ih =>
    intro fr h ht ds out i hl hc
    obtain ⟨a, b, c, d, o, fr', p, hl⟩ := hl
    have hc' : ∀ j j' a c, j < j' → l[j]? = some a → l[j']? = some c → a.tch = true → c.tch = true → L (i + 1 + j') = true → L (i + 1 + j) = true := fun j j' a c h1 h2 h3 h4 h5 h6 => by
      have := hc (j + 1) (j' + 1) a c (by omega) (by simpa using h2) (by simpa using h3) h4 h5 (by rwa [show i + (j' + 1) = i + 1 + j' by omega])
      rwa [show i + (j + 1) = i + 1 + j by omega] at this
    simp only [htf]
    cases ht' : e.tch with
    | true =>
      cases hL : L i with
      | true =>
        simp only [if_true]
        rw [ht', if_pos rfl] at hl
        rcases ih (i := i + 1) hl hc' with h1 | ⟨j, e', h1, h2, h3, h4⟩
        · exact .inl h1
        · exact .inr ⟨j + 1, e', by simpa using h1, h2, by rw [show i + (j + 1) = i + 1 + j by omega]; exact h3, h4⟩
      | false =>
        simp only [Bool.false_eq_true, if_false]
        refine .inr ⟨0, e, by simp, ht', by simpa using hL, ?_⟩
        rw [htf_none (fun j e' he ht'' => ?_)]
        · exact c
        · cases hh : L (i + 1 + j) with
          | false => rfl
          | true =>
            have := hc 0 (j + 1) e e' (by omega) (by simp) (by simpa using he) ht' ht'' (by rwa [show i + (j + 1) = i + 1 + j by omega])
            simp only [Nat.add_zero] at this
            rw [hL] at this; cases this
    | false =>
      simp only [Bool.false_eq_true, if_false]
      rw [ht', if_neg (by simp)] at hl
      have : (if L i = true then ht else ht) = ht := by split <;> rfl
      rw [this]
      rcases ih (i := i + 1) hl hc' with h1 | ⟨j, e', h1, h2, h3, h4⟩
      · exact .inl h1
      · exact .inr ⟨j + 1, e', by simpa using h1, h2, by rw [show i + (j + 1) = i + 1 + j by omega]; exact h3, h4⟩
end Go.Proofs.YtbcdgcodnkgdoaaGreat.Run
