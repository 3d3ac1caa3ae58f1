/- The runner for closed calls: what its tables say of the heap, and how that is kept. Conditions: none. -/
import Derived.Test.YtbcdgcodnkgdoaaGreatRu1
set_option linter.unusedVariables false
set_option linter.unusedSimpArgs false
namespace Go.Proofs.YtbcdgcodnkgdoaaGreat.Run
open Go Go.RowKit

def fzOk (fz : Nat × Nat) (n : Nat) : Prop := fz.1 = fz.2 ∨ n ≤ fz.1
structure FrR (σ : Sg) (N : Nat) (fr : T V) (tmps : Array Value) : Prop where
  size : tmps.size = N
  at_ : ∀ k v, fget N fr k = some v → ∃ x, den σ v = some x ∧ tmps[k]? = some x
theorem FrR.mono {σ τ : Sg} {N : Nat} {fr : T V} {tmps : Array Value} (h : FrR σ N fr tmps) (le : σ.le τ) : FrR τ N fr tmps :=
  ⟨h.size, fun k v hk => let ⟨x, h1, h2⟩ := h.at_ k v hk; ⟨x, den_mono le v x h1, h2⟩⟩
theorem FrR.put {σ : Sg} {N : Nat} {fr : T V} {tmps : Array Value} (h : FrR σ N fr tmps) {d : Nat} {v : V} {x : Value} (hd : d < N) (hv : den σ v = some x) : FrR σ N (fset N fr d v) (tmps.setIfInBounds d x) := by
  refine ⟨by simp [h.size], fun k u hk => ?_⟩
  rcases fget_set hd hk with ⟨rfl, rfl⟩ | ⟨hne, hk⟩
  · exact ⟨x, hv, by simp [h.size, hd]⟩
  · obtain ⟨y, h1, h2⟩ := h.at_ k u hk
    exact ⟨y, h1, by rw [Array.getElem?_setIfInBounds_ne (Ne.symm hne)]; exact h2⟩
def ents (σ : Sg) : List (V × V) → List MapEntry → Prop
  | [], [] => True
  | e :: r, m :: q => den σ e.1 = some m.key ∧ den σ e.2 = some m.val ∧ ents σ r q
  | _, _ => False
theorem ents.mono {σ τ : Sg} (le : σ.le τ) : ∀ {es : List (V × V)} {ms : List MapEntry}, ents σ es ms → ents τ es ms := by
  intro es
  induction es with
  | nil => intro ms h; cases ms <;> exact h
  | cons e r ih =>
    intro ms h
    cases ms with
    | nil => exact h.elim
    | cons m q => exact ⟨den_mono le _ _ h.1, den_mono le _ _ h.2.1, ih h.2.2⟩
def obj (σ : Sg) : B → Nat × Nat → Obj → Prop
  | .cells c t, q, o => ∃ c' fz, denL σ c = some c' ∧ o = .cells c'.toArray t fz ∧ fzOk fz c'.length ∧ q.2 = c.length
  | .buf c t, q, o => ∃ c' rest fz sz, szt t = some sz ∧ denL σ c = some c' ∧ o = .cells (c' ++ rest).toArray t fz ∧ fzOk fz (c' ++ rest).length ∧ (c' ++ rest).length = q.2 * sz ∧ q.2 ≤ maxN
  | .map es, q, o => ∃ ms clock, ents σ es ms ∧ o = .map ms.toArray clock
  | .loop ready fr N ps asg body _ d, q, o => ∃ tmps dq fn, FrR σ N fr tmps ∧ σ d = some dq ∧ o = .loop { state := if ready then .ready else .busy, pending := none, fn := fn, tmps := tmps, params := ps.toArray, assign := asg, body := body, defers := dq.1 }
  | .dfr, q, o => o = .deferred (some [])
theorem obj.mono {σ τ : Sg} (le : σ.le τ) : ∀ {b : B} {q : Nat × Nat} {o : Obj}, obj σ b q o → obj τ b q o
  | .cells c t, q, o, ⟨c', fz, h1, h2⟩ => ⟨c', fz, denL_mono le _ _ h1, h2⟩
  | .buf c t, q, o, ⟨c', rest, fz, sz, h0, h1, h2⟩ => ⟨c', rest, fz, sz, h0, denL_mono le _ _ h1, h2⟩
  | .map es, q, o, ⟨ms, clock, h1, h2⟩ => ⟨ms, clock, h1.mono le, h2⟩
  | .loop .., q, o, ⟨tmps, dq, fn, h1, h2, h3⟩ => ⟨tmps, dq, fn, h1.mono le, le _ _ h2, h3⟩
  | .dfr, q, o, h => h
structure DenG (w0 : World) (σ : Sg) (g : Nat → Option B) (w : World) : Prop where
  kp : Keeps No w0 w
  low : ∀ k q, σ k = some q → w0.heap.size ≤ q.1 ∧ q.1 < w.heap.size
  obj : ∀ k b, g k = some b → ∃ q o, σ k = some q ∧ w.heap[q.1]? = some o ∧ Run.obj σ b q o
  inj : ∀ j k a b q r, g j = some a → g k = some b → σ j = some q → σ k = some r → q.1 = r.1 → j = k
structure Den (w0 : World) (σ : Sg) (h : Hp) (w : World) : Prop where
  g : DenG w0 σ h.get w
  up : ∀ k, h.n ≤ k → σ k = none
theorem DenG.sub {w0 w : World} {σ : Sg} {g g' : Nat → Option B} (H : DenG w0 σ g w) (hs : ∀ k b, g' k = some b → g k = some b) : DenG w0 σ g' w :=
  ⟨H.kp, H.low, fun k b hk => H.obj k b (hs k b hk), fun j k a b q r hj hk => H.inj j k a b q r (hs _ _ hj) (hs _ _ hk)⟩

/-- All is as it was, but for one block of one's own. -/
structure Turns (w w' : World) (b : Nat) (o : Obj) : Prop where
  os : w'.os = w.os
  tape : w'.tape = w.tape
  output : w'.output = w.output
  size : w'.heap.size = w.heap.size
  at_ : w'.heap[b]? = some o
  block : ∀ i, i ≠ b → w'.heap[i]? = w.heap[i]?
theorem DenG.turn {w0 w w' : World} {σ : Sg} {g g' : Nat → Option B} {k : Nat} {b b' : B} {q : Nat × Nat} {o : Obj} (H : DenG w0 σ g w) (hk : g k = some b) (hq : σ k = some q) (ht : Turns w w' q.1 o) (ho : Run.obj σ b' q o)
    (hg : ∀ j c, g' j = some c → (j = k ∧ c = b') ∨ (j ≠ k ∧ g j = some c)) : DenG w0 σ g' w' := by
  have hlow := H.low k q hq
  refine ⟨⟨ht.os.trans H.kp.os, ht.tape.trans H.kp.tape, ht.output.trans H.kp.output, by rw [ht.size]; exact H.kp.size, fun i hi hn => by rw [ht.block i (by omega)]; exact H.kp.block i hi hn⟩, fun j r hr => by rw [ht.size]; exact H.low j r hr, fun j c hj => ?_, fun i j a c r s hi hj hr hs e => ?_⟩
  · rcases hg j c hj with ⟨rfl, rfl⟩ | ⟨hne, hj⟩
    · exact ⟨q, o, hq, ht.at_, ho⟩
    · obtain ⟨r, o', h1, h2, h3⟩ := H.obj j c hj
      refine ⟨r, o', h1, ?_, h3⟩
      rw [ht.block r.1 (fun e => hne (H.inj j k c b r q hj hk h1 hq e))]
      exact h2
  · have key : ∀ i a, g' i = some a → ∃ a', g i = some a' := fun i a hi => by
      rcases hg i a hi with ⟨rfl, _⟩ | ⟨_, hi⟩
      · exact ⟨b, hk⟩
      · exact ⟨a, hi⟩
    obtain ⟨a', ha⟩ := key i a hi
    obtain ⟨c', hc⟩ := key j c hj
    exact H.inj i j a' c' r s ha hc hr hs e
theorem Den.turn {w0 w w' : World} {σ : Sg} {h : Hp} {k : Nat} {b b' : B} {q : Nat × Nat} {o : Obj} (H : Den w0 σ h w) (hk : h.get k = some b) (hq : σ k = some q) (ht : Turns w w' q.1 o) (ho : Run.obj σ b' q o) : Den w0 σ (h.set k b') w' :=
  ⟨H.g.turn hk hq ht ho (fun _ _ => Hp.get_set), H.up⟩
theorem Den.del {w0 w : World} {σ : Sg} {h : Hp} (H : Den w0 σ h w) (k : Nat) : Den w0 σ (h.del k) w :=
  ⟨H.g.sub (fun j c hj => (Hp.get_del hj).2), H.up⟩
theorem DenG.drew {w0 w : World} {σ : Sg} {g : Nat → Option B} (H : DenG w0 σ g w) : DenG w0 σ g w.drew :=
  ⟨H.kp.trans (Keeps.drew No w) (fun _ hb => hb.elim), H.low, H.obj, H.inj⟩
theorem Den.drew {w0 w : World} {σ : Sg} {h : Hp} (H : Den w0 σ h w) : Den w0 σ h w.drew := ⟨H.g.drew, H.up⟩
theorem heap_alloc_old (w : World) (o : Obj) {i : Nat} (h : i < w.heap.size) : (w.alloc o).heap[i]? = w.heap[i]? := by
  show (w.heap.push o)[i]? = _
  rw [Array.getElem?_push]; simp [Nat.ne_of_lt h]
theorem heap_alloc_new (w : World) (o : Obj) : (w.alloc o).heap[w.heap.size]? = some o := by
  show (w.heap.push o)[w.heap.size]? = some o
  simp
theorem heap_alloc_size (w : World) (o : Obj) : (w.alloc o).heap.size = w.heap.size + 1 := by
  show (w.heap.push o).size = _
  simp
theorem DenG.new {w0 w : World} {σ : Sg} {g g' : Nat → Option B} {n : Nat} {b : B} {o : Obj} {cap : Nat} (H : DenG w0 σ g w) (hn : σ n = none) (ho : Run.obj (σ.add n (w.heap.size, cap)) b (w.heap.size, cap) o)
    (hg : ∀ j c, g' j = some c → (j = n ∧ c = b) ∨ (j ≠ n ∧ g j = some c)) : DenG w0 (σ.add n (w.heap.size, cap)) g' (w.alloc o) := by
  have le := Sg.le_add (q := (w.heap.size, cap)) hn
  have hsz := heap_alloc_size w o
  refine ⟨H.kp.trans (Keeps.alloc No w o) (fun _ hb => hb.elim), fun k q hq => ?_, fun j c hj => ?_, fun i j a c q r hi hj hq hr e => ?_⟩
  · unfold Sg.add at hq
    split at hq
    · obtain rfl := Option.some.inj hq
      exact ⟨H.kp.size, by rw [hsz]; exact Nat.lt_succ_self _⟩
    · have := H.low k q hq
      exact ⟨this.1, by rw [hsz]; omega⟩
  · rcases hg j c hj with ⟨rfl, rfl⟩ | ⟨hne, hj⟩
    · exact ⟨(w.heap.size, cap), o, Sg.add_self _ _ _, heap_alloc_new w o, ho⟩
    · obtain ⟨q, o', h1, h2, h3⟩ := H.obj j c hj
      exact ⟨q, o', le _ _ h1, by rw [heap_alloc_old w o (H.low j q h1).2]; exact h2, h3.mono le⟩
  · have key : ∀ i a q, g' i = some a → (σ.add n (w.heap.size, cap)) i = some q → (i = n ∧ q.1 = w.heap.size) ∨ (i ≠ n ∧ g i = some a ∧ σ i = some q ∧ q.1 < w.heap.size) := fun i a q hi hq => by
      rcases hg i a hi with ⟨rfl, rfl⟩ | ⟨hne, hi⟩
      · rw [Sg.add_self] at hq
        obtain rfl := Option.some.inj hq
        exact .inl ⟨rfl, rfl⟩
      · unfold Sg.add at hq
        rw [if_neg hne] at hq
        exact .inr ⟨hne, hi, hq, (H.low i q hq).2⟩
    rcases key i a q hi hq with ⟨h1, h2⟩ | ⟨h1, h2, h3, h4⟩ <;> rcases key j c r hj hr with ⟨k1, k2⟩ | ⟨k1, k2, k3, k4⟩
    · rw [h1, k1]
    · omega
    · omega
    · exact H.inj i j a c q r h2 k2 h3 k3 e
/-- A new block has the next name. -/
theorem Den.new {w0 w : World} {σ : Sg} {h : Hp} {b : B} {o : Obj} {cap : Nat} (H : Den w0 σ h w) (ho : Run.obj (σ.add h.n (w.heap.size, cap)) b (w.heap.size, cap) o) :
    σ.le (σ.add h.n (w.heap.size, cap)) ∧ Den w0 (σ.add h.n (w.heap.size, cap)) (h.new b) (w.alloc o) := by
  have hn : σ h.n = none := H.up h.n (Nat.le_refl _)
  refine ⟨Sg.le_add hn, H.g.new hn ho (fun _ _ => Hp.get_new), fun k hk => ?_⟩
  simp at hk
  unfold Sg.add
  rw [if_neg (by omega)]
  exact H.up k (by omega)

/-! ### rows -/
theorem row_of {h : Hp} {m : Nat} {c : List V} (e : h.row m = some c) : ∃ t, h.get m = some (.cells c t) ∨ h.get m = some (.buf c t) := by
  unfold Hp.row at e
  cases hg : h.get m with
  | none => rw [hg] at e; cases e
  | some b =>
    rw [hg] at e
    cases b with
    | cells d t => obtain rfl := Option.some.inj e; exact ⟨t, .inl rfl⟩
    | buf d t => obtain rfl := Option.some.inj e; exact ⟨t, .inr rfl⟩
    | map _ => cases e
    | loop => cases e
    | dfr => cases e
/-- A row as it lies there. -/
theorem DenG.row {w0 w : World} {σ : Sg} {h : Hp} {m : Nat} {c : List V} (H : DenG w0 σ h.get w) (e : h.row m = some c) :
    ∃ q c' rest t fz, σ m = some q ∧ denL σ c = some c' ∧ w.heap[q.1]? = some (.cells (c' ++ rest).toArray t fz) ∧ fzOk fz (c' ++ rest).length := by
  obtain ⟨t, hg | hg⟩ := row_of e
  · obtain ⟨q, o, h1, h2, c', fz, h3, rfl, h4, _⟩ := H.obj m _ hg
    exact ⟨q, c', [], t, fz, h1, h3, by simpa using h2, by simpa using h4⟩
  · obtain ⟨q, o, h1, h2, c', rest, fz, sz, _, h3, rfl, h4, _⟩ := H.obj m _ hg
    exact ⟨q, c', rest, t, fz, h1, h3, h2, h4⟩
theorem cell_row {w : World} {b : Nat} {l : List Value} {t : TypeId} {fz : Nat × Nat} (h : w.heap[b]? = some (.cells l.toArray t fz)) (o : Nat) : w.cell? ⟨b, o, none⟩ = l[o]? := by
  simp [World.cell?, h]
theorem cells_row {w : World} {b : Nat} {l r : List Value} {t : TypeId} {fz : Nat × Nat} (h : w.heap[b]? = some (.cells (l ++ r).toArray t fz)) (o : Nat) : CellsAt w b o (l.drop o) := fun i v hv => by
  rw [cell_row h, List.getElem?_append_left]
  · rw [List.getElem?_drop] at hv; exact hv
  · rw [List.getElem?_drop] at hv; exact (List.getElem?_eq_some_iff.1 hv).1
theorem unfrozen_row {w : World} {b : Nat} {l : List Value} {t : TypeId} {fz : Nat × Nat} (h : w.heap[b]? = some (.cells l.toArray t fz)) (hf : fzOk fz l.length) (o : Nat) (ho : o < l.length) : w.frozen? ⟨b, o, none⟩ = false := by
  simp only [World.frozen?, h]
  rcases hf with hf | hf
  · rw [Bool.and_eq_false_iff]
    by_cases h1 : fz.1 ≤ o
    · exact .inr (by simp; omega)
    · exact .inl (by simpa using h1)
  · rw [Bool.and_eq_false_iff]
    exact .inl (by simp; omega)
theorem heap_setCells {b : Nat} {t : TypeId} {fz : Nat × Nat} : ∀ (vs : List Value) (o : Nat) (w : World) (l : List Value), w.heap[b]? = some (.cells l.toArray t fz) → o + vs.length ≤ l.length →
    (w.setCells b o vs).heap[b]? = some (.cells (l.take o ++ vs ++ l.drop (o + vs.length)).toArray t fz) := by
  intro vs
  induction vs with
  | nil => intro o w l h _; simpa [World.setCells] using h
  | cons v vs ih =>
    intro o w l h hl
    simp only [List.length_cons] at hl
    have h1 : (w.setCell ⟨b, o, none⟩ v).heap[b]? = some (.cells (l.set o v).toArray t fz) := by simp [World.setCell, Array.getElem?_modify, h]
    rw [World.setCells, ih (o + 1) _ (l.set o v) h1 (by simp; omega)]
    congr 3
    rw [List.drop_set_of_lt (by omega), List.take_set, List.take_succ_eq_append_getElem (by omega), List.set_append_right _ _ (by simp; omega)]
    simp [Nat.min_eq_left (show o ≤ l.length by omega), Nat.add_assoc, Nat.add_comm 1]
theorem size_setCells' (b : Nat) : ∀ (vs : List Value) (o : Nat) (w : World), (w.setCells b o vs).heap.size = w.heap.size := by
  intro vs
  induction vs with
  | nil => intro o w; rfl
  | cons v vs ih => intro o w; rw [World.setCells, ih, heap_set_size]
theorem other_setCells (b : Nat) : ∀ (vs : List Value) (o : Nat) (w : World) (i : Nat), i ≠ b → (w.setCells b o vs).heap[i]? = w.heap[i]? := by
  intro vs
  induction vs with
  | nil => intro o w i _; rfl
  | cons v vs ih => intro o w i hi; rw [World.setCells, ih _ _ _ hi, heap_set_ne _ _ _ _ hi]
theorem quiet_setCells (b : Nat) : ∀ (vs : List Value) (o : Nat) (w : World), (w.setCells b o vs).os = w.os ∧ (w.setCells b o vs).tape = w.tape ∧ (w.setCells b o vs).output = w.output := by
  intro vs
  induction vs with
  | nil => intro o w; exact ⟨rfl, rfl, rfl⟩
  | cons v vs ih => intro o w; exact ih _ _
theorem turns_setCells {b : Nat} {t : TypeId} {fz : Nat × Nat} {vs : List Value} {o : Nat} {w : World} {l : List Value} (h : w.heap[b]? = some (.cells l.toArray t fz)) (hl : o + vs.length ≤ l.length) :
    Turns w (w.setCells b o vs) b (.cells (l.take o ++ vs ++ l.drop (o + vs.length)).toArray t fz) :=
  ⟨(quiet_setCells b vs o w).1, (quiet_setCells b vs o w).2.1, (quiet_setCells b vs o w).2.2, size_setCells' b vs o w, heap_setCells vs o w l h hl, other_setCells b vs o w⟩
/-- A row of one's own is written to. -/
theorem Den.write {w0 w : World} {σ : Sg} {h : Hp} {m o : Nat} {c vs : List V} {vs' : List Value} {q : Nat × Nat} (H : Den w0 σ h w) (e : h.row m = some c) (hq : σ m = some q) (hv : denL σ vs = some vs') (hl : o + vs.length ≤ c.length) :
    Den w0 σ (h.setRow m (over c o vs)) (w.setCells q.1 o vs') := by
  have hvl := denL_len hv
  obtain ⟨t, hg | hg⟩ := row_of e
  · obtain ⟨q', o', h1, h2, c', fz, h3, rfl, h4, h5⟩ := H.g.obj m _ hg
    rw [hq] at h1; obtain rfl := Option.some.inj h1
    have hcl := denL_len h3
    have hs : h.setRow m (over c o vs) = h.set m (.cells (over c o vs) t) := by unfold Hp.setRow; rw [hg]
    rw [hs]
    refine H.turn hg hq (turns_setCells h2 (by omega)) ⟨_, fz, denL_over hl h3 hv, rfl, ?_, by rw [over_length hl]; exact h5⟩
    have : (c'.take o ++ vs' ++ c'.drop (o + vs'.length)).length = c'.length := by simp; omega
    rw [this]; exact h4
  · obtain ⟨q', o', h1, h2, c', rest, fz, sz, h0, h3, rfl, h4, h5, h6⟩ := H.g.obj m _ hg
    rw [hq] at h1; obtain rfl := Option.some.inj h1
    have hcl := denL_len h3
    have hs : h.setRow m (over c o vs) = h.set m (.buf (over c o vs) t) := by unfold Hp.setRow; rw [hg]
    rw [hs]
    have e1 : (c' ++ rest).take o ++ vs' ++ (c' ++ rest).drop (o + vs'.length) = (c'.take o ++ vs' ++ c'.drop (o + vs'.length)) ++ rest := by
      rw [List.take_append_of_le_length (by omega), List.drop_append_of_le_length (by omega)]
      simp
    have e2 : (c'.take o ++ vs' ++ c'.drop (o + vs'.length)).length = c'.length := by simp; omega
    refine H.turn hg hq (turns_setCells h2 (by simp; omega)) ⟨_, rest, fz, sz, h0, denL_over hl h3 hv, by rw [e1], ?_, ?_, h6⟩
    · rw [List.length_append, e2, ← List.length_append]; exact h4
    · rw [List.length_append, e2, ← List.length_append]; exact h5
/-- It can be stored there. -/
theorem Den.stores {w0 w : World} {σ : Sg} {h : Hp} {m o : Nat} {c : List V} {vs' : List Value} {q : Nat × Nat} (H : Den w0 σ h w) (e : h.row m = some c) (hq : σ m = some q) (hl : o + vs'.length ≤ c.length) (h1 : ∀ x ∈ vs', x.oneCell' = true) :
    (storeCells ⟨q.1, o, none⟩ vs').run PG w = .ok () (w.setCells q.1 o vs') := by
  obtain ⟨q', c', rest, t, fz, h2, h3, h4, h5⟩ := H.g.row e
  rw [hq] at h2; obtain rfl := Option.some.inj h2
  have hcl := denL_len h3
  have := run_storeCells_cells (P := PG) q.1 o vs' 0 w (fun j hj => by rw [Nat.add_zero, cell_row h4]; simp; omega) (fun j hj => unfrozen_row h4 h5 _ (by simp; omega)) h1
  simpa using this
end Go.Proofs.YtbcdgcodnkgdoaaGreat.Run
