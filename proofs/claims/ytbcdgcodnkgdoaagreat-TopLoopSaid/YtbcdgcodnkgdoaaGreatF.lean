/- The calculus, sixth part: slices of one's own: literals, make, append, copy, loads and stores. Conditions: none; everything holds over any program. -/
import Derived.Test.YtbcdgcodnkgdoaaGreatD
set_option linter.unusedVariables false
set_option linter.unusedSimpArgs false
namespace Go.Proofs.YtbcdgcodnkgdoaaGreat
open Go Go.RowKit

theorem St.setrow {w0 w : World} {S : Nat → Prop} {pre r : List HP} {c d : HP} (h : St w0 S (pre ++ c :: r) w) {B : Nat} {cells : Array Value} (hB : ∀ F, c.p w F → F B) (hsz : B < w.heap.size)
    (hd : ∀ F, c.p w F → (∀ b, F b → b < w.heap.size) → d.p (w.setRow B cells) F) : St w0 S (pre ++ d :: r) (w.setRow B cells) := by
  obtain ⟨F, hF, hc, hr⟩ := Sep.pull h.sep
  have hs : (w.setRow B cells).heap.size = w.heap.size := by simp [World.setRow]
  have hne : ∀ i, i ≠ B → (w.setRow B cells).heap[i]? = w.heap[i]? := fun i hi => by simp [World.setRow, Array.getElem?_modify, Ne.symm hi]
  refine ⟨h.kp.trans (S2 := fun i => i = B) ⟨rfl, rfl, rfl, by rw [hs]; exact Nat.le_refl _, fun i _ hn => hne i hn⟩ (fun i hi => hi ▸ (hF B (hB F hc)).1), Sep.push ⟨F, fun b hb => ⟨(hF b hb).1, by rw [hs]; exact (hF b hb).2⟩, hd F hc (fun b hb => (hF b hb).2), ?_⟩⟩
  exact Sep.keep (fun i hi _ => hne i (fun e => hi.2 (e ▸ hB F hc))) (by rw [hs]; exact Nat.le_refl _) hr
theorem setRow_at {w : World} {B : Nat} {cells cells' : Array Value} {e : TypeId} {fr : Nat × Nat} (h : w.heap[B]? = some (.cells cells e fr)) : (w.setRow B cells').heap[B]? = some (.cells cells' e fr) := by
  simp [World.setRow, Array.getElem?_modify, h]
theorem flatten_len {es : List (List Value)} {sz : Nat} (h : ∀ x ∈ es, x.length = sz) : es.flatten.length = es.length * sz := by
  induction es with
  | nil => simp
  | cons x es ih => rw [List.flatten_cons, List.length_append, ih (fun y hy => h y (by simp [hy])), h x (by simp), List.length_cons, Nat.add_mul]; omega
theorem flatten_at {es : List (List Value)} {sz : Nat} (h : ∀ x ∈ es, x.length = sz) {i : Nat} {x : List Value} (hx : es[i]? = some x) {j : Nat} {v : Value} (hv : x[j]? = some v) : es.flatten[i * sz + j]? = some v := by
  induction es generalizing i with
  | nil => simp at hx
  | cons y es ih =>
    have hy : y.length = sz := h y (by simp)
    rw [List.flatten_cons]
    cases i with
    | zero =>
      simp at hx
      subst hx
      have := (List.getElem?_eq_some_iff.1 hv).1
      rw [Nat.zero_mul, Nat.zero_add, List.getElem?_append_left (by omega)]
      exact hv
    | succ i =>
      rw [List.getElem?_append_right (by rw [hy, Nat.add_mul]; omega), hy, show (i + 1) * sz + j - sz = i * sz + j from by rw [Nat.add_mul]; omega]
      exact ih (fun z hz => h z (by simp [hz])) (by simpa using hx)
/-- The shape of a slice of one's own. -/
theorem own_form {w0 w : World} {S : Nat → Prop} {pre r : List HP} {e : TypeId} {sz : Nat} {v : Value} {es : List (List Value)} (h : St w0 S (pre ++ ownHP e sz v es :: r) w) :
    (v = .slice none 0 0 ∧ es = []) ∨ ∃ B c, v = .slice (some ⟨B, 0, none⟩) es.length c ∧ es.length ≤ c ∧ c ≤ maxN ∧ (S B ∨ w0.heap.size ≤ B) ∧ (∀ x ∈ es, x.length = sz) := by
  obtain ⟨F, hp, hF⟩ := h.get
  rcases hp with hp | ⟨B, c, tl, h1, h2, h3, h4, h5, h6, h7⟩
  · exact .inl hp
  · exact .inr ⟨B, c, h1, h6, h7, (hF B h2).1, h4⟩
/-- Where its cells are. -/
theorem own_cells {w0 w : World} {S : Nat → Prop} {pre r : List HP} {e : TypeId} {sz B n c : Nat} {es : List (List Value)} (h : St w0 S (pre ++ ownHP e sz (.slice (some ⟨B, 0, none⟩) n c) es :: r) w) : CellsAt w B 0 es.flatten := by
  obtain ⟨F, hp, hF⟩ := h.get
  rcases hp with ⟨hp, _⟩ | ⟨B', c', tl, h1, h2, h3, h4⟩
  · cases hp
  · simp only [Value.slice.injEq, Option.some.injEq, Addr.mk.injEq] at h1
    obtain ⟨⟨rfl, _⟩, _, _⟩ := h1
    intro i v hv
    have := CellsAt.of_blk h3 i v (by rw [List.getElem?_append_left (List.getElem?_eq_some_iff.1 hv).1]; exact hv)
    exact this

section
variable {P : Program} {E : Env} {ops : Array Oper} {Q : Pst} {rest : List Oper} {G : List (Nat × Value)} {H : List HP}
variable {dst : Nat} {ty : TypeId} {pos : String} {af : Array Edge} {t tx ty' e : TypeId} {d d' : TypeDesc} {z z' : Value} {sz sz' by_ by' : Nat} {x y : Operand} {u v : Value} {a b c : Int} {k kk : IntKind}

/-! ### literals -/
def evp (G : List (Nat × Value)) : List (Nat × Operand) → Option (List (Nat × Value))
  | [] => some []
  | (i, x) :: r => match ev G x with
    | some v => match evp G r with
      | some vs => some ((i, v) :: vs)
      | none => none
    | none => none
theorem Fr.evalp {N : Nat} {ds : List Deferred} {a : Act} {G : List (Nat × Value)} (h : Fr N ds a G) : ∀ {l : List (Nat × Operand)} {vs : List (Nat × Value)}, evp G l = some vs → l.map (fun p => (p.1, a.eval p.2)) = vs := by
  intro l
  induction l with
  | nil => intro vs hv; simp [evp] at hv; simp [hv]
  | cons p r ih =>
    intro vs hv
    obtain ⟨i, x⟩ := p
    unfold evp at hv
    cases hx : ev G x with
    | none => rw [hx] at hv; cases hv
    | some v =>
      rw [hx] at hv
      cases hr : evp G r with
      | none => rw [hr] at hv; cases hv
      | some us =>
        rw [hr] at hv
        simp only [Option.some.injEq] at hv
        subst hv
        rw [List.map_cons, h.eval hx, ih hr]
theorem RW.buildSlice {n : Nat} {ps : List (Nat × Operand)} {vs : List (Nat × Value)} {c : List Value} (hp : evp G ps = some vs) (hrun : ∀ w, (Instr.buildSlice t n vs.toArray).run P w = .ok (.slice (some ⟨w.heap.size, 0, none⟩) n n) (w.alloc (.cells c.toArray e))) (hN : Nat.blt dst E.N = true)
    (kk : ∀ b, E.w0.heap.size ≤ b → RW P E ops Q rest ((dst, .slice (some ⟨b, 0, none⟩) n n) :: G) (blk b c e :: H)) : RW P E ops Q (⟨some dst, .buildSlice t n ps.toArray, ty, pos, af, none⟩ :: rest) G H :=
  RW.newblk (V := fun b => .slice (some ⟨b, 0, none⟩) n n) hN (fun a w hf _ => by
    have h := hf.evalp hp
    have h2 : ps.toArray.map (fun p => (p.1, a.eval p.2)) = vs.toArray := by rw [← h]; simp
    have h3 : (execOp a.eval ⟨some dst, .buildSlice t n ps.toArray, ty, pos, af, none⟩) = (do pure (.value (← Instr.buildSlice t n vs.toArray))) := by
      simp only [execOp]
      rw [← h2]
    rw [h3]
    simp only [Sem.run_bind, hrun, Result.andThen]
    rfl) kk
theorem RW.build {ps : List (Nat × Operand)} {vs : List (Nat × Value)} (hp : evp G ps = some vs) (hrun : ∀ w, (Instr.build t vs.toArray).run P w = .ok v w) (hN : Nat.blt dst E.N = true)
    (kk : RW P E ops Q rest ((dst, v) :: G) H) : RW P E ops Q (⟨some dst, .build t ps.toArray, ty, pos, af, none⟩ :: rest) G H :=
  RW.val hN (fun a w hf _ => by
    have h := hf.evalp hp
    have h2 : ps.toArray.map (fun p => (p.1, a.eval p.2)) = vs.toArray := by rw [← h]; simp
    have h3 : (execOp a.eval ⟨some dst, .build t ps.toArray, ty, pos, af, none⟩) = (do pure (.value (← Instr.build t vs.toArray))) := by
      simp only [execOp]
      rw [← h2]
    rw [h3]
    simp only [Sem.run_bind, hrun, Result.andThen]
    rfl) kk

/-! ### make -/
theorem made_flat (c : List Value) (n : Nat) : (Array.range (n * c.length)).map (fun i => c.toArray[i % c.length]!) = (List.replicate n c).flatten.toArray := by
  apply Array.ext'
  rw [Array.toList_map, Array.toList_range]
  apply List.ext_getElem?
  intro i
  by_cases h0 : c.length = 0
  · have : c = [] := List.eq_nil_of_length_eq_zero h0
    subst this
    have hf : (List.replicate n ([] : List Value)).flatten = [] := by induction n <;> simp_all [List.replicate_succ]
    simp [hf]
  · by_cases hi : i < n * c.length
    · have hq : i / c.length < n := by rw [Nat.div_lt_iff_lt_mul (by omega)]; exact hi
      have hr : i % c.length < c.length := Nat.mod_lt _ (by omega)
      have h1 : (List.replicate n c).flatten[i]? = some c[i % c.length] := by
        have := flatten_at (es := List.replicate n c) (sz := c.length) (by intro x hx; rw [List.eq_of_mem_replicate hx]) (i := i / c.length) (x := c) (by rw [List.getElem?_replicate, if_pos hq]) (j := i % c.length) (v := c[i % c.length]) (List.getElem?_eq_getElem hr)
        rwa [Nat.mul_comm, Nat.div_add_mod] at this
      rw [h1]
      simp [List.getElem?_map, List.getElem?_range hi, hr]
    · rw [List.getElem?_eq_none (by simp; omega), List.getElem?_eq_none (by rw [flatten_len (sz := c.length) (by intro x hx; rw [List.eq_of_mem_replicate hx])]; simp; omega)]
/-- make([]T, n). -/
theorem RW.make {n : Nat} {zc : List Value} [T : Ty P t (.slice e) z' sz' by'] [T2 : Ty P e d z sz by_] (hx : ev G x = some (.int k a)) (hy : ev G y = some (.int kk a)) (ha : a = n) (hz : z.cells = zc.toArray) (hs : zc.length = sz) (hn : n ≤ maxN) (hb : n * by_ ≤ 281474976710656) (hN : Nat.blt dst E.N = true)
    (kk' : ∀ B, RW P E ops Q rest ((dst, .slice (some ⟨B, 0, none⟩) n n) :: G) (ownHP e sz (.slice (some ⟨B, 0, none⟩) n n) (List.replicate n zc) :: H)) : RW P E ops Q (⟨some dst, .makeSlice t x y, ty, pos, af, none⟩ :: rest) G H :=
  RW.step rfl (fun f w hf hw => by
    subst ha
    obtain ⟨i, hi, hz', hs', hb'⟩ := T2.info
    have hfl : (List.replicate n zc).flatten.length = n * sz := by rw [flatten_len (sz := sz) (by intro x hx; rw [List.eq_of_mem_replicate hx]; exact hs)]; simp
    have hbi : (i.bytes : Int) * (n : Int) ≤ 281474976710656 := by
      rw [hb', ← Int.natCast_mul, Nat.mul_comm]
      omega
    have hn' : (n : Int) ≤ 9223372036854775807 := by unfold maxN at hn; omega
    have hm := run_make (P := P) w t e i z T.und hi hz' k kk (n : Int) (n : Int) (by omega) (by omega) hbi hn'
    have hcells : madeCells z.cells ((n : Int).toNat * i.size) = (List.replicate n zc).flatten.toArray := by
      rw [hs', hz, ← hs, Int.toNat_natCast]
      unfold madeCells
      by_cases h0 : n * zc.length = 0
      · have : (List.replicate n zc).flatten = [] := by
          apply List.eq_nil_of_length_eq_zero
          rw [hfl, ← hs]; exact h0
        rw [this]
        simp [h0]
      · simpa using made_flat zc n
    rw [hcells] at hm
    have hrun : (execOp f.eval ⟨some dst, .makeSlice t x y, ty, pos, af, none⟩).run P w = .ok (.value (.slice (some ⟨w.heap.size, 0, none⟩) n n)) (w.alloc (.cells (List.replicate n zc).flatten.toArray e)) := by
      simp only [execOp, hf.eval hx, hf.eval hy, Sem.run_bind, hm, Result.andThen, Int.toNat_natCast]
      rfl
    rw [hrun]
    refine kk' w.heap.size _ _ (hf.put hN _) (hw.fresh (Keeps.alloc _ _ _) (.inr ⟨w.heap.size, n, [], by simp, ⟨Nat.le_refl _, ?_⟩, ?_, ?_, ?_, by simp, hn⟩))
    · show _ < (w.heap.push _).size; simp
    · show (w.heap.push _)[_]? = _; simp
    · intro x hx; rw [List.eq_of_mem_replicate hx]; exact hs
    · rw [hfl]; simp)

/-! ### append -/
theorem cellsAdd {w : World} {B O : Nat} {cs : List Value} (h : CellsAt w B O cs) : ∀ (j : Nat) (u : Value), cs[j]? = some u → w.cell? ((⟨B, O, none⟩ : Addr).add j) = some u := fun j u hu => by rw [add_at]; exact h j u hu
theorem run_append_zero [T : Ty P t (.slice e) z' sz' by'] [T2 : Ty P e d z sz by_] (A A' : Option Addr) (n c cp : Nat) (h : n ≤ c) (w : World) : (Builtin.append_ #[t, t] ty #[.slice A n c, .slice A' 0 cp]).run P w = .ok (.slice A n c) w := by
  have h1 : (Builtin.firstCells sz 0 (.slice A' 0 cp)).run P w = .ok #[] w := by
    cases A' with
    | none => rfl
    | some a => simp [Builtin.firstCells, loadCells, loadCellsFrom]
  have h2 : (Builtin.lenOf (.slice A' 0 cp)).run P w = .ok 0 w := rfl
  cases A with
  | none => simp [Builtin.append_, T.runUnd, T2.runSize, h1, h2, h]
  | some a => simp [Builtin.append_, T.runUnd, T2.runSize, h1, h2, h, storeCells]
theorem zeroCells_flat {z : Value} {zc : List Value} (hz : z.cells = zc.toArray) (n : Nat) : ∃ tl : List Value, Builtin.zeroCells z.cells n = tl.toArray ∧ tl.length = n * zc.length := by
  refine ⟨(Builtin.zeroCells z.cells n).toList, by simp, ?_⟩
  simp [Builtin.zeroCells, hz]
theorem RW.append (pre : List HP) {r : List HP} {es news : List (List Value)} {A : Option Addr} {m cp : Nat} {zc : List Value} [T : Ty P t (.slice e) z' sz' by'] [T2 : Ty P e d z sz by_] (hx : ev G x = some v) (hy : ev G y = some (.slice A m cp))
    (hz : z.cells = zc.toArray) (hzs : zc.length = sz) (hm : news.length = m) (hns : ∀ u ∈ news, u.length = sz) (h1 : ∀ u ∈ news, ∀ v ∈ u, v.oneCell' = true)
    (hsrc : ∀ w, St E.w0 E.S (pre ++ ownHP e sz v es :: r) w → m ≠ 0 → ∃ B O, A = some ⟨B, O, none⟩ ∧ CellsAt w B O news.flatten) (hb : (es.length + m) * by_ ≤ 140737488355328) (hmx : es.length + m ≤ maxN) (hN : Nat.blt dst E.N = true)
    (kk : ∀ v', RW P E ops Q rest ((dst, v') :: G) (pre ++ ownHP e sz v' (es ++ news) :: r)) : RW P E ops Q (⟨some dst, .call ⟨.builtin .append, #[x, y], #[t, t]⟩, ty, pos, af, none⟩ :: rest) G (pre ++ ownHP e sz v es :: r) :=
  RW.step rfl (fun f w hf hw => by
    have hexec : ∀ v' w', (Builtin.append_ #[t, t] ty #[v, .slice A m cp]).run P w = .ok v' w' → (execOp f.eval ⟨some dst, .call ⟨.builtin .append, #[x, y], #[t, t]⟩, ty, pos, af, none⟩).run P w = .ok (.value v') w' := by
      intro v' w' h
      simp [execOp, resolve, invoke, builtin, hf.eval hx, hf.eval hy, h]
    obtain ⟨i, hi, hz', hs', hb'⟩ := T2.info
    have hone : ∀ u ∈ news.flatten, u.oneCell' = true := fun u hu => by
      obtain ⟨l, hl, hul⟩ := List.mem_flatten.1 hu
      exact h1 l hl u hul
    have hnl : news.flatten.length = m * sz := by rw [flatten_len hns, hm]
    by_cases hm0 : m = 0
    · subst hm0
      have hnews : news = [] := List.eq_nil_of_length_eq_zero hm
      subst hnews
      rcases own_form hw with ⟨rfl, rfl⟩ | ⟨B, c, rfl, hle, _, _, _⟩
      · rw [hexec _ _ (run_append_zero (e := e) (sz := sz) none A 0 0 cp (Nat.le_refl _) w)]
        exact kk _ _ _ (hf.put hN _) (by simpa using hw)
      · rw [hexec _ _ (run_append_zero (e := e) (sz := sz) _ A _ c cp hle w)]
        exact kk _ _ _ (hf.put hN _) (by simpa using hw)
    · obtain ⟨B, O, rfl, hcs⟩ := hsrc w hw hm0
      have hcs' := cellsAdd hcs
      -- a new block: what it holds, and the state behind it
      have fresh : ∀ (w1 : World) (n' cap' : Nat) (tl : List Value), Keeps No w w1 → w1.heap.size = w.heap.size → n' = es.length + m → (∀ x ∈ es, x.length = sz) → n' ≤ cap' → cap' ≤ maxN → (es.flatten ++ news.flatten).length + tl.length = cap' * sz →
          St E.w0 E.S (pre ++ ownHP e sz (.slice (some ⟨w.heap.size, 0, none⟩) n' cap') (es ++ news) :: r) (w1.alloc (.cells ((es ++ news).flatten ++ tl).toArray e)) := by
        intro w1 n' cap' tl hk hsz hn' hes hle hmx' hlen
        have hw1 : St E.w0 E.S (pre ++ ownHP e sz v es :: r) w1 := hw.quiet hk
        have hfr := hw1.fresh (c := ownHP e sz (.slice (some ⟨w.heap.size, 0, none⟩) n' cap') (es ++ news)) (Keeps.alloc No w1 (.cells ((es ++ news).flatten ++ tl).toArray e)) (.inr ⟨w.heap.size, cap', tl, by simp [hn', hm], ⟨by omega, by show _ < (w1.heap.push _).size; simp; omega⟩, by show (w1.heap.push _)[_]? = _; rw [← hsz]; simp, ?_, ?_, by simp; omega, hmx'⟩)
        · refine (hfr.sub (H' := ownHP e sz (.slice (some ⟨w.heap.size, 0, none⟩) n' cap') (es ++ news) :: (pre ++ r)) (List.Sublist.cons_cons _ (List.Sublist.append_left (List.sublist_cons_self _ _) _))).perm ?_
          exact List.perm_middle.symm
        · intro u hu
          rcases List.mem_append.1 hu with hu | hu
          · exact hes u hu
          · exact hns u hu
        · rw [List.flatten_append]; exact hlen
      rcases own_form hw with ⟨rfl, rfl⟩ | ⟨B0, c, rfl, hle, hcm, _, hes⟩
      · have hr := run_append_nil (P := P) w t ty e i z T.und hi hz' ⟨B, O, none⟩ m cp news.flatten (by rw [hs']; exact hnl) hcs' (by omega) (by unfold maxN at hmx; simp at hmx; omega) (by rw [hb']; simp at hb; omega)
        rw [hexec _ _ hr]
        obtain ⟨tl, htl, htll⟩ := zeroCells_flat hz (grownCap w m 0 e - m)
        have hg := grownCap_ge w m 0 e
        have hg2 := grownCap_le_maxLen w m 0 e (by unfold maxN at hmx; unfold maxLen; simp at hmx; omega)
        have hst := fresh w.drew m (grownCap w m 0 e) tl (Keeps.drew _ _) rfl (by simp) (by simp) hg (by unfold maxLen at hg2; unfold maxN; exact hg2) (by simp only [List.flatten_nil, List.nil_append, hnl, htll, hzs]; rw [← Nat.add_mul]; congr 1; omega)
        rw [htl]
        refine kk _ _ _ (hf.put hN _) ?_
        have e1 : news.flatten.toArray ++ tl.toArray = (([] ++ news : List (List Value)).flatten ++ tl).toArray := by simp
        rw [e1]
        exact hst
      · obtain ⟨F, hp, hF⟩ := hw.get
        rcases hp with ⟨hp, _⟩ | ⟨B', c', tl, h2, h3, h4, _, h6, h7, _⟩
        · cases hp
        simp only [Value.slice.injEq, Option.some.injEq, Addr.mk.injEq] at h2
        obtain ⟨⟨rfl, _⟩, _, rfl⟩ := h2
        have hfl : es.flatten.length = es.length * sz := flatten_len hes
        by_cases hroom : es.length + m ≤ c
        · have hfit : es.length * i.size + news.flatten.length ≤ (es.flatten ++ tl).toArray.size := by
            simp only [List.size_toArray, List.length_append, h6, hs', hnl]
            rw [← Nat.add_mul]; exact Nat.mul_le_mul_right _ hroom
          have hr := run_append_room (P := P) w t ty e i T.und hi B0 es.length c _ h4 ⟨B, O, none⟩ m cp news.flatten (by rw [hs']; exact hnl) hcs' hone hroom hfit
          rw [hexec _ _ hr]
          refine kk _ _ _ (hf.put hN _) ?_
          have e1 : ((es.flatten ++ tl).toArray.toList.take (es.length * i.size) ++ news.flatten ++ (es.flatten ++ tl).toArray.toList.drop (es.length * i.size + news.flatten.length)) = (es ++ news).flatten ++ tl.drop (m * sz) := by
            simp only [hs', ← hfl, hnl, List.flatten_append]
            rw [List.take_left, List.drop_append, List.drop_of_length_le (by omega), List.nil_append, Nat.add_sub_cancel_left]
          rw [e1]
          refine hw.setrow (fun F hp => ?_) (Array.getElem?_eq_some_iff.1 h4).1 (fun F hp hFl => ?_)
          · rcases hp with ⟨hp, _⟩ | ⟨B', c', tl', g1, g2, _⟩
            · cases hp
            · simp only [Value.slice.injEq, Option.some.injEq, Addr.mk.injEq] at g1
              obtain ⟨⟨rfl, _⟩, _, _⟩ := g1
              exact g2
          · rcases hp with ⟨hp, _⟩ | ⟨B', c', tl', g1, g2, _⟩
            · cases hp
            · simp only [Value.slice.injEq, Option.some.injEq, Addr.mk.injEq] at g1
              obtain ⟨⟨rfl, _⟩, _, _⟩ := g1
              refine .inr ⟨B0, c, tl.drop (m * sz), by simp [hm], g2, setRow_at h4, fun u hu => (List.mem_append.1 hu).elim (hes u) (hns u), ?_, by simp; omega, hcm⟩
              rw [List.flatten_append, List.length_append, hnl, List.length_drop, hfl]
              have : m * sz ≤ tl.length := by
                have h8 : (es.length + m) * sz ≤ c * sz := Nat.mul_le_mul_right _ hroom
                rw [Nat.add_mul] at h8
                omega
              omega
        · have hr := run_append_grow (P := P) w t ty e i z T.und hi hz' ⟨B0, 0, none⟩ es.length c es.flatten (by rw [hs']; exact hfl) (cellsAdd (fun i v hv => CellsAt.of_blk h4 i v (by rw [List.getElem?_append_left (List.getElem?_eq_some_iff.1 hv).1]; exact hv))) ⟨B, O, none⟩ m cp news.flatten (by rw [hs']; exact hnl) hcs' (by omega) (by unfold maxN at hmx; omega) (by rw [hb']; exact growslice_fits (by omega) hb)
          rw [hexec _ _ hr]
          obtain ⟨tl', htl, htll⟩ := zeroCells_flat hz (grownCap w (es.length + m) c e - (es.length + m))
          have hg := grownCap_ge w (es.length + m) c e
          have hg2 := grownCap_le_maxLen w (es.length + m) c e (by unfold maxN at hmx; unfold maxLen; omega)
          have hst := fresh w.drew (es.length + m) (grownCap w (es.length + m) c e) tl' (Keeps.drew _ _) rfl rfl hes hg (by unfold maxLen at hg2; unfold maxN; exact hg2) (by rw [List.length_append, hfl, hnl, htll, hzs, ← Nat.add_mul, ← Nat.add_mul]; congr 1; omega)
          rw [htl]
          refine kk _ _ _ (hf.put hN _) ?_
          have e1 : es.flatten.toArray ++ news.flatten.toArray ++ tl'.toArray = ((es ++ news).flatten ++ tl').toArray := by simp
          rw [e1]
          exact hst)
end
end Go.Proofs.YtbcdgcodnkgdoaaGreat
