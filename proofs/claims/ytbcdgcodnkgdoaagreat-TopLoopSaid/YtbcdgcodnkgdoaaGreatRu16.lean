/- The runner for closed calls: a statement in open order, step by step. Conditions: none. -/
import Derived.Test.YtbcdgcodnkgdoaaGreatRu15
set_option linter.unusedVariables false
set_option linter.unusedSimpArgs false
set_option maxRecDepth 10000
namespace Go.Proofs.YtbcdgcodnkgdoaaGreat.Run
open Go Go.RowKit

/-! ### what the digest says -/
theorem dig_at {ops : List Oper} : ∀ {l : List Oper} {acc : List Nat} {i : Nat} {g : Dg}, (dig ops l acc)[i]? = some g → l[i]? = some g.o ∧ g.g = guardOf ops g.o ∧ g.k = kindOp g.o.op ∧
    ∃ acc' : List Nat, g.m = maskOf acc' g.o ∧ acc'.length = acc.length + i ∧ (∀ j, j < acc.length → acc'[j]? = acc[j]?) ∧ ∀ (j : Nat) (g' : Dg), j < i → (dig ops l acc)[j]? = some g' → acc'[acc.length + j]? = some g'.m := by
  intro l
  induction l with
  | nil => intro acc i g h; simp [dig] at h
  | cons o l ih =>
    intro acc i g h
    simp only [dig] at h ⊢
    cases i with
    | zero =>
      simp at h
      subst h
      exact ⟨rfl, rfl, rfl, acc, rfl, rfl, fun _ _ => rfl, fun j g' hj _ => by omega⟩
    | succ i =>
      simp only [List.getElem?_cons_succ] at h
      obtain ⟨h1, h2, h3, acc', h4, h5, h6, h7⟩ := ih h
      refine ⟨by simpa using h1, h2, h3, acc', h4, by simp at h5; omega, fun j hj => ?_, fun j g' hj hg => ?_⟩
      · rw [h6 j (by simp; omega), List.getElem?_append_left hj]
      · cases j with
        | zero =>
          simp at hg
          subst hg
          rw [h6 (acc.length + 0) (by simp), List.getElem?_append_right (by omega)]
          simp
        | succ j =>
          simp only [List.getElem?_cons_succ] at hg
          have := h7 j g' (by omega) hg
          simpa [Nat.add_assoc, Nat.add_comm 1] using this
theorem mask_bit {acc : List Nat} {o : Oper} {j : Nat} (h : (maskOf acc o).testBit j = true) : ∃ e ∈ o.after.toList, Region.binds .any e = true ∧ (e.on = j ∨ (acc.getD e.on 0).testBit j = true) := by
  unfold maskOf at h
  have key : ∀ (l : List Edge) (s : Nat), (l.foldl (fun s e => if Region.binds .any e then s ||| 2 ^ e.on ||| acc.getD e.on 0 else s) s).testBit j = true → s.testBit j = true ∨ ∃ e ∈ l, Region.binds .any e = true ∧ (e.on = j ∨ (acc.getD e.on 0).testBit j = true) := by
    intro l
    induction l with
    | nil => intro s h; exact .inl h
    | cons e l ih =>
      intro s h
      rw [List.foldl_cons] at h
      rcases ih _ h with h1 | ⟨e', h1, h2⟩
      · split at h1
        · rename_i hb
          rw [Nat.testBit_or, Nat.testBit_or, Bool.or_eq_true, Bool.or_eq_true] at h1
          rcases h1 with (h1 | h1) | h1
          · exact .inl h1
          · refine .inr ⟨e, by simp, hb, .inl ?_⟩
            rw [Nat.testBit_two_pow] at h1
            exact of_decide_eq_true h1
          · exact .inr ⟨e, by simp, hb, .inr h1⟩
        · exact .inl h1
      · exact .inr ⟨e', by simp [h1], h2⟩
  rcases key _ _ h with h | h
  · simp at h
  · exact h
theorem hasN_false {l : List Nat} {d : Nat} (h : hasN l (some d) = false) : d ∉ l := by
  intro hm
  unfold hasN at h
  simp only at h
  have := List.any_eq_false.1 h d hm
  simp at this
def Free (g p : Dg) : Prop := hasN g.looks p.o.dst = false ∧ hasN p.looks g.o.dst = false ∧ hasN g.o.dst.toList p.o.dst = false
theorem prevOk_at {g : Dg} : ∀ {acc : List (Nat × Dg × List Nat)}, prevOk g g.looks acc = true → (∀ q ∈ acc, q.2.2 = q.2.1.looks) → ∀ q ∈ acc, g.m.testBit q.1 = true ∨ Free g q.2.1 := by
  intro acc
  induction acc with
  | nil => intro _ _ q hq; simp at hq
  | cons x acc ih =>
    intro h hl q hq
    obtain ⟨j, p, lp⟩ := x
    simp only [prevOk, Bool.and_eq_true, Bool.or_eq_true] at h
    rcases List.mem_cons.1 hq with rfl | hq
    · rcases h.1 with h1 | h1
      · exact .inl h1
      · have hlp := hl (j, p, lp) (by simp)
        simp only at hlp
        subst hlp
        simp only [Bool.not_eq_true', Bool.or_eq_false_iff] at h1
        exact .inr ⟨h1.1.1, h1.1.2, h1.2⟩
    · exact ih h.2 (fun q hq => hl q (by simp [hq])) q hq
theorem tmpsOk_at : ∀ {l : List Dg} {i0 : Nat} {acc : List (Nat × Dg × List Nat)}, tmpsOk l i0 acc = true → (∀ q ∈ acc, q.2.2 = q.2.1.looks) → ∀ i g, l[i]? = some g → backOk (i0 + i) g.o.after.toList = true ∧ (∀ q ∈ acc, g.m.testBit q.1 = true ∨ Free g q.2.1) ∧ ∀ j p, j < i → l[j]? = some p → g.m.testBit (i0 + j) = true ∨ Free g p := by
  intro l
  induction l with
  | nil => intro i0 acc _ _ i g h; simp at h
  | cons x l ih =>
    intro i0 acc h hl i g hg
    simp only [tmpsOk, Bool.and_eq_true] at h
    have hl' : ∀ q ∈ ((i0, x, x.looks) :: acc : List (Nat × Dg × List Nat)), q.2.2 = q.2.1.looks := fun q hq => (List.mem_cons.1 hq).elim (fun h => by rw [h]) (hl q)
    cases i with
    | zero =>
      simp at hg
      subst hg
      exact ⟨h.1.1, prevOk_at h.1.2 hl, fun j p hj _ => by omega⟩
    | succ i =>
      obtain ⟨h1, h2, h3⟩ := ih h.2 hl' i g (by simpa using hg)
      refine ⟨by rwa [show i0 + (i + 1) = i0 + 1 + i by omega], fun q hq => h2 q (by simp [hq]), fun j p hj hp => ?_⟩
      cases j with
      | zero => simp at hp; subst hp; exact h2 (i0, x, x.looks) (by simp)
      | succ j => rw [show i0 + (j + 1) = i0 + 1 + j by omega]; exact h3 j p (by omega) (by simpa using hp)
theorem backOk_at {i : Nat} : ∀ {l : List Edge}, backOk i l = true → ∀ e ∈ l, Region.binds .any e = true → e.on < i := by
  intro l
  induction l with
  | nil => intro _ e he; simp at he
  | cons x l ih =>
    intro h e he hb
    simp only [backOk, Bool.and_eq_true, Bool.or_eq_true] at h
    rcases List.mem_cons.1 he with rfl | he
    · rcases h.1 with h1 | h1
      · rw [hb] at h1; cases h1
      · exact blt_lt h1
    · exact ih h.2 e he hb
theorem mem_tmpsO {l : List Operand} {t : Nat} (h : Operand.tmp t ∈ l) : t ∈ tmpsO l := by
  induction l with
  | nil => simp at h
  | cons x l ih =>
    rcases List.mem_cons.1 h with h | h
    · subst h; simp [tmpsO]
    · have h2 := ih h
      cases x <;> simp [tmpsO, h2]

/-! ### the invariant -/
def Cl (tr : List Ev) (L : Nat → Bool) : Prop := ∀ i e, tr[i]? = some e → L i = true → ∀ j, e.g.m.testBit j = true → L j = true
structure Iv (w0 : World) (N : Nat) (x0 : X) (tr : List Ev) (L : Nat → Bool) (σ : Sg) (a : Act) (w : World) : Prop where
  size : a.tmps.size = N
  fr : ∀ t v, ff L 0 (fget N x0.fr) tr t = some v → ∃ x, den σ v = some x ∧ a.tmps[t]? = some x
  ds : DsR σ (df L 0 x0.ds tr) a.defers
  ht : DenG w0 σ (htf L 0 x0.h tr).get w
  g : DenG w0 σ (gf L 0 x0.h.get tr) w
  dom : ∀ k, σ k ≠ none → k < (htf L 0 x0.h tr).n ∨ ∃ j e, tr[j]? = some e ∧ L j = true ∧ e.g.k = 2 ∧ e.b = true ∧ e.h.n = k ∧ ∀ j' e', j < j' → tr[j']? = some e' → e'.tch = true → L j' = false
theorem DenG.keep {w0 w : World} {σ : Sg} {g : Nat → Option B} {n cap : Nat} {o : Obj} (H : DenG w0 σ g w) (hn : σ n = none) : DenG w0 (σ.add n (w.heap.size, cap)) g (w.alloc o) := by
  have le := Sg.le_add (q := (w.heap.size, cap)) hn
  have hsz := heap_alloc_size w o
  have live : ∀ j c, g j = some c → j ≠ n := fun j c hj e => by
    obtain ⟨q, o', h1, _⟩ := H.obj j c hj
    rw [e, hn] at h1; cases h1
  refine ⟨H.kp.trans (Keeps.alloc No w o) (fun _ hb => hb.elim), fun k q hq => ?_, fun j c hj => ?_, fun i j a c q r hi hj hq hr e => ?_⟩
  · unfold Sg.add at hq
    split at hq
    · obtain rfl := Option.some.inj hq
      exact ⟨H.kp.size, by rw [hsz]; exact Nat.lt_succ_self _⟩
    · have := H.low k q hq
      exact ⟨this.1, by rw [hsz]; omega⟩
  · obtain ⟨q, o', h1, h2, h3⟩ := H.obj j c hj
    exact ⟨q, o', le _ _ h1, by rw [heap_alloc_old w o (H.low j q h1).2]; exact h2, h3.mono le⟩
  · have e1 := live i a hi
    have e2 := live j c hj
    unfold Sg.add at hq hr
    rw [if_neg e1] at hq
    rw [if_neg e2] at hr
    exact H.inj i j a c q r hi hj hq hr e
def on_ (L : Nat → Bool) (i : Nat) : Nat → Bool := fun j => if j = i then true else L j
section
variable {w0 : World} {cf : CF} {rc : RC} {rnd : Bool} {r : Option Nat} {N : Nat} {ops : List Oper} {x0 : X} {out : T V × Hp × Hp × List Df}
/-- One operation that is ready. -/
theorem Iv.step {A B' : List Ev} {e : Ev} {L : Nat → Bool} {σ : Sg} {a : Act} {w : World} (hr : rnd = r.isSome) (hcf : CFok w0 cf) (hrc : RCok w0 rc)
    (hl : Lnk cf rc rnd N x0.fr x0.h x0.h x0.ds (A ++ e :: B') out) (hp : Pairs N (A ++ e :: B'))
    (hfree : ∀ (i : Nat) (c : Ev), (A ++ e :: B')[i]? = some c → ∀ (j : Nat) (p : Ev), j < i → (A ++ e :: B')[j]? = some p → c.g.m.testBit j = true ∨ Free c.g p.g)
    (hgd : e.g.g = guardOf ops e.g.o) (hkd : e.g.k = kindOp e.g.o.op)
    (hLi : L A.length = false) (hm : ∀ j, e.g.m.testBit j = true → L j = true) (hcl : Cl (A ++ e :: B') L) (iv : Iv w0 N x0 (A ++ e :: B') L σ a w)
    (n : Nat) (K : Act → World → Prop) (Q : Exit → Act → World → Prop) (hK : ∀ σ' a' w', σ.le σ' → Iv w0 N x0 (A ++ e :: B') (on_ L A.length) σ' a' w' → K a' w') :
    if Region.wanted e.g.o (yielded ops.toArray a.tmps) then e.g.o.wpIn (FW r) n PG a w K Q else (∀ f, e.g.o.about PG w a.eval = some f → (FW r).fn f) ∧ K (a.put e.g.o.dst undef) w := by
  obtain ⟨m, hA, hB⟩ := hl.split
  obtain ⟨e1, e2, e3, e4, own, fr', hput, hB⟩ := hB
  have hei : (A ++ e :: B')[A.length]? = some e := by simp
  have atA : ∀ j c, A[j]? = some c → (A ++ e :: B')[j]? = some c ∧ j < A.length := fun j c h => by
    have := (List.getElem?_eq_some_iff.1 h).1
    exact ⟨by rw [List.getElem?_append_left this]; exact h, this⟩
  have atB : ∀ j c, B'[j]? = some c → (A ++ e :: B')[A.length + 1 + j]? = some c := fun j c h => by
    rw [List.getElem?_append_right (by omega), show A.length + 1 + j - A.length = j + 1 by omega]; simpa using h
  -- pairs with e
  have two1 : ∀ j c, A[j]? = some c → Two N j c e := fun j c h => hp _ _ hei j c (atA j c h).2 (atA j c h).1
  have two2 : ∀ j c, B'[j]? = some c → Two N A.length e c := fun j c h => hp _ _ (atB j c h) A.length e (by omega) hei
  have noB : ∀ j c, B'[j]? = some c → c.g.m.testBit A.length = true → L (A.length + 1 + j) = false := fun j c h ht => by
    cases hh : L (A.length + 1 + j) with
    | false => rfl
    | true => have := hcl _ _ (atB j c h) hh _ ht; rw [hLi] at this; cases this
  -- folds split
  have sff : ∀ M, ff M 0 (fget N x0.fr) (A ++ e :: B') = ff M (A.length + 1) (if M A.length then (fun t => if e.g.o.dst = some t then some e.v else ff M 0 (fget N x0.fr) A t) else ff M 0 (fget N x0.fr) A) B' := fun M => by rw [ff_app, Nat.zero_add]; rfl
  have sgf : ∀ M, gf M 0 x0.h.get (A ++ e :: B') = gf M (A.length + 1) (if M A.length then (if e.tch then e.h'.get else if e.g.k = 2 ∧ e.b = true then (fun k => if k = e.h.n then some e.blk else gf M 0 x0.h.get A k) else gf M 0 x0.h.get A) else gf M 0 x0.h.get A) B' := fun M => by rw [gf_app, Nat.zero_add]; rfl
  have shf : ∀ M, htf M 0 x0.h (A ++ e :: B') = htf M (A.length + 1) (if M A.length then (if e.tch then e.h' else htf M 0 x0.h A) else htf M 0 x0.h A) B' := fun M => by rw [htf_app, Nat.zero_add]; rfl
  have sdf : ∀ M, df M 0 x0.ds (A ++ e :: B') = df M (A.length + 1) (if M A.length then (if e.tch then e.ds' else df M 0 x0.ds A) else df M 0 x0.ds A) B' := fun M => by rw [df_app, Nat.zero_add]; rfl
  have cA := f_congr (L := on_ L A.length) (L' := L) (l := A) (i := 0) (fun j hj => by simp [on_]; omega)
  have cB := f_congr (L := on_ L A.length) (L' := L) (l := B') (i := A.length + 1) (fun j hj => by simp [on_]; omega)
  have hon : on_ L A.length A.length = true := by simp [on_]
  -- the frame
  have lookT : ∀ t, t ∈ e.g.looks → ∀ v, fget N e.fr t = some v → ∃ x, den σ v = some x ∧ a.tmps[t]? = some x := fun t ht v hv => by
    refine iv.fr t v ?_
    rw [sff L, hLi]
    simp only [Bool.false_eq_true, if_false]
    rw [ff_at (fun j c hj hd => ?_)]
    · refine canon_fr (L := L) (i := 0) hA (fun v hv => hv) (fun j c hj hd => ?_) v (by rw [e1] at hv; exact hv)
      rw [Nat.zero_add]
      rcases hfree _ _ hei j c (atA j c hj).2 (atA j c hj).1 with h | h
      · exact hm j h
      · exact absurd ht (by have := h.1; rw [hd] at this; exact hasN_false this)
    · rcases hfree _ _ (atB j c hj) A.length e (by omega) hei with h | h
      · exact noB j c hj h
      · exact absurd ht (by have := h.2.1; rw [hd] at this; exact hasN_false this)
  have hev : EvO σ N e.fr a.eval e.g.o.op.operands := fun x hx v hv => by
    cases x with
    | tmp t =>
      obtain ⟨y, h1, h2⟩ := lookT t (by unfold Dg.looks; exact List.mem_append_right _ (mem_tmpsO (by simpa using hx))) v hv
      simp [Act.eval, Array.getD_eq_getD_getElem?, h2, h1]
    | const c => exact ofV_den hv
    | global g => cases hv
    | func f =>
      obtain rfl := Option.some.inj (show some (V.f f [] []) = some v from hv)
      simp [den, Act.eval]
  have hwant : Region.wanted e.g.o (yielded ops.toArray a.tmps) = e.b := wants_ok (N := N) (fr := e.fr) (σ := σ) (by rw [← hgd]; exact own.wn) (fun k j hk => lookT k (by unfold Dg.looks; rw [hgd, hk]; simp))
  -- the frame behind
  have frB : ∀ {σ' : Sg} {a' : Act} {x : Value}, σ.le σ' → den σ' e.v = some x → a'.tmps = (a.put e.g.o.dst x).tmps → a'.tmps.size = N ∧ ∀ t v, ff (on_ L A.length) 0 (fget N x0.fr) (A ++ e :: B') t = some v → ∃ y, den σ' v = some y ∧ a'.tmps[t]? = some y := by
    intro σ' a' x le hx ha
    have hsz : a'.tmps.size = N := by rw [ha]; cases e.g.o.dst <;> simp [Act.put, iv.size]
    refine ⟨hsz, fun t v hv => ?_⟩
    rw [sff, hon, if_pos rfl, cA.1, cB.1] at hv
    by_cases hd : e.g.o.dst = some t
    · rw [ff_at (fun j c hj hdc => ?_)] at hv
      · rw [if_pos hd] at hv
        obtain rfl := Option.some.inj hv
        have ht : t < N := by
          rcases putD_ok hput with ⟨h1, _⟩ | ⟨k, h1, h2, _⟩
          · rw [hd] at h1; cases h1
          · rw [hd] at h1; obtain rfl := Option.some.inj h1; exact h2
        exact ⟨x, hx, by rw [ha, hd]; simp [Act.put, iv.size, ht]⟩
      · rcases hfree _ _ (atB j c hj) A.length e (by omega) hei with h | h
        · exact noB j c hj h
        · have := h.2.2
          rw [hdc, hd] at this
          exact absurd (by simp) (hasN_false this)
    · rw [ff_point (g' := ff L 0 (fget N x0.fr) A) (by simp [hd])] at hv
      obtain ⟨y, h1, h2⟩ := iv.fr t v (by rw [sff L, hLi]; simpa using hv)
      refine ⟨y, den_mono le _ _ h1, ?_⟩
      rw [ha]
      cases hdd : e.g.o.dst with
      | none => exact h2
      | some d =>
        have hne : d ≠ t := fun hh => hd (by rw [hdd, hh])
        show (a.tmps.setIfInBounds d x)[t]? = some y
        rw [Array.getElem?_setIfInBounds_ne hne]; exact h2
  have hdsame : ∀ dst (x : Value), (a.put dst x).defers = a.defers := fun dst x => put_defers a dst x
  -- when the operation leaves the memory as it was
  have quiet : ∀ {x : Value}, e.tch = false → (e.g.k = 2 → e.b = false) → den σ e.v = some x → Iv w0 N x0 (A ++ e :: B') (on_ L A.length) σ (a.put e.g.o.dst x) w := by
    intro x ht hk2 hx
    have hn2 : ¬ (e.g.k = 2 ∧ e.b = true) := fun h => by have := hk2 h.1; rw [h.2] at this; cases this
    have eh : htf (on_ L A.length) 0 x0.h (A ++ e :: B') = htf L 0 x0.h (A ++ e :: B') := by rw [shf, shf L, hon, hLi, cA.2.2.1, cB.2.2.1, ht]; simp
    have eg : gf (on_ L A.length) 0 x0.h.get (A ++ e :: B') = gf L 0 x0.h.get (A ++ e :: B') := by rw [sgf, sgf L, hon, hLi, cA.2.1, cB.2.1, ht]; simp [hn2]
    have ed : df (on_ L A.length) 0 x0.ds (A ++ e :: B') = df L 0 x0.ds (A ++ e :: B') := by rw [sdf, sdf L, hon, hLi, cA.2.2.2, cB.2.2.2, ht]; simp
    obtain ⟨f1, f2⟩ := frB (a' := a.put e.g.o.dst x) (Sg.le.refl σ) hx rfl
    refine ⟨f1, f2, by rw [ed, hdsame]; exact iv.ds, by rw [eh]; exact iv.ht, by rw [eg]; exact iv.g, fun k hk => ?_⟩
    rw [eh]
    rcases iv.dom k hk with h | ⟨j, c, h1, h2, h3, h4, h5, h6⟩
    · exact .inl h
    · refine .inr ⟨j, c, h1, by unfold on_; split <;> simp [h2], h3, h4, h5, fun j' c' hj hc hct => ?_⟩
      have := h6 j' c' hj hc hct
      unfold on_
      by_cases hji : j' = A.length
      · subst hji; rw [hei] at hc; obtain rfl := Option.some.inj hc; rw [ht] at hct; cases hct
      · rw [if_neg hji]; exact this
  -- a statement that touches
  have touchA : e.tch = true → (∀ j c, A[j]? = some c → (c.tch = true ∨ c.g.k = 2) → L (0 + j) = true) ∧ (∀ j c, B'[j]? = some c → (c.tch = true ∨ c.g.k = 2) → L (A.length + 1 + j) = false) := fun ht =>
    ⟨fun j c hj hc => by rw [Nat.zero_add]; exact hm j (hc.elim (fun h => (two1 j c hj).tt h ht) (fun h => (two1 j c hj).at_ h ht)), fun j c hj hc => noB j c hj (hc.elim (fun h => (two2 j c hj).tt ht h) (fun h => (two2 j c hj).ta ht h))⟩
  rw [hwant]
  cases hb : e.b with
  | false =>
    rw [if_neg (by simp)]
    refine ⟨fun f _ => fw_fn r f, ?_⟩
    obtain ⟨hv, hh', hds'⟩ := own.no hb
    cases ht : e.tch with
    | false => exact hK σ _ w (Sg.le.refl σ) (quiet ht (fun _ => hb) (by rw [hv]; exact den_undef))
    | true =>
      obtain ⟨tA, tB⟩ := touchA ht
      obtain ⟨c1, c2⟩ := canon_ht (L := L) (i := 0) hA (fun j c hj hc => tA j c hj (.inl hc))
      have hT : htf L 0 x0.h (A ++ e :: B') = m.2.2.1 := by rw [shf L, hLi]; simp only [Bool.false_eq_true, if_false]; rw [htf_none (fun j c hj hc => tB j c hj (.inl hc)), c1]
      have hD : df L 0 x0.ds (A ++ e :: B') = m.2.2.2 := by rw [sdf L, hLi]; simp only [Bool.false_eq_true, if_false]; rw [df_none (fun j c hj hc => tB j c hj (.inl hc)), c2]
      have hG : gf L 0 x0.h.get (A ++ e :: B') = gf L 0 x0.h.get A := by rw [sgf L, hLi]; simp only [Bool.false_eq_true, if_false]; rw [gf_none tB]
      have hge : DenG w0 σ e.h'.get w := iv.g.sub (fun k b hkb => by rw [hG]; exact canon_g (L := L) (i := 0) hA (fun _ _ h => h) tA k b (by rw [hh', e2] at hkb; exact hkb))
      have hT' : htf (on_ L A.length) 0 x0.h (A ++ e :: B') = e.h' := by rw [shf, hon, cB.2.2.1]; simp only [if_true, ht]; exact htf_none (fun j c hj hc => tB j c hj (.inl hc))
      have hD' : df (on_ L A.length) 0 x0.ds (A ++ e :: B') = e.ds' := by rw [sdf, hon, cB.2.2.2]; simp only [if_true, ht]; exact df_none (fun j c hj hc => tB j c hj (.inl hc))
      have hG' : gf (on_ L A.length) 0 x0.h.get (A ++ e :: B') = e.h'.get := by rw [sgf, hon, cB.2.1]; simp only [if_true, ht]; exact gf_none tB
      obtain ⟨f1, f2⟩ := frB (σ' := σ) (x := undef) (a' := a.put e.g.o.dst undef) (Sg.le.refl σ) (by rw [hv]; exact den_undef) rfl
      refine hK σ _ w (Sg.le.refl σ) ⟨f1, f2, by rw [hD', hdsame, hds', e4, ← hD]; exact iv.ds, by rw [hT']; exact hge, by rw [hG']; exact hge, fun k hk => .inl ?_⟩
      rw [hT', hh', e2]
      have hle := ht_n hA (Nat.le_refl _)
      rcases iv.dom k hk with h | ⟨j, c, h1, h2, h3, h4, h5, h6⟩
      · rw [hT] at h; omega
      · have hjA : j < A.length := by
          rcases Nat.lt_trichotomy j A.length with h | h | h
          · exact h
          · subst h; rw [hLi] at h2; cases h2
          · exfalso
            obtain ⟨j', rfl⟩ : ∃ j', j = A.length + 1 + j' := ⟨j - A.length - 1, by omega⟩
            have hc : B'[j']? = some c := by rw [List.getElem?_append_right (by omega), show A.length + 1 + j' - A.length = j' + 1 by omega] at h1; simpa using h1
            have := tB j' c hc (.inr h3); rw [h2] at this; cases this
        have hc : A[j]? = some c := by rw [List.getElem?_append_left hjA] at h1; exact h1
        have := laid_n hA hc h3 h4 (fun j' e' hj' he' => by
          cases hh : e'.tch with
          | false => rfl
          | true => have g1 := h6 j' e' hj' (atA j' e' he').1 hh; have g2 := tA j' e' he' (.inl hh); rw [Nat.zero_add] at g2; rw [g1] at g2; cases g2)
        omega
  | true =>
    rw [if_pos rfl]
    cases ht : e.tch with
    | true =>
      obtain ⟨tA, tB⟩ := touchA ht
      obtain ⟨c1, c2⟩ := canon_ht (L := L) (i := 0) hA (fun j c hj hc => tA j c hj (.inl hc))
      have hT : htf L 0 x0.h (A ++ e :: B') = m.2.2.1 := by rw [shf L, hLi]; simp only [Bool.false_eq_true, if_false]; rw [htf_none (fun j c hj hc => tB j c hj (.inl hc)), c1]
      have hD : df L 0 x0.ds (A ++ e :: B') = m.2.2.2 := by rw [sdf L, hLi]; simp only [Bool.false_eq_true, if_false]; rw [df_none (fun j c hj hc => tB j c hj (.inl hc)), c2]
      have hG : gf L 0 x0.h.get (A ++ e :: B') = gf L 0 x0.h.get A := by rw [sgf L, hLi]; simp only [Bool.false_eq_true, if_false]; rw [gf_none tB]
      have hge : DenG w0 σ e.h.get w := iv.g.sub (fun k b hkb => by rw [hG]; exact canon_g (L := L) (i := 0) hA (fun _ _ h => h) tA k b (by rw [e2] at hkb; exact hkb))
      have hle := ht_n hA (Nat.le_refl _)
      have hup : ∀ k, e.h.n ≤ k → σ k = none := fun k hk => by
        cases hs : σ k with
        | none => rfl
        | some p =>
          exfalso
          rw [e2] at hk
          rcases iv.dom k (by rw [hs]; simp) with h | ⟨j, c, h1, h2, h3, h4, h5, h6⟩
          · rw [hT] at h; omega
          · have hjA : j < A.length := by
              rcases Nat.lt_trichotomy j A.length with h | h | h
              · exact h
              · subst h; rw [hLi] at h2; cases h2
              · exfalso
                obtain ⟨j', rfl⟩ : ∃ j', j = A.length + 1 + j' := ⟨j - A.length - 1, by omega⟩
                have hc : B'[j']? = some c := by rw [List.getElem?_append_right (by omega), show A.length + 1 + j' - A.length = j' + 1 by omega] at h1; simpa using h1
                have := tB j' c hc (.inr h3); rw [h2] at this; cases this
            have hc : A[j]? = some c := by rw [List.getElem?_append_left hjA] at h1; exact h1
            have := laid_n hA hc h3 h4 (fun j' e' hj' he' => by
              cases hh : e'.tch with
              | false => rfl
              | true => have g1 := h6 j' e' hj' (atA j' e' he').1 hh; have g2 := tA j' e' he' (.inl hh); rw [Nat.zero_add] at g2; rw [g1] at g2; cases g2)
            omega
      have hT' : htf (on_ L A.length) 0 x0.h (A ++ e :: B') = e.h' := by rw [shf, hon, cB.2.2.1]; simp only [if_true, ht]; exact htf_none (fun j c hj hc => tB j c hj (.inl hc))
      have hD' : df (on_ L A.length) 0 x0.ds (A ++ e :: B') = e.ds' := by rw [sdf, hon, cB.2.2.2]; simp only [if_true, ht]; exact df_none (fun j c hj hc => tB j c hj (.inl hc))
      have hG' : gf (on_ L A.length) 0 x0.h.get (A ++ e :: B') = e.h'.get := by rw [sgf, hon, cB.2.1]; simp only [if_true, ht]; exact gf_none tB
      obtain ⟨q, q1, q2, q3, q4⟩ := own.c3 (by simpa [Ev.tch, Nat.ble_eq] using ht) hb
      have hop := opS_ok hr hcf hrc (kindOp_le _) q1 n σ a w K Q e.g.o.dst e.g.o.type e.g.o.pos e.g.o.after e.g.o.guard hev (by rw [e4, ← hD]; exact iv.ds) ⟨hge, hup⟩
      refine hop (fun σ' x w' dd le hx hdd H' => ?_)
      rw [q2] at hx; rw [q3] at H'; rw [q4] at hdd
      obtain ⟨f1, f2⟩ := frB (a' := ({ a with defers := dd } : Act).put e.g.o.dst x) le hx (by cases e.g.o.dst <;> rfl)
      refine hK σ' _ w' le ⟨f1, f2, by rw [hD', put_defers]; exact hdd, by rw [hT']; exact H'.g, by rw [hG']; exact H'.g, fun k hk => .inl ?_⟩
      rw [hT']
      rcases Nat.lt_or_ge k e.h'.n with h | h
      · exact h
      · exact absurd (H'.up k h) hk
    | false =>
      have hk2 : e.g.k ≤ 2 := by
        rcases Nat.lt_or_ge e.g.k 3 with h1 | h1
        · omega
        · exfalso
          have : e.tch = true := by simpa [Ev.tch, Nat.ble_eq] using h1
          rw [this] at ht; cases ht
      have hdef : ∀ c, e.g.o.op ≠ .defer c := fun c hc => by rw [hkd, hc] at hk2; simp [kindOp] at hk2
      rcases (show e.g.k ≤ 1 ∨ e.g.k = 2 by omega) with h1 | h2
      · -- plain, or it reads
        obtain ⟨_, _, q0, q1, q2⟩ := own.c1 h1 hb
        have readable : ∃ hx q, opL N e.fr hx e.g.o.op = .ok q ∧ q.v = e.v ∧ (kindOp e.g.o.op = 1 → DenG w0 σ hx.get w) := by
          rcases (show e.g.k = 0 ∨ e.g.k = 1 by omega) with hk0 | hk1
          · exact ⟨_, _, q1, q2, fun h => by rw [← hkd, hk0] at h; cases h⟩
          · refine ⟨htf L 0 x0.h (A ++ e :: B'), ?_⟩
            have hsp : htf L 0 x0.h (A ++ e :: B') = htf L (A.length + 1) (htf L 0 x0.h A) B' := by rw [shf L, hLi]; simp
            rcases htf_last (L := L) (l := B') (i := A.length + 1) (g := htf L 0 x0.h A) with ⟨g1, g2⟩ | ⟨j, c, g1, g2, g3, g4⟩
            · rcases htf_next (L := L) (i := 0) hA (fun j j' a c hjj ha hc ta tc hL' => by
                rw [Nat.zero_add] at hL' ⊢
                exact hcl _ _ (atA j' c hc).1 hL' j ((hp _ _ (atA j' c hc).1 j a hjj (atA j a ha).1).tt ta tc)) with f1 | ⟨j, c, f1, f2, f3, f4⟩
              · rw [hsp, g1, f1, ← e3]; exact ⟨_, q1, q2, fun _ => by rw [e3, ← f1, ← g1, ← hsp]; exact iv.ht⟩
              · rw [Nat.zero_add] at f3
                obtain ⟨q', r1, r2⟩ := (two1 j c f1).tr f2 hk1 hb (by
                  cases hh : e.g.m.testBit j with
                  | false => rfl
                  | true => have := hm j hh; rw [f3] at this; cases this)
                rw [f4, ← g1, ← hsp] at r1
                exact ⟨_, r1, r2, fun _ => iv.ht⟩
            · obtain ⟨q', r1, r2⟩ := (two2 j c g1).rt hk1 hb g2 (by
                cases hh : c.g.m.testBit A.length with
                | false => rfl
                | true => have := noB j c g1 hh; rw [g3] at this; cases this)
              rw [← g4, ← hsp] at r1
              exact ⟨_, r1, r2, fun _ => iv.ht⟩
        obtain ⟨hx, q, r1, r2, r3⟩ := readable
        obtain ⟨x, h5, h6⟩ := pure_ok (w0 := w0) (w := w) (dst := e.g.o.dst) (ty := e.g.o.type) (pos := e.g.o.pos) (af := e.g.o.after) (g := e.g.o.guard) (by rw [← hkd]; omega) r1 hev (fun c => rfl) r3
        rw [r2] at h6
        exact wpIn_yl hdef (.val h5) (hK σ _ w (Sg.le.refl σ) (quiet ht (fun h => by omega) h6))
      · -- it lays a block
        obtain ⟨b1, b2, b3⟩ := own.c2 h2 hb
        have aA : ∀ j c, A[j]? = some c → c.tch = true → L (0 + j) = true := fun j c hj hc => by rw [Nat.zero_add]; exact hm j ((two1 j c hj).ta hc h2)
        have aB : ∀ j c, B'[j]? = some c → c.tch = true → L (A.length + 1 + j) = false := fun j c hj hc => noB j c hj ((two2 j c hj).at_ h2 hc)
        obtain ⟨c1, c2⟩ := canon_ht (L := L) (i := 0) hA aA
        have hT : htf L 0 x0.h (A ++ e :: B') = m.2.2.1 := by rw [shf L, hLi]; simp only [Bool.false_eq_true, if_false]; rw [htf_none aB, c1]
        have hle := ht_n hA (Nat.le_refl _)
        -- names of other blocks
        have nB : ∀ j c, B'[j]? = some c → L (A.length + 1 + j) = true → c.tch = false ∧ (c.g.k = 2 → c.b = true → c.h.n ≠ e.h.n) := fun j c hj hLj => by
          have htc : c.tch = false := by
            cases hh : c.tch with
            | false => rfl
            | true => have := aB j c hj hh; rw [hLj] at this; cases this
          refine ⟨htc, fun hk hcb heq => ?_⟩
          have hsp : B' = B'.take j ++ c :: B'.drop (j + 1) := by
            obtain ⟨hlt, hg⟩ := List.getElem?_eq_some_iff.1 hj
            rw [← hg, List.getElem_cons_drop hlt, List.take_append_drop]
          rw [hsp] at hB
          obtain ⟨m2, h3, h4⟩ := hB.split
          obtain ⟨_, g2, _⟩ := h4
          have hseg := seg_n h3 (fun j' c' hc' => by
            have hlt : j' < j := by have := (List.getElem?_eq_some_iff.1 hc').1; simp at this; omega
            have hc'' : B'[j']? = some c' := by rw [List.getElem?_take] at hc'; rw [if_pos hlt] at hc'; exact hc'
            cases hh : c'.tch with
            | false => rfl
            | true =>
              have := (hp _ _ (atB j c hj) (A.length + 1 + j') c' (by omega) (atB j' c' hc'')).ta hh hk
              have := hcl _ _ (atB j c hj) hLj _ this
              rw [aB j' c' hc'' hh] at this; cases this)
          rw [← g2, b1] at hseg
          simp at hseg
          omega
        have hnone : σ e.h.n = none := by
          cases hs : σ e.h.n with
          | none => rfl
          | some p =>
            exfalso
            rcases iv.dom e.h.n (by rw [hs]; simp) with h | ⟨j, c, h1', h2', h3, h4, h5, h6⟩
            · rw [hT, e2] at h; omega
            · rcases Nat.lt_trichotomy j A.length with h | h | h
              · have hc : A[j]? = some c := by rw [List.getElem?_append_left h] at h1'; exact h1'
                have := laid_n hA hc h3 h4 (fun j' e' hj' he' => by
                  cases hh : e'.tch with
                  | false => rfl
                  | true => have g1 := h6 j' e' hj' (atA j' e' he').1 hh; have g2 := aA j' e' he' hh; rw [Nat.zero_add] at g2; rw [g1] at g2; cases g2)
                rw [h5, e2] at this; omega
              · subst h; rw [hLi] at h2'; cases h2'
              · obtain ⟨j', rfl⟩ : ∃ j', j = A.length + 1 + j' := ⟨j - A.length - 1, by omega⟩
                have hc : B'[j']? = some c := by rw [List.getElem?_append_right (by omega), show A.length + 1 + j' - A.length = j' + 1 by omega] at h1'; simpa using h1'
                exact (nB j' c hc h2').2 h3 h4 h5
        obtain ⟨cap, x, o, h5, h6, h7⟩ := b3 (by rw [← hkd]; exact h2) (w := w) (dst := e.g.o.dst) (ty := e.g.o.type) (pos := e.g.o.pos) (af := e.g.o.after) (g := e.g.o.guard) hev hnone
        have le := Sg.le_add (q := (w.heap.size, cap)) hnone
        have eh : htf (on_ L A.length) 0 x0.h (A ++ e :: B') = htf L 0 x0.h (A ++ e :: B') := by rw [shf, shf L, hon, hLi, cA.2.2.1, cB.2.2.1, ht]; simp
        have ed : df (on_ L A.length) 0 x0.ds (A ++ e :: B') = df L 0 x0.ds (A ++ e :: B') := by rw [sdf, sdf L, hon, hLi, cA.2.2.2, cB.2.2.2, ht]; simp
        have eg : gf (on_ L A.length) 0 x0.h.get (A ++ e :: B') = gf L (A.length + 1) (fun k => if k = e.h.n then some e.blk else gf L 0 x0.h.get A k) B' := by rw [sgf, hon, cA.2.1, cB.2.1, ht]; simp [h2, hb]
        have egL : gf L 0 x0.h.get (A ++ e :: B') = gf L (A.length + 1) (gf L 0 x0.h.get A) B' := by rw [sgf L, hLi]; simp
        obtain ⟨f1, f2⟩ := frB (a' := a.put e.g.o.dst x) le h6 rfl
        refine wpIn_yl hdef (.val h5) (hK _ _ _ le ⟨f1, f2, by rw [ed, hdsame]; exact iv.ds.mono le, by rw [eh]; exact iv.ht.keep hnone, ?_, fun k hk => ?_⟩)
        · refine iv.g.new hnone h7 (fun k c hk => ?_)
          rw [eg] at hk
          rw [egL]
          exact gf_upd nB k c hk
        · rw [eh]
          by_cases hkn : k = e.h.n
          · refine .inr ⟨A.length, e, hei, hon, h2, hb, hkn.symm, fun j' c' hj hc hct => ?_⟩
            obtain ⟨j2, rfl⟩ : ∃ j2, j' = A.length + 1 + j2 := ⟨j' - A.length - 1, by omega⟩
            have hc' : B'[j2]? = some c' := by rw [List.getElem?_append_right (by omega), show A.length + 1 + j2 - A.length = j2 + 1 by omega] at hc; simpa using hc
            have := aB j2 c' hc' hct
            unfold on_; rw [if_neg (by omega)]; exact this
          · have hk' : σ k ≠ none := by unfold Sg.add at hk; rw [if_neg hkn] at hk; exact hk
            rcases iv.dom k hk' with h | ⟨j, c, h1', h2', h3, h4, h5', h6'⟩
            · exact .inl h
            · refine .inr ⟨j, c, h1', by unfold on_; split <;> simp [h2'], h3, h4, h5', fun j' c' hj hc hct => ?_⟩
              have := h6' j' c' hj hc hct
              unfold on_
              by_cases hji : j' = A.length
              · subst hji; rw [hei] at hc; obtain rfl := Option.some.inj hc; rw [ht] at hct; cases hct
              · rw [if_neg hji]; exact this
end
end Go.Proofs.YtbcdgcodnkgdoaaGreat.Run
