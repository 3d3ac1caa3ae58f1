/- The calculus, seventeenth part (printed by gen_e2.py): open orders, an operation that sees what two others have laid. Conditions: none; everything holds over any program. -/
import Derived.Test.YtkfmlekomfnleaaE
set_option linter.unusedVariables false
set_option linter.unusedSimpArgs false
namespace Go.Proofs.Ytkfmlekomfnleaa
open Go Go.RowKit

theorem laidH_get2 {L : Nat → Bool} {bs : Nat → Nat} {j j' : Nat} (hjj : j < j') (hj : L j = true) (hj' : L j' = true) : ∀ {os : List Oper} {r : List PK} {i : Nat}, i ≤ j → ∀ {o o' : Oper} {d d' : Nat} {c c' : Nat → HP} {t t' : Nat → Value} {p p' : Nat}, os[j - i]? = some o → o.dst = some d → r[j - i]? = some (.new c t p c) → os[j' - i]? = some o' → o'.dst = some d' → r[j' - i]? = some (.new c' t' p' c') → ∃ X, (laidH L os r i bs).Perm (c (bs d) :: c' (bs d') :: X) := by
  intro os
  induction os with
  | nil => intro r i _ o o' d d' c c' t t' p p' h; simp at h
  | cons o os ih =>
    intro r i hij o1 o' d d' c c' t t' p p' ho hd hk ho' hd' hk'
    have hs' : j' - i = (j' - (i + 1)) + 1 := by omega
    cases r with
    | nil => simp at hk
    | cons k r =>
      by_cases hi : i = j
      · subst hi
        simp only [Nat.sub_self, List.getElem?_cons_zero, Option.some.injEq] at ho hk
        subst ho; subst hk
        rw [hs'] at ho' hk'
        obtain ⟨X, hX⟩ := laidH_get (L := L) (bs := bs) hj' (os := os) (r := r) (i := i + 1) (by omega) (by simpa using ho') hd' (by simpa using hk')
        refine ⟨X, ?_⟩
        rw [laidH]
        simp only [hd, hj, if_true, ite_self]
        exact List.Perm.cons _ hX
      · have hs : j - i = (j - (i + 1)) + 1 := by omega
        rw [hs] at ho hk
        rw [hs'] at ho' hk'
        obtain ⟨X, hX⟩ := ih (r := r) (i := i + 1) (by omega) (by simpa using ho) hd (by simpa using hk) (by simpa using ho') hd' (by simpa using hk')
        cases k with
        | val v => exact ⟨X, hX⟩
        | put dj c t c2 => exact ⟨X, hX⟩
        | new c3 t3 q3 c4 =>
          unfold laidH
          cases hd2 : o.dst with
          | none => exact ⟨X, hX⟩
          | some d2 =>
            simp only
            cases hL : L i with
            | false => exact ⟨X, hX⟩
            | true => exact ⟨_, (List.Perm.cons _ hX).trans ((List.Perm.swap _ _ _).trans (List.Perm.cons _ (List.Perm.swap _ _ _)))⟩
section
variable {P : Program} {E : Env} {Q : Pst} {G : List (Nat × Value)} {H : List HP} {l : List Oper} {n : Nat} {ks : List PK}
/-- A statement whose order is open; one operation, at place q, turns the chunks that are given; one, at place q2, sees what the operation at place j2 has laid; one, at place q3, of a known value, sees what those at j3 and j4 have laid. -/
theorem CW.anyW {id : Nat} (q q2 j2 q3 j3 j4 : Nat) (Hd : Bool → List HP) (n : Nat) (ks : List PK) (hm : P.follows .mixedOrders = true) (hk : ks.length = n) (hn : Nat.ble n l.length = true) (hb : backB l = true) (hf : forcedB l n = true) (hd : dstB l ks n G = true) (hput : PutOK l ks) (hpd : ∀ (i : Nat) (o : Oper) (d : Nat), i < n → l[i]? = some o → o.dst = some d → PK.isPut ks[i]? = true → False)
    (hq : ∀ k, ks[q]? = some k → ∃ v, k = .val v) (prems : ∀ (i : Nat) (o : Oper) (k : PK), i ≠ q → i ≠ q2 → i ≠ q3 → l[i]? = some o → ks[i]? = some k → ∀ b, Prem P E l.toArray Q (depG l ks o) G (Hd b) o k)
    (premq : ∀ (o : Oper) (v : Value), l[q]? = some o → ks[q]? = some (.val v) → ∀ (Gx : List (Nat × Value)) (X : List HP), RW P E l.toArray (Pst.then (fun a w => ∃ d, o.dst = some d ∧ Fr E.N E.ds a ((d, v) :: (depG l ks o ++ G ++ Gx)) ∧ St E.w0 E.S (Hd true ++ X) w) Q) [o] (depG l ks o ++ G ++ Gx) (Hd false ++ X))
    (hq2 : ∀ o, q2 < n → l[q2]? = some o → ∃ (e : Edge) (oj : Oper) (dj : Nat) (c : Nat → HP) (t : Nat → Value) (p : Nat) (c2 cj : Nat → HP) (tj : Nat → Value) (pj : Nat), e ∈ o.after.toList ∧ Region.binds .any e = true ∧ e.on = j2 ∧ l[j2]? = some oj ∧ oj.dst = some dj ∧ ks[q2]? = some (.new c t p c2) ∧ ks[j2]? = some (.new cj tj pj cj) ∧
      ∀ (b0 : Bool) (b : Nat) (Gx : List (Nat × Value)) (X : List HP), RW P E l.toArray (Pst.then (fun a w => ∃ b' d, o.dst = some d ∧ Fr E.N E.ds a ((d, t b') :: (dj, tj b) :: (depG l ks o ++ G ++ Gx)) ∧ St E.w0 E.S (c b' :: cj b :: (Hd b0 ++ X)) w) Q) [o] ((dj, tj b) :: (depG l ks o ++ G ++ Gx)) (cj b :: (Hd b0 ++ X)))
    (hq3 : ∀ o, q3 < n → l[q3]? = some o → ∃ (e e' : Edge) (oj oj' : Oper) (dj dj' : Nat) (v : Value) (cj cj' : Nat → HP) (tj tj' : Nat → Value) (pj pj' : Nat), e ∈ o.after.toList ∧ Region.binds .any e = true ∧ e.on = j3 ∧ e' ∈ o.after.toList ∧ Region.binds .any e' = true ∧ e'.on = j4 ∧ j3 < j4 ∧ l[j3]? = some oj ∧ oj.dst = some dj ∧ l[j4]? = some oj' ∧ oj'.dst = some dj' ∧ ks[q3]? = some (.val v) ∧ ks[j3]? = some (.new cj tj pj cj) ∧ ks[j4]? = some (.new cj' tj' pj' cj') ∧
      ∀ (b0 : Bool) (b b' : Nat) (Gx : List (Nat × Value)) (X : List HP), RW P E l.toArray (Pst.then (fun a w => ∃ d, o.dst = some d ∧ Fr E.N E.ds a ((d, v) :: (dj, tj b) :: (dj', tj' b') :: (depG l ks o ++ G ++ Gx)) ∧ St E.w0 E.S (cj b :: cj' b' :: (Hd b0 ++ X)) w) Q) [o] ((dj, tj b) :: (dj', tj' b') :: (depG l ks o ++ G ++ Gx)) (cj b :: cj' b' :: (Hd b0 ++ X)))
    (tail : ∀ bs, RW P E l.toArray Q (l.drop n) (outG l ks bs ++ G) (Hd (decide (q < n)) ++ newH l ks bs)) : CW P E (.region id l.toArray true) Q G (Hd false) := by
  have hnl : n ≤ l.length := by simpa [Nat.ble_eq] using hn
  have hback : ∀ (i : Nat) (o : Oper), l[i]? = some o → ∀ e ∈ o.after.toList, Region.binds .any e = true → e.on < i := by
    intro i o ho e he hbe
    have hi : i < l.length := (List.getElem?_eq_some_iff.1 ho).1
    have := (List.all_eq_true.1 hb) i (List.mem_range.2 hi)
    rw [ho] at this
    have h9 := (List.all_eq_true.1 this) e he
    simpa [hbe] using h9
  have hdst : ∀ i, i < n → PK.isPut ks[i]? = false → ∃ (o : Oper) (d : Nat), l[i]? = some o ∧ o.dst = some d ∧ look G d = none ∧ ∀ (j : Nat) (o' : Oper) (d' : Nat), j < n → l[j]? = some o' → o'.dst = some d' → d = d' → i = j := by
    intro i hi hnp
    have h1 := (List.all_eq_true.1 hd) i (List.mem_range.2 hi)
    have hi' : i < l.length := by omega
    rw [List.getElem?_eq_getElem hi'] at h1
    simp only at h1
    cases hdd : l[i].dst with
    | none => rw [hdd] at h1; rw [hnp] at h1; cases h1
    | some d =>
      rw [hdd] at h1
      simp only [Bool.and_eq_true] at h1
      refine ⟨l[i], d, List.getElem?_eq_getElem hi', hdd, by simpa using h1.1, fun j o' d' hj ho' hd' he => ?_⟩
      have h2 := (List.all_eq_true.1 h1.2) j (List.mem_range.2 hj)
      rw [ho'] at h2
      simp only [hd'] at h2
      subst he
      simpa using h2
  have hnodst : ∀ i, i < n → PK.isPut ks[i]? = true → ∀ o, l[i]? = some o → ∀ d, o.dst ≠ some d := by
    intro i hi hp o ho d hdd
    exact hpd i o d hi ho hdd hp
  have toTail : ∀ (listed : Array Bool) (a : Act) (w : World) (bs : Nat → Nat), Mid P E l n ks G Hd q listed a w bs → (∀ i, i < n → listed.getD i false = true) → wpList P l.toArray Q.fn (l.drop n) a w := by
    intro listed a w bs M hall
    refine tail bs a w ⟨M.fN, M.fd, fun s u hs => ?_⟩ ?_
    · rcases look_append hs with hs | hs
      · obtain ⟨i, o, k, h1, h2, h3, h4⟩ := look_outG hs
        have hi : i < n := by have := (List.getElem?_eq_some_iff.1 h2).1; omega
        rw [h4]
        exact M.fV i o s k (hall i hi) h1 h3 h2
      · exact M.fG s u hs
    · have := M.st
      rw [show listed.getD q false = decide (q < n) from (by
        by_cases hqn : q < n
        · rw [hall q hqn, decide_eq_true hqn]
        · rw [M.below q (by omega), decide_eq_false hqn])] at this
      rwa [laidH_all (fun j _ hj => hall j (by omega)) (fun c t p c2 hm => ?_)] at this
      obtain ⟨j, hj⟩ := List.mem_iff_getElem?.1 hm
      rcases hput.new j c t p c2 hj with h | h
      · rw [h]; split <;> rfl
      · have hp : p < n := by
          rcases Nat.lt_or_ge p ks.length with h2 | h2
          · omega
          · rw [List.getElem?_eq_none h2] at h; cases h
        show (if listed.getD p false = true then c2 else c) = c2
        rw [if_pos (hall p hp)]
  intro a w hfr hst
  refine wp_region_any hm ?_
  have key : ∀ (fuel : Nat) (listed : Array Bool) (a : Act) (w : World) (bs : Nat → Nat), Mid P E l n ks G Hd q listed a w bs → cnt (fun i => listed.getD i false) l.length ≤ fuel → wpAny P .any l.toArray Q.fn fuel listed a w := by
    intro fuel
    induction fuel with
    | zero =>
      intro listed a w bs M hc
      -- nothing is left: n = l.length
      have hall : ∀ i, i < l.length → listed.getD i false = true := fun i hi => by
        cases hx : listed.getD i false with
        | true => rfl
        | false => exact absurd (cnt_pos (L := fun i => listed.getD i false) hx l.length hi) (by omega)
      have hnl' : n = l.length := by
        rcases Nat.lt_or_ge n l.length with h | h
        · have := M.below n (Nat.le_refl _); rw [hall n h] at this; cases this
        · omega
      refine tail_any hb hf 0 l.length (by omega) (by omega) 0 listed a w (Nat.le_refl _) M.size (fun j hj => ⟨fun _ => hj, fun _ => hall j hj⟩) ?_
      rw [← hnl']
      exact toTail listed a w bs M (fun i hi => hall i (by omega))
    | succ fuel ih =>
      intro listed a w bs M hc
      by_cases hall : ∀ i, i < n → listed.getD i false = true
      · have hcn : l.length - n ≤ fuel + 1 := by
          have : cnt (fun i => listed.getD i false) l.length = l.length - n := cnt_upto hall M.below l.length hnl
          omega
        exact tail_any hb hf (l.length - n) n (by omega) (Nat.le_refl _) (fuel + 1) listed a w hcn M.size (fun j hj => ⟨fun h => M.lt h, fun h => hall j h⟩) (toTail listed a w bs M hall)
      · have hex : ∃ i, i < n ∧ listed.getD i false = false ∧ ∀ j, j < i → listed.getD j false = true := by
          have : ∀ m, (∀ i, i < m → listed.getD i false = true) ∨ ∃ i, i < m ∧ listed.getD i false = false ∧ ∀ j, j < i → listed.getD j false = true := by
            intro m
            induction m with
            | zero => exact .inl (fun i hi => by omega)
            | succ m ihm =>
              rcases ihm with h | ⟨i, h1, h2, h3⟩
              · cases hx : listed.getD m false with
                | true => exact .inl (fun i hi => if h4 : i < m then h i h4 else (show m = i by omega) ▸ hx)
                | false => exact .inr ⟨m, by omega, hx, h⟩
              · exact .inr ⟨i, by omega, h2, h3⟩
          rcases this n with h | h
          · exact absurd h hall
          · exact h
        obtain ⟨i0, hi0, hi0f, hi0a⟩ := hex
        have hrdy : i0 ∈ Region.ready .any l.toArray listed := (ready_iff M.size i0).2 ⟨l[i0], List.getElem?_eq_getElem (by omega), hi0f, fun e he hbe => hi0a _ (hback i0 _ (List.getElem?_eq_getElem (by omega)) e he hbe)⟩
        refine ⟨(fun h => by rw [h] at hrdy; cases hrdy), fun i hi => ?_⟩
        obtain ⟨o, ho, hlf, hej⟩ := (ready_iff M.size i).1 hi
        have hin : i < n := by
          rcases Nat.lt_or_ge i n with h | h
          · exact h
          · have := closed_forced (L := fun i => listed.getD i false) hb hf h ho (show i0 < i by omega) M.down hej
            rw [hi0f] at this; cases this
        have hki : i < ks.length := by omega
        have hget : ∀ j, j ≠ i → (listed.setIfInBounds i true).getD j false = listed.getD j false := fun j hj => by rw [getD_set (by rw [M.size]; omega), if_neg (Ne.symm hj)]
        have hseti : (listed.setIfInBounds i true).getD i false = true := by rw [getD_set (by rw [M.size]; omega), if_pos rfl]
        have hcells : PK.isPut ks[i]? = false → ∀ c t q c2, PK.new c t q c2 ∈ ks → (if listed.getD q false = true then c2 else c) = (if (listed.setIfInBounds i true).getD q false = true then c2 else c) := fun hnp c t q c2 hm => by
          obtain ⟨j, hj⟩ := List.mem_iff_getElem?.1 hm
          rcases hput.new j c t q c2 hj with h | h
          · rw [h]; simp
          · rw [hget q (fun e => by subst e; rw [hnp] at h; cases h)]
        have hP0 : i ≠ q → i ≠ q2 → i ≠ q3 → Prem P E l.toArray Q (depG l ks o) G (Hd (listed.getD q false)) o ks[i] := fun hiq hi2 hi3 => prems i o ks[i] hiq hi2 hi3 ho (List.getElem?_eq_getElem hki) _
        have hval3 : i = q3 → ∃ v, ks[i] = .val v := fun e => by
          obtain ⟨_, _, _, _, _, _, v, _, _, _, _, _, _, _, _, _, _, _, _, _, _, _, _, _, h, _⟩ := hq3 o (by omega) (by rw [← e]; exact ho)
          rw [← e, List.getElem?_eq_getElem hki] at h
          exact ⟨v, Option.some.inj h⟩
        have hnew2 : i = q2 → ∃ c t p c2, ks[i] = .new c t p c2 := fun e => by
          obtain ⟨_, _, _, c, t, p, c2, _, _, _, _, _, _, _, _, h, _⟩ := hq2 o (by omega) (by rw [← e]; exact ho)
          rw [← e, List.getElem?_eq_getElem hki] at h
          exact ⟨c, t, p, c2, Option.some.inj h⟩
        have hbq : i ≠ q → (listed.setIfInBounds i true).getD q false = listed.getD q false := fun h => hget q (Ne.symm h)
        have hvq : (∀ v, ks[i] ≠ .val v) → i ≠ q := fun h e => by
          obtain ⟨v, hv⟩ := hq ks[i] (by rw [← e]; exact List.getElem?_eq_getElem hki)
          exact h v hv
        have hDep := depG_true M hej
        have hsnap : Fr E.N E.ds a (depG l ks o ++ G ++ idx 0 a.tmps.toList) := ⟨M.fN, M.fd, fun s u hs => by
          rcases look_append hs with hs | hs
          · exact (look_append hs).elim (hDep s u) (M.fG s u)
          · have := look_idx _ 0 s u hs; simpa using this.2⟩
        have hcnt : cnt (fun j => (listed.setIfInBounds i true).getD j false) l.length ≤ fuel := by
          have := cnt_set (L := fun j => listed.getD j false) (L' := fun j => (listed.setIfInBounds i true).getD j false) (p := i) (fun j hj => by show (listed.setIfInBounds i true).getD j false = listed.getD j false; rw [getD_set (by rw [M.size]; omega), if_neg (Ne.symm hj)]) hlf (by show (listed.setIfInBounds i true).getD i false = true; rw [getD_set (by rw [M.size]; omega), if_pos rfl]) l.length (by omega)
          omega
        have hdown' : ∀ (m : Nat) (o' : Oper), (listed.setIfInBounds i true).getD m false = true → l[m]? = some o' → ∀ e ∈ o'.after.toList, Region.binds .any e = true → (listed.setIfInBounds i true).getD e.on false = true := by
          intro m o' hm' ho' e he hbi
          rw [getD_set (by rw [M.size]; omega)] at hm' ⊢
          split
          · rfl
          · split at hm'
            · rename_i e2; subst e2; rw [ho] at ho'; injection ho' with ho'; subst ho'; exact hej e he hbi
            · exact M.down m o' hm' ho' e he hbi
        have hbelow' : ∀ j, n ≤ j → (listed.setIfInBounds i true).getD j false = false := fun j hj => by rw [getD_set (by rw [M.size]; omega), if_neg (by omega)]; exact M.below j hj
        cases hkk : ks[i] with
        | put dj c t c2 =>
          have hiq := hvq (fun v e => by rw [hkk] at e; cases e)
          have hP := hP0 hiq (fun e => by obtain ⟨c, t, p, c2, h⟩ := hnew2 e; rw [hkk] at h; cases h) (fun e => by obtain ⟨v, h⟩ := hval3 e; rw [hkk] at h; cases h)
          rw [hkk] at hP
          obtain ⟨j, oj, op, e, hkj, hoj, hdj, hop, he, hbe, hej2⟩ := hput.put i dj c t c2 (by rw [List.getElem?_eq_getElem hki, hkk])
          rw [ho] at hop; injection hop with hop; subst hop
          have hjl : listed.getD j false = true := hej2 ▸ hej e he hbe
          have hji : j ≠ i := fun e2 => by rw [e2, hlf] at hjl; cases hjl
          have hptr := M.fV j oj dj _ hjl hoj hdj hkj
          obtain ⟨X, hX, hX'⟩ := laidH_put (L := fun i => listed.getD i false) (L' := fun j => (listed.setIfInBounds i true).getD j false) (bs := bs) (p := i) (j := j) (fun m hm => (hget m hm).symm) hlf hseti hjl (os := l) (r := ks) (i := 0) (Nat.zero_le _)
            (fun m c' t' q c2' _ hm hk' => by
              rw [Nat.sub_zero] at hk'
              show (if listed.getD q false = true then c2' else c') = (if (listed.setIfInBounds i true).getD q false = true then c2' else c')
              by_cases hq : q = i
              · subst hq
                rw [hput.uniq j m q c t c2 c' t' c2' hkj hk' (Ne.symm hm)]
                simp
              · rw [hget q hq])
            (fun _ => by rw [Nat.sub_zero, List.getElem?_eq_getElem hki, hkk]; rfl) (o := oj) (d := dj) (c := c) (t := t) (c2 := c2) (by simpa using hoj) hdj (by simpa using hkj)
          have hfr1 : Fr E.N E.ds a ((dj, t (bs dj)) :: (depG l ks o ++ G ++ idx 0 a.tmps.toList)) := ⟨M.fN, M.fd, fun s u hs => by
            unfold look at hs
            cases hb : Nat.beq dj s with
            | true =>
              rw [hb] at hs
              have : dj = s := Nat.eq_of_beq_eq_true hb
              subst this
              simp only [Option.some.injEq] at hs
              subst hs
              exact hptr
            | false => rw [hb] at hs; exact hsnap.at_ s u hs⟩
          have hst1 : St E.w0 E.S (c (bs dj) :: (Hd (listed.getD q false) ++ X)) w := M.st.perm ((List.Perm.append_left _ hX).trans List.perm_middle)
          have h1 := hP (bs dj) (idx 0 a.tmps.toList) X a w hfr1 hst1
          refine wpOp_then (wpOp_mono (fun a' w' h' => ?_) (wpOp_of_list ho h1))
          obtain ⟨hfr', hst'⟩ := h'
          have hkeep : ∀ s u, a.tmps[s]? = some u → a'.tmps[s]? = some u := fun s u hs => by
            by_cases hsd : s = dj
            · subst hsd
              rw [hptr] at hs
              injection hs with hs
              subst hs
              exact hfr'.at_ _ _ (by simp [look, Nat.beq_refl, PK.out])
            · exact slot_kept hDep M.fG hfr' hsd hs
          refine ih _ a' w' bs ⟨by simp [M.size], hbelow', hdown', hfr'.size, hfr'.defers, fun s u hs => hkeep s u (M.fG s u hs), fun m o' d' k hm' ho' hd' hk' => ?_, ?_⟩ hcnt
          · by_cases hmi : m = i
            · subst hmi
              rw [List.getElem?_eq_getElem hki, hkk] at hk'; injection hk' with hk'; subst hk'
              rw [ho] at ho'; injection ho' with ho'; subst ho'
              exact absurd hd' (hnodst m hin (by rw [List.getElem?_eq_getElem hki, hkk]; rfl) o ho d')
            · rw [hget m hmi] at hm'
              exact hkeep _ _ (M.fV m o' d' k hm' ho' hd' hk')
          · rw [hbq hiq]
            exact hst'.perm (List.perm_middle.symm.trans (List.Perm.append_left _ hX'.symm))
        | val v =>
          have hnp : PK.isPut ks[i]? = false := by rw [List.getElem?_eq_getElem hki, hkk]; rfl
          obtain ⟨o2, d, ho2, hdd, hGd, huniq⟩ := hdst i hin hnp
          rw [ho] at ho2
          injection ho2 with ho2
          subst ho2
          have hop : Go.wpOp P l.toArray Q.fn i (fun a' w => ∃ d, o.dst = some d ∧ Fr E.N E.ds a' ((d, v) :: (depG l ks o ++ G ++ idx 0 a.tmps.toList)) ∧ St E.w0 E.S (Hd ((listed.setIfInBounds i true).getD q false) ++ laidH (fun i => listed.getD i false) l ks 0 bs) w) a w := by
            by_cases hiq : i = q
            · have hst0 := M.st
              rw [← hiq, hlf] at hst0
              rw [← hiq, hseti]
              exact wpOp_then (wpOp_of_list ho (premq o v (by rw [← hiq]; exact ho) (by rw [← hiq, List.getElem?_eq_getElem hki, hkk]) (idx 0 a.tmps.toList) (laidH (fun i => listed.getD i false) l ks 0 bs) a w hsnap hst0))
            · rw [hbq hiq]
              by_cases hi3 : i = q3
              · obtain ⟨e, e', oj, oj', dj, dj', v', cj, cj', tj, tj', pj, pj', he, hbe, hej2, he', hbe', hej2', hjj, hoj, hdj, hoj', hdj', hk2, hkj, hkj', hp2⟩ := hq3 o (by omega) (by rw [← hi3]; exact ho)
                rw [← hi3, List.getElem?_eq_getElem hki, hkk] at hk2
                injection hk2 with hk2
                injection hk2 with e1
                subst e1
                have hjl : listed.getD j3 false = true := hej2 ▸ hej e he hbe
                have hjl' : listed.getD j4 false = true := hej2' ▸ hej e' he' hbe'
                have hptr := M.fV j3 oj dj _ hjl hoj hdj hkj
                have hptr' := M.fV j4 oj' dj' _ hjl' hoj' hdj' hkj'
                obtain ⟨X, hX⟩ := laidH_get2 (L := fun i => listed.getD i false) (bs := bs) (j := j3) (j' := j4) hjj hjl hjl' (os := l) (r := ks) (i := 0) (Nat.zero_le _) (by simpa using hoj) hdj (by simpa using hkj) (by simpa using hoj') hdj' (by simpa using hkj')
                have hfr1 : Fr E.N E.ds a ((dj, tj (bs dj)) :: (dj', tj' (bs dj')) :: (depG l ks o ++ G ++ idx 0 a.tmps.toList)) := ⟨M.fN, M.fd, fun s u hs => by
                  unfold look at hs
                  cases hb : Nat.beq dj s with
                  | true =>
                    rw [hb] at hs
                    have : dj = s := Nat.eq_of_beq_eq_true hb
                    subst this
                    simp only [Option.some.injEq] at hs
                    subst hs
                    exact hptr
                  | false =>
                    rw [hb] at hs
                    simp only at hs
                    unfold look at hs
                    cases hb' : Nat.beq dj' s with
                    | true =>
                      rw [hb'] at hs
                      have : dj' = s := Nat.eq_of_beq_eq_true hb'
                      subst this
                      simp only [Option.some.injEq] at hs
                      subst hs
                      exact hptr'
                    | false => rw [hb'] at hs; exact hsnap.at_ s u hs⟩
                have hst1 : St E.w0 E.S (cj (bs dj) :: cj' (bs dj') :: (Hd (listed.getD q false) ++ X)) w := M.st.perm (((List.Perm.append_left _ hX).trans List.perm_middle).trans (List.Perm.cons _ List.perm_middle))
                have h1 := hp2 (listed.getD q false) (bs dj) (bs dj') (idx 0 a.tmps.toList) X a w hfr1 hst1
                refine wpOp_then (wpOp_mono (fun a' w' h' => ?_) (wpOp_of_list ho h1))
                obtain ⟨d', hd', hfr', hst'⟩ := h'
                rw [hdd] at hd'
                injection hd' with hd'
                subst hd'
                refine ⟨d, hdd, ⟨hfr'.size, hfr'.defers, fun s u hs => ?_⟩, hst'.perm (((List.Perm.cons _ List.perm_middle.symm).trans List.perm_middle.symm).trans (List.Perm.append_left _ hX.symm))⟩
                unfold look at hs
                cases hb : Nat.beq d s with
                | true => rw [hb] at hs; exact hfr'.at_ s u (by unfold look; rw [hb]; exact hs)
                | false =>
                  rw [hb] at hs
                  refine hfr'.at_ s u (by
                    unfold look
                    rw [hb]
                    simp only
                    unfold look
                    cases hb2 : Nat.beq dj s with
                    | true =>
                      have : dj = s := Nat.eq_of_beq_eq_true hb2
                      subst this
                      have h9 := hsnap.at_ _ u hs
                      rw [hptr] at h9
                      simpa [PK.out] using h9
                    | false =>
                      simp only
                      unfold look
                      cases hb3 : Nat.beq dj' s with
                      | false => exact hs
                      | true =>
                        have : dj' = s := Nat.eq_of_beq_eq_true hb3
                        subst this
                        have h9 := hsnap.at_ _ u hs
                        rw [hptr'] at h9
                        simpa [PK.out] using h9)
              · have hP := hP0 hiq (fun e => by obtain ⟨c, t, p, c2, h⟩ := hnew2 e; rw [hkk] at h; cases h) hi3
                rw [hkk] at hP
                exact wpOp_then (wpOp_of_list ho (hP (idx 0 a.tmps.toList) (laidH (fun i => listed.getD i false) l ks 0 bs) a w hsnap M.st))
          refine wpOp_mono (fun a' w' h' => ?_) hop
          obtain ⟨d2, hd2, hfr', hst'⟩ := h'
          rw [hdd] at hd2
          injection hd2 with hd2
          subst hd2
          refine ih _ a' w' bs ⟨by simp [M.size], hbelow', hdown', hfr'.size, hfr'.defers, fun s u hs => ?_, fun m o' d' k hm' ho' hd' hk' => ?_, ?_⟩ hcnt
          · exact slot_kept hDep M.fG hfr' (fun e => by subst e; rw [hGd] at hs; cases hs) (M.fG s u hs)
          · rw [getD_set (by rw [M.size]; omega)] at hm'
            by_cases hmi : i = m
            · subst hmi
              rw [ho] at ho'; injection ho' with ho'; subst ho'
              rw [hdd] at hd'; injection hd' with hd'; subst hd'
              rw [List.getElem?_eq_getElem hki, hkk] at hk'; injection hk' with hk'; subst hk'
              exact hfr'.at_ _ _ (by simp [look, Nat.beq_refl, PK.out])
            · rw [if_neg hmi] at hm'
              have hmn : m < n := M.lt hm'
              refine slot_kept hDep M.fG hfr' (fun e => hmi (huniq m o' d' hmn ho' hd' e.symm)) (M.fV m o' d' k hm' ho' hd' hk')
          · have : laidH (fun i_1 => (listed.setIfInBounds i true).getD i_1 false) l ks 0 bs = laidH (fun i => listed.getD i false) l ks 0 bs := by
              exact laidH_val (p := i) (v := v) (fun j hj => by rw [getD_set (by rw [M.size]; omega), if_neg (Ne.symm hj)]) (fun _ => by rw [Nat.sub_zero, List.getElem?_eq_getElem hki, hkk]) (fun c t q c2 hm => (hcells hnp c t q c2 hm).symm)
            rw [this]; exact hst'
        | new c t q0 c2 =>
          have hiq := hvq (fun v e => by rw [hkk] at e; cases e)
          have hnp : PK.isPut ks[i]? = false := by rw [List.getElem?_eq_getElem hki, hkk]; rfl
          obtain ⟨o2, d, ho2, hdd, hGd, huniq⟩ := hdst i hin hnp
          rw [ho] at ho2
          injection ho2 with ho2
          subst ho2
          have hop : Go.wpOp P l.toArray Q.fn i (fun a' w => ∃ b d, o.dst = some d ∧ Fr E.N E.ds a' ((d, t b) :: (depG l ks o ++ G ++ idx 0 a.tmps.toList)) ∧ St E.w0 E.S (c b :: (Hd (listed.getD q false) ++ laidH (fun i => listed.getD i false) l ks 0 bs)) w) a w := by
            by_cases hi2 : i = q2
            · obtain ⟨e, oj, dj, c', t', p', c2', cj, tj, pj, he, hbe, hej2, hoj, hdj, hk2, hkj, hp2⟩ := hq2 o (by omega) (by rw [← hi2]; exact ho)
              rw [← hi2, List.getElem?_eq_getElem hki, hkk] at hk2
              injection hk2 with hk2
              injection hk2 with e1 e2 e3 e4
              subst e1; subst e2
              have hjl : listed.getD j2 false = true := hej2 ▸ hej e he hbe
              have hptr := M.fV j2 oj dj _ hjl hoj hdj hkj
              obtain ⟨X, hX⟩ := laidH_get (L := fun i => listed.getD i false) (bs := bs) (j := j2) hjl (os := l) (r := ks) (i := 0) (Nat.zero_le _) (by simpa using hoj) hdj (by simpa using hkj)
              have hfr1 : Fr E.N E.ds a ((dj, tj (bs dj)) :: (depG l ks o ++ G ++ idx 0 a.tmps.toList)) := ⟨M.fN, M.fd, fun s u hs => by
                unfold look at hs
                cases hb : Nat.beq dj s with
                | true =>
                  rw [hb] at hs
                  have : dj = s := Nat.eq_of_beq_eq_true hb
                  subst this
                  simp only [Option.some.injEq] at hs
                  subst hs
                  exact hptr
                | false => rw [hb] at hs; exact hsnap.at_ s u hs⟩
              have hst1 : St E.w0 E.S (cj (bs dj) :: (Hd (listed.getD q false) ++ X)) w := M.st.perm ((List.Perm.append_left _ hX).trans List.perm_middle)
              have h1 := hp2 (listed.getD q false) (bs dj) (idx 0 a.tmps.toList) X a w hfr1 hst1
              refine wpOp_then (wpOp_mono (fun a' w' h' => ?_) (wpOp_of_list ho h1))
              obtain ⟨b', d', hd', hfr', hst'⟩ := h'
              rw [hdd] at hd'
              injection hd' with hd'
              subst hd'
              refine ⟨b', d, hdd, ⟨hfr'.size, hfr'.defers, fun s u hs => ?_⟩, hst'.perm (List.Perm.cons _ (List.perm_middle.symm.trans (List.Perm.append_left _ hX.symm)))⟩
              unfold look at hs
              cases hb : Nat.beq d s with
              | true => rw [hb] at hs; exact hfr'.at_ s u (by unfold look; rw [hb]; exact hs)
              | false =>
                rw [hb] at hs
                refine hfr'.at_ s u (by
                  unfold look
                  rw [hb]
                  simp only
                  unfold look
                  cases hb2 : Nat.beq dj s with
                  | false => exact hs
                  | true =>
                    have : dj = s := Nat.eq_of_beq_eq_true hb2
                    subst this
                    have h9 := hsnap.at_ _ u hs
                    rw [hptr] at h9
                    simpa [PK.out] using h9)
            · have hP := hP0 hiq hi2 (fun e => by obtain ⟨v, h⟩ := hval3 e; rw [hkk] at h; cases h)
              rw [hkk] at hP
              exact wpOp_then (wpOp_of_list ho (hP (idx 0 a.tmps.toList) (laidH (fun i => listed.getD i false) l ks 0 bs) a w hsnap M.st))
          refine wpOp_mono (fun a' w' h' => ?_) hop
          obtain ⟨b, d2, hd2, hfr', hst'⟩ := h'
          rw [hdd] at hd2
          injection hd2 with hd2
          subst hd2
          refine ih _ a' w' (fun s => if s = d then b else bs s) ⟨by simp [M.size], hbelow', hdown', hfr'.size, hfr'.defers, fun s u hs => ?_, fun m o' d' k hm' ho' hd' hk' => ?_, ?_⟩ hcnt
          · exact slot_kept hDep M.fG hfr' (fun e => by subst e; rw [hGd] at hs; cases hs) (M.fG s u hs)
          · rw [getD_set (by rw [M.size]; omega)] at hm'
            by_cases hmi : i = m
            · subst hmi
              rw [ho] at ho'; injection ho' with ho'; subst ho'
              rw [hdd] at hd'; injection hd' with hd'; subst hd'
              rw [List.getElem?_eq_getElem hki, hkk] at hk'; injection hk' with hk'; subst hk'
              rw [if_pos rfl]
              exact hfr'.at_ _ _ (by simp [look, Nat.beq_refl, PK.out])
            · rw [if_neg hmi] at hm'
              have hmn : m < n := M.lt hm'
              have hne : d' ≠ d := fun e => hmi (huniq m o' d' hmn ho' hd' e.symm)
              rw [if_neg hne]
              exact slot_kept hDep M.fG hfr' hne (M.fV m o' d' k hm' ho' hd' hk')
          · have hp := laidH_add (L := fun i => listed.getD i false) (L' := fun j => (listed.setIfInBounds i true).getD j false) (bs := bs) (bs' := fun s => if s = d then b else bs s) (p := i) (os := l) (r := ks) (i := 0) (Nat.zero_le _)
              (fun j hj => by show listed.getD j false = (listed.setIfInBounds i true).getD j false; rw [getD_set (by rw [M.size]; omega), if_neg (Ne.symm hj)]) hlf (by show (listed.setIfInBounds i true).getD i false = true; rw [getD_set (by rw [M.size]; omega), if_pos rfl])
              (fun j o' d' h1 h2 h3 h4 => by
                simp only [Nat.zero_add] at h4
                have hne : d' ≠ d := fun e => by
                  have := huniq j o' d' (by omega) h1 h2 e.symm
                  subst this
                  rw [hlf] at h4; cases h4
                simp [hne]) (hcells hnp) (o := o) (d := d) (c := c) (t := t) (by simpa using ho) hdd (by rw [Nat.sub_zero, List.getElem?_eq_getElem hki, hkk]) (by
                show (if (listed.setIfInBounds i true).getD q0 false = true then c2 else c) = c
                have hki' : ks[i]? = some (.new c t q0 c2) := by rw [List.getElem?_eq_getElem hki, hkk]
                rcases hput.new i c t q0 c2 hki' with h | h
                · rw [h]; split <;> rfl
                · cases hq : ks[q0]? with
                  | none => rw [hq] at h; cases h
                  | some kq =>
                    rw [hq] at h
                    cases kq with
                    | put dj c' t' c2' =>
                      obtain ⟨j, oj, op, e, hkj, hoj, hdj, hop, he, hbe, hej2⟩ := hput.put q0 dj c' t' c2' hq
                      have hqi : q0 ≠ i := fun e2 => by subst e2; rw [hki'] at hq; cases hq
                      by_cases hji : j = i
                      · rw [hget q0 hqi]
                        cases hlq : listed.getD q0 false with
                        | false => rfl
                        | true =>
                          have := M.down q0 op hlq hop e he hbe
                          rw [hej2, hji, hlf] at this; cases this
                      · have := hput.uniq j i q0 c' t' c2' c t c2 hkj hki' hji
                        rw [this]; split <;> rfl
                    | val v => cases h
                    | new _ _ _ _ => cases h)
            simp only [if_true] at hp
            rw [hbq hiq]
            refine hst'.perm ?_
            exact List.perm_middle.symm.trans (List.Perm.append_left _ hp)
  have hrep : ∀ j, (Array.replicate l.toArray.size false).getD j false = false := fun j => by
    simp only [Array.getD_eq_getD_getElem?, Array.getElem?_replicate]
    split <;> rfl
  refine key l.toArray.size _ a w.drew (fun _ => 0) ⟨by simp, fun i _ => hrep i, fun i o h => (by rw [hrep i] at h; cases h), hfr.size, hfr.defers, hfr.at_, fun i o d k h => (by rw [hrep i] at h; cases h), ?_⟩ ?_
  · have : laidH (fun i => (Array.replicate l.toArray.size false).getD i false) l ks 0 (fun _ => 0) = [] := laidH_none hrep
    rw [this, List.append_nil, hrep q]
    exact hst.drew
  · simpa using cnt_le (fun i => (Array.replicate l.toArray.size false).getD i false) l.length
end
end Go.Proofs.Ytkfmlekomfnleaa
