/- Parts of the proof: The calculus (printed by gen_e4.py): open orders, an operation that sees what another has laid and turns what is given. · The calculus: a statement whose order is open and in which data of one's own grows: each operation in turn, the append among them. · A slice of one's own as a number. · resolve.Literal. · resolve.Of, Sorts, Class, by the calculus. · The calculus: an append that has room, one that has none: where it comes to lie. · The marks of a book's lists. · A book's rows as chunks: taken out, put back, marked, grown. Conditions: none. -/
import Derived.Test.YtkfmlekomfnleaaGreatPo7
/- The calculus (printed by gen_e4.py): open orders, an operation that sees what another has laid and turns what is given. Conditions: none; everything holds over any program. -/
set_option linter.unusedVariables false
set_option linter.unusedSimpArgs false
namespace Go.Proofs.YtkfmlekomfnleaaGreat
open Go Go.RowKit

section
variable {P : Program} {E : Env} {Q : Pst} {G : List (Nat × Value)} {H : List HP} {l : List Oper} {n : Nat} {ks : List PK}
/-- A statement whose order is open; the operation at place q sees what the one at j2 has laid, turns the chunks that are given, and lays one. -/
theorem WA.anyA (q j2 : Nat) (Hd : Bool → List HP) (n : Nat) (ks : List PK) (hk : ks.length = n) (hn : Nat.ble n l.length = true) (hb : backB l = true) (hf : forcedB l n = true) (hd : dstB l ks n G = true) (hput : PutOK l ks) (hpd : ∀ (i : Nat) (o : Oper) (d : Nat), i < n → l[i]? = some o → o.dst = some d → PK.isPut ks[i]? = true → False)
    (prems : ∀ (i : Nat) (o : Oper) (k : PK), i ≠ q → l[i]? = some o → ks[i]? = some k → (∀ b, Prem P E l.toArray Q (depG l ks o) G (Hd b) o k) ∨ ∃ (e : Edge) (oj : Oper) (dj : Nat) (v : Value) (cj : Nat → HP) (tj : Nat → Value) (pj : Nat), e ∈ o.after.toList ∧ Region.binds .any e = true ∧ l[e.on]? = some oj ∧ oj.dst = some dj ∧ k = .val v ∧ ks[e.on]? = some (.new cj tj pj cj) ∧ ∀ (b0 : Bool) (b : Nat) (Gx : List (Nat × Value)) (X : List HP), RW P E l.toArray (Pst.then (fun a w => ∃ d, o.dst = some d ∧ Fr E.N E.ds a ((d, v) :: (dj, tj b) :: (depG l ks o ++ G ++ Gx)) ∧ St E.w0 E.S (cj b :: (Hd b0 ++ X)) w) Q) [o] ((dj, tj b) :: (depG l ks o ++ G ++ Gx)) (cj b :: (Hd b0 ++ X)))
    (hq2 : ∀ o, q < n → l[q]? = some o → ∃ (e : Edge) (oj : Oper) (dj : Nat) (c : Nat → HP) (t : Nat → Value) (p : Nat) (c2 cj : Nat → HP) (tj : Nat → Value) (pj : Nat), e ∈ o.after.toList ∧ Region.binds .any e = true ∧ e.on = j2 ∧ l[j2]? = some oj ∧ oj.dst = some dj ∧ ks[q]? = some (.new c t p c2) ∧ ks[j2]? = some (.new cj tj pj cj) ∧
      ∀ (b : Nat) (Gx : List (Nat × Value)) (X : List HP), RW P E l.toArray (Pst.then (fun a w => ∃ b' d, o.dst = some d ∧ Fr E.N E.ds a ((d, t b') :: (dj, tj b) :: (depG l ks o ++ G ++ Gx)) ∧ St E.w0 E.S (c b' :: cj b :: (Hd true ++ X)) w) Q) [o] ((dj, tj b) :: (depG l ks o ++ G ++ Gx)) (cj b :: (Hd false ++ X)))
    (tail : ∀ bs, RW P E l.toArray Q (l.drop n) (outG l ks bs ++ G) (Hd (decide (q < n)) ++ newH l ks bs)) : WA P E l Q G (Hd false) := by
  have hnl : n ≤ l.length := by simpa [Nat.ble_eq] using hn
  have hback : ∀ (i : Nat) (o : Oper), l[i]? = some o → ∀ e ∈ o.after.toList, Region.binds .any e = true → e.on < i := by
    intro i o ho e he hbe
    have hi : i < l.length := (List.getElem?_eq_some_iff.1 ho).1
    have := (List.all_eq_true.1 hb) i (List.mem_range.2 hi)
    rw [ho] at this
    have h9 := (List.all_eq_true.1 this) e he
    simpa [hbe] using h9
  have hdst : ∀ i, i < n → PK.isPut ks[i]? = false → ∃ (o : Oper) (d : Nat), l[i]? = some o ∧ o.dst = some d ∧ look G d = none ∧ ∀ (j : Nat) (o' : Oper) (d' : Nat), j < n → l[j]? = some o' → o'.dst = some d' → d = d' → i = j := by
    intro i hi hnp
    have h1 := (List.all_eq_true.1 hd) i (List.mem_range.2 hi)
    have hi' : i < l.length := by omega
    rw [List.getElem?_eq_getElem hi'] at h1
    simp only at h1
    cases hdd : l[i].dst with
    | none => rw [hdd] at h1; rw [hnp] at h1; cases h1
    | some d =>
      rw [hdd] at h1
      simp only [Bool.and_eq_true] at h1
      refine ⟨l[i], d, List.getElem?_eq_getElem hi', hdd, by simpa using h1.1, fun j o' d' hj ho' hd' he => ?_⟩
      have h2 := (List.all_eq_true.1 h1.2) j (List.mem_range.2 hj)
      rw [ho'] at h2
      simp only [hd'] at h2
      subst he
      simpa using h2
  have hnodst : ∀ i, i < n → PK.isPut ks[i]? = true → ∀ o, l[i]? = some o → ∀ d, o.dst ≠ some d := by
    intro i hi hp o ho d hdd
    exact hpd i o d hi ho hdd hp
  have toTail : ∀ (listed : Array Bool) (a : Act) (w : World) (bs : Nat → Nat), Mid P E l n ks G Hd q listed a w bs → (∀ i, i < n → listed.getD i false = true) → wpList P l.toArray Q.fn (l.drop n) a w := by
    intro listed a w bs M hall
    refine tail bs a w ⟨M.fN, M.fd, fun s u hs => ?_⟩ ?_
    · rcases look_append hs with hs | hs
      · obtain ⟨i, o, k, h1, h2, h3, h4⟩ := look_outG hs
        have hi : i < n := by have := (List.getElem?_eq_some_iff.1 h2).1; omega
        rw [h4]
        exact M.fV i o s k (hall i hi) h1 h3 h2
      · exact M.fG s u hs
    · have := M.st
      rw [show listed.getD q false = decide (q < n) from (by
        by_cases hqn : q < n
        · rw [hall q hqn, decide_eq_true hqn]
        · rw [M.below q (by omega), decide_eq_false hqn])] at this
      rwa [laidH_all (fun j _ hj => hall j (by omega)) (fun c t p c2 hm => ?_)] at this
      obtain ⟨j, hj⟩ := List.mem_iff_getElem?.1 hm
      rcases hput.new j c t p c2 hj with h | h
      · rw [h]; split <;> rfl
      · have hp : p < n := by
          rcases Nat.lt_or_ge p ks.length with h2 | h2
          · omega
          · rw [List.getElem?_eq_none h2] at h; cases h
        show (if listed.getD p false = true then c2 else c) = c2
        rw [if_pos (hall p hp)]
  intro a w hfr hst
  have key : ∀ (fuel : Nat) (listed : Array Bool) (a : Act) (w : World) (bs : Nat → Nat), Mid P E l n ks G Hd q listed a w bs → cnt (fun i => listed.getD i false) l.length ≤ fuel → wpAny P .any l.toArray Q.fn fuel listed a w := by
    intro fuel
    induction fuel with
    | zero =>
      intro listed a w bs M hc
      -- nothing is left: n = l.length
      have hall : ∀ i, i < l.length → listed.getD i false = true := fun i hi => by
        cases hx : listed.getD i false with
        | true => rfl
        | false => exact absurd (cnt_pos (L := fun i => listed.getD i false) hx l.length hi) (by omega)
      have hnl' : n = l.length := by
        rcases Nat.lt_or_ge n l.length with h | h
        · have := M.below n (Nat.le_refl _); rw [hall n h] at this; cases this
        · omega
      refine tail_any hb hf 0 l.length (by omega) (by omega) 0 listed a w (Nat.le_refl _) M.size (fun j hj => ⟨fun _ => hj, fun _ => hall j hj⟩) ?_
      rw [← hnl']
      exact toTail listed a w bs M (fun i hi => hall i (by omega))
    | succ fuel ih =>
      intro listed a w bs M hc
      by_cases hall : ∀ i, i < n → listed.getD i false = true
      · have hcn : l.length - n ≤ fuel + 1 := by
          have : cnt (fun i => listed.getD i false) l.length = l.length - n := cnt_upto hall M.below l.length hnl
          omega
        exact tail_any hb hf (l.length - n) n (by omega) (Nat.le_refl _) (fuel + 1) listed a w hcn M.size (fun j hj => ⟨fun h => M.lt h, fun h => hall j h⟩) (toTail listed a w bs M hall)
      · have hex : ∃ i, i < n ∧ listed.getD i false = false ∧ ∀ j, j < i → listed.getD j false = true := by
          have : ∀ m, (∀ i, i < m → listed.getD i false = true) ∨ ∃ i, i < m ∧ listed.getD i false = false ∧ ∀ j, j < i → listed.getD j false = true := by
            intro m
            induction m with
            | zero => exact .inl (fun i hi => by omega)
            | succ m ihm =>
              rcases ihm with h | ⟨i, h1, h2, h3⟩
              · cases hx : listed.getD m false with
                | true => exact .inl (fun i hi => if h4 : i < m then h i h4 else (show m = i by omega) ▸ hx)
                | false => exact .inr ⟨m, by omega, hx, h⟩
              · exact .inr ⟨i, by omega, h2, h3⟩
          rcases this n with h | h
          · exact absurd h hall
          · exact h
        obtain ⟨i0, hi0, hi0f, hi0a⟩ := hex
        have hrdy : i0 ∈ Region.ready .any l.toArray listed := (ready_iff M.size i0).2 ⟨l[i0], List.getElem?_eq_getElem (by omega), hi0f, fun e he hbe => hi0a _ (hback i0 _ (List.getElem?_eq_getElem (by omega)) e he hbe)⟩
        refine ⟨(fun h => by rw [h] at hrdy; cases hrdy), fun i hi => ?_⟩
        obtain ⟨o, ho, hlf, hej⟩ := (ready_iff M.size i).1 hi
        have hin : i < n := by
          rcases Nat.lt_or_ge i n with h | h
          · exact h
          · have := closed_forced (L := fun i => listed.getD i false) hb hf h ho (show i0 < i by omega) M.down hej
            rw [hi0f] at this; cases this
        have hki : i < ks.length := by omega
        have hget : ∀ j, j ≠ i → (listed.setIfInBounds i true).getD j false = listed.getD j false := fun j hj => by rw [getD_set (by rw [M.size]; omega), if_neg (Ne.symm hj)]
        have hseti : (listed.setIfInBounds i true).getD i false = true := by rw [getD_set (by rw [M.size]; omega), if_pos rfl]
        have hcells : PK.isPut ks[i]? = false → ∀ c t q c2, PK.new c t q c2 ∈ ks → (if listed.getD q false = true then c2 else c) = (if (listed.setIfInBounds i true).getD q false = true then c2 else c) := fun hnp c t q c2 hm => by
          obtain ⟨j, hj⟩ := List.mem_iff_getElem?.1 hm
          rcases hput.new j c t q c2 hj with h | h
          · rw [h]; simp
          · rw [hget q (fun e => by subst e; rw [hnp] at h; cases h)]
        have hP00 := fun (hiq : i ≠ q) => prems i o ks[i] hiq ho (List.getElem?_eq_getElem hki)
        have hP0 : i ≠ q → (∀ v, ks[i] ≠ .val v) → Prem P E l.toArray Q (depG l ks o) G (Hd (listed.getD q false)) o ks[i] := fun hiq hv => (hP00 hiq).elim (fun h => h _) (fun ⟨_, _, _, v, _, _, _, _, _, _, _, h, _⟩ => absurd h (hv v))
        have hnew2 : i = q → ∃ c t p c2, ks[i] = .new c t p c2 := fun e => by
          obtain ⟨_, _, _, c, t, p, c2, _, _, _, _, _, _, _, _, h, _⟩ := hq2 o (by omega) (by rw [← e]; exact ho)
          rw [← e, List.getElem?_eq_getElem hki] at h
          exact ⟨c, t, p, c2, Option.some.inj h⟩
        have hbq : i ≠ q → (listed.setIfInBounds i true).getD q false = listed.getD q false := fun h => hget q (Ne.symm h)
        have hvq : (∀ c t p c2, ks[i] ≠ .new c t p c2) → i ≠ q := fun h e => by
          obtain ⟨c, t, p, c2, hh⟩ := hnew2 e
          exact h _ _ _ _ hh
        have hDep := depG_true M hej
        have hsnap : Fr E.N E.ds a (depG l ks o ++ G ++ idx 0 a.tmps.toList) := ⟨M.fN, M.fd, fun s u hs => by
          rcases look_append hs with hs | hs
          · exact (look_append hs).elim (hDep s u) (M.fG s u)
          · have := look_idx _ 0 s u hs; simpa using this.2⟩
        have hcnt : cnt (fun j => (listed.setIfInBounds i true).getD j false) l.length ≤ fuel := by
          have := cnt_set (L := fun j => listed.getD j false) (L' := fun j => (listed.setIfInBounds i true).getD j false) (p := i) (fun j hj => by show (listed.setIfInBounds i true).getD j false = listed.getD j false; rw [getD_set (by rw [M.size]; omega), if_neg (Ne.symm hj)]) hlf (by show (listed.setIfInBounds i true).getD i false = true; rw [getD_set (by rw [M.size]; omega), if_pos rfl]) l.length (by omega)
          omega
        have hdown' : ∀ (m : Nat) (o' : Oper), (listed.setIfInBounds i true).getD m false = true → l[m]? = some o' → ∀ e ∈ o'.after.toList, Region.binds .any e = true → (listed.setIfInBounds i true).getD e.on false = true := by
          intro m o' hm' ho' e he hbi
          rw [getD_set (by rw [M.size]; omega)] at hm' ⊢
          split
          · rfl
          · split at hm'
            · rename_i e2; subst e2; rw [ho] at ho'; injection ho' with ho'; subst ho'; exact hej e he hbi
            · exact M.down m o' hm' ho' e he hbi
        have hbelow' : ∀ j, n ≤ j → (listed.setIfInBounds i true).getD j false = false := fun j hj => by rw [getD_set (by rw [M.size]; omega), if_neg (by omega)]; exact M.below j hj
        cases hkk : ks[i] with
        | put dj c t c2 =>
          have hiq := hvq (fun c t p c2 e => by rw [hkk] at e; cases e)
          have hP := hP0 hiq (fun v e => by rw [hkk] at e; cases e)
          rw [hkk] at hP
          obtain ⟨j, oj, op, e, hkj, hoj, hdj, hop, he, hbe, hej2⟩ := hput.put i dj c t c2 (by rw [List.getElem?_eq_getElem hki, hkk])
          rw [ho] at hop; injection hop with hop; subst hop
          have hjl : listed.getD j false = true := hej2 ▸ hej e he hbe
          have hji : j ≠ i := fun e2 => by rw [e2, hlf] at hjl; cases hjl
          have hptr := M.fV j oj dj _ hjl hoj hdj hkj
          obtain ⟨X, hX, hX'⟩ := laidH_put (L := fun i => listed.getD i false) (L' := fun j => (listed.setIfInBounds i true).getD j false) (bs := bs) (p := i) (j := j) (fun m hm => (hget m hm).symm) hlf hseti hjl (os := l) (r := ks) (i := 0) (Nat.zero_le _)
            (fun m c' t' q c2' _ hm hk' => by
              rw [Nat.sub_zero] at hk'
              show (if listed.getD q false = true then c2' else c') = (if (listed.setIfInBounds i true).getD q false = true then c2' else c')
              by_cases hq : q = i
              · subst hq
                rw [hput.uniq j m q c t c2 c' t' c2' hkj hk' (Ne.symm hm)]
                simp
              · rw [hget q hq])
            (fun _ => by rw [Nat.sub_zero, List.getElem?_eq_getElem hki, hkk]; rfl) (o := oj) (d := dj) (c := c) (t := t) (c2 := c2) (by simpa using hoj) hdj (by simpa using hkj)
          have hfr1 : Fr E.N E.ds a ((dj, t (bs dj)) :: (depG l ks o ++ G ++ idx 0 a.tmps.toList)) := ⟨M.fN, M.fd, fun s u hs => by
            unfold look at hs
            cases hb : Nat.beq dj s with
            | true =>
              rw [hb] at hs
              have : dj = s := Nat.eq_of_beq_eq_true hb
              subst this
              simp only [Option.some.injEq] at hs
              subst hs
              exact hptr
            | false => rw [hb] at hs; exact hsnap.at_ s u hs⟩
          have hst1 : St E.w0 E.S (c (bs dj) :: (Hd (listed.getD q false) ++ X)) w := M.st.perm ((List.Perm.append_left _ hX).trans List.perm_middle)
          have h1 := hP (bs dj) (idx 0 a.tmps.toList) X a w hfr1 hst1
          refine wpOp_then (wpOp_mono (fun a' w' h' => ?_) (wpOp_of_list ho h1))
          obtain ⟨hfr', hst'⟩ := h'
          have hkeep : ∀ s u, a.tmps[s]? = some u → a'.tmps[s]? = some u := fun s u hs => by
            by_cases hsd : s = dj
            · subst hsd
              rw [hptr] at hs
              injection hs with hs
              subst hs
              exact hfr'.at_ _ _ (by simp [look, Nat.beq_refl, PK.out])
            · exact slot_kept hDep M.fG hfr' hsd hs
          refine ih _ a' w' bs ⟨by simp [M.size], hbelow', hdown', hfr'.size, hfr'.defers, fun s u hs => hkeep s u (M.fG s u hs), fun m o' d' k hm' ho' hd' hk' => ?_, ?_⟩ hcnt
          · by_cases hmi : m = i
            · subst hmi
              rw [List.getElem?_eq_getElem hki, hkk] at hk'; injection hk' with hk'; subst hk'
              rw [ho] at ho'; injection ho' with ho'; subst ho'
              exact absurd hd' (hnodst m hin (by rw [List.getElem?_eq_getElem hki, hkk]; rfl) o ho d')
            · rw [hget m hmi] at hm'
              exact hkeep _ _ (M.fV m o' d' k hm' ho' hd' hk')
          · rw [hbq hiq]
            exact hst'.perm (List.perm_middle.symm.trans (List.Perm.append_left _ hX'.symm))
        | val v =>
          have hnp : PK.isPut ks[i]? = false := by rw [List.getElem?_eq_getElem hki, hkk]; rfl
          obtain ⟨o2, d, ho2, hdd, hGd, huniq⟩ := hdst i hin hnp
          rw [ho] at ho2
          injection ho2 with ho2
          subst ho2
          have hop : Go.wpOp P l.toArray Q.fn i (fun a' w => ∃ d, o.dst = some d ∧ Fr E.N E.ds a' ((d, v) :: (depG l ks o ++ G ++ idx 0 a.tmps.toList)) ∧ St E.w0 E.S (Hd ((listed.setIfInBounds i true).getD q false) ++ laidH (fun i => listed.getD i false) l ks 0 bs) w) a w := by
            have hiq := hvq (fun c t p c2 e => by rw [hkk] at e; cases e)
            rw [hbq hiq]
            rcases hP00 hiq with hP | ⟨e, oj, dj, v', cj, tj, pj, he, hbe, hoj, hdj, hk2, hkj, hp2⟩
            · have hP := hP (listed.getD q false)
              rw [hkk] at hP
              exact wpOp_then (wpOp_of_list ho (hP (idx 0 a.tmps.toList) (laidH (fun i => listed.getD i false) l ks 0 bs) a w hsnap M.st))
            · rw [hkk] at hk2
              injection hk2 with e1
              subst e1
              have hjl : listed.getD e.on false = true := hej e he hbe
              have hptr := M.fV e.on oj dj _ hjl hoj hdj hkj
              obtain ⟨X, hX⟩ := laidH_get (L := fun i => listed.getD i false) (bs := bs) (j := e.on) hjl (os := l) (r := ks) (i := 0) (Nat.zero_le _) (by simpa using hoj) hdj (by simpa using hkj)
              have hfr1 : Fr E.N E.ds a ((dj, tj (bs dj)) :: (depG l ks o ++ G ++ idx 0 a.tmps.toList)) := ⟨M.fN, M.fd, fun s u hs => by
                unfold look at hs
                cases hb : Nat.beq dj s with
                | true =>
                  rw [hb] at hs
                  have : dj = s := Nat.eq_of_beq_eq_true hb
                  subst this
                  simp only [Option.some.injEq] at hs
                  subst hs
                  exact hptr
                | false => rw [hb] at hs; exact hsnap.at_ s u hs⟩
              have hst1 : St E.w0 E.S (cj (bs dj) :: (Hd (listed.getD q false) ++ X)) w := M.st.perm ((List.Perm.append_left _ hX).trans List.perm_middle)
              have h1 := hp2 (listed.getD q false) (bs dj) (idx 0 a.tmps.toList) X a w hfr1 hst1
              refine wpOp_then (wpOp_mono (fun a' w' h' => ?_) (wpOp_of_list ho h1))
              obtain ⟨d', hd', hfr', hst'⟩ := h'
              rw [hdd] at hd'
              injection hd' with hd'
              subst hd'
              refine ⟨d, hdd, ⟨hfr'.size, hfr'.defers, fun s u hs => ?_⟩, hst'.perm (List.perm_middle.symm.trans (List.Perm.append_left _ hX.symm))⟩
              unfold look at hs
              cases hb : Nat.beq d s with
              | true => rw [hb] at hs; exact hfr'.at_ s u (by unfold look; rw [hb]; exact hs)
              | false =>
                rw [hb] at hs
                refine hfr'.at_ s u (by
                  unfold look
                  rw [hb]
                  simp only
                  unfold look
                  cases hb2 : Nat.beq dj s with
                  | false => exact hs
                  | true =>
                    have : dj = s := Nat.eq_of_beq_eq_true hb2
                    subst this
                    have h9 := hsnap.at_ _ u hs
                    rw [hptr] at h9
                    simpa [PK.out] using h9)
          refine wpOp_mono (fun a' w' h' => ?_) hop
          obtain ⟨d2, hd2, hfr', hst'⟩ := h'
          rw [hdd] at hd2
          injection hd2 with hd2
          subst hd2
          refine ih _ a' w' bs ⟨by simp [M.size], hbelow', hdown', hfr'.size, hfr'.defers, fun s u hs => ?_, fun m o' d' k hm' ho' hd' hk' => ?_, ?_⟩ hcnt
          · exact slot_kept hDep M.fG hfr' (fun e => by subst e; rw [hGd] at hs; cases hs) (M.fG s u hs)
          · rw [getD_set (by rw [M.size]; omega)] at hm'
            by_cases hmi : i = m
            · subst hmi
              rw [ho] at ho'; injection ho' with ho'; subst ho'
              rw [hdd] at hd'; injection hd' with hd'; subst hd'
              rw [List.getElem?_eq_getElem hki, hkk] at hk'; injection hk' with hk'; subst hk'
              exact hfr'.at_ _ _ (by simp [look, Nat.beq_refl, PK.out])
            · rw [if_neg hmi] at hm'
              have hmn : m < n := M.lt hm'
              refine slot_kept hDep M.fG hfr' (fun e => hmi (huniq m o' d' hmn ho' hd' e.symm)) (M.fV m o' d' k hm' ho' hd' hk')
          · have : laidH (fun i_1 => (listed.setIfInBounds i true).getD i_1 false) l ks 0 bs = laidH (fun i => listed.getD i false) l ks 0 bs := by
              exact laidH_val (p := i) (v := v) (fun j hj => by rw [getD_set (by rw [M.size]; omega), if_neg (Ne.symm hj)]) (fun _ => by rw [Nat.sub_zero, List.getElem?_eq_getElem hki, hkk]) (fun c t q c2 hm => (hcells hnp c t q c2 hm).symm)
            rw [this]; exact hst'
        | new c t q0 c2 =>
          have hnp : PK.isPut ks[i]? = false := by rw [List.getElem?_eq_getElem hki, hkk]; rfl
          obtain ⟨o2, d, ho2, hdd, hGd, huniq⟩ := hdst i hin hnp
          rw [ho] at ho2
          injection ho2 with ho2
          subst ho2
          have hop : Go.wpOp P l.toArray Q.fn i (fun a' w => ∃ b d, o.dst = some d ∧ Fr E.N E.ds a' ((d, t b) :: (depG l ks o ++ G ++ idx 0 a.tmps.toList)) ∧ St E.w0 E.S (c b :: (Hd ((listed.setIfInBounds i true).getD q false) ++ laidH (fun i => listed.getD i false) l ks 0 bs)) w) a w := by
            by_cases hi2 : i = q
            · obtain ⟨e, oj, dj, c', t', p', c2', cj, tj, pj, he, hbe, hej2, hoj, hdj, hk2, hkj, hp2⟩ := hq2 o (by omega) (by rw [← hi2]; exact ho)
              rw [← hi2, List.getElem?_eq_getElem hki, hkk] at hk2
              injection hk2 with hk2
              injection hk2 with e1 e2 e3 e4
              subst e1; subst e2
              have hjl : listed.getD j2 false = true := hej2 ▸ hej e he hbe
              have hptr := M.fV j2 oj dj _ hjl hoj hdj hkj
              obtain ⟨X, hX⟩ := laidH_get (L := fun i => listed.getD i false) (bs := bs) (j := j2) hjl (os := l) (r := ks) (i := 0) (Nat.zero_le _) (by simpa using hoj) hdj (by simpa using hkj)
              have hfr1 : Fr E.N E.ds a ((dj, tj (bs dj)) :: (depG l ks o ++ G ++ idx 0 a.tmps.toList)) := ⟨M.fN, M.fd, fun s u hs => by
                unfold look at hs
                cases hb : Nat.beq dj s with
                | true =>
                  rw [hb] at hs
                  have : dj = s := Nat.eq_of_beq_eq_true hb
                  subst this
                  simp only [Option.some.injEq] at hs
                  subst hs
                  exact hptr
                | false => rw [hb] at hs; exact hsnap.at_ s u hs⟩
              have hst0 := M.st
              rw [← hi2, hlf] at hst0
              have hst1 : St E.w0 E.S (cj (bs dj) :: (Hd false ++ X)) w := hst0.perm ((List.Perm.append_left _ hX).trans List.perm_middle)
              have h1 := hp2 (bs dj) (idx 0 a.tmps.toList) X a w hfr1 hst1
              refine wpOp_then (wpOp_mono (fun a' w' h' => ?_) (wpOp_of_list ho h1))
              obtain ⟨b', d', hd', hfr', hst'⟩ := h'
              rw [hdd] at hd'
              injection hd' with hd'
              subst hd'
              rw [← hi2, hseti]
              refine ⟨b', d, hdd, ⟨hfr'.size, hfr'.defers, fun s u hs => ?_⟩, hst'.perm (List.Perm.cons _ (List.perm_middle.symm.trans (List.Perm.append_left _ hX.symm)))⟩
              unfold look at hs
              cases hb : Nat.beq d s with
              | true => rw [hb] at hs; exact hfr'.at_ s u (by unfold look; rw [hb]; exact hs)
              | false =>
                rw [hb] at hs
                refine hfr'.at_ s u (by
                  unfold look
                  rw [hb]
                  simp only
                  unfold look
                  cases hb2 : Nat.beq dj s with
                  | false => exact hs
                  | true =>
                    have : dj = s := Nat.eq_of_beq_eq_true hb2
                    subst this
                    have h9 := hsnap.at_ _ u hs
                    rw [hptr] at h9
                    simpa [PK.out] using h9)
            · have hP := hP0 hi2 (fun v e => by rw [hkk] at e; cases e)
              rw [hkk] at hP
              rw [hbq hi2]
              exact wpOp_then (wpOp_of_list ho (hP (idx 0 a.tmps.toList) (laidH (fun i => listed.getD i false) l ks 0 bs) a w hsnap M.st))
          refine wpOp_mono (fun a' w' h' => ?_) hop
          obtain ⟨b, d2, hd2, hfr', hst'⟩ := h'
          rw [hdd] at hd2
          injection hd2 with hd2
          subst hd2
          refine ih _ a' w' (fun s => if s = d then b else bs s) ⟨by simp [M.size], hbelow', hdown', hfr'.size, hfr'.defers, fun s u hs => ?_, fun m o' d' k hm' ho' hd' hk' => ?_, ?_⟩ hcnt
          · exact slot_kept hDep M.fG hfr' (fun e => by subst e; rw [hGd] at hs; cases hs) (M.fG s u hs)
          · rw [getD_set (by rw [M.size]; omega)] at hm'
            by_cases hmi : i = m
            · subst hmi
              rw [ho] at ho'; injection ho' with ho'; subst ho'
              rw [hdd] at hd'; injection hd' with hd'; subst hd'
              rw [List.getElem?_eq_getElem hki, hkk] at hk'; injection hk' with hk'; subst hk'
              rw [if_pos rfl]
              exact hfr'.at_ _ _ (by simp [look, Nat.beq_refl, PK.out])
            · rw [if_neg hmi] at hm'
              have hmn : m < n := M.lt hm'
              have hne : d' ≠ d := fun e => hmi (huniq m o' d' hmn ho' hd' e.symm)
              rw [if_neg hne]
              exact slot_kept hDep M.fG hfr' hne (M.fV m o' d' k hm' ho' hd' hk')
          · have hp := laidH_add (L := fun i => listed.getD i false) (L' := fun j => (listed.setIfInBounds i true).getD j false) (bs := bs) (bs' := fun s => if s = d then b else bs s) (p := i) (os := l) (r := ks) (i := 0) (Nat.zero_le _)
              (fun j hj => by show listed.getD j false = (listed.setIfInBounds i true).getD j false; rw [getD_set (by rw [M.size]; omega), if_neg (Ne.symm hj)]) hlf (by show (listed.setIfInBounds i true).getD i false = true; rw [getD_set (by rw [M.size]; omega), if_pos rfl])
              (fun j o' d' h1 h2 h3 h4 => by
                simp only [Nat.zero_add] at h4
                have hne : d' ≠ d := fun e => by
                  have := huniq j o' d' (by omega) h1 h2 e.symm
                  subst this
                  rw [hlf] at h4; cases h4
                simp [hne]) (hcells hnp) (o := o) (d := d) (c := c) (t := t) (by simpa using ho) hdd (by rw [Nat.sub_zero, List.getElem?_eq_getElem hki, hkk]) (by
                show (if (listed.setIfInBounds i true).getD q0 false = true then c2 else c) = c
                have hki' : ks[i]? = some (.new c t q0 c2) := by rw [List.getElem?_eq_getElem hki, hkk]
                rcases hput.new i c t q0 c2 hki' with h | h
                · rw [h]; split <;> rfl
                · cases hq : ks[q0]? with
                  | none => rw [hq] at h; cases h
                  | some kq =>
                    rw [hq] at h
                    cases kq with
                    | put dj c' t' c2' =>
                      obtain ⟨j, oj, op, e, hkj, hoj, hdj, hop, he, hbe, hej2⟩ := hput.put q0 dj c' t' c2' hq
                      have hqi : q0 ≠ i := fun e2 => by subst e2; rw [hki'] at hq; cases hq
                      by_cases hji : j = i
                      · rw [hget q0 hqi]
                        cases hlq : listed.getD q0 false with
                        | false => rfl
                        | true =>
                          have := M.down q0 op hlq hop e he hbe
                          rw [hej2, hji, hlf] at this; cases this
                      · have := hput.uniq j i q0 c' t' c2' c t c2 hkj hki' hji
                        rw [this]; split <;> rfl
                    | val v => cases h
                    | new _ _ _ _ => cases h)
            simp only [if_true] at hp
            refine hst'.perm ?_
            exact List.perm_middle.symm.trans (List.Perm.append_left _ hp)
  have hrep : ∀ j, (Array.replicate l.toArray.size false).getD j false = false := fun j => by
    simp only [Array.getD_eq_getD_getElem?, Array.getElem?_replicate]
    split <;> rfl
  refine key l.toArray.size _ a w.drew (fun _ => 0) ⟨by simp, fun i _ => hrep i, fun i o h => (by rw [hrep i] at h; cases h), hfr.size, hfr.defers, hfr.at_, fun i o d k h => (by rw [hrep i] at h; cases h), ?_⟩ ?_
  · have : laidH (fun i => (Array.replicate l.toArray.size false).getD i false) l ks 0 (fun _ => 0) = [] := laidH_none hrep
    rw [this, List.append_nil, hrep q]
    exact hst.drew
  · simpa using cnt_le (fun i => (Array.replicate l.toArray.size false).getD i false) l.length
end
end Go.Proofs.YtkfmlekomfnleaaGreat
/- The calculus: a statement whose order is open and in which data of one's own grows: each operation in turn, the append among them. Conditions: none; everything holds over any program. -/
set_option linter.unusedVariables false
set_option linter.unusedSimpArgs false
namespace Go.Proofs.YtkfmlekomfnleaaGreat
open Go Go.RowKit

section
variable {P : Program} {E : Env} {Q : Pst} {G : List (Nat × Value)} {H : List HP} {l : List Oper} {own : HP} {q j2 : Nat}
theorem wpList1_mono {ops : Array Oper} {o : Oper} {a : Act} {w : World} {K1 K2 : Act → World → Prop} (hk : ∀ a w, K1 a w → K2 a w) (h : wpList P ops (Pst.then K1 Q).fn [o] a w) : wpList P ops (Pst.then K2 Q).fn [o] a w := by
  have hl : LetsOut (Pst.then K1 Q).fn → LetsOut (Pst.then K2 Q).fn := fun h => h
  unfold wpList at h ⊢
  split
  · rename_i hw
    rw [if_pos hw] at h
    rcases h with h | ⟨h1, h2⟩
    · refine .inl ?_
      unfold Oper.wp at h ⊢
      generalize (execOp a.eval o).run P w = r at *
      cases r with
      | ok n w' =>
        cases n <;> simp only [Oper.upon] at h ⊢ <;>
          first
            | exact hk _ _ h
            | exact Calls.mono h (fun e w'' he => by cases e <;> first | exact hk _ _ he | exact he)
            | exact Rows.mono h (fun _ _ he => hk _ _ he)
      | halt x w' => cases x <;> simp only [Oper.upon] at h ⊢ <;> exact h
    · exact .inr ⟨h1, hl h2⟩
  · rename_i hw
    rw [if_neg hw] at h
    exact hk _ _ h
theorem perm_own {A : List HP} {X : List HP} : ((own :: A) ++ X).Perm (A ++ own :: X) := (List.perm_middle (a := own) (l₁ := A) (l₂ := X)).symm
/-- What needs not what is one's own stays true where that lies. -/
theorem Prem.with {ops : Array Oper} {Gd : List (Nat × Value)} {o : Oper} {k : PK} (h : Prem P E ops Q Gd G H o k) : Prem P E ops Q Gd G (own :: H) o k := by
  cases k with
  | val v =>
    intro Gx X a w hf hw
    refine wpList1_mono (fun a' w' ⟨d, h1, h2, h3⟩ => ⟨d, h1, h2, h3.perm perm_own.symm⟩) (h Gx (own :: X) a w hf (hw.perm perm_own))
  | new c t p c2 =>
    intro Gx X a w hf hw
    refine wpList1_mono (fun a' w' ⟨b, d, h1, h2, h3⟩ => ⟨b, d, h1, h2, h3.perm (List.Perm.cons _ perm_own.symm)⟩) (h Gx (own :: X) a w hf (hw.perm perm_own))
  | put dj c t c2 =>
    intro b Gx X a w hf hw
    refine wpList1_mono (fun a' w' ⟨h2, h3⟩ => ⟨h2, h3.perm (List.Perm.cons _ perm_own.symm)⟩) (h b Gx (own :: X) a w hf (hw.perm (List.Perm.cons _ perm_own)))
/-- What an operation of the list is to bring: the one at q takes what is one's own and what the one at j2 has laid. -/
def PrA (P : Program) (E : Env) (Q : Pst) (l : List Oper) (G : List (Nat × Value)) (own : HP) (H : List HP) (q j2 : Nat) (ks : List PK) (m : Nat) (o : Oper) (k : PK) : Prop :=
  (m ≠ q → Prem P E l.toArray Q (depG l ks o) G H o k ∨ ∃ (e : Edge) (oj : Oper) (dj : Nat) (v : Value) (cj : Nat → HP) (tj : Nat → Value) (pj : Nat), e ∈ o.after.toList ∧ Region.binds .any e = true ∧ l[e.on]? = some oj ∧ oj.dst = some dj ∧ k = .val v ∧ ks[e.on]? = some (.new cj tj pj cj) ∧ ∀ (b : Nat) (Gx : List (Nat × Value)) (X : List HP), RW P E l.toArray (Pst.then (fun a w => ∃ d, o.dst = some d ∧ Fr E.N E.ds a ((d, v) :: (dj, tj b) :: (depG l ks o ++ G ++ Gx)) ∧ St E.w0 E.S (cj b :: (H ++ X)) w) Q) [o] ((dj, tj b) :: (depG l ks o ++ G ++ Gx)) (cj b :: (H ++ X))) ∧
  (m = q → ∃ (e : Edge) (oj : Oper) (dj : Nat) (c : Nat → HP) (t : Nat → Value) (p : Nat) (c2 cj : Nat → HP) (tj : Nat → Value) (pj : Nat), e ∈ o.after.toList ∧ Region.binds .any e = true ∧ e.on = j2 ∧ l[j2]? = some oj ∧ oj.dst = some dj ∧ k = .new c t p c2 ∧ ks[j2]? = some (.new cj tj pj cj) ∧
    ∀ (b : Nat) (Gx : List (Nat × Value)) (X : List HP), RW P E l.toArray (Pst.then (fun a w => ∃ b' d, o.dst = some d ∧ Fr E.N E.ds a ((d, t b') :: (dj, tj b) :: (depG l ks o ++ G ++ Gx)) ∧ St E.w0 E.S (c b' :: cj b :: (H ++ X)) w) Q) [o] ((dj, tj b) :: (depG l ks o ++ G ++ Gx)) (cj b :: ((own :: H) ++ X)))
/-- What is done is D (the last first), what is left os. -/
structure AB (P : Program) (E : Env) (Q : Pst) (l : List Oper) (G : List (Nat × Value)) (own : HP) (H : List HP) (q j2 : Nat) (D : List (Nat × PK)) (os : List Oper) : Prop where
  out : ∀ acc : List PK, D.reverse = zp l acc → acc.length ≤ l.length → (∀ (i : Nat) (o : Oper), l[i]? = some o → ∀ e ∈ o.after.toList, Region.binds .any e = true → e.on < i) → l.drop acc.length = os → ∃ ks : List PK,
    (Dist l (acc ++ ks).length → ∀ (m : Nat) (o : Oper) (k : PK), acc.length ≤ m → l[m]? = some o → (acc ++ ks)[m]? = some k → PrA P E Q l G own H q j2 (acc ++ ks) m o k) ∧
    (Nat.ble (acc ++ ks).length l.length = true ∧ forcedB l (acc ++ ks).length = true ∧ dstB l [] (acc ++ ks).length G = true ∧ (Dist l (acc ++ ks).length → ∀ bs, RW P E l.toArray Q (l.drop (acc ++ ks).length) (outG l (acc ++ ks) bs ++ G) (H ++ newH l (acc ++ ks) bs))) ∧
    (∀ k ∈ ks, k.plain) ∧ q < (acc ++ ks).length
theorem AB.stop {D : List (Nat × PK)} {os : List Oper} (hq : Nat.blt q D.length = true) (h2 : forcedB l D.length = true) (h3 : dstB l [] D.length G = true) (tail : ∀ bs, RW P E l.toArray Q os (outD D bs ++ G) (H ++ newD D bs)) : AB P E Q l G own H q j2 D os := by
  refine ⟨fun acc hD hle hb hos => ⟨[], fun _ m o k h1 h2 h3 => ?_, by rw [List.append_nil]; exact stop_out h2 h3 tail hD hle hos, by simp, ?_⟩⟩
  · rw [List.append_nil, List.getElem?_eq_none h1] at h3; cases h3
  · have : D.length = acc.length := by rw [← List.length_reverse, hD, zp, List.length_zipWith, Nat.min_eq_right hle]
    rw [List.append_nil, ← this]
    rwa [Nat.blt_eq] at hq
theorem AB.of {D : List (Nat × PK)} {o : Oper} {os : List Oper} {d : Nat} {k : PK} (hkp : k.plain) (hd : o.dst = some d)
    (hp : ∀ (acc ks : List PK), D.reverse = zp l acc → acc.length ≤ l.length → l[acc.length]? = some o → Dist l (acc ++ k :: ks).length → depG l (acc ++ k :: ks) o = depD l D o.after.toList → PrA P E Q l G own H q j2 (acc ++ k :: ks) acc.length o k) (h : AB P E Q l G own H q j2 ((d, k) :: D) os) : AB P E Q l G own H q j2 D (o :: os) := by
  refine ⟨fun acc hD hle hb hos => ?_⟩
  obtain ⟨hlt, ho, hos', hD'⟩ := step_acc (k := k) hd hD hle hos
  obtain ⟨ks, h1, h2, h6, h7⟩ := h.out (acc ++ [k]) hD' (by simp; omega) hb hos'
  have hass : acc ++ [k] ++ ks = acc ++ k :: ks := by simp
  rw [hass] at h1 h2 h7
  refine ⟨k :: ks, fun hdist m o' k' hm ho' hk' => ?_, h2, fun k' hk' => (List.mem_cons.1 hk').elim (fun e => e ▸ hkp) (h6 k'), h7⟩
  rcases Nat.eq_or_lt_of_le hm with e | hlt'
  · subst e
    rw [ho] at ho'
    cases ho'
    rw [List.getElem?_append_right (Nat.le_refl _), Nat.sub_self] at hk'
    cases hk'
    exact hp acc ks hD hle ho hdist (depD_eq hdist (by simp) hD (fun e he hbe => hb _ _ ho e he hbe))
  · exact h1 hdist m o' k' (by simp; omega) ho' hk'
theorem AB.step {D : List (Nat × PK)} {o : Oper} {os : List Oper} {d : Nat} {k : PK} (hkp : k.plain) (hd : o.dst = some d) (hq : Nat.beq D.length q = false) (hp : Prem P E l.toArray Q (depD l D o.after.toList) G H o k) (h : AB P E Q l G own H q j2 ((d, k) :: D) os) : AB P E Q l G own H q j2 D (o :: os) :=
  AB.of hkp hd (fun acc ks hD hle ho hdist hdep => by
    have : D.length = acc.length := by rw [← List.length_reverse, hD, zp, List.length_zipWith, Nat.min_eq_right hle]
    refine ⟨fun _ => .inl (by rw [hdep]; exact hp), fun e => ?_⟩
    rw [this, e] at hq
    simp at hq) h
theorem AB.val {D : List (Nat × PK)} {o : Oper} {os : List Oper} {d : Nat} {v : Value} (hd : o.dst = some d) (hq : Nat.beq D.length q = false)
    (hp : ∀ (Gx : List (Nat × Value)) (X : List HP), RW P E l.toArray (Pst.then (fun a w => ∃ d, o.dst = some d ∧ Fr E.N E.ds a ((d, v) :: (depD l D o.after.toList ++ G ++ Gx)) ∧ St E.w0 E.S (H ++ X) w) Q) [o] (depD l D o.after.toList ++ G ++ Gx) (H ++ X))
    (h : AB P E Q l G own H q j2 ((d, .val v) :: D) os) : AB P E Q l G own H q j2 D (o :: os) := AB.step (k := .val v) trivial hd hq hp h
theorem AB.gen {D : List (Nat × PK)} {o : Oper} {os : List Oper} {d : Nat} (V : Nat → Value) (c : Nat → HP) (hd : o.dst = some d) (hq : Nat.beq D.length q = false)
    (hp : ∀ (Gx : List (Nat × Value)) (X : List HP), RW P E l.toArray (Pst.then (fun a w => ∃ b d, o.dst = some d ∧ Fr E.N E.ds a ((d, V b) :: (depD l D o.after.toList ++ G ++ Gx)) ∧ St E.w0 E.S (c b :: (H ++ X)) w) Q) [o] (depD l D o.after.toList ++ G ++ Gx) (H ++ X))
    (h : AB P E Q l G own H q j2 ((d, .new c V 0 c) :: D) os) : AB P E Q l G own H q j2 D (o :: os) := AB.step (k := .new c V 0 c) rfl hd hq hp h
/-- One of a known value that sees what the one at j has laid. -/
theorem AB.see {D : List (Nat × PK)} {o oj : Oper} {os : List Oper} {d dj : Nat} {v : Value} (j : Nat) {cj : Nat → HP} {tj : Nat → Value} {pj : Nat} (hd : o.dst = some d) (hq : Nat.beq D.length q = false)
    (he : (o.after.toList.any fun e => Region.binds .any e && Nat.beq e.on j) = true) (hoj : l[j]? = some oj) (hdj : oj.dst = some dj) (hkj : D.reverse[j]? = some (dj, .new cj tj pj cj))
    (hp : ∀ (b : Nat) (Gx : List (Nat × Value)) (X : List HP), RW P E l.toArray (Pst.then (fun a w => ∃ d, o.dst = some d ∧ Fr E.N E.ds a ((d, v) :: (dj, tj b) :: (depD l D o.after.toList ++ G ++ Gx)) ∧ St E.w0 E.S (cj b :: (H ++ X)) w) Q) [o] ((dj, tj b) :: (depD l D o.after.toList ++ G ++ Gx)) (cj b :: (H ++ X)))
    (h : AB P E Q l G own H q j2 ((d, .val v) :: D) os) : AB P E Q l G own H q j2 D (o :: os) :=
  AB.of (k := .val v) trivial hd (fun acc ks hD hle ho hdist hdep => by
    have hlen : D.length = acc.length := by rw [← List.length_reverse, hD, zp, List.length_zipWith, Nat.min_eq_right hle]
    refine ⟨fun _ => .inr ?_, fun e => (by rw [hlen, e] at hq; simp at hq)⟩
    rw [List.any_eq_true] at he
    obtain ⟨e, he1, he2⟩ := he
    rw [Bool.and_eq_true] at he2
    rw [hdep]
    have ee := Nat.eq_of_beq_eq_true he2.2
    refine ⟨e, oj, dj, v, cj, tj, pj, he1, he2.1, by rw [ee]; exact hoj, hdj, rfl, ?_, hp⟩
    rw [ee]
    rw [hD] at hkj
    have hj : j < acc.length := by
      have := (List.getElem?_eq_some_iff.1 hkj).1
      rw [zp, List.length_zipWith] at this
      omega
    rw [List.getElem?_append_left hj, List.getElem?_eq_getElem hj]
    rw [zp_at (k := acc[j]) hoj hdj (List.getElem?_eq_getElem hj)] at hkj
    have := Option.some.inj hkj
    rw [Prod.mk.injEq] at this
    rw [this.2]) h
/-- The one that takes what is one's own. -/
theorem AB.app {D : List (Nat × PK)} {o oj : Oper} {os : List Oper} {d dj : Nat} (V : Nat → Value) (c : Nat → HP) {cj : Nat → HP} {tj : Nat → Value} {pj : Nat} (hd : o.dst = some d) (hq : Nat.beq D.length q = true)
    (he : (o.after.toList.any fun e => Region.binds .any e && Nat.beq e.on j2) = true) (hoj : l[j2]? = some oj) (hdj : oj.dst = some dj) (hkj : D.reverse[j2]? = some (dj, .new cj tj pj cj))
    (hp : ∀ (b : Nat) (Gx : List (Nat × Value)) (X : List HP), RW P E l.toArray (Pst.then (fun a w => ∃ b' d, o.dst = some d ∧ Fr E.N E.ds a ((d, V b') :: (dj, tj b) :: (depD l D o.after.toList ++ G ++ Gx)) ∧ St E.w0 E.S (c b' :: cj b :: (H ++ X)) w) Q) [o] ((dj, tj b) :: (depD l D o.after.toList ++ G ++ Gx)) (cj b :: ((own :: H) ++ X)))
    (h : AB P E Q l G own H q j2 ((d, .new c V 0 c) :: D) os) : AB P E Q l G own H q j2 D (o :: os) :=
  AB.of (k := .new c V 0 c) rfl hd (fun acc ks hD hle ho hdist hdep => by
    have hlen : D.length = acc.length := by rw [← List.length_reverse, hD, zp, List.length_zipWith, Nat.min_eq_right hle]
    refine ⟨fun hn => absurd (hlen.symm.trans (Nat.eq_of_beq_eq_true hq)) hn, fun _ => ?_⟩
    rw [List.any_eq_true] at he
    obtain ⟨e, he1, he2⟩ := he
    rw [Bool.and_eq_true] at he2
    rw [hdep]
    refine ⟨e, oj, dj, c, V, 0, c, cj, tj, pj, he1, he2.1, Nat.eq_of_beq_eq_true he2.2, hoj, hdj, rfl, ?_, hp⟩
    rw [hD] at hkj
    have hj : j2 < acc.length := by
      have := (List.getElem?_eq_some_iff.1 hkj).1
      rw [zp, List.length_zipWith] at this
      omega
    rw [List.getElem?_append_left hj, List.getElem?_eq_getElem hj]
    rw [zp_at (k := acc[j2]) hoj hdj (List.getElem?_eq_getElem hj)] at hkj
    have := Option.some.inj hkj
    rw [Prod.mk.injEq] at this
    rw [this.2]) h
theorem WA.app (hb : backB l = true) (h : AB P E Q l G own H q j2 [] l) : WA P E l Q G (own :: H) := by
  have hback : ∀ (i : Nat) (o : Oper), l[i]? = some o → ∀ e ∈ o.after.toList, Region.binds .any e = true → e.on < i := by
    intro i o ho e he hbe
    have hi : i < l.length := (List.getElem?_eq_some_iff.1 ho).1
    have := (List.all_eq_true.1 hb) i (List.mem_range.2 hi)
    rw [ho] at this
    have h9 := (List.all_eq_true.1 this) e he
    simpa [hbe] using h9
  obtain ⟨ks, h1, ⟨h2, h3, h4, h5⟩, hpl, hqn⟩ := h.out [] (by cases l <;> rfl) (by simp) hback rfl
  rw [List.nil_append] at h1 h2 h3 h4 h5 hqn
  have hdist : Dist l ks.length := by
    intro i hi
    have h6 := (List.all_eq_true.1 h4) i (List.mem_range.2 hi)
    have hi' : i < l.length := by rw [Nat.ble_eq] at h2; omega
    rw [List.getElem?_eq_getElem hi'] at h6
    simp only at h6
    cases hdd : l[i].dst with
    | none => rw [hdd] at h6; cases h6
    | some d =>
      rw [hdd] at h6
      simp only [Bool.and_eq_true] at h6
      refine ⟨l[i], d, List.getElem?_eq_getElem hi', hdd, fun j o' hj ho' hd' => ?_⟩
      have h7 := (List.all_eq_true.1 h6.2) j (List.mem_range.2 hj)
      rw [ho'] at h7
      simp only [hd'] at h7
      simpa using h7
  have hnoput : ∀ i : Nat, PK.isPut ks[i]? = false := fun i => by
    cases hk : ks[i]? with
    | none => rfl
    | some k =>
      have := hpl k (List.mem_of_getElem? hk)
      cases k with
      | put _ _ _ _ => exact this.elim
      | val v => rfl
      | new _ _ _ _ => rfl
  have h4' : dstB l ks ks.length G = true := by
    unfold dstB at h4 ⊢
    rw [List.all_eq_true] at h4 ⊢
    intro i hi
    have := h4 i hi
    rw [hnoput i]
    exact this
  have h1 := h1 hdist
  refine WA.anyA q j2 (fun b => if b = true then H else own :: H) ks.length ks rfl h2 hb h3 h4' (PutOK.plain (fun dj c t c2 hm => hpl _ hm) (fun c t p c2 hm => hpl _ hm)) (fun i o d _ _ _ hp => by rw [hnoput i] at hp; cases hp)
    (fun i o k hi ho hk => ?_) (fun o hq ho => ?_) (fun bs => ?_)
  · rcases (h1 i o k (Nat.zero_le _) ho hk).1 hi with this | ⟨e, oj, dj, v, cj, tj, pj, g1, g2, g3, g4, g5, g6, g7⟩
    · refine .inl fun b => ?_
      cases b with
      | true => exact this
      | false => exact Prem.with this
    · refine .inr ⟨e, oj, dj, v, cj, tj, pj, g1, g2, g3, g4, g5, g6, fun b0 b Gx X => ?_⟩
      cases b0 with
      | true => exact g7 b Gx X
      | false =>
        intro a w hf hw
        exact wpList1_mono (fun a' w' ⟨d, h1, h2, h3⟩ => ⟨d, h1, h2, h3.perm (List.Perm.cons _ perm_own.symm)⟩) (g7 b Gx (own :: X) a w hf (hw.perm (List.Perm.cons _ perm_own)))
  · have hk : ks[q]? = some ks[q] := List.getElem?_eq_getElem hq
    obtain ⟨e, oj, dj, c, t, p, c2, cj, tj, pj, g1, g2, g3, g4, g5, g6, g7, g8⟩ := (h1 q o ks[q] (Nat.zero_le _) ho hk).2 rfl
    exact ⟨e, oj, dj, c, t, p, c2, cj, tj, pj, g1, g2, g3, g4, g5, by rw [hk, g6], g7, fun b Gx X => g8 b Gx X⟩
  · rw [decide_eq_true hqn]
    exact h5 hdist bs
theorem RW.done_app {ops : Array Oper} {o : Oper} {n d : Nat} {V : Nat → Value} {c : Nat → HP} {cj : HP} {G' : List (Nat × Value)} {H' : List HP} (hd : o.dst = some d) :
    RW P E ops (Pst.then (fun a w => ∃ b d, o.dst = some d ∧ Fr E.N E.ds a ((d, V b) :: G') ∧ St E.w0 E.S (c b :: cj :: H') w) Q) [] ((d, V n) :: G') (cj :: c n :: H') := fun a w hf hw => ⟨n, d, hd, hf, hw.perm (List.Perm.swap _ _ _)⟩
theorem CW.seqB {id : Nat} {y : Code} (q j2 : Nat) (own : HP) {H : List HP} (hm : P.follows .mixedOrders = true) (hb : backB l = true) (h : AB P E (Pst.then (y.wp P Q.fn) Q) l G own H q j2 [] l) : CW P E (.seq (.region id l.toArray true) y) Q G (own :: H) := CW.seq (CW.of hm (WA.app hb h))
theorem CW.regB {id : Nat} (q j2 : Nat) (own : HP) {H : List HP} (hm : P.follows .mixedOrders = true) (hb : backB l = true) (h : AB P E Q l G own H q j2 [] l) : CW P E (.region id l.toArray true) Q G (own :: H) := CW.of hm (WA.app hb h)
/-! ### few orders: each of them -/
def readyL (l : List Oper) (L : List Bool) : List Nat := (List.range l.length).filter fun i => !L.getD i true && ((l[i]?).map fun o => o.after.toList.all fun e => !Region.binds .any e || L.getD e.on false).getD false
def WT (P : Program) (E : Env) (l : List Oper) (Q : Pst) (L : List Bool) (G : List (Nat × Value)) (H : List HP) : Prop := ∀ (a : Act) (w : World), Fr E.N E.ds a G → St E.w0 E.S H w → wpAny P .any l.toArray Q.fn (L.count false) L.toArray a w
/-- Each of the operations that may come next. -/
def AllR (P : Program) (E : Env) (l : List Oper) (Q : Pst) (L : List Bool) (G : List (Nat × Value)) (H : List HP) : List Nat → Prop
  | [] => True
  | i :: r => (∃ o, l[i]? = some o ∧ RW P E l.toArray (Pst.then (fun a w => wpAny P .any l.toArray Q.fn ((L.set i true).count false) (L.set i true).toArray a w) Q) [o] G H) ∧ AllR P E l Q L G H r
theorem AllR.at_ {L : List Bool} {is : List Nat} (h : AllR P E l Q L G H is) : ∀ i ∈ is, ∃ o, l[i]? = some o ∧ RW P E l.toArray (Pst.then (fun a w => wpAny P .any l.toArray Q.fn ((L.set i true).count false) (L.set i true).toArray a w) Q) [o] G H := by
  induction is with
  | nil => intro i hi; cases hi
  | cons j is ih =>
    intro i hi
    rcases List.mem_cons.1 hi with rfl | hi
    · exact h.1
    · exact ih h.2 i hi
theorem readyL_eq {L : List Bool} (hL : L.length = l.length) : Region.ready .any l.toArray L.toArray = readyL l L := by
  unfold Region.ready readyL
  simp only [List.size_toArray]
  refine List.filter_congr fun i hi => ?_
  simp only [List.getElem?_toArray, Array.getD_eq_getD_getElem?, List.getD_eq_getElem?_getD]
  congr 2
  congr 1
  funext o
  rw [← Array.all_toList]
theorem set_count {L : List Bool} : ∀ {i : Nat}, L[i]? = some false → (L.set i true).count false + 1 = L.count false := by
  induction L with
  | nil => intro i h; simp at h
  | cons b L ih =>
    intro i h
    cases i with
    | zero => simp at h; subst h; simp
    | succ i =>
      have := ih (i := i) (by simpa using h)
      cases b <;> simp [List.count_cons] <;> omega
theorem WT.step {L : List Bool} {is : List Nat} (hl : Nat.beq L.length l.length = true) (hr : readyL l L = is) (hne : is.isEmpty = false) (h : AllR P E l Q L G H is) : WT P E l Q L G H := by
  have hL := Nat.eq_of_beq_eq_true hl
  subst hr
  intro a w hf hw
  obtain ⟨i0, hi0⟩ : ∃ i, i ∈ readyL l L := by
    cases hh : readyL l L with
    | nil => rw [hh] at hne; cases hne
    | cons i r => exact ⟨i, by simp⟩
  have hfalse : ∀ i ∈ readyL l L, L[i]? = some false := fun i hi => by
    unfold readyL at hi
    rw [List.mem_filter] at hi
    have h1 := List.mem_range.1 hi.1
    have h2 := hi.2
    rw [Bool.and_eq_true] at h2
    have h3 : i < L.length := by omega
    rw [List.getD_eq_getElem?_getD, List.getElem?_eq_getElem h3] at h2
    rw [List.getElem?_eq_getElem h3]
    have := h2.1
    simp at this
    rw [this]
  have hc := set_count (hfalse i0 hi0)
  rw [← hc]
  refine ⟨fun hn => ?_, fun i hi => ?_⟩
  · rw [readyL_eq hL] at hn
    rw [hn] at hi0
    cases hi0
  · rw [readyL_eq hL] at hi
    obtain ⟨o, ho, h1⟩ := h.at_ i hi
    have h2 := h1 a w hf hw
    have hset : L.toArray.setIfInBounds i true = (L.set i true).toArray := by simp
    have hcnt : (L.set i true).count false = (L.set i0 true).count false := by
      have := set_count (hfalse i hi)
      omega
    rw [hset, ← hcnt]
    exact wpOp_then (wpOp_of_list ho h2)
theorem WT.done {L : List Bool} (hl : Nat.beq L.length l.length = true) (hc : L.all id = true) (h : RW P E l.toArray Q [] G H) : WT P E l Q L G H := by
  have hL := Nat.eq_of_beq_eq_true hl
  intro a w hf hw
  have h0 : L.count false = 0 := by
    rw [List.count_eq_zero]
    intro hm
    have := List.all_eq_true.1 hc false hm
    cases this
  rw [h0]
  refine ⟨?_, h a w hf hw⟩
  rw [readyL_eq hL]
  unfold readyL
  refine List.eq_nil_iff_forall_not_mem.2 fun i hi => ?_
  rw [List.mem_filter] at hi
  have h1 := List.mem_range.1 hi.1
  have h3 : i < L.length := by omega
  have h2 := hi.2
  rw [Bool.and_eq_true, List.getD_eq_getElem?_getD, List.getElem?_eq_getElem h3] at h2
  have h4 := List.all_eq_true.1 hc L[i] (List.getElem_mem h3)
  simp at h4
  rw [h4] at h2
  simp at h2
theorem WA.tree (h : WT P E l Q (List.replicate l.length false) G H) : WA P E l Q G H := fun a w hf hw => by
  have := h a w.drew hf hw.drew
  have e : (List.replicate l.length false).count false = l.toArray.size := by simp
  rw [e] at this
  have e2 : (List.replicate l.length false).toArray = Array.replicate l.toArray.size false := by simp
  rw [e2] at this
  exact this
theorem RW.tree {ops : Array Oper} {L : List Bool} (h : WT P E l Q L G H) : RW P E ops (Pst.then (fun a w => wpAny P .any l.toArray Q.fn (L.count false) L.toArray a w) Q) [] G H := h
end
end Go.Proofs.YtkfmlekomfnleaaGreat
/- A slice of one's own as a number. Conditions: none. -/
set_option linter.unusedVariables false
namespace Go.Proofs.YtkfmlekomfnleaaGreat
open Go Go.RowKit

/-- A number for a slice of one's own. -/
def encU (L n : Nat) : Value := if n = 0 then .slice none 0 0 else .slice (some ⟨(n - 1) / 9223372036854775808, 0, none⟩) L ((n - 1) % 9223372036854775808)
theorem enc_ownU {w0 w : World} {S : Nat → Prop} {pre r : List HP} {e : TypeId} {sz : Nat} {v : Value} {es : List (List Value)} (h : St w0 S (pre ++ ownHP e sz v es :: r) w) : ∃ n, v = encU es.length n := by
  rcases own_form h with ⟨h1, h2⟩ | ⟨B, c, h1, _, h3, _⟩
  · exact ⟨0, by rw [h1]; unfold encU; rw [if_pos rfl]⟩
  · obtain ⟨n, e1, e2⟩ := enc B c h3
    refine ⟨n + 1, ?_⟩
    unfold encU
    rw [if_neg (by omega), Nat.add_sub_cancel, h1, e1, e2]
end Go.Proofs.YtkfmlekomfnleaaGreat
/- resolve.Literal. Conditions: none. -/
set_option linter.unusedVariables false
set_option linter.unusedSimpArgs false
set_option maxRecDepth 10000
namespace Go.Proofs.YtkfmlekomfnleaaGreat
open Go Go.RowKit Go.MapKept

theorem bnd_self {α : Type} (x : Ex α) : x = bnd x .ok := by cases x <;> rfl
theorem encU_cells (L n : Nat) : (encU L n).cells = #[encU L n] ∧ (encU L n).oneCell' = true := by unfold encU; split <;> exact ⟨rfl, rfl⟩
attribute [local irreducible] RW CW
set_option maxHeartbeats 4000000 in
theorem lit1_ret {br b8 b3 : Nat} {s : kStat.V} {x : RC} {cs : List Value} {l : kLitT.V} {w : World} {F : Nat → Prop} (hR : RS w (fun b => ¬ F b) br s 0 x) (h8 : mem w (fun b => ¬ F b) b8 0 (ptrV br)) (h3 : ∀ (j : Nat) (v : Value), cs[j]? = some v → mem w (fun b => ¬ F b) b3 j v) (hl : Rd kLitT (mem w (fun b => ¬ F b)) cs l) (hK : fourK s) :
    RetE Tryz.prog 53 [ptrV b8, ptrV b3] w F (literalD s 0 true ⟨[], []⟩ l) (fun _ _ => .tuple #[]) (fun _ (_ : Unit) => []) := by
  have hS := bnd_self (literalD s 0 true ⟨[], []⟩ l)
  generalize hSP : literalD s 0 true ⟨[], []⟩ l = SP at hS ⊢
  have hle : Mem.le (mem w (fun b => ¬ F b)) (mem w (fun b => ¬ F b)) := Mem.le_refl _
  have hl' := hl
  obtain ⟨A, c, rfl, hargs⟩ := Rd.litT hl
  refine Calls.enter Tryz.func53 rfl _ rfl rfl (S := F) (H := []) trivial ?_
  skip
  refine CW.region ?_
  skip
  refine RW.load_ro rfl hle h8 rfl rfl ?_
  refine RW.build (v := .agg #[.slice none 0 0, .map none, .bool true]) rfl (fun w => by kernel_rfl) rfl ?_
  refine RW.box_agg (l := [.slice none 0 0, .map none, .bool true]) rfl rfl fun b4 _ => ?_
  refine RW.load_ros (cs := [.bool l.1, .string l.2.1, .slice A l.2.2.1.length c, .bool l.2.2.2.1, .int .i64 l.2.2.2.2]) rfl hle (fun i v h => by rw [Nat.zero_add]; exact h3 i v h) rfl rfl (by simp) rfl ?_
  refine RW.callE (r := []) (frH b4) hS Tryz.call54 rfl (fun w2 F2 hw2 hF2 h1 _ => hSP ▸ literalF_ret (RS.callF hR hw2 hF2) (hl'.mono (ro_callF hw2 hF2)) hK h1) rfl rfl rfl fun z u hz hS => ?_
  exact RW.nil (PW.ret (rs := []) (vs := []) Tryz.results53 rfl ResOK.nil fun w hw => XP.ok (V := fun _ _ => .tuple #[]) () hS (hw.take []))
/-- A literal's answer: denied, its predicate's number, its members' numbers, its value; and an error. -/
abbrev LitV := Bool × Int × List Int × Int
def litD (s : kStat.V) (l : kLitT.V) : LitV × Int :=
  if (checkD s).1 = 0 then match literalD s 0 true ⟨[], []⟩ l with
    | .ok _ => ((l.1, (pGet s l.2.1).getD 0, l.2.2.1.map (fun a => (mGet s a).getD 0), l.2.2.2.2), 0)
    | .error e => ((false, 0, [], 0), e.1)
  else ((false, 0, [], 0), (checkD s).1)
abbrev litC (x : LitV) (v : Value) : List Value := [.bool x.1, .int .i64 x.2.1, v, .int .i64 x.2.2.2, .int .i64 0]
set_option maxHeartbeats 16000000 in
theorem literal_call {s : kStat.V} {x : RC} {cs : List Value} {l : kLitT.V} {w : World} (hst : StatOn (mem w (fun b => ¬ No b)) s x) (hl : Rd kLitT (mem w (fun b => ¬ No b)) cs l) :
    RetC Tryz.prog 17 [.agg (x.stat s).toArray, .agg cs.toArray] w No (fun v : Value => .tuple #[.agg (litC (litD s l).1 v).toArray, .int .i64 (litD s l).2]) (fun v => [ownHP 3 1 v ((litD s l).1.2.2.1.map intE)]) := by
  generalize hV : litD s l = V
  unfold litD at hV
  have nilH : ∀ (w2 : World) (H : List HP), St w No H w2 → St w No [ownHP 3 1 (.slice none 0 0) (([] : List Int).map intE)] w2 := fun w2 H hw =>
    ⟨hw.kp, No, fun b hb => hb.elim, .inl ⟨rfl, rfl⟩, trivial⟩
  have hle : Mem.le (mem w (fun b => ¬ No b)) (mem w (fun b => ¬ No b)) := Mem.le_refl _
  have hl' := hl
  obtain ⟨A, c, rfl, hargs⟩ := Rd.litT hl
  have hal := sl_small hargs
  unfold reach at hal
  refine Calls.enter Tryz.func17 rfl _ rfl rfl (S := No) (H := []) trivial ?_
  refine CW.seqR ?_
  refine RW.box_agg (l := x.stat s) rfl rfl fun b2 _ => ?_
  refine RW.box_agg (l := [.bool l.1, .string l.2.1, .slice A l.2.2.1.length c, .bool l.2.2.2.1, .int .i64 l.2.2.2.2]) rfl rfl fun b3 _ => ?_
  refine RW.alloc (c := litC (false, 0, [], 0) (.slice none 0 0)) rfl rfl fun b4 _ => ?_
  refine Jd ?_;refine Jb ?_
  refine CW.seq ?_
  refine Ja ?_;refine JG ?_
  refine RW.call Tryz.call7 rfl (fun w2 hw => check_ret (StatOn.mono hst (ro_call hw))) rfl ?_
  refine Jc ?_;refine Jt ?_;refine Jt ?_;refine Jd ?_;refine Jd ?_;refine Jb ?_;refine Ja ?_;refine Jc ?_;refine Jj ?_;refine Jb ?_
  refine CW.ite rfl (fun h1 => ?_) (fun h1 => ?_)
  · rw [if_neg h1] at hV
    subst hV
    refine Ja ?_
    refine RW.build (v := .agg (litC (false, 0, [], 0) (.slice none 0 0)).toArray) rfl (fun w => by kernel_rfl) rfl ?_
    refine Jc ?_
    refine RW.store_whole [] rfl rfl (vs := litC (false, 0, [], 0) (.slice none 0 0)) rfl rfl rfl (by simp [Value.oneCell']) ?_
    refine Jd ?_;refine Jb ?_
    exact CW.rets (rs := [.cell 4 56, .tmp 5]) (vs := [_, _]) rfl Tryz.results17 rfl (ResOK.cell [] rfl rfl rfl (ResOK.tmp rfl ResOK.nil)) fun w hw => ⟨.slice none 0 0, rfl, nilH w _ hw⟩
  have h1 : (checkD s).1 = 0 := Decidable.of_not_not h1
  rw [if_pos h1] at hV
  obtain ⟨m, hm, _⟩ := check_ok h1
  obtain ⟨hK, hrs⟩ := items_rules hm
  refine JM ?_;refine Ja ?_;refine JG ?_
  refine RW.callN Tryz.call36 rfl (fun w2 hw => resolve_ret (StatOn.mono hst (ro_call hw))) rfl fun q => ?_
  obtain ⟨br, y⟩ := q
  refine RW.purely [_, _, _, _, _, _, _] (fun hy => ?_)
  dsimp only at hy ⊢
  have hst2 : StatOn (mem w (fun b => ¬ No b)) s y := by rw [hy]; exact hst.with _ _ _ _ _ _
  clear hy
  refine RW.take [7, 8, 0, 1, 2, 3, 4, 5, 6] ?_
  refine RW.alloc (c := [.pointer none]) rfl rfl fun b8 _ => ?_
  refine RW.store_blk [] rfl rfl rfl rfl rfl (by decide) ?_
  refine RW.change [] (blk b8 [ptrV br] 105) (fun w F hp => hp) ?_
  refine Jb ?_
  refine CW.seq ?_
  refine Ja ?_;refine Jx ?_
  refine RW.callXT (sp := literalD s 0 true ⟨[], []⟩ l) (β := Unit) (c := fun _ _ => []) [] Tryz.call37 rfl (fun w2 F2 hw2 hF2 h1 h2 => try_ret (pre := []) (caps := [ptrV b8, ptrV b3]) Tryz.call53 h1 fun w3 F3 hst3 hsep => ?_) rfl (fun er he => ?_) fun n u he => ?_
  · have k8 := Sep.blk_at h2
    have k3 := Sep.blk_at (Sep.pull (pre := [_, _]) h2)
    have kr := Sep.blk_at (Sep.pull (pre := [_, _, _]) h2)
    have kd : RD w3 (fun b => ¬ F3 b) s y := (RD.of (StatOn.mono (M := Env.ro ⟨Tryz.f17.ntmps, [], w, No⟩) hst2 (ro_callF hw2 hF2)) (Sep.tail (Sep.tail (Sep.tail (Sep.tail h2))))).stay hst3
    have km := Stay.mem hst3
    exact lit1_ret ⟨fun j v hj => km _ _ _ (blk_mem kr.1.2 kr.2 j v hj), kd.stat, kd.kinds, kd.members, kd.preds, kd.sources, kd.rules, kd.totals⟩ (km _ _ _ (blk_mem k8.1.2 k8.2 0 _ rfl)) (fun j v hj => km _ _ _ (blk_mem k3.1.2 k3.2 j v hj)) ((hl'.mono (ro_callF (E := ⟨Tryz.f17.ntmps, [], w, No⟩) hw2 hF2)).mono km) hK
  · rw [he] at hV
    subst hV
    have hne := nz_literal er he
    refine RW.alloc (c := [.int .i64 0, .int .i64 0]) rfl rfl fun b9 _ => ?_
    refine RW.store_whole [] rfl rfl (vs := [.int .i64 er.1, .int .i64 er.2]) rfl rfl rfl (by simp [Value.oneCell']) ?_
    refine Jb ?_;refine Ja ?_;refine Je ?_;refine JA ?_;refine Jj ?_;refine Jb ?_
    refine CW.ite rfl (fun _ => ?_) (fun h => absurd hne h)
    refine CW.keep [(4, ptrV b4), (9, ptrV b9)] ⟨rfl, rfl, trivial⟩ ?_
    refine CW.cut (ι := Unit) (fun _ => [(4, ptrV b4), (5, .int .i64 er.1)]) (fun _ => [blk b4 (litC (false, 0, [], 0) (.slice none 0 0)) 56]) ?_ (fun _ => ?_)
    · (refine CW.of (by kernel_rfl) (WA.tree ?_); repeat' (first | exact trivial | refine WT.step rfl rfl rfl ?_ | refine ⟨⟨_, rfl, ?_⟩, ?_⟩ | refine RW.tree ?_ | (first|refine Jc ?_|refine Jd ?_|refine Je ?_|refine Jf ?_|refine Jg ?_|refine Jh ?_|refine Ji ?_|refine Jj ?_|refine Jk ?_|refine Jl ?_|refine Jm ?_|refine Jn ?_|refine Jo ?_|refine Jp ?_|refine Jq ?_|refine Jr ?_|refine Js ?_|refine Jt ?_|refine Ju ?_|refine Jv ?_|refine Jw ?_|refine Jx ?_|refine Jz ?_|refine JA ?_|refine JB ?_|refine JC ?_|refine JD ?_|refine JE ?_|refine JF ?_|refine JG ?_|refine JH ?_|refine JI ?_|refine JJ ?_|refine JK ?_|refine JL ?_) | (first | refine RW.build (v := .agg (litC (false, 0, [], 0) (.slice none 0 0)).toArray) rfl (fun w => by kernel_rfl) rfl ?_ | refine RW.store_whole [_, _] rfl rfl (vs := litC (false, 0, [], 0) (.slice none 0 0)) rfl rfl rfl (by simp [Value.oneCell']) ?_ | exact WT.done rfl rfl (RW.nil (PW.meetT () [2] ⟨rfl, rfl, trivial⟩ rfl)))))
    skip
    exact CW.rets (rs := [.cell 4 56, .tmp 5]) (vs := [_, _]) rfl Tryz.results17 rfl (ResOK.cell [] rfl rfl rfl (ResOK.tmp rfl ResOK.nil)) fun w hw => ⟨.slice none 0 0, rfl, nilH w _ hw⟩
  rw [he] at hV
  subst hV
  refine RW.alloc (c := [.int .i64 0, .int .i64 0]) rfl rfl fun b9 _ => ?_
  refine RW.store_whole [] rfl rfl (vs := [.int .i64 0, .int .i64 0]) rfl rfl rfl (by simp [Value.oneCell']) ?_
  refine Jb ?_;refine Ja ?_;refine Je ?_;refine JA ?_;refine Jj ?_;refine Jb ?_
  refine CW.ite rfl (fun h => absurd rfl h) (fun _ => ?_)
  refine CW.skip ?_
  refine PW.code ?_
  refine CW.keep [(3, ptrV b3), (4, ptrV b4), (8, ptrV b8)] ⟨rfl, rfl, rfl, trivial⟩ ?_
  refine CW.take [1, 3, 4, 7, 6, 2] ?_
  refine CW.seqA (by kernel_rfl) rfl ?_
  refine AW.val rfl (fun _ _ => by refine Je ?_;exact RW.done rfl) ?_;refine AW.val rfl (fun _ _ => by refine JB ?_;exact RW.done rfl) ?_;refine AW.val rfl (fun _ _ => by refine JA ?_;exact RW.done rfl) ?_;refine AW.val rfl (fun _ _ => by refine Jf ?_;exact RW.done rfl) ?_;refine AW.val rfl (fun _ _ => by refine Je ?_;exact RW.done rfl) ?_;refine AW.val rfl (fun _ _ => by refine JC ?_;exact RW.done rfl) ?_;refine AW.val rfl (fun _ _ => by refine Je ?_;exact RW.done rfl) ?_;refine AW.val rfl (fun _ _ => by refine JB ?_;exact RW.done rfl) ?_
  (apply AW.val rfl; · intro Gx X; (first | refine RW.yes rfl ?_ | skip); refine RW.lookup [_, _, _] (a0 := (0 : Int)) rfl rfl rfl rfl ?_; exact RW.done rfl)
  refine AW.val rfl (fun _ _ => by refine Je ?_;exact RW.done rfl) ?_;refine AW.val rfl (fun _ _ => by refine JB ?_;exact RW.done rfl) ?_
  (apply AW.val rfl; · intro Gx X; (first | refine RW.yes rfl ?_ | skip); refine RW.build (v := .agg #[.int .i64 ((pGet s l.2.1).getD 0), .slice none 0 0, .int .i64 l.2.2.2.2]) rfl (fun w => by kernel_rfl) rfl ?_; exact RW.done rfl)
  (apply AW.val rfl; · intro Gx X; (first | refine RW.yes rfl ?_ | skip); refine RW.build (v := .agg (litC (l.1, (pGet s l.2.1).getD 0, [], l.2.2.2.2) (.slice none 0 0)).toArray) rfl (fun w => by kernel_rfl) rfl ?_; exact RW.done rfl)
  (apply AW.gen (fun b => ptrV b) (fun b => blk b (litC (false, 0, [], 0) (.slice none 0 0)) 56 ) rfl; · intro Gx X; refine RW.alloc (c := (litC (false, 0, [], 0) (.slice none 0 0))) rfl rfl fun b _ => ?_; exact RW.done_gen rfl)
  refine AW.stop (by kernel_rfl) (by kernel_rfl) fun bs => ?_
  refine RW.store_whole [_, _, _, _, _, _] rfl rfl (vs := litC (l.1, (pGet s l.2.1).getD 0, [], l.2.2.2.2) (.slice none 0 0)) rfl rfl rfl (by simp [Value.oneCell']) ?_
  refine Jb ?_
  refine CW.seq ?_
  refine CW.take [1, 0, 2, 4, 5, 6] ?_
  refine Ja ?_;refine Je ?_;refine JA ?_;refine Jg ?_;refine Jc ?_;refine Jb ?_
  refine CW.take [1, 5, 2, 3, 4] ?_
  refine CW.block ?_
  refine CW.loop (ι := { q : Nat × Value // q.1 ≤ l.2.2.1.length }) (fun q => [(4, ptrV b4), (8, ptrV b8), (10, ptrV (bs 10)), (46, .slice A l.2.2.1.length c), (47, .int .i64 l.2.2.1.length), (48, .int .i64 q.1.1)])
    (fun q => [ownHP 3 1 q.1.2 (((l.2.2.1.map (fun a => (mGet s a).getD 0)).take q.1.1).map intE), blk b8 [ptrV br] 105, blk (bs 10) (litC (l.1, (pGet s l.2.1).getD 0, [], l.2.2.2.2) q.1.2) 56, blk br (y.cells s 0) 112, mapHP strK intK .string y.b2 (indexD ((sMembers s).map nameOf)), blk b4 (litC (false, 0, [], 0) (.slice none 0 0)) 56]) (fun q => l.2.2.1.length - q.1.1) ⟨(0, .slice none 0 0), Nat.zero_le _⟩ ⟨rfl, rfl, rfl, rfl, rfl, rfl, trivial⟩ (fun h => ⟨h.kp, Sep.addp (.inl ⟨rfl, rfl⟩) h.sep⟩) ?_
  intro ⟨⟨j, v⟩, hj⟩
  dsimp only at hj ⊢
  refine Ja ?_;refine Jk ?_;refine Jb ?_
  refine CW.seq ?_
  refine CW.ite rfl (fun hlt => ?_) (fun hge => ?_)
  · have hlt' : j < l.2.2.1.length := by simpa using hlt
    obtain ⟨B1, O1, es1, hA, hl1, hr, hmm⟩ := sl_get hargs (List.getElem?_eq_getElem hlt')
    obtain rfl := str_cell hr
    have hml : ((l.2.2.1.map (fun a => (mGet s a).getD 0)).take j).length = j := by rw [List.length_take, List.length_map]; omega
    have hts : (l.2.2.1.map (fun a => (mGet s a).getD 0)).take (j + 1) = (l.2.2.1.map (fun a => (mGet s a).getD 0)).take j ++ [(mGet s l.2.2.1[j]).getD 0] := by
      rw [List.take_succ_eq_append_getElem (by rw [List.length_map]; exact hlt'), List.getElem_map]
    generalize hx : l.2.2.1[j] = a at *
    generalize hms : (l.2.2.1.map (fun a => (mGet s a).getD 0)).take j = ms at *
    refine JM ?_
    refine CW.seq ?_
    refine CW.block ?_
    refine Ja ?_
    refine RW.indexAddrE hA rfl rfl (by omega) hlt rfl ?_
    refine RW.load_ro rfl hle (hmm 0 _ rfl) rfl rfl ?_
    refine Jd ?_;refine Jb ?_
    refine CW.regB 10 9 (ownHP 3 1 v (ms.map intE)) (by kernel_rfl) (by kernel_rfl) ?_
    refine AB.val rfl rfl (fun _ _ => by refine Je ?_;exact RW.done rfl) ?_;refine AB.val rfl rfl (fun _ _ => by refine Je ?_;exact RW.done rfl) ?_;refine AB.val rfl rfl (fun _ _ => by refine JB ?_;exact RW.done rfl) ?_;refine AB.val rfl rfl (fun _ _ => by refine JA ?_;exact RW.done rfl) ?_;refine AB.val rfl rfl (fun _ _ => by refine Jf ?_;exact RW.done rfl) ?_;refine AB.val rfl rfl (fun _ _ => by refine Je ?_;exact RW.done rfl) ?_;refine AB.val rfl rfl (fun _ _ => by refine JC ?_;exact RW.done rfl) ?_;refine AB.val rfl rfl (fun _ _ => by refine Jc ?_;exact RW.done rfl) ?_
    (apply AB.val rfl rfl; · intro Gx X; (first | refine RW.yes rfl ?_ | skip); refine RW.lookup [_, _, _] (a0 := (0 : Int)) rfl rfl rfl rfl ?_; exact RW.done rfl)
    (apply AB.gen (fun b => .slice (some ⟨b, 0, none⟩) 1 1) (fun b => blk b [.int .i64 ((mGet s a).getD 0)] 3) rfl rfl; · intro Gx X; refine RW.buildSlice (e := 3) (c := [.int .i64 ((mGet s a).getD 0)]) rfl (fun w => by kernel_rfl) rfl fun b _ => ?_; exact RW.done_gen rfl)
    refine AB.app (fun n => encU (j + 1) n) (fun n => ownHP 3 1 (encU (j + 1) n) ((ms ++ [(mGet s a).getD 0]).map intE)) rfl rfl rfl rfl rfl rfl (fun b Gx X => ?_) ?_
    · refine RW.append [_] (e := 3) (sz := 1) (news := [[.int .i64 ((mGet s a).getD 0)]]) (zc := [.int .i64 0]) rfl rfl rfl rfl rfl (by simp) (by simp [Value.oneCell']) (fun w hw hn => ?_) ?_ ?_ rfl fun u1 => ?_
      · exact ⟨b, 0, rfl, CellsAt.of_blk (St.blk (pre := []) hw)⟩
      · rw [List.length_map]; omega
      · rw [List.length_map]; unfold maxN; omega
      rw [show ms.map intE ++ [[.int .i64 ((mGet s a).getD 0)]] = (ms ++ [(mGet s a).getD 0]).map intE by rw [List.map_append]; rfl]
      refine RW.have_ (φ := ∃ n, u1 = encU (j + 1) n) (fun w hw => by have := enc_ownU (pre := [_]) hw; rwa [List.length_map, List.length_append, List.length_singleton, hml] at this) (fun ⟨n, hn⟩ => ?_)
      subst hn
      exact RW.done_app rfl
    refine AB.val rfl rfl (fun _ _ => by refine Je ?_;exact RW.done rfl) ?_;refine AB.val rfl rfl (fun _ _ => by refine Je ?_;exact RW.done rfl) ?_
    refine AB.stop rfl (by kernel_rfl) (by kernel_rfl) fun bs2 => ?_
    have hv1 := encU_cells (j + 1) (bs2 62)
    refine RW.store_blk [_] rfl rfl rfl hv1.1 hv1.2 (by show 2 < 5; omega) ?_
    refine RW.change [_] (blk (bs 10) (litC (l.1, (pGet s l.2.1).getD 0, [], l.2.2.2.2) (encU (j + 1) (bs2 62))) 56) (fun w F hp => hp) ?_
    refine RW.nil ?_
    refine PW.code ?_
    refine CW.region ?_
    skip
    refine RW.add rfl rfl (w64 (by omega) (by omega)) rfl ?_
    refine Jc ?_
    refine RW.nil ?_
    refine PW.againT ⟨(j + 1, encU (j + 1) (bs2 62)), hlt'⟩ [5, 0, 1, 2, 3, 4] ⟨rfl, rfl, rfl, rfl, rfl, rfl, trivial⟩ ?_ (by show l.2.2.1.length - (j + 1) < l.2.2.1.length - j; omega)
    dsimp only
    rw [hts]
    rfl
  have hge' : l.2.2.1.length ≤ j := by simpa using hge
  rw [List.take_of_length_le (by rw [List.length_map]; exact hge')]
  refine CW.have_ (φ := v.oneCell' = true) (fun w hw => ?_) (fun hv1 => ?_)
  · obtain ⟨F2, hp, _⟩ := St.get (pre := []) hw
    rcases hp with ⟨rfl, _⟩ | ⟨B, c, tl, rfl, _⟩ <;> rfl
  refine CW.exit rfl ?_
  refine PW.code ?_
  refine Ja ?_;refine JG ?_
  refine RW.store_whole [_, _, _, _, _] rfl rfl (vs := litC (l.1, (pGet s l.2.1).getD 0, [], l.2.2.2.2) v) rfl rfl rfl (fun u hu => by simp only [List.mem_cons, List.not_mem_nil, or_false] at hu; rcases hu with rfl | rfl | rfl | rfl | rfl <;> first | exact hv1 | rfl) ?_
  refine Jd ?_;refine Jb ?_
  exact CW.rets (rs := [.cell 4 56, .tmp 5]) (vs := [_, _]) rfl Tryz.results17 rfl (ResOK.cell [_, _, _, _, _] rfl rfl rfl (ResOK.tmp rfl ResOK.nil)) fun w hw => ⟨v, rfl, hw.take [0]⟩
end Go.Proofs.YtkfmlekomfnleaaGreat
/- resolve.Of, Sorts, Class, by the calculus. Conditions: none. -/
set_option linter.unusedVariables false
set_option linter.unusedSimpArgs false
set_option maxRecDepth 10000
namespace Go.Proofs.YtkfmlekomfnleaaGreat
open Go Go.RowKit Go.MapKept

attribute [local irreducible] RW CW
theorem ofGo_step {s : kStat.V} {k : Int} {l : List kMember.V} {j : Nat} (h : j < l.length) : ofGo s k (l.drop j) j = if getM (indexD (sKinds s)) l[j].2 = some k then (j : Int) :: ofGo s k (l.drop (j + 1)) ((j + 1 : Nat) : Int) else ofGo s k (l.drop (j + 1)) ((j + 1 : Nat) : Int) := by
  rw [List.drop_eq_getElem_cons h, ofGo]; rfl
set_option maxHeartbeats 8000000 in
theorem of_ret {s : kStat.V} {x : RC} {k : Int} {w : World} (hst : StatOn (mem w (fun b => ¬ No b)) s x) :
    RetC Tryz.prog 26 [.agg (x.stat s).toArray, .int .i64 k] w No (fun v : Value => v) (fun v => [ownHP 3 1 v ((ofD s k).map intE)]) := by
  have hsm := sl_small hst.members
  unfold reach at hsm
  have hle : Mem.le (mem w (fun b => ¬ No b)) (mem w (fun b => ¬ No b)) := Mem.le_refl _
  refine Calls.enter Tryz.func26 rfl _ rfl rfl (S := No) (H := []) trivial ?_
  refine CW.seqR ?_
  refine RW.box_agg (l := x.stat s) rfl rfl fun b2 _ => ?_
  refine Jd ?_;refine Jb ?_;refine Ja ?_;refine JE ?_
  refine RW.callN Tryz.call36 rfl (fun w2 hw => resolve_ret (StatOn.mono hst (ro_call hw))) rfl fun q => ?_
  obtain ⟨br, y⟩ := q
  refine RW.purely [_, _, _, _, _, _, _] (fun hy => ?_)
  dsimp only at hy ⊢
  clear hy
  refine Jf ?_;refine Je ?_;refine JA ?_;refine Jd ?_;refine Jb ?_;refine Ja ?_;refine Jd ?_;refine Jb ?_
  refine CW.take [0, 1, 7] ?_
  refine CW.seq ?_
  refine CW.take [2, 1] ?_
  refine CW.add_ (ownHP 3 1 (.slice none 0 0) []) (fun w _ => .inl ⟨rfl, rfl⟩) ?_
  refine CW.take [1, 2, 0] ?_
  refine Ja ?_;refine Je ?_;refine JA ?_;refine Jg ?_;refine Jc ?_;refine Jb ?_
  refine CW.block ?_
  refine CW.loop (ι := { q : Nat × Value × List Int // q.1 ≤ (sMembers s).length ∧ q.2.2 ++ ofGo s k ((sMembers s).drop q.1) q.1 = ofD s k ∧ q.2.2.length ≤ q.1 }) (fun q => [(1, .int .i64 k), (5, .map (some y.b1)), (6, q.1.2.1), (17, .slice x.A2 (sMembers s).length x.c2), (18, .int .i64 (sMembers s).length), (19, .int .i64 q.1.1)])
    (fun q => [mapHP strK intK .string y.b1 (indexD (sKinds s)), ownHP 3 1 q.1.2.1 (q.1.2.2.map intE)]) (fun q => (sMembers s).length - q.1.1) ⟨(0, .slice none 0 0, []), Nat.zero_le _, rfl, Nat.le_refl _⟩ ⟨rfl, rfl, rfl, rfl, rfl, rfl, trivial⟩ (fun h => h.sub (List.Sublist.cons _ (List.Sublist.refl _))) ?_
  intro ⟨⟨j, v, out⟩, hj, hS, hol⟩
  dsimp only at hS hj hol ⊢
  refine Ja ?_;refine Jk ?_;refine Jb ?_
  refine CW.seq ?_
  refine CW.ite rfl (fun hlt => ?_) (fun hge => ?_)
  · have hlt' : j < (sMembers s).length := by simpa using hlt
    rw [ofGo_step hlt'] at hS
    obtain ⟨B1, O1, cs, hA, hl1, hr, hm⟩ := sl_get hst.members (List.getElem?_eq_getElem hlt')
    obtain ⟨c1, c2, rfl, hp1, hp2⟩ := hr
    obtain rfl := str_cell hp1
    obtain rfl := str_cell hp2
    generalize hnm : (sMembers s)[j] = m at *
    refine JM ?_
    refine CW.seq ?_
    refine CW.block ?_
    refine Ja ?_;refine Jc ?_
    refine RW.indexAddrE hA rfl rfl (by omega) hlt rfl ?_
    refine RW.load_ros rfl hle hm rfl rfl (Nat.zero_lt_succ _) rfl ?_
    refine RW.alloc (c := [.string ByteArray.empty, .string ByteArray.empty]) rfl rfl fun b8 _ => ?_
    refine Jd ?_
    refine RW.store_whole [] rfl rfl (vs := [.string m.1, .string m.2]) rfl rfl rfl (by simp [Value.oneCell']) ?_
    refine Jb ?_;refine Ja ?_;refine Jc ?_;refine Je ?_;refine JA ?_
    refine RW.lookupOk [_] (a0 := (0 : Int)) rfl rfl rfl rfl ?_
    refine Jc ?_;refine Jt ?_;refine Jt ?_;refine Jd ?_;refine Jd ?_;refine Jb ?_;refine Ja ?_;refine Jc ?_;refine Jc ?_
    cases hg : getM (indexD (sKinds s)) m.2 with
    | none =>
      rw [hg, if_neg (by simp)] at hS
      refine Jz ?_;refine Jz ?_;refine Jz ?_;refine Jw ?_;refine Jb ?_
      refine CW.cf rfl ?_
      refine CW.skip ?_
      refine PW.code ?_
      refine CW.region ?_
      refine RW.add rfl rfl (w64 (by omega) (by omega)) rfl ?_
      refine Jc ?_
      refine RW.nil ?_
      exact PW.againT ⟨(j + 1, v, out), hlt', hS, by show out.length ≤ j + 1; omega⟩ [1, 2] ⟨rfl, rfl, rfl, rfl, rfl, rfl, trivial⟩ rfl (by show (sMembers s).length - (j + 1) < (sMembers s).length - j; omega)
    | some u =>
      rw [hg] at hS
      refine Jy ?_;refine Jc ?_;refine Jy ?_;refine Jc ?_;refine Jy ?_;refine Ji ?_;refine Jv ?_;refine Jb ?_
      refine CW.ite rfl (fun hu => ?_) (fun hu => ?_)
      · rw [if_pos (by show some u = some k; exact congrArg some hu)] at hS
        refine CW.region ?_
        refine Jc ?_;refine Jc ?_
        refine RW.buildSlice (e := 3) (c := [.int .i64 j]) rfl (fun w => by kernel_rfl) rfl fun b39 _ => ?_
        refine RW.append [_, _, _] (e := 3) (sz := 1) (news := [[.int .i64 j]]) (zc := [.int .i64 0]) rfl rfl rfl rfl rfl (by simp) (by simp [Value.oneCell']) (fun w hw hn => ?_) ?_ ?_ rfl fun v' => ?_
        · exact ⟨b39, 0, rfl, CellsAt.of_blk (St.blk (pre := []) hw)⟩
        · rw [List.length_map]; omega
        · rw [List.length_map]; unfold maxN; omega
        dsimp only [List.cons_append, List.nil_append]
        refine Jd ?_;refine RW.nil (PW.code ?_)
        refine CW.region ?_
        refine RW.add rfl rfl (w64 (by omega) (by omega)) rfl ?_
        refine Jc ?_
        refine RW.nil ?_
        refine PW.againT ⟨(j + 1, v', out ++ [(j : Int)]), hlt', by rw [List.append_assoc]; exact hS, by show (out ++ [(j : Int)]).length ≤ j + 1; rw [List.length_append]; show out.length + 1 ≤ _; omega⟩ [2, 3] ⟨rfl, rfl, rfl, rfl, rfl, rfl, trivial⟩ ?_ (by show (sMembers s).length - (j + 1) < (sMembers s).length - j; omega)
        dsimp only
        rw [List.map_append]
        rfl
      · rw [if_neg (by intro e; exact hu (Option.some.inj e))] at hS
        refine CW.skip ?_
        refine PW.code ?_
        refine CW.region ?_
        refine RW.add rfl rfl (w64 (by omega) (by omega)) rfl ?_
        refine Jc ?_
        refine RW.nil ?_
        exact PW.againT ⟨(j + 1, v, out), hlt', hS, by show out.length ≤ j + 1; omega⟩ [1, 2] ⟨rfl, rfl, rfl, rfl, rfl, rfl, trivial⟩ rfl (by show (sMembers s).length - (j + 1) < (sMembers s).length - j; omega)
  have hge' : (sMembers s).length ≤ j := by simpa using hge
  rw [List.drop_eq_nil_of_le hge', ofGo, List.append_nil] at hS
  refine CW.exit rfl ?_
  refine PW.code ?_
  refine Ja ?_;refine Jc ?_;refine Jd ?_;refine Jb ?_
  exact CW.ret1 rfl Tryz.results26 rfl rfl fun w hw => ⟨v, rfl, by rw [← hS]; exact hw.take [1]⟩

def hasN (l : List Str) (n : Str) : Bool := (fst? l n).isSome
theorem hasN_cons (x : Str) (l : List Str) (n : Str) : hasN (x :: l) n = (decide (x = n) || hasN l n) := by
  unfold hasN
  rw [fst?]
  by_cases h : x = n
  · rw [if_pos h, decide_eq_true h]; rfl
  · rw [if_neg h, decide_eq_false h, Bool.false_or, Option.isSome_map]
/-- The first class that has a name. -/
def fstC : List (List Str) → Str → Option Int
  | [], _ => none
  | l :: r, n => if hasN l n then some 0 else (fstC r n).map (· + 1)
def addGo (i : Int) : List Str → List (Str × Int) → List (Str × Int)
  | [], m => m
  | n :: r, m => addGo i r (match getM m n with | some _ => m | none => putM m n i)
def clsGo : List (List Str) → Int → List (Str × Int) → List (Str × Int)
  | [], _, m => m
  | l :: r, i, m => clsGo r (i + 1) (addGo i l m)
theorem addGo_get (i : Int) : ∀ (l : List Str) (m : List (Str × Int)) (n : Str), getM (addGo i l m) n = match getM m n with | some v => some v | none => if hasN l n then some i else none := by
  intro l
  induction l with
  | nil => intro m n; rw [addGo]; cases getM m n <;> rfl
  | cons x l ih =>
    intro m n
    rw [addGo, ih, hasN_cons]
    cases hx : getM m x with
    | some v =>
      by_cases h : x = n
      · subst h; simp only [hx]
      · rw [decide_eq_false h, Bool.false_or]
    | none =>
      simp only [getM_put]
      by_cases h : x = n
      · subst h; simp [hx]
      · rw [if_neg h, decide_eq_false h, Bool.false_or]
theorem clsGo_get : ∀ (cl : List (List Str)) (i : Int) (m : List (Str × Int)) (n : Str), getM (clsGo cl i m) n = match getM m n with | some v => some v | none => (fstC cl n).map (i + ·) := by
  intro cl
  induction cl with
  | nil => intro i m n; rw [clsGo]; cases getM m n <;> rfl
  | cons l r ih =>
    intro i m n
    rw [clsGo, ih, addGo_get, fstC]
    cases getM m n with
    | some v => rfl
    | none =>
      cases h : hasN l n with
      | true => simp
      | false =>
        simp only [Bool.false_eq_true, if_false]
        cases fstC r n with
        | none => rfl
        | some v => simp; omega
abbrev clsNo (s : kStat.V) (n : Str) : Int := (fstC (sClasses s) n).getD (-1)
theorem clsGo_all (s : kStat.V) (n : Str) : getM (clsGo (sClasses s) 0 []) n = fstC (sClasses s) n := by
  rw [clsGo_get]
  show (fstC (sClasses s) n).map _ = _
  cases fstC (sClasses s) n with
  | none => rfl
  | some v => simp
theorem clsGo_step {cl : List (List Str)} {j : Nat} {m : List (Str × Int)} (h : j < cl.length) : clsGo (cl.drop j) j m = clsGo (cl.drop (j + 1)) ((j + 1 : Nat) : Int) (addGo j cl[j] m) := by
  rw [List.drop_eq_getElem_cons h, clsGo]; rfl
theorem addGo_step {i : Int} {l : List Str} {k : Nat} {m : List (Str × Int)} (h : k < l.length) : addGo i (l.drop k) m = addGo i (l.drop (k + 1)) (match getM m l[k] with | some _ => m | none => putM m l[k] i) := by
  rw [List.drop_eq_getElem_cons h, addGo]
theorem hasN_iff {l : List Str} {n : Str} : hasN l n = true ↔ 0 ≤ (fst? l n).getD (-1) := by
  unfold hasN
  cases hf : fst? l n with
  | none => exact ⟨(fun h => by cases h), (fun h => absurd h (by decide))⟩
  | some v => exact ⟨fun _ => (fst?_some hf).1, fun _ => rfl⟩
theorem fstC_range : ∀ {cl : List (List Str)} {n : Str} {i : Int}, fstC cl n = some i → 0 ≤ i ∧ i < cl.length := by
  intro cl
  induction cl with
  | nil => intro n i h; cases h
  | cons l r ih =>
    intro n i h
    rw [fstC] at h
    split at h
    · cases h; exact ⟨by omega, by simp⟩
    · cases hr : fstC r n with
      | none => rw [hr] at h; cases h
      | some j =>
        rw [hr] at h
        cases h
        obtain ⟨h1, h2⟩ := ih hr
        exact ⟨by show 0 ≤ j + 1; omega, by show j + 1 < _; simp only [List.length_cons]; omega⟩
abbrev sortsD (s : kStat.V) : List Int := (sPreds s).map fun p => p.2.1
abbrev classesD (s : kStat.V) : List Int := (sPreds s).map fun p => clsNo s p.1
set_option maxHeartbeats 4000000 in
theorem sorts_ret {s : kStat.V} {x : RC} {w : World} (hst : StatOn (mem w (fun b => ¬ No b)) s x) : RetC Tryz.prog 25 [.agg (x.stat s).toArray] w No (fun v : Value => v) (fun v => [ownHP 148 1 v ((sortsD s).map intE)]) := by
  have hsm := sl_small hst.preds
  unfold reach at hsm
  have hle : Mem.le (mem w (fun b => ¬ No b)) (mem w (fun b => ¬ No b)) := Mem.le_refl _
  refine Calls.enter Tryz.func25 rfl _ rfl rfl (S := No) (H := []) trivial ?_
  refine CW.seqR ?_
  refine RW.box_agg (l := x.stat s) rfl rfl fun b1 _ => ?_
  refine RW.add_ (ownHP 148 1 (.slice none 0 0) []) (fun w _ => .inl ⟨rfl, rfl⟩) ?_
  refine Jd ?_;refine Jb ?_;refine Ja ?_;refine Jd ?_;refine Jb ?_
  refine CW.seq ?_
  refine Ja ?_;refine Je ?_;refine JB ?_;refine Jg ?_;refine Jc ?_;refine Jb ?_
  refine CW.block ?_
  refine CW.loop (ι := { q : Nat × Value // q.1 ≤ (sPreds s).length }) (fun q => [(3, q.1.2), (7, .slice x.A3 (sPreds s).length x.c3), (8, .int .i64 (sPreds s).length), (9, .int .i64 q.1.1)]) (fun q => [ownHP 148 1 q.1.2 (((sortsD s).take q.1.1).map intE)]) (fun q => (sPreds s).length - q.1.1) ⟨(0, .slice none 0 0), Nat.zero_le _⟩ ⟨rfl, rfl, rfl, rfl, trivial⟩ (fun h => h.take [0]) ?_
  intro ⟨⟨j, v⟩, hj⟩
  dsimp only at hj ⊢
  refine Ja ?_;refine Jk ?_;refine Jb ?_
  refine CW.seq ?_
  refine CW.ite rfl (fun hlt => ?_) (fun hge => ?_)
  · have hlt' : j < (sPreds s).length := by simpa using hlt
    obtain ⟨B1, O1, cs, hA, hl1, hr, hm⟩ := sl_get hst.preds (List.getElem?_eq_getElem hlt')
    obtain ⟨PA, pc, PB, pd, rfl, _⟩ := Rd.predT hr
    refine JM ?_
    refine CW.seq ?_
    refine CW.block ?_
    refine Ja ?_
    refine RW.indexAddrE hA rfl rfl (by omega) hlt rfl ?_
    refine RW.load_ros rfl hle hm rfl rfl (Nat.zero_lt_succ _) rfl ?_
    refine RW.alloc rfl rfl fun b5 _ => ?_
    refine RW.store_whole [] rfl rfl rfl rfl rfl (by simp [Value.oneCell']) ?_
    refine Jb ?_
    refine CW.region ?_
    refine Jc ?_;refine Je ?_;refine JA ?_
    refine RW.buildSlice (e := 148) (c := [.int .i64 (sPreds s)[j].2.1]) rfl (fun w => by kernel_rfl) rfl fun b19 _ => ?_
    refine RW.append [_, _] (e := 148) (sz := 1) (news := [[.int .i64 (sPreds s)[j].2.1]]) (zc := [.int .i64 0]) rfl rfl rfl rfl rfl (by simp) (by simp [Value.oneCell']) (fun w hw hn => ?_) ?_ ?_ rfl fun v' => ?_
    · exact ⟨b19, 0, rfl, CellsAt.of_blk (St.blk (pre := []) hw)⟩
    · simp only [List.length_map, List.length_take]; omega
    · simp only [List.length_map, List.length_take]; unfold maxN; omega
    dsimp only [List.cons_append, List.nil_append]
    refine Jd ?_;refine RW.nil (PW.code ?_)
    refine CW.region ?_
    refine RW.add rfl rfl (w64 (by omega) (by omega)) rfl ?_
    refine Jc ?_
    refine RW.nil ?_
    refine PW.againT ⟨(j + 1, v'), hlt'⟩ [2] ⟨rfl, rfl, rfl, rfl, trivial⟩ ?_ (by show (sPreds s).length - (j + 1) < (sPreds s).length - j; omega)
    dsimp only
    rw [List.take_succ_eq_append_getElem (by rw [List.length_map]; exact hlt'), List.map_append, List.getElem_map]
    rfl
  have hge' : (sPreds s).length ≤ j := by simpa using hge
  rw [List.take_of_length_le (by rw [List.length_map]; exact hge')]
  refine CW.exit rfl ?_
  refine PW.code ?_
  refine Ja ?_;refine Jc ?_;refine Jd ?_;refine Jb ?_
  exact CW.ret1 rfl Tryz.results25 rfl rfl fun w hw => ⟨v, rfl, hw.take [0]⟩

set_option maxHeartbeats 8000000 in
theorem class_all_ret {s : kStat.V} {x : RC} {w : World} (hst : StatOn (mem w (fun b => ¬ No b)) s x) : RetC Tryz.prog 23 [.agg (x.stat s).toArray] w No (fun v : Value => v) (fun v => [ownHP 3 1 v ((classesD s).map intE)]) := by
  have hsm := sl_small hst.preds
  have hsc := sl_small hst.classes
  unfold reach at hsm hsc
  have hle : Mem.le (mem w (fun b => ¬ No b)) (mem w (fun b => ¬ No b)) := Mem.le_refl _
  refine Calls.enter Tryz.func23 rfl _ rfl rfl (S := No) (H := []) trivial ?_
  refine CW.seqR ?_
  refine RW.box_agg (l := x.stat s) rfl rfl fun b1 _ => ?_
  refine Jd ?_;refine Jb ?_;refine Ja ?_
  refine RW.makeMap (κ := Str) (α := Int) strK intK .string (fun o ho => by cases ho) rfl fun bm => ?_
  refine Jd ?_;refine Jb ?_
  refine CW.cut (ι := Unit) (fun _ => [(1, ptrV b1), (3, .map (some bm))]) (fun _ => [mapHP strK intK .string bm (clsGo (sClasses s) 0 []), blk b1 (x.stat s) 31]) ?_ (fun _ => ?_)
  · refine Ja ?_;refine Je ?_;refine JB ?_;refine Jg ?_;refine Jc ?_;refine Jb ?_
    refine CW.block ?_
    refine CW.loop (ι := { q : Nat × List (Str × Int) // q.1 ≤ (sClasses s).length ∧ clsGo ((sClasses s).drop q.1) q.1 q.2 = clsGo (sClasses s) 0 [] }) (fun q => [(1, ptrV b1), (3, .map (some bm)), (17, .slice x.A4 (sClasses s).length x.c4), (18, .int .i64 (sClasses s).length), (19, .int .i64 q.1.1)])
      (fun q => [mapHP strK intK .string bm q.1.2, blk b1 (x.stat s) 31]) (fun q => (sClasses s).length - q.1.1) ⟨(0, []), Nat.zero_le _, rfl⟩ ⟨rfl, rfl, rfl, rfl, rfl, trivial⟩ (fun h => h) ?_
    intro ⟨⟨j, m⟩, hj, hS⟩
    dsimp only at hj hS ⊢
    refine Ja ?_;refine Jk ?_;refine Jb ?_
    refine CW.seq ?_
    refine CW.ite rfl (fun hlt => ?_) (fun hge => ?_)
    rotate_left
    · have hge' : (sClasses s).length ≤ j := by simpa using hge
      rw [List.drop_eq_nil_of_le hge', clsGo] at hS
      subst hS
      refine CW.exit rfl ?_
      exact PW.meet () ⟨rfl, rfl, trivial⟩ (fun h => h)
    have hlt' : j < (sClasses s).length := by simpa using hlt
    rw [clsGo_step hlt'] at hS
    obtain ⟨B1, O1, es1, hA, hl1, hr, hm⟩ := sl_get hst.classes (List.getElem?_eq_getElem hlt')
    generalize hcl : (sClasses s)[j] = cl at *
    obtain ⟨CA, cc, rfl⟩ := sl_cell hr
    have hsl := sl_small hr
    unfold reach at hsl
    refine JM ?_
    refine CW.seq ?_
    refine CW.block ?_
    refine Ja ?_;refine Jc ?_
    refine RW.indexAddrE hA rfl rfl (by omega) hlt rfl ?_
    skip
    refine RW.load_ro rfl hle (hm 0 _ rfl) rfl rfl ?_
    refine Jd ?_;refine Jd ?_;refine Jb ?_;refine Ja ?_;refine Jc ?_;refine Jg ?_;refine Jc ?_;refine Jb ?_
    refine CW.block ?_
    refine CW.loop (ι := { q : Nat × List (Str × Int) // q.1 ≤ cl.length ∧ addGo j (cl.drop q.1) q.2 = addGo j cl m }) (fun q => [(1, ptrV b1), (3, .map (some bm)), (17, .slice x.A4 (sClasses s).length x.c4), (18, .int .i64 (sClasses s).length), (19, .int .i64 j), (4, .int .i64 j), (24, .slice CA cl.length cc), (25, .int .i64 cl.length), (26, .int .i64 q.1.1)])
      (fun q => [mapHP strK intK .string bm q.1.2, blk b1 (x.stat s) 31]) (fun q => cl.length - q.1.1) ⟨(0, m), Nat.zero_le _, rfl⟩ ⟨rfl, rfl, rfl, rfl, rfl, rfl, rfl, rfl, rfl, trivial⟩ (fun h => h) ?_
    intro ⟨⟨k, mm⟩, hk, hT⟩
    dsimp only at hk hT ⊢
    refine Ja ?_;refine Jk ?_;refine Jb ?_
    refine CW.seq ?_
    refine CW.ite rfl (fun hkt => ?_) (fun hke => ?_)
    rotate_left
    · have hke' : cl.length ≤ k := by simpa using hke
      rw [List.drop_eq_nil_of_le hke', addGo] at hT
      subst hT
      refine CW.exit rfl ?_
      refine PW.code ?_
      refine CW.region ?_
      refine RW.add rfl rfl (w64 (by omega) (by omega)) rfl ?_
      refine Jc ?_
      refine RW.nil ?_
      exact PW.again ⟨(j + 1, addGo j cl m), hlt', hS⟩ ⟨rfl, rfl, rfl, rfl, rfl, trivial⟩ (fun h => h) (by show (sClasses s).length - (j + 1) < (sClasses s).length - j; omega)
    have hkt' : k < cl.length := by simpa using hkt
    rw [addGo_step hkt'] at hT
    obtain ⟨B2, O2, es2, hA2, hl2, hr2, hm2⟩ := sl_get hr (List.getElem?_eq_getElem hkt')
    obtain rfl := str_cell hr2
    generalize hnm : cl[k] = nm at *
    refine JM ?_
    refine CW.seq ?_
    refine CW.block ?_
    refine Ja ?_
    refine RW.indexAddrE hA2 rfl rfl (by omega) hkt rfl ?_
    skip
    refine RW.load_ro rfl hle (hm2 0 _ rfl) rfl rfl ?_
    refine Jd ?_;refine Jb ?_;refine Ja ?_;refine Jc ?_;refine Jc ?_
    refine RW.lookupOk [] (a0 := (0 : Int)) rfl rfl rfl rfl ?_
    refine Jc ?_;refine Jt ?_;refine Jt ?_;refine Jd ?_;refine Jd ?_;refine Jb ?_;refine Ja ?_;refine Jc ?_;refine Js ?_;refine Jb ?_
    cases hg : getM mm nm with
    | some u =>
      rw [hg] at hT
      refine CW.cf rfl ?_
      refine CW.skip ?_
      refine PW.code ?_
      refine CW.region ?_
      refine RW.add rfl rfl (w64 (by omega) (by omega)) rfl ?_
      refine Jc ?_
      refine RW.nil ?_
      exact PW.again ⟨(k + 1, mm), hkt', hT⟩ ⟨rfl, rfl, rfl, rfl, rfl, rfl, rfl, rfl, rfl, trivial⟩ (fun h => h) (by show cl.length - (k + 1) < cl.length - k; omega)
    | none =>
      rw [hg] at hT
      refine CW.ct rfl ?_
      refine CW.region ?_
      refine Jc ?_;refine Jc ?_;refine Jc ?_
      refine RW.mapUpdate [] (a := (j : Int)) rfl rfl rfl rfl ?_
      refine RW.nil (PW.code ?_)
      refine CW.region ?_
      refine RW.add rfl rfl (w64 (by omega) (by omega)) rfl ?_
      refine Jc ?_
      refine RW.nil ?_
      exact PW.again ⟨(k + 1, putM mm nm j), hkt', hT⟩ ⟨rfl, rfl, rfl, rfl, rfl, rfl, rfl, rfl, rfl, trivial⟩ (fun h => h) (by show cl.length - (k + 1) < cl.length - k; omega)
  refine CW.add_ (ownHP 3 1 (.slice none 0 0) []) (fun w _ => .inl ⟨rfl, rfl⟩) ?_
  refine Ja ?_;refine Jd ?_;refine Jb ?_
  refine CW.seq ?_
  refine Ja ?_;refine Je ?_;refine JC ?_;refine Jg ?_;refine Jc ?_;refine Jb ?_
  refine CW.block ?_
  refine CW.loop (ι := { q : Nat × Value // q.1 ≤ (sPreds s).length }) (fun q => [(3, .map (some bm)), (10, q.1.2), (44, .slice x.A3 (sPreds s).length x.c3), (45, .int .i64 (sPreds s).length), (46, .int .i64 q.1.1)]) (fun q => [ownHP 3 1 q.1.2 (((classesD s).take q.1.1).map intE), mapHP strK intK .string bm (clsGo (sClasses s) 0 [])]) (fun q => (sPreds s).length - q.1.1) ⟨(0, .slice none 0 0), Nat.zero_le _⟩ ⟨rfl, rfl, rfl, rfl, rfl, trivial⟩ (fun h => h.take [0, 1]) ?_
  intro ⟨⟨j, v⟩, hj⟩
  dsimp only at hj ⊢
  refine Ja ?_;refine Jk ?_;refine Jb ?_
  refine CW.seq ?_
  refine CW.ite rfl (fun hlt => ?_) (fun hge => ?_)
  · have hlt' : j < (sPreds s).length := by simpa using hlt
    obtain ⟨B1, O1, cs, hA, hl1, hr, hm⟩ := sl_get hst.preds (List.getElem?_eq_getElem hlt')
    obtain ⟨PA, pc, PB, pd, rfl, _⟩ := Rd.predT hr
    have hcd : (classesD s)[j]'(by rw [List.length_map]; exact hlt') = clsNo s (sPreds s)[j].1 := List.getElem_map ..
    generalize hpj : (sPreds s)[j] = pj at *
    refine JM ?_
    refine CW.seq ?_
    refine CW.block ?_
    refine Ja ?_
    refine RW.indexAddrE hA rfl rfl (by omega) hlt rfl ?_
    refine RW.load_ros rfl hle hm rfl rfl (Nat.zero_lt_succ _) rfl ?_
    refine RW.alloc rfl rfl fun b12 _ => ?_
    refine RW.store_whole [] rfl rfl rfl rfl rfl (by simp [Value.oneCell']) ?_
    refine Jb ?_;refine Ja ?_;refine Jc ?_;refine Je ?_;refine JA ?_
    refine RW.lookupOk [_, _] (a0 := (0 : Int)) rfl rfl rfl rfl ?_
    rw [clsGo_all]
    refine Jc ?_;refine Jt ?_;refine Jt ?_;refine Jd ?_;refine Jd ?_;refine Jb ?_
    refine CW.cut (ι := Unit) (fun _ => [(3, .map (some bm)), (10, v), (13, .int .i64 (clsNo s pj.1)), (44, .slice x.A3 (sPreds s).length x.c3), (45, .int .i64 (sPreds s).length), (46, .int .i64 j)]) (fun _ => [ownHP 3 1 v (((classesD s).take j).map intE), mapHP strK intK .string bm (clsGo (sClasses s) 0 [])]) ?_ (fun _ => ?_)
    · refine Ja ?_;refine Jc ?_;refine Js ?_;refine Jb ?_
      cases hf : fstC (sClasses s) pj.1 with
      | none =>
        refine CW.ct rfl ?_
        refine CW.region ?_
        refine Jd ?_
        refine RW.nil ?_
        exact PW.meetT () [1, 2] ⟨rfl, rfl, (by unfold clsNo; rw [hf]; rfl), rfl, rfl, rfl, trivial⟩ rfl
      | some u =>
        refine CW.cf rfl ?_
        refine CW.skip ?_
        exact PW.meetT () [1, 2] ⟨rfl, rfl, (by unfold clsNo; rw [hf]; rfl), rfl, rfl, rfl, trivial⟩ rfl
    refine CW.region ?_
    refine Jc ?_;refine Jc ?_
    refine RW.buildSlice (e := 3) (c := [.int .i64 (clsNo s pj.1)]) rfl (fun w => by kernel_rfl) rfl fun b61 _ => ?_
    refine RW.append [_] (e := 3) (sz := 1) (news := [[.int .i64 (clsNo s pj.1)]]) (zc := [.int .i64 0]) rfl rfl rfl rfl rfl (by simp) (by simp [Value.oneCell']) (fun w hw hn => ?_) ?_ ?_ rfl fun v' => ?_
    · exact ⟨b61, 0, rfl, CellsAt.of_blk (St.blk (pre := []) hw)⟩
    · simp only [List.length_map, List.length_take]; omega
    · simp only [List.length_map, List.length_take]; unfold maxN; omega
    dsimp only [List.cons_append, List.nil_append]
    refine Jd ?_;refine RW.nil (PW.code ?_)
    refine CW.region ?_
    refine RW.add rfl rfl (w64 (by omega) (by omega)) rfl ?_
    refine Jc ?_
    refine RW.nil ?_
    refine PW.againT ⟨(j + 1, v'), hlt'⟩ [1, 2] ⟨rfl, rfl, rfl, rfl, rfl, trivial⟩ ?_ (by show (sPreds s).length - (j + 1) < (sPreds s).length - j; omega)
    dsimp only
    rw [List.take_succ_eq_append_getElem (by rw [List.length_map]; exact hlt'), List.map_append, hcd]
    rfl
  have hge' : (sPreds s).length ≤ j := by simpa using hge
  rw [List.take_of_length_le (by rw [List.length_map]; exact hge')]
  refine CW.exit rfl ?_
  refine PW.code ?_
  refine Ja ?_;refine Jc ?_;refine Jd ?_;refine Jb ?_
  exact CW.ret1 rfl Tryz.results23 rfl rfl fun w hw => ⟨v, rfl, hw.take [0]⟩
end Go.Proofs.YtkfmlekomfnleaaGreat
/- The calculus: an append that has room, one that has none: where it comes to lie. Conditions: none; everything holds over any program. -/
set_option linter.unusedVariables false
set_option linter.unusedSimpArgs false
namespace Go.Proofs.YtkfmlekomfnleaaGreat
open Go Go.RowKit

section
variable {P : Program} {E : Env} {ops : Array Oper} {Q : Pst} {rest : List Oper} {G : List (Nat × Value)} {H : List HP}
variable {dst : Nat} {ty : TypeId} {pos : String} {af : Array Edge} {t e : TypeId} {d : TypeDesc} {z z' : Value} {sz by_ sz' by' : Nat} {x y : Operand}
theorem RW.appendRoom (pre : List HP) {r : List HP} {es news : List (List Value)} {B B2 O2 n c m cp : Nat} [T : Ty P t (.slice e) z' sz' by'] [T2 : Ty P e d z sz by_] (hx : ev G x = some (.slice (some ⟨B, 0, none⟩) n c)) (hy : ev G y = some (.slice (some ⟨B2, O2, none⟩) m cp))
    (hn : es.length = n) (hm : news.length = m) (hns : ∀ u ∈ news, u.length = sz) (h1 : ∀ u ∈ news, ∀ v ∈ u, v.oneCell' = true)
    (hsrc : ∀ w, St E.w0 E.S (pre ++ ownHP e sz (.slice (some ⟨B, 0, none⟩) n c) es :: r) w → CellsAt w B2 O2 news.flatten) (hroom : n + m ≤ c) (hN : Nat.blt dst E.N = true)
    (kk : RW P E ops Q rest ((dst, .slice (some ⟨B, 0, none⟩) (n + m) c) :: G) (pre ++ ownHP e sz (.slice (some ⟨B, 0, none⟩) (n + m) c) (es ++ news) :: r)) : RW P E ops Q (⟨some dst, .call ⟨.builtin .append, #[x, y], #[t, t]⟩, ty, pos, af, none⟩ :: rest) G (pre ++ ownHP e sz (.slice (some ⟨B, 0, none⟩) n c) es :: r) :=
  RW.step rfl (fun f w hf hw => by
    subst hn
    have hexec : ∀ v' w', (Builtin.append_ #[t, t] ty #[.slice (some ⟨B, 0, none⟩) es.length c, .slice (some ⟨B2, O2, none⟩) m cp]).run P w = .ok v' w' → (execOp f.eval ⟨some dst, .call ⟨.builtin .append, #[x, y], #[t, t]⟩, ty, pos, af, none⟩).run P w = .ok (.value v') w' := by
      intro v' w' h
      simp [execOp, resolve, invoke, builtin, hf.eval hx, hf.eval hy, h]
    obtain ⟨i, hi, hz', hs', hb'⟩ := T2.info
    have hone : ∀ u ∈ news.flatten, u.oneCell' = true := fun u hu => by
      obtain ⟨l, hl, hul⟩ := List.mem_flatten.1 hu
      exact h1 l hl u hul
    have hnl : news.flatten.length = m * sz := by rw [flatten_len hns, hm]
    have hcs' := cellsAdd (hsrc w hw)
    obtain ⟨F, hp, hF⟩ := hw.get
    rcases hp with ⟨hp, _⟩ | ⟨B', c', tl, h2, h3, h4, hes, h6, h7, hcm⟩
    · cases hp
    simp only [Value.slice.injEq, Option.some.injEq, Addr.mk.injEq] at h2
    obtain ⟨⟨rfl, _⟩, _, rfl⟩ := h2
    have hfl : es.flatten.length = es.length * sz := flatten_len hes
    have hfit : es.length * i.size + news.flatten.length ≤ (es.flatten ++ tl).toArray.size := by
      simp only [List.size_toArray, List.length_append, h6, hs', hnl]
      rw [← Nat.add_mul]; exact Nat.mul_le_mul_right _ hroom
    have hr := run_append_room (P := P) w t ty e i T.und hi B es.length c _ h4 ⟨B2, O2, none⟩ m cp news.flatten (by rw [hs']; exact hnl) hcs' hone hroom hfit
    rw [hexec _ _ hr]
    refine kk _ _ (hf.put hN _) ?_
    have e1 : ((es.flatten ++ tl).toArray.toList.take (es.length * i.size) ++ news.flatten ++ (es.flatten ++ tl).toArray.toList.drop (es.length * i.size + news.flatten.length)) = (es ++ news).flatten ++ tl.drop (m * sz) := by
      simp only [hs', ← hfl, hnl, List.flatten_append]
      rw [List.take_left, List.drop_append, List.drop_of_length_le (by omega), List.nil_append, Nat.add_sub_cancel_left]
    rw [e1]
    refine hw.setrow (fun F hp => ?_) (Array.getElem?_eq_some_iff.1 h4).1 (fun F hp hFl => ?_)
    · rcases hp with ⟨hp, _⟩ | ⟨B', c', tl', g1, g2, _⟩
      · cases hp
      · simp only [Value.slice.injEq, Option.some.injEq, Addr.mk.injEq] at g1
        obtain ⟨⟨rfl, _⟩, _, _⟩ := g1
        exact g2
    · rcases hp with ⟨hp, _⟩ | ⟨B', c', tl', g1, g2, _⟩
      · cases hp
      · simp only [Value.slice.injEq, Option.some.injEq, Addr.mk.injEq] at g1
        obtain ⟨⟨rfl, _⟩, _, _⟩ := g1
        refine .inr ⟨B, c, tl.drop (m * sz), by simp [hm], g2, setRow_at h4, fun u hu => (List.mem_append.1 hu).elim (hes u) (hns u), ?_, by simp; omega, hcm⟩
        rw [List.flatten_append, List.length_append, hnl, List.length_drop, hfl]
        have : m * sz ≤ tl.length := by
          have h8 : (es.length + m) * sz ≤ c * sz := Nat.mul_le_mul_right _ hroom
          rw [Nat.add_mul] at h8
          omega
        omega)
/-- No room: what was there stays, the longer one lies elsewhere. -/
theorem RW.appendOut (pre : List HP) {r : List HP} {es news : List (List Value)} {zc : List Value} {B B2 O2 n c m cp : Nat} [T : Ty P t (.slice e) z' sz' by'] [T2 : Ty P e d z sz by_] (hx : ev G x = some (.slice (some ⟨B, 0, none⟩) n c)) (hy : ev G y = some (.slice (some ⟨B2, O2, none⟩) m cp))
    (hz : z.cells = zc.toArray) (hzs : zc.length = sz) (hn : es.length = n) (hm : news.length = m) (hm0 : 0 < m) (hes : ∀ u ∈ es, u.length = sz) (hns : ∀ u ∈ news, u.length = sz)
    (hsrc : ∀ w, St E.w0 E.S (pre ++ ownHP e sz (.slice (some ⟨B, 0, none⟩) n c) es :: r) w → CellsAt w B2 O2 news.flatten) (hroom : c < n + m) (hb : (n + m) * by_ ≤ 140737488355328) (hmx : n + m ≤ maxN) (hN : Nat.blt dst E.N = true)
    (kk : ∀ b c', n + m ≤ c' → RW P E ops Q rest ((dst, .slice (some ⟨b, 0, none⟩) (n + m) c') :: G) (ownHP e sz (.slice (some ⟨b, 0, none⟩) (n + m) c') (es ++ news) :: (pre ++ ownHP e sz (.slice (some ⟨B, 0, none⟩) n c) es :: r))) : RW P E ops Q (⟨some dst, .call ⟨.builtin .append, #[x, y], #[t, t]⟩, ty, pos, af, none⟩ :: rest) G (pre ++ ownHP e sz (.slice (some ⟨B, 0, none⟩) n c) es :: r) := by
  have hes2 : ∀ u ∈ es ++ news, u.length = sz := fun u hu => (List.mem_append.1 hu).elim (hes u) (hns u)
  refine RW.appendGrow (olds := es.flatten) (news := news.flatten) hx hy hz hzs hm0 (by rw [flatten_len hes, hn]) (by rw [flatten_len hns, hm]) (fun w hw => ?_) hsrc hroom hb hmx hN fun b cap tl _ hcap hcm hlen => ?_
  · obtain ⟨F, hp, _⟩ := hw.get
    rcases hp with ⟨hp, _⟩ | ⟨B', c', tl, h2, h3, h4, _⟩
    · cases hp
    simp only [Value.slice.injEq, Option.some.injEq, Addr.mk.injEq] at h2
    obtain ⟨⟨rfl, _⟩, _, _⟩ := h2
    exact fun i v hv => CellsAt.of_blk h4 i v (by rw [List.getElem?_append_left (List.getElem?_eq_some_iff.1 hv).1]; exact hv)
  · refine RW.change [] (ownHP e sz (.slice (some ⟨b, 0, none⟩) (n + m) cap) (es ++ news)) (fun w F hp => own_of_blk hp tl (by rw [List.flatten_append]) (by rw [List.length_append, hn, hm]) hes2 (by rw [List.length_append]; exact hlen) hcap hcm) ?_
    exact kk b cap hcap
end
end Go.Proofs.YtkfmlekomfnleaaGreat
/- The marks of a book's lists. Conditions: none. -/
set_option linter.unusedVariables false
set_option linter.unusedSimpArgs false
set_option maxRecDepth 10000
namespace Go.Proofs.YtkfmlekomfnleaaGreat
open Go Go.RowKit Go.MapKept

def pushes (l : List Int) : ByteArray := l.foldl (fun s n => s.push (UInt8.ofNat n.toNat)) ByteArray.empty
section
variable {P : Program} {E : Env} {ops : Array Oper} {Q : Pst} {rest : List Oper} {G : List (Nat × Value)} {H : List HP}
variable {dst : Nat} {ty : TypeId} {pos : String} {af : Array Edge} {t tx e ty' : TypeId} {x y : Operand} {a b : Int} {k : IntKind} {s1 s2 : ByteArray}
theorem run_pushes {P : Program} {w : World} {f : Value → ByteArray → Sem (ForInStep ByteArray)} (hf : ∀ n s, f (.int .u8 n) s = pure (ForInStep.yield (s.push (UInt8.ofNat n.toNat)))) : ∀ (l : List Int) (s : ByteArray), (forIn (m := Sem) (l.map (Value.int .u8)) s f).run P w = .ok (l.foldl (fun s n => s.push (UInt8.ofNat n.toNat)) s) w := by
  intro l
  induction l with
  | nil => intro s; rfl
  | cons n l ih =>
    intro s
    rw [List.map_cons, List.forIn_cons, Sem.run_bind, hf]
    exact ih _
theorem run_bytesToString {P : Program} {w : World} {b c : Nat} {l : List Int} (h : CellsAt w b 0 (l.map (Value.int .u8))) : (Conv.bytesToString (.slice (some ⟨b, 0, none⟩) l.length c)).run P w = .ok (.string (pushes l)) w := by
  unfold Conv.bytesToString
  have h1 := run_loadCells (P := P) h
  rw [List.length_map] at h1
  simp only [Sem.run_bind, h1, Result.andThen]
  rw [List.forIn_toArray, run_pushes (fun n s => rfl)]
  rfl
theorem RW.bytesStr {z z' z'' : Value} {sz by_ sz' by' sz'' by'' : Nat} [S : Ty P t (.slice e) z sz by_] [S2 : Ty P e (.int .u8) z' sz' by'] [T : Ty P tx .string z'' sz'' by''] {B n c : Nat} {l : List Int} (hx : ev G x = some (.slice (some ⟨B, 0, none⟩) n c)) (hl : l.length = n) (hs : ∀ w, St E.w0 E.S H w → CellsAt w B 0 (l.map (Value.int .u8))) (hN : Nat.blt dst E.N = true) (kk : RW P E ops Q rest ((dst, .string (pushes l)) :: G) H) :
    RW P E ops Q (⟨some dst, .convert t tx x, ty, pos, af, none⟩ :: rest) G H :=
  RW.val hN (fun f w hf hw => by
    subst hl
    have h1 := run_bytesToString (P := P) (c := c) (hs w hw)
    simp [execOp, hf.eval hx, convert, S.runUnd, T.runUnd, S2.runUnd, h1, Result.andThen]) kk
theorem RW.rem (hx : ev G x = some (.int k a)) (hy : ev G y = some (.int k b)) (hb : ¬ b = 0) (hN : Nat.blt dst E.N = true) (kk : RW P E ops Q rest ((dst, .int k (a.tmod b)) :: G) H) :
    RW P E ops Q (⟨some dst, .binOp .rem t x y ty', ty, pos, af, none⟩ :: rest) G H :=
  RW.val hN (fun f w hf _ => by simp [execOp, hf.eval hx, hf.eval hy, run_eqGuard_int, binOp, Op.intDiv, hb]) kk
theorem RW.quo (hx : ev G x = some (.int k a)) (hy : ev G y = some (.int k b)) (hb : ¬ b = 0) (hN : Nat.blt dst E.N = true) (kk : RW P E ops Q rest ((dst, .int k (k.wrap (a.tdiv b))) :: G) H) :
    RW P E ops Q (⟨some dst, .binOp .quo t x y ty', ty, pos, af, none⟩ :: rest) G H :=
  RW.val hN (fun f w hf _ => by simp [execOp, hf.eval hx, hf.eval hy, run_eqGuard_int, binOp, Op.intDiv, hb]) kk
theorem RW.addS {z : Value} {sz by_ : Nat} [T : Ty P t .string z sz by_] (hx : ev G x = some (.string s1)) (hy : ev G y = some (.string s2)) (hb : s1.size + s2.size ≤ 9223372036854775807) (hN : Nat.blt dst E.N = true) (kk : RW P E ops Q rest ((dst, .string (s1 ++ s2)) :: G) H) :
    RW P E ops Q (⟨some dst, .binOp .add t x y ty', ty, pos, af, none⟩ :: rest) G H :=
  RW.val hN (fun f w hf _ => by
    have : ¬ ((s1.size + s2.size : Nat) : Int) > IntKind.i64.max := by
      have : IntKind.i64.max = 9223372036854775807 := by decide
      omega
    simp only [execOp, hf.eval hx, hf.eval hy, Sem.run_bind, run_eqGuard_string, Result.andThen, binOp, Op.stringOp, if_neg this]
    rfl) kk
end
abbrev W64 (n : Int) : Int := IntKind.i64.wrap n
abbrev W8 (n : Int) : Int := IntKind.u8.wrap n
def mkI (i k : Int) : Int := W64 (W64 (-1 - W64 (100003 * W64 (i + 1))) - W64 (7 * k))
def mkK (i k : Int) : Int := W64 (W64 (-1 - W64 (1003 * i)) - k)
def mkS (i k : Int) : Str := ⟨#[109, 97, 114, 107, 32]⟩ ++ pushes [W8 (W64 (65 + i.tmod 26)), W8 (W64 (65 + (W64 (i.tdiv 26)).tmod 26)), W8 (W64 (65 + (W64 (i.tdiv 676)).tmod 26)), W8 (W64 (65 + k.tmod 26)), W8 (W64 (65 + (W64 (k.tdiv 26)).tmod 26)), W8 (W64 (65 + (W64 (k.tdiv 676)).tmod 26))]
theorem pushes_size (l : List Int) : (pushes l).size = l.length := by
  unfold pushes
  have : ∀ (l : List Int) (s : ByteArray), (l.foldl (fun s n => s.push (UInt8.ofNat n.toNat)) s).size = s.size + l.length := by
    intro l
    induction l with
    | nil => intro s; rfl
    | cons n l ih => intro s; rw [List.foldl_cons, ih, ByteArray.size_push, List.length_cons]; omega
  rw [this]
  simp
attribute [local irreducible] RW CW
theorem markInts_ret {i k : Int} {w : World} : Ret Tryz.prog 140 [.int .i64 i, .int .i64 k] w (.int .i64 (mkI i k)) := by
  refine Calls.enter Tryz.func140 rfl _ rfl rfl (S := No) (H := []) trivial ?_
  refine Ja ?_;refine Jd ?_;refine Jb ?_;refine Ja ?_;refine Jc ?_
  refine RW.add rfl rfl rfl rfl ?_
  refine RW.mul rfl rfl rfl rfl ?_
  refine RW.sub rfl rfl rfl rfl ?_
  refine Jc ?_
  refine RW.mul rfl rfl rfl rfl ?_
  refine RW.sub rfl rfl rfl rfl ?_
  refine Jd ?_;refine Jb ?_
  exact CW.ret1 rfl Tryz.results140 rfl rfl fun w hw => ⟨rfl, hw.kp⟩
theorem markKinds_ret {i k : Int} {w : World} : Ret Tryz.prog 147 [.int .i64 i, .int .i64 k] w (.int .i64 (mkK i k)) := by
  refine Calls.enter Tryz.func147 rfl _ rfl rfl (S := No) (H := []) trivial ?_
  refine Ja ?_;refine Jd ?_;refine Jb ?_;refine Ja ?_;refine Jc ?_
  refine RW.mul rfl rfl rfl rfl ?_
  refine RW.sub rfl rfl rfl rfl ?_
  refine Jc ?_
  refine RW.sub rfl rfl rfl rfl ?_
  refine Jd ?_;refine Jb ?_
  exact CW.ret1 rfl Tryz.results147 rfl rfl fun w hw => ⟨rfl, hw.kp⟩
set_option maxHeartbeats 4000000 in
theorem mark_ret {i k : Int} {w : World} : Ret Tryz.prog 182 [.int .i64 i, .int .i64 k] w (.string (mkS i k)) := by
  refine Calls.enter Tryz.func182 rfl _ rfl rfl (S := No) (H := []) trivial ?_
  refine Ja ?_;refine Jd ?_;refine Jb ?_;refine Ja ?_;refine Jc ?_
  refine RW.rem rfl rfl (by decide) rfl ?_
  refine RW.add rfl rfl rfl rfl ?_
  refine RW.conv rfl rfl rfl ?_
  refine Jc ?_
  refine RW.quo rfl rfl (by decide) rfl ?_
  refine RW.rem rfl rfl (by decide) rfl ?_
  refine RW.add rfl rfl rfl rfl ?_
  refine RW.conv rfl rfl rfl ?_
  refine Jc ?_
  refine RW.quo rfl rfl (by decide) rfl ?_
  refine RW.rem rfl rfl (by decide) rfl ?_
  refine RW.add rfl rfl rfl rfl ?_
  refine RW.conv rfl rfl rfl ?_
  refine Jc ?_
  refine RW.rem rfl rfl (by decide) rfl ?_
  refine RW.add rfl rfl rfl rfl ?_
  refine RW.conv rfl rfl rfl ?_
  refine Jc ?_
  refine RW.quo rfl rfl (by decide) rfl ?_
  refine RW.rem rfl rfl (by decide) rfl ?_
  refine RW.add rfl rfl rfl rfl ?_
  refine RW.conv rfl rfl rfl ?_
  refine Jc ?_
  refine RW.quo rfl rfl (by decide) rfl ?_
  refine RW.rem rfl rfl (by decide) rfl ?_
  refine RW.add rfl rfl rfl rfl ?_
  refine RW.conv rfl rfl rfl ?_
  refine RW.buildSlice (e := 5) (c := [W8 (W64 (65 + i.tmod 26)), W8 (W64 (65 + (W64 (i.tdiv 26)).tmod 26)), W8 (W64 (65 + (W64 (i.tdiv 676)).tmod 26)), W8 (W64 (65 + k.tmod 26)), W8 (W64 (65 + (W64 (k.tdiv 26)).tmod 26)), W8 (W64 (65 + (W64 (k.tdiv 676)).tmod 26))].map (Value.int .u8)) rfl (fun w => by kernel_rfl) rfl fun b _ => ?_
  refine RW.bytesStr (l := [W8 (W64 (65 + i.tmod 26)), W8 (W64 (65 + (W64 (i.tdiv 26)).tmod 26)), W8 (W64 (65 + (W64 (i.tdiv 676)).tmod 26)), W8 (W64 (65 + k.tmod 26)), W8 (W64 (65 + (W64 (k.tdiv 26)).tmod 26)), W8 (W64 (65 + (W64 (k.tdiv 676)).tmod 26))]) rfl rfl (fun w hw => CellsAt.of_blk (St.blk (pre := []) hw)) rfl ?_
  refine RW.addS rfl rfl (by rw [pushes_size]; exact (by decide : 5 + 6 ≤ 9223372036854775807)) rfl ?_
  refine Jd ?_;refine Jb ?_
  exact CW.ret1 rfl Tryz.results182 rfl rfl fun w hw => ⟨rfl, hw.kp⟩
theorem markStrings_ret {i k : Int} {w : World} : Ret Tryz.prog 141 [.int .i64 i, .int .i64 k] w (.string (mkS i k)) := by
  refine Calls.enter Tryz.func141 rfl _ rfl rfl (S := No) (H := []) trivial ?_
  refine Ja ?_;refine Jd ?_;refine Jb ?_;refine Ja ?_;refine Jc ?_;refine Jc ?_
  refine RW.call Tryz.call182 rfl (fun w2 hw => mark_ret) rfl ?_
  refine Jd ?_;refine Jb ?_
  exact CW.ret1 rfl Tryz.results141 rfl rfl fun w hw => ⟨rfl, hw.kp⟩
end Go.Proofs.YtkfmlekomfnleaaGreat
/- A book's rows as chunks: taken out, put back, marked, grown. Conditions: none. -/
set_option linter.unusedVariables false
set_option linter.unusedSimpArgs false
set_option maxRecDepth 10000
namespace Go.Proofs.YtkfmlekomfnleaaGreat
open Go Go.RowKit Go.MapKept

/-! ### many chunks as one -/
section
variable {w : World} {A : Nat → Prop} {L r : List HP} {c : HP}
theorem all_cons (h : Sep (allHP (c :: L) :: r) w A) : Sep (c :: allHP L :: r) w A := by
  have h1 : Sep (c :: (L ++ r)) w A := Sep.unpack h
  exact Sep.cons_perm (fun _ k => Sep.pack k) h1
theorem all_mk (h : Sep (c :: allHP L :: r) w A) : Sep (allHP (c :: L) :: r) w A := by
  have h1 : Sep (c :: (L ++ r)) w A := Sep.cons_perm (fun _ k => Sep.unpack k) h
  exact Sep.pack (L := c :: L) h1
theorem all_perm {L' : List HP} (hp : L.Perm L') (h : Sep (allHP L :: r) w A) : Sep (allHP L' :: r) w A := Sep.pack (Sep.perm (hp.append_right r) (Sep.unpack h))
theorem all_snoc (h : Sep (c :: allHP L :: r) w A) : Sep (allHP (L ++ [c]) :: r) w A := all_perm (List.perm_append_comm (l₁ := [c])) (all_mk h)
theorem erase_perm {α : Type} {l : List α} {i : Nat} {x : α} (h : l[i]? = some x) : (x :: l.eraseIdx i).Perm l := by
  induction l generalizing i with
  | nil => simp at h
  | cons y l ih =>
    cases i with
    | zero => simp at h; subst h; exact List.Perm.refl _
    | succ i =>
      rw [List.eraseIdx_cons_succ]
      exact (List.Perm.swap _ _ _).trans (List.Perm.cons _ (ih (by simpa using h)))
theorem set_perm {α : Type} {l : List α} {i : Nat} {x : α} (hi : i < l.length) : (x :: l.eraseIdx i).Perm (l.set i x) := by
  have := erase_perm (l := l.set i x) (i := i) (x := x) (by rw [List.getElem?_set_self hi])
  rwa [List.eraseIdx_set_eq] at this
theorem rows_out {i : Nat} (hi : L[i]? = some c) (h : Sep (allHP L :: r) w A) : Sep (c :: allHP (L.eraseIdx i) :: r) w A := all_cons (all_perm (erase_perm hi).symm h)
theorem rows_in {i : Nat} (hi : i < L.length) (h : Sep (c :: allHP (L.eraseIdx i) :: r) w A) : Sep (allHP (L.set i c) :: r) w A := all_perm (set_perm hi) (all_mk h)
theorem all_get {w0 w : World} {S : Nat → Prop} {pre r : List HP} {i : Nat} (h : St w0 S (pre ++ allHP L :: r) w) (hi : L[i]? = some c) : ∃ F, c.p w F := by
  obtain ⟨F, _, hp, _⟩ := rows_out hi (Sep.pull h.sep)
  exact ⟨F, hp⟩
end
/-! ### rows -/
abbrev Rw := Nat × Nat × List (List Value)
def rv (p : Rw) : Value := .slice (some ⟨p.1, 0, none⟩) p.2.2.length p.2.1
def rowH (e : TypeId) (p : Rw) : HP := ownHP e 1 (rv p) p.2.2
abbrev heads (L : List Rw) : List (List Value) := L.map fun p => [rv p]
def marks (m : Int → Int → Value) (i n : Nat) : List (List Value) := (List.range n).map fun (k : Nat) => [m (i : Int) (k : Int)]
section
variable {m : Int → Int → Value} {i n k : Nat}
theorem marks_len : (marks m i n).length = n := by unfold marks; simp
theorem marks_succ : marks m i (n + 1) = marks m i n ++ [[m i n]] := by unfold marks; rw [List.range_succ, List.map_append]; rfl
theorem marks_get (h : k < n) : (marks m i n)[k]? = some [m i k] := by unfold marks; rw [List.getElem?_map, List.getElem?_range h]; rfl
theorem marks_one : ∀ x ∈ marks m i n, x.length = 1 := fun x hx => by obtain ⟨k, _, rfl⟩ := List.mem_map.1 hx; rfl
theorem marks_flat : (marks m i n).flatten = (List.range n).map fun (k : Nat) => m (i : Int) (k : Int) := by
  unfold marks
  induction n with
  | zero => rfl
  | succ n ih => rw [List.range_succ, List.map_append, List.flatten_append, ih, List.map_append]; rfl
/-- The first k marked. -/
theorem mark_one {es : List (List Value)} (hk : k < es.length) (h1 : ∀ x ∈ es, x.length = 1) : ∃ cs, (marks m i k ++ es.drop k)[k]? = some cs ∧ 0 < cs.length ∧ (marks m i k ++ es.drop k).set k (cs.set 0 (m i k)) = marks m i (k + 1) ++ es.drop (k + 1) := by
  have h2 := h1 es[k] (List.getElem_mem hk)
  refine ⟨es[k], ?_, by omega, ?_⟩
  · rw [List.getElem?_append_right (by rw [marks_len]; omega), marks_len, Nat.sub_self, List.getElem?_drop, Nat.add_zero, List.getElem?_eq_getElem hk]
  · have h3 : es[k].set 0 (m i k) = [m i k] := by
      cases hx : es[k] with
      | nil => rw [hx] at h2; simp at h2
      | cons y t => rw [hx] at h2; have : t = [] := List.eq_nil_of_length_eq_zero (by simpa using h2); subst this; rfl
    rw [h3, marks_succ, List.set_append_right _ _ (by rw [marks_len]; omega), marks_len, Nat.sub_self, List.drop_eq_getElem_cons hk, List.set_cons_zero, List.append_assoc]
    rfl
end
def mkRow (m : Int → Int → Value) (i : Nat) (p : Rw) : Rw := (p.1, p.2.1, marks m i p.2.2.length)
theorem mkRow_v {m : Int → Int → Value} {i : Nat} {p : Rw} : rv (mkRow m i p) = rv p := by unfold rv mkRow; rw [marks_len]
/-- The first i rows marked. -/
def Lp (m : Int → Int → Value) (i : Nat) (L : List Rw) : List Rw := L.mapIdx fun j p => if j < i then mkRow m j p else p
section
variable {m : Int → Int → Value} {i : Nat} {L : List Rw}
theorem Lp_len : (Lp m i L).length = L.length := by unfold Lp; simp
theorem Lp_zero : Lp m 0 L = L := by
  unfold Lp
  refine List.ext_getElem? fun j => ?_
  rw [List.getElem?_mapIdx]
  cases L[j]? with
  | none => rfl
  | some p => rfl
theorem Lp_get (h : i < L.length) : (Lp m i L)[i]? = some L[i] := by
  unfold Lp
  rw [List.getElem?_mapIdx, List.getElem?_eq_getElem h]
  show some (if i < i then _ else _) = _
  rw [if_neg (Nat.lt_irrefl _)]
theorem Lp_set (h : i < L.length) : (Lp m i L).set i (mkRow m i L[i]) = Lp m (i + 1) L := by
  refine List.ext_getElem? fun j => ?_
  by_cases hj : i = j
  · subst hj
    rw [List.getElem?_set_self (by rw [Lp_len]; exact h)]
    unfold Lp
    rw [List.getElem?_mapIdx, List.getElem?_eq_getElem h]
    show _ = some (if i < i + 1 then _ else _)
    rw [if_pos (Nat.lt_succ_self _)]
  · rw [List.getElem?_set_ne hj]
    unfold Lp
    rw [List.getElem?_mapIdx, List.getElem?_mapIdx]
    cases L[j]? with
    | none => rfl
    | some p =>
      show some (if j < i then _ else _) = some (if j < i + 1 then _ else _)
      by_cases h2 : j < i
      · rw [if_pos h2, if_pos (by omega)]
      · rw [if_neg h2, if_neg (by omega)]
theorem Lp_all {j : Nat} (hi : L.length ≤ i) (h : j < L.length) : (Lp m i L)[j]? = some (mkRow m j L[j]) := by
  unfold Lp
  rw [List.getElem?_mapIdx, List.getElem?_eq_getElem h]
  show some (if j < i then _ else _) = _
  rw [if_pos (by omega)]
end
/-! ### grown rows -/
/-- Its first block, its room there, its length there, and where it lies now, if elsewhere. -/
abbrev GR := Nat × Nat × Nat × Option (Nat × Nat)
def gB (g : GR) : Nat := match g.2.2.2 with | none => g.1 | some q => q.1
def gC (g : GR) : Nat := match g.2.2.2 with | none => g.2.1 | some q => q.2
def gv (g : GR) (j : Nat) : Value := .slice (some ⟨gB g, 0, none⟩) (g.2.2.1 + j) (gC g)
def gH (m : Int → Int → Value) (e : TypeId) (i j : Nat) (g : GR) : HP := match g.2.2.2 with
  | none => ownHP e 1 (.slice (some ⟨g.1, 0, none⟩) (g.2.2.1 + j) g.2.1) (marks m i (g.2.2.1 + j))
  | some q => allHP [ownHP e 1 (.slice (some ⟨q.1, 0, none⟩) (g.2.2.1 + j) q.2) (marks m i (g.2.2.1 + j)), ownHP e 1 (.slice (some ⟨g.1, 0, none⟩) g.2.2.1 g.2.1) (marks m i g.2.2.1)]
section
variable {m : Int → Int → Value} {e : TypeId} {w : World} {F : Nat → Prop}
theorem own_mark {B n c i k : Nat} (h : (ownHP e 1 (.slice (some ⟨B, 0, none⟩) n c) (marks m i n)).p w F) (hk : k < n) : w.cell? ⟨B, 0 + (k : Int).toNat * 1, none⟩ = some (m i k) := by
  rcases h with ⟨h, _⟩ | ⟨B', c', tl, h1, h2, h3, _⟩
  · cases h
  · simp only [Value.slice.injEq, Option.some.injEq, Addr.mk.injEq] at h1
    obtain ⟨⟨rfl, _⟩, _, rfl⟩ := h1
    rw [show 0 + (k : Int).toNat * 1 = k by omega]
    refine cell_of_blk h3 ?_
    rw [marks_flat, List.getElem?_append_left (by simp; exact hk), List.getElem?_map, List.getElem?_range hk]
    rfl
theorem g_cell {i j k : Nat} {g : GR} (h : (gH m e i j g).p w F) (hk : k < g.2.2.1 + j) : w.cell? ⟨gB g, 0 + (k : Int).toNat * 1, none⟩ = some (m i k) := by
  obtain ⟨B, c, n, nw⟩ := g
  cases nw with
  | none => exact own_mark h hk
  | some q =>
    obtain ⟨F1, _, h1, _⟩ := (show Sep _ _ _ from h)
    exact own_mark h1 hk
theorem v_cell {i j k : Nat} {g : GR} (h : (gH m e i j g).p w F) (hk : k < g.2.2.1) : w.cell? ⟨g.1, 0 + (k : Int).toNat * 1, none⟩ = some (m i k) := by
  obtain ⟨B, c, n, nw⟩ := g
  cases nw with
  | none => exact own_mark (n := n + j) h (by show k < n + j; have : k < n := hk; omega)
  | some q =>
    obtain ⟨F1, _, _, F2, _, h2, _⟩ := (show Sep _ _ _ from h)
    exact own_mark h2 hk
end
theorem marks_add {m : Int → Int → Value} {i n j : Nat} : ∃ tl, (marks m i (n + j)).flatten = (marks m i n).flatten ++ tl := by
  rw [marks_flat, marks_flat, List.range_add, List.map_append]
  exact ⟨_, rfl⟩
theorem own_shrink {m : Int → Int → Value} {e : TypeId} {w : World} {F : Nat → Prop} {B n c i j : Nat} (h : (ownHP e 1 (.slice (some ⟨B, 0, none⟩) (n + j) c) (marks m i (n + j))).p w F) : (ownHP e 1 (.slice (some ⟨B, 0, none⟩) n c) (marks m i n)).p w F := by
  rcases h with ⟨h, _⟩ | ⟨B', c', tl, h1, h2, h3, _, h5, h6, h7⟩
  · cases h
  · simp only [Value.slice.injEq, Option.some.injEq, Addr.mk.injEq] at h1
    obtain ⟨⟨rfl, _⟩, _, rfl⟩ := h1
    obtain ⟨t2, ht⟩ := marks_add (m := m) (i := i) (n := n) (j := j)
    rw [marks_len] at h6
    refine .inr ⟨B, c, t2 ++ tl, by rw [marks_len], h2, by rw [h3, ht, List.append_assoc], marks_one, ?_, by rw [marks_len]; omega, h7⟩
    rw [ht, List.length_append] at h5
    rw [List.length_append]
    omega
theorem row_g {m : Int → Int → Value} {e : TypeId} {i : Nat} {p : Rw} : rowH e (mkRow m i p) = gH m e i 0 (p.1, p.2.1, p.2.2.length, none) := by
  unfold rowH
  rw [mkRow_v]
  rfl
abbrev nilV : Value := .slice none 0 0
/-- A book's cells. -/
abbrev bookC (iv sv kv : Value) : List Value := [nilV, iv, sv, nilV, nilV, nilV, nilV, nilV, nilV, nilV, nilV, nilV, nilV, nilV, nilV, kv, nilV, nilV, nilV, nilV, nilV, nilV, nilV, nilV]
abbrev mI : Int → Int → Value := fun i k => .int .i64 (mkI i k)
abbrev mK : Int → Int → Value := fun i k => .int .i64 (mkK i k)
abbrev mS : Int → Int → Value := fun i k => .string (mkS i k)
theorem drop_rows {m : Int → Int → Value} {e : TypeId} {i : Nat} {La L : List Rw} (hl : La.length = L.length) (ha : ∀ j (h : j < L.length), La[j]? = some (mkRow m j L[j])) (hi : i < L.length) : (La.drop i).map (rowH e) = rowH e (mkRow m i L[i]) :: (La.drop (i + 1)).map (rowH e) := by
  have h1 : i < La.length := by omega
  rw [List.drop_eq_getElem_cons h1, List.map_cons]
  have := ha i hi
  rw [List.getElem?_eq_getElem h1] at this
  rw [Option.some.inj this]
end Go.Proofs.YtkfmlekomfnleaaGreat
