/- The calculus, seventh part: statements whose order is open, value by value; slices of one's own that read as data; copies; shifts. Conditions: none; everything holds over any program. -/
import Derived.Test.YtbcdgcodnkgdoaaGreatE
import Derived.Test.YtbcdgcodnkgdoaaGreatF
set_option linter.unusedVariables false
set_option linter.unusedSimpArgs false
namespace Go.Proofs.YtbcdgcodnkgdoaaGreat
open Go Go.RowKit

section
variable {P : Program} {E : Env} {ops : Array Oper} {Q : Pst} {K : Act → World → Prop} {rest : List Oper} {G : List (Nat × Value)} {H : List HP}
/-! ### order open -/
def lookK : List (Nat × PK) → Nat → Option PK
  | [], _ => none
  | (i, v) :: r, j => match Nat.beq i j with
    | true => some v
    | false => lookK r j
/-- What an operation may count on, of what is done: the slots of those that it waits for. -/
def depD (l : List Oper) (D : List (Nat × PK)) : List Edge → List (Nat × Value)
  | [] => []
  | e :: es => match Region.binds .any e with
    | true => match l[e.on]? with
      | some o' => match o'.dst with
        | some d => match lookK D d with
          | some (.val v) => (d, v) :: depD l D es
          | _ => depD l D es
        | none => depD l D es
      | none => depD l D es
    | false => depD l D es
def outD : List (Nat × PK) → (Nat → Nat) → List (Nat × Value)
  | [], _ => []
  | (d, k) :: r, bs => (d, k.out (bs d)) :: outD r bs
def newD : List (Nat × PK) → (Nat → Nat) → List HP
  | [], _ => []
  | (d, .new _ _ _ c2) :: r, bs => c2 (bs d) :: newD r bs
  | (_, .val _) :: r, bs => newD r bs
  | (_, .put _ _ _ _) :: r, bs => newD r bs
/-- No store. -/
def PK.plain : PK → Prop
  | .val _ => True
  | .new c _ _ c2 => c = c2
  | .put _ _ _ _ => False
def zp (l : List Oper) (acc : List PK) : List (Nat × PK) := List.zipWith (fun o k => (o.dst.getD 0, k)) l acc
def Dist (l : List Oper) (n : Nat) : Prop := ∀ i, i < n → ∃ (o : Oper) (d : Nat), l[i]? = some o ∧ o.dst = some d ∧ ∀ (j : Nat) (o' : Oper), j < n → l[j]? = some o' → o'.dst = some d → i = j
theorem lookK_mem {D : List (Nat × PK)} {d : Nat} {k : PK} (h : (d, k) ∈ D) (hu : ∀ k', (d, k') ∈ D → k' = k) : lookK D d = some k := by
  induction D with
  | nil => cases h
  | cons p r ih =>
    obtain ⟨i, v⟩ := p
    unfold lookK
    cases hb : Nat.beq i d with
    | true =>
      have : i = d := Nat.eq_of_beq_eq_true hb
      subst this
      simp [hu v (by simp)]
    | false =>
      have hne : i ≠ d := Nat.ne_of_beq_eq_false hb
      rcases List.mem_cons.1 h with h | h
      · simp only [Prod.mk.injEq] at h; exact absurd h.1.symm hne
      · exact ih h (fun k' hk => hu k' (by simp [hk]))
theorem zp_at {l : List Oper} {acc : List PK} {i : Nat} {o : Oper} {d : Nat} {k : PK} (ho : l[i]? = some o) (hd : o.dst = some d) (hk : acc[i]? = some k) : (zp l acc)[i]? = some (d, k) := by
  simp [zp, List.getElem?_zipWith, ho, hk, hd]
theorem zp_inv {l : List Oper} {acc : List PK} {d : Nat} {k : PK} (h : (d, k) ∈ zp l acc) : ∃ (i : Nat) (o : Oper), l[i]? = some o ∧ acc[i]? = some k ∧ o.dst.getD 0 = d := by
  obtain ⟨i, hi⟩ := List.mem_iff_getElem?.1 h
  simp only [zp, List.getElem?_zipWith] at hi
  cases ho : l[i]? with
  | none => rw [ho] at hi; simp at hi
  | some o =>
    cases hk : acc[i]? with
    | none => rw [ho, hk] at hi; simp at hi
    | some k' =>
      rw [ho, hk] at hi
      simp only [Option.some.injEq, Prod.mk.injEq] at hi
      exact ⟨i, o, ho, by rw [hk, hi.2], hi.1⟩
theorem zp_look {l : List Oper} {acc : List PK} {n : Nat} (hdist : Dist l n) (hn : acc.length ≤ n) {D : List (Nat × PK)} (hD : D.reverse = zp l acc) {i : Nat} {o : Oper} {d : Nat} {k : PK} (ho : l[i]? = some o) (hd : o.dst = some d) (hk : acc[i]? = some k) : lookK D d = some k := by
  have hm : ∀ k', (d, k') ∈ D ↔ (d, k') ∈ zp l acc := fun k' => by rw [← hD]; simp
  refine lookK_mem ((hm k).2 (List.mem_iff_getElem?.2 ⟨i, zp_at ho hd hk⟩)) (fun k' hk' => ?_)
  obtain ⟨j, o', ho', hk2, hd'⟩ := zp_inv ((hm k').1 hk')
  have hi : i < n := Nat.lt_of_lt_of_le (List.getElem?_eq_some_iff.1 hk).1 hn
  have hj : j < n := Nat.lt_of_lt_of_le (List.getElem?_eq_some_iff.1 hk2).1 hn
  obtain ⟨o1, d1, h1, h2, h3⟩ := hdist i hi
  obtain ⟨o2, d2, g1, g2, g3⟩ := hdist j hj
  rw [ho'] at g1; cases g1
  rw [g2] at hd'
  simp only [Option.getD_some] at hd'
  subst hd'
  have := h3 j o' hj ho' (by rw [ho] at h1; cases h1; rw [hd] at h2; cases h2; exact g2)
  subst this
  rw [hk] at hk2
  cases hk2; rfl
theorem depD_eq {l : List Oper} {acc ks : List PK} {D : List (Nat × PK)} {n : Nat} (hdist : Dist l n) (hn : acc.length ≤ n) (hD : D.reverse = zp l acc) : ∀ {es : List Edge}, (∀ e ∈ es, Region.binds .any e = true → e.on < acc.length) → (es.filterMap fun e =>
    if Region.binds .any e then match l[e.on]?, (acc ++ ks)[e.on]? with
    | some o', some (.val v) => o'.dst.map fun d => (d, v)
    | _, _ => none
  else none) = depD l D es := by
  intro es
  induction es with
  | nil => intro _; rfl
  | cons e es ih =>
    intro h
    have ih := ih (fun e' he' => h e' (by simp [he']))
    have he := h e (by simp)
    rw [List.filterMap_cons, depD, ← ih]
    cases hbe : Region.binds .any e with
    | false => rfl
    | true =>
      replace he := he hbe
      simp only [if_true]
      cases ho : l[e.on]? with
      | none => rfl
      | some o' =>
        have hk : (acc ++ ks)[e.on]? = some acc[e.on] := by rw [List.getElem?_append_left he]; simp
        have hk' : acc[e.on]? = some acc[e.on] := by simp
        rw [hk]
        cases hd : o'.dst with
        | none => cases hv : acc[e.on] <;> simp [hd]
        | some d =>
          have hz := zp_look hdist hn hD ho hd hk'
          cases hv : acc[e.on] <;> rw [hv] at hz <;> simp [hd, hz]
theorem look_of_mem {L : List (Nat × Value)} {s : Nat} {v : Value} (h : (s, v) ∈ L) (hu : ∀ v', (s, v') ∈ L → v' = v) : look L s = some v := by
  induction L with
  | nil => cases h
  | cons p r ih =>
    obtain ⟨i, u⟩ := p
    unfold look
    cases hb : Nat.beq i s with
    | true =>
      have : i = s := Nat.eq_of_beq_eq_true hb
      subst this
      simp [hu u (by simp)]
    | false =>
      have hne : i ≠ s := Nat.ne_of_beq_eq_false hb
      rcases List.mem_cons.1 h with h | h
      · simp only [Prod.mk.injEq] at h; exact absurd h.1.symm hne
      · exact ih h (fun k' hk => hu k' (by simp [hk]))
theorem outG_zp {bs : Nat → Nat} : ∀ {l : List Oper} {acc : List PK}, (∀ (i : Nat) (o : Oper), i < acc.length → l[i]? = some o → o.dst ≠ none) → outG l acc bs = (zp l acc).map (fun p => (p.1, p.2.out (bs p.1))) := by
  intro l
  induction l with
  | nil => intro acc _; cases acc <;> rfl
  | cons o l ih =>
    intro acc h
    cases acc with
    | nil => rfl
    | cons k r =>
      have ho := h 0 o (by simp) rfl
      cases hd : o.dst with
      | none => exact absurd hd ho
      | some d =>
        simp only [outG, hd, zp, List.zipWith_cons_cons, List.map_cons, Option.getD_some]
        rw [ih (fun i o' hi ho' => h (i + 1) o' (by simpa using hi) (by simpa using ho'))]
        rfl
theorem outD_map {bs : Nat → Nat} (D : List (Nat × PK)) : outD D bs = D.map (fun p => (p.1, p.2.out (bs p.1))) := by
  induction D with
  | nil => rfl
  | cons p r ih => obtain ⟨d, k⟩ := p; simp [outD, ih]
theorem newD_map {bs : Nat → Nat} (D : List (Nat × PK)) : newD D bs = D.filterMap (fun p => match p.2 with | .new _ _ _ c2 => some (c2 (bs p.1)) | .val _ => none | .put _ _ _ _ => none) := by
  induction D with
  | nil => rfl
  | cons p r ih => obtain ⟨d, k⟩ := p; cases k <;> simp [newD, ih]
theorem newH_zp {bs : Nat → Nat} : ∀ {l : List Oper} {acc : List PK}, (∀ (i : Nat) (o : Oper), i < acc.length → l[i]? = some o → o.dst ≠ none) → newH l acc bs = newD (zp l acc) bs := by
  intro l
  induction l with
  | nil => intro acc _; cases acc <;> rfl
  | cons o l ih =>
    intro acc h
    cases acc with
    | nil => rfl
    | cons k r =>
      have ho := h 0 o (by simp) rfl
      have hr := ih (acc := r) (fun i o' hi ho' => h (i + 1) o' (by simpa using hi) (by simpa using ho'))
      cases hd : o.dst with
      | none => exact absurd hd ho
      | some d => cases k <;> simp [newH, hd, zp, newD, hr] <;> rfl
/-- What is done is D (the last first), what is left os. -/
structure AW (P : Program) (E : Env) (Q : Pst) (l : List Oper) (G : List (Nat × Value)) (H : List HP) (D : List (Nat × PK)) (os : List Oper) : Prop where
  out : ∀ acc : List PK, D.reverse = zp l acc → acc.length ≤ l.length → (∀ (i : Nat) (o : Oper), l[i]? = some o → ∀ e ∈ o.after.toList, Region.binds .any e = true → e.on < i) → l.drop acc.length = os → ∃ ks : List PK,
    (Dist l (acc ++ ks).length → Prems P E l.toArray Q l (acc ++ ks) G H os ks) ∧ Nat.ble (acc ++ ks).length l.length = true ∧ forcedB l (acc ++ ks).length = true ∧ dstB l [] (acc ++ ks).length G = true ∧ (∀ k ∈ ks, k.plain) ∧
    (Dist l (acc ++ ks).length → ∀ bs, RW P E l.toArray Q (l.drop (acc ++ ks).length) (outG l (acc ++ ks) bs ++ G) (H ++ newH l (acc ++ ks) bs))
theorem stop_out {l : List Oper} {D : List (Nat × PK)} {os : List Oper} (h2 : forcedB l D.length = true) (h3 : dstB l [] D.length G = true) (tail : ∀ bs, RW P E l.toArray Q os (outD D bs ++ G) (H ++ newD D bs))  {acc : List PK} (hD : D.reverse = zp l acc) (hle : acc.length ≤ l.length) (hos : l.drop acc.length = os) :
    Nat.ble acc.length l.length = true ∧ forcedB l acc.length = true ∧ dstB l [] acc.length G = true ∧ (Dist l acc.length → ∀ bs, RW P E l.toArray Q (l.drop acc.length) (outG l acc bs ++ G) (H ++ newH l acc bs)) := by
  have hlen : D.length = acc.length := by
    rw [← List.length_reverse, hD, zp, List.length_zipWith, Nat.min_eq_right hle]
  rw [hlen.symm]
  refine ⟨by rw [Nat.ble_eq]; omega, h2, h3, fun hdist bs => ?_⟩
  rw [hlen, hos]
  have hsome : ∀ (i : Nat) (o : Oper), i < acc.length → l[i]? = some o → o.dst ≠ none := fun i o hi ho hn => by
    obtain ⟨o', d, h1, h2', _⟩ := hdist i (by omega)
    rw [ho] at h1; cases h1
    rw [hn] at h2'; cases h2'
  have hmem : ∀ (p : Nat × Value), p ∈ outD D bs ↔ p ∈ outG l acc bs := fun p => by
    rw [outD_map, outG_zp hsome, ← hD]; simp
  intro a w hf hw
  refine tail bs a w ⟨hf.size, hf.defers, fun s v hs => hf.at_ s v ?_⟩ (hw.perm ?_)
  · have huniq : ∀ (p q : Nat × Value), p ∈ outG l acc bs → q ∈ outG l acc bs → p.1 = q.1 → p = q := by
      intro p q hp hq he
      rw [outG_zp hsome] at hp hq
      obtain ⟨⟨d1, k1⟩, hp1, rfl⟩ := List.mem_map.1 hp
      obtain ⟨⟨d2, k2⟩, hq1, rfl⟩ := List.mem_map.1 hq
      simp only at he
      subst he
      obtain ⟨i, o, ho, hk, hd⟩ := zp_inv hp1
      obtain ⟨j, o', ho', hk', hd'⟩ := zp_inv hq1
      have hi := (List.getElem?_eq_some_iff.1 hk).1
      have hj := (List.getElem?_eq_some_iff.1 hk').1
      obtain ⟨oi, di, e1, e2, e3⟩ := hdist i (by omega)
      rw [ho] at e1; cases e1
      obtain ⟨oj, dj, f1, f2, _⟩ := hdist j (by omega)
      rw [ho'] at f1; cases f1
      rw [e2] at hd; rw [f2] at hd'
      simp only [Option.getD_some] at hd hd'
      have := e3 j o' (by omega) ho' (by rw [f2, hd', hd])
      subst this
      rw [hk] at hk'; cases hk'; rfl
    by_cases hx : ∃ u, (s, u) ∈ outG l acc bs
    · obtain ⟨u, hu⟩ := hx
      have h1 : look (outG l acc bs) s = some u := look_of_mem hu (fun v' hv' => by have := huniq _ _ hv' hu rfl; simpa using this)
      have h2 : look (outD D bs) s = some u := look_of_mem ((hmem _).2 hu) (fun v' hv' => by have := huniq _ _ ((hmem _).1 hv') hu rfl; simpa using this)
      rw [look_some_append h2] at hs
      rw [look_some_append h1]; exact hs
    · have n1 : ∀ v, look (outG l acc bs) s ≠ some v := fun v hv => hx ⟨v, look_mem hv⟩
      have n2 : ∀ v, look (outD D bs) s ≠ some v := fun v hv => hx ⟨v, (hmem _).1 (look_mem hv)⟩
      rw [look_none_append n2] at hs
      rw [look_none_append n1]; exact hs
  · rw [newH_zp hsome, ← hD]
    refine List.Perm.append_left _ ?_
    rw [newD_map, newD_map]
    exact List.Perm.filterMap _ (List.reverse_perm D)
theorem AW.stop {l : List Oper} {D : List (Nat × PK)} {os : List Oper} (h2 : forcedB l D.length = true) (h3 : dstB l [] D.length G = true) (tail : ∀ bs, RW P E l.toArray Q os (outD D bs ++ G) (H ++ newD D bs)) : AW P E Q l G H D os := by
  refine ⟨fun acc hD hle hb hos => ⟨[], fun _ => by cases os <;> trivial, ?_⟩⟩
  rw [List.append_nil]
  obtain ⟨k1, k2, k3, k4⟩ := stop_out h2 h3 tail hD hle hos
  exact ⟨k1, k2, k3, by simp, k4⟩
theorem step_acc {l : List Oper} {D : List (Nat × PK)} {o : Oper} {os : List Oper} {d : Nat} {k : PK} (hd : o.dst = some d) {acc : List PK} (hD : D.reverse = zp l acc) (hle : acc.length ≤ l.length) (hos : l.drop acc.length = o :: os) :
    acc.length < l.length ∧ l[acc.length]? = some o ∧ l.drop (acc ++ [k]).length = os ∧ ((d, k) :: D).reverse = zp l (acc ++ [k]) := by
  have hlt : acc.length < l.length := by
    rcases Nat.lt_or_ge acc.length l.length with h | h
    · exact h
    · rw [List.drop_of_length_le h] at hos; cases hos
  have ho : l[acc.length]? = some o := by
    have : (l.drop acc.length)[0]? = some o := by rw [hos]; rfl
    simpa using this
  have hos' : l.drop (acc ++ [k]).length = os := by
    rw [List.length_append, List.length_singleton, ← List.drop_drop, hos]
    rfl
  have hD' : ((d, k) :: D).reverse = zp l (acc ++ [k]) := by
    rw [List.reverse_cons, hD]
    apply List.ext_getElem?
    intro i
    have hzl : (zp l acc).length = acc.length := by rw [zp, List.length_zipWith]; omega
    rcases Nat.lt_trichotomy i acc.length with hi | hi | hi
    · rw [List.getElem?_append_left (by omega)]
      simp only [zp, List.getElem?_zipWith]
      rw [List.getElem?_append_left hi]
    · subst hi
      rw [List.getElem?_append_right (by omega), hzl, Nat.sub_self]
      rw [zp_at (k := k) ho hd (by simp)]
      rfl
    · rw [List.getElem?_eq_none (by simp; omega), List.getElem?_eq_none (by simp [zp]; omega)]
  exact ⟨hlt, ho, hos', hD'⟩
theorem AW.step {l : List Oper} {D : List (Nat × PK)} {o : Oper} {os : List Oper} {d : Nat} {k : PK} (hkp : k.plain) (hd : o.dst = some d) (hp : Prem P E l.toArray Q (depD l D o.after.toList) G H o k) (h : AW P E Q l G H ((d, k) :: D) os) : AW P E Q l G H D (o :: os) := by
  refine ⟨fun acc hD hle hb hos => ?_⟩
  obtain ⟨hlt, ho, hos', hD'⟩ := step_acc (k := k) hd hD hle hos
  obtain ⟨ks, h1, h2, h3, h4, h6, h5⟩ := h.out (acc ++ [k]) hD' (by simp; omega) hb hos'
  have hass : acc ++ [k] ++ ks = acc ++ k :: ks := by simp
  rw [hass] at h1 h2 h3 h4 h5
  refine ⟨k :: ks, fun hdist => ⟨?_, h1 hdist⟩, h2, h3, h4, fun k' hk' => (List.mem_cons.1 hk').elim (fun e => e ▸ hkp) (h6 k'), h5⟩
  have hdep : depG l (acc ++ k :: ks) o = depD l D o.after.toList := depD_eq hdist (by simp) hD (fun e he hbe => hb _ _ ho e he hbe)
  rw [hdep]
  exact hp
theorem AW.val {l : List Oper} {D : List (Nat × PK)} {o : Oper} {os : List Oper} {d : Nat} {v : Value} (hd : o.dst = some d)
    (hp : ∀ (Gx : List (Nat × Value)) (X : List HP), RW P E l.toArray (Pst.then (fun a w => ∃ d, o.dst = some d ∧ Fr E.N E.ds a ((d, v) :: (depD l D o.after.toList ++ G ++ Gx)) ∧ St E.w0 E.S (H ++ X) w) Q) [o] (depD l D o.after.toList ++ G ++ Gx) (H ++ X))
    (h : AW P E Q l G H ((d, .val v) :: D) os) : AW P E Q l G H D (o :: os) := AW.step (k := .val v) trivial hd hp h
theorem AW.new {l : List Oper} {D : List (Nat × PK)} {o : Oper} {os : List Oper} {d : Nat} {c : List Value} {t : TypeId} (hd : o.dst = some d)
    (hp : ∀ (Gx : List (Nat × Value)) (X : List HP), RW P E l.toArray (Pst.then (fun a w => ∃ b d, o.dst = some d ∧ Fr E.N E.ds a ((d, .pointer (some ⟨b, 0, none⟩)) :: (depD l D o.after.toList ++ G ++ Gx)) ∧ St E.w0 E.S (blk b c t :: (H ++ X)) w) Q) [o] (depD l D o.after.toList ++ G ++ Gx) (H ++ X))
    (h : AW P E Q l G H ((d, .new (fun b => blk b c t) (fun b => .pointer (some ⟨b, 0, none⟩)) 0 (fun b => blk b c t)) :: D) os) : AW P E Q l G H D (o :: os) := AW.step (k := .new (fun b => blk b c t) (fun b => .pointer (some ⟨b, 0, none⟩)) 0 (fun b => blk b c t)) rfl hd hp h
/-- .. a call that hands out a new chunk. -/
theorem AW.gen {l : List Oper} {D : List (Nat × PK)} {o : Oper} {os : List Oper} {d : Nat} (V : Nat → Value) (c : Nat → HP) (hd : o.dst = some d)
    (hp : ∀ (Gx : List (Nat × Value)) (X : List HP), RW P E l.toArray (Pst.then (fun a w => ∃ b d, o.dst = some d ∧ Fr E.N E.ds a ((d, V b) :: (depD l D o.after.toList ++ G ++ Gx)) ∧ St E.w0 E.S (c b :: (H ++ X)) w) Q) [o] (depD l D o.after.toList ++ G ++ Gx) (H ++ X))
    (h : AW P E Q l G H ((d, .new c V 0 c) :: D) os) : AW P E Q l G H D (o :: os) := AW.step (k := .new c V 0 c) rfl hd hp h
theorem RW.done_gen {P : Program} {E : Env} {ops : Array Oper} {Q : Pst} {o : Oper} {b d : Nat} {V : Nat → Value} {c : Nat → HP} {G' : List (Nat × Value)} {H' : List HP} (hd : o.dst = some d) : RW P E ops (Pst.then (fun a w => ∃ b d, o.dst = some d ∧ Fr E.N E.ds a ((d, V b) :: G') ∧ St E.w0 E.S (c b :: H') w) Q) [] ((d, V b) :: G') (c b :: H') :=
  fun a w hf hw => ⟨b, d, hd, hf, hw⟩
theorem WA.anyV {l : List Oper} (hb : backB l = true) (h : AW P E Q l G H [] l) : WA P E l Q G H := by
  have hback : ∀ (i : Nat) (o : Oper), l[i]? = some o → ∀ e ∈ o.after.toList, Region.binds .any e = true → e.on < i := by
    intro i o ho e he hbe
    have hi : i < l.length := (List.getElem?_eq_some_iff.1 ho).1
    have := (List.all_eq_true.1 hb) i (List.mem_range.2 hi)
    rw [ho] at this
    have h9 := (List.all_eq_true.1 this) e he
    simpa [hbe] using h9
  obtain ⟨ks, h1, h2, h3, h4, hpl, h5⟩ := h.out [] (by cases l <;> rfl) (by simp) hback rfl
  rw [List.nil_append] at h1 h2 h3 h4 h5
  have hdist : Dist l ks.length := by
    intro i hi
    have h6 := (List.all_eq_true.1 h4) i (List.mem_range.2 hi)
    have hi' : i < l.length := by rw [Nat.ble_eq] at h2; omega
    rw [List.getElem?_eq_getElem hi'] at h6
    simp only at h6
    cases hdd : l[i].dst with
    | none => rw [hdd] at h6; cases h6
    | some d =>
      rw [hdd] at h6
      simp only [Bool.and_eq_true] at h6
      refine ⟨l[i], d, List.getElem?_eq_getElem hi', hdd, fun j o' hj ho' hd' => ?_⟩
      have h7 := (List.all_eq_true.1 h6.2) j (List.mem_range.2 hj)
      rw [ho'] at h7
      simp only [hd'] at h7
      simpa using h7
  have hnoput : ∀ i : Nat, PK.isPut ks[i]? = false := fun i => by
    cases hk : ks[i]? with
    | none => rfl
    | some k =>
      have := hpl k (List.mem_of_getElem? hk)
      cases k with
      | put _ _ _ _ => exact this.elim
      | val v => rfl
      | new _ _ _ _ => rfl
  have h4' : dstB l ks ks.length G = true := by
    unfold dstB at h4 ⊢
    rw [List.all_eq_true] at h4 ⊢
    intro i hi
    have := h4 i hi
    rw [hnoput i]
    exact this
  exact WA.any ks.length ks rfl h2 hb h3 h4' (PutOK.plain (fun dj c t c2 hm => hpl _ hm) (fun c t p c2 hm => hpl _ hm)) (fun i o d _ _ _ hp => by rw [hnoput i] at hp; cases hp) (h1 hdist) (h5 hdist)
theorem CW.anyV {id : Nat} {l : List Oper} (hm : P.follows .mixedOrders = true) (hb : backB l = true) (h : AW P E Q l G H [] l) : CW P E (.region id l.toArray true) Q G H := CW.of hm (WA.anyV hb h)
theorem CW.seqA {id : Nat} {l : List Oper} {y : Code} (hm : P.follows .mixedOrders = true) (hb : backB l = true) (h : AW P E (Pst.then (y.wp P Q.fn) Q) l G H [] l) : CW P E (.seq (.region id l.toArray true) y) Q G H := CW.seq (CW.anyV hm hb h)

/-! ### shifts -/
variable {dst : Nat} {ty t tx ty' e : TypeId} {pos : String} {af : Array Edge} {d d' : TypeDesc} {z z' : Value} {sz sz' by_ by' : Nat} {x y : Operand} {u v : Value} {a b c : Int} {k kk : IntKind}
theorem RW.shr1 (hx : ev G x = some (.int .u64 a)) (hy : ev G y = some (.int .u64 1)) (hw : a.fdiv 2 = c) (hN : Nat.blt dst E.N = true) (kk' : RW P E ops Q rest ((dst, .int .u64 c) :: G) H) :
    RW P E ops Q (⟨some dst, .binOp .shr t x y ty', ty, pos, af, none⟩ :: rest) G H :=
  RW.val hN (fun f w hf _ => by
    have hm : min (Int.toNat 1) (IntKind.bits .u64) = 1 := by decide
    have h2 : (2 : Int) ^ 1 = 2 := by decide
    simp only [execOp, hf.eval hx, hf.eval hy, Sem.run_bind, run_eqGuard_int, Result.andThen, binOp, Op.shift, hm, h2, hw]
    rfl) kk'

/-! ### a literal as a slice of one's own -/
theorem RW.buildOwn {n : Nat} {ps : List (Nat × Operand)} {vs : List (Nat × Value)} (es : List (List Value)) (hp : evp G ps = some vs) (hrun : ∀ w, (Instr.buildSlice t n vs.toArray).run P w = .ok (.slice (some ⟨w.heap.size, 0, none⟩) n n) (w.alloc (.cells es.flatten.toArray e)))
    (hn : es.length = n) (hes : ∀ x ∈ es, x.length = sz) (hmx : n ≤ maxN) (hN : Nat.blt dst E.N = true)
    (kk : ∀ b, RW P E ops Q rest ((dst, .slice (some ⟨b, 0, none⟩) n n) :: G) (ownHP e sz (.slice (some ⟨b, 0, none⟩) n n) es :: H)) : RW P E ops Q (⟨some dst, .buildSlice t n ps.toArray, ty, pos, af, none⟩ :: rest) G H :=
  RW.step rfl (fun a w hf hw => by
    have h := hf.evalp hp
    have h2 : ps.toArray.map (fun p => (p.1, a.eval p.2)) = vs.toArray := by rw [← h]; simp
    have h3 : (execOp a.eval ⟨some dst, .buildSlice t n ps.toArray, ty, pos, af, none⟩) = (do pure (.value (← Instr.buildSlice t n vs.toArray))) := by
      simp only [execOp]
      rw [← h2]
    rw [h3]
    simp only [Sem.run_bind, hrun, Result.andThen]
    refine kk w.heap.size _ _ (hf.put hN _) (hw.fresh (Keeps.alloc _ _ _) (.inr ⟨w.heap.size, n, [], by rw [hn], ⟨Nat.le_refl _, ?_⟩, ?_, hes, ?_, by omega, hmx⟩))
    · show _ < (w.heap.push _).size; simp
    · show (w.heap.push _)[_]? = _; simp
    · rw [flatten_len hes, hn]; simp)
/-! ### copies -/
theorem RW.copy (pre : List HP) {r : List HP} {B O dl dc sl sc n : Nat} {A : Option Addr} {c cs : List Value} {te : TypeId} {t2 : TypeId} [T : Ty P t (.slice e) z' sz' by'] [T2 : Ty P e d z sz by_] (hx : ev G x = some (.slice (some ⟨B, O, none⟩) dl dc)) (hy : ev G y = some (.slice A sl sc))
    (hn : n = min sl dl) (hl : cs.length = n * sz) (h1 : ∀ v ∈ cs, v.oneCell' = true) (hsrc : ∀ w, St E.w0 E.S (pre ++ blk B c te :: r) w → n ≠ 0 → ∃ B2 O2, A = some ⟨B2, O2, none⟩ ∧ CellsAt w B2 O2 cs) (hfit : O + cs.length ≤ c.length) (hN : Nat.blt dst E.N = true)
    (kk : RW P E ops Q rest ((dst, .int .i64 n) :: G) (pre ++ blk B (c.take O ++ cs ++ c.drop (O + cs.length)) te :: r)) : RW P E ops Q (⟨some dst, .call ⟨.builtin .copy, #[x, y], #[t, t2]⟩, ty, pos, af, none⟩ :: rest) G (pre ++ blk B c te :: r) :=
  RW.step rfl (fun f w hf hw => by
    obtain ⟨w', hw', hk⟩ := run_storeCells_blk (P := P) cs 0 w c B O te hw.blk h1 (by simpa using hfit)
    have hfc : (Builtin.firstCells sz n (.slice A sl sc)).run P w = .ok cs.toArray w := by
      by_cases h0 : n = 0
      · subst h0
        have : cs = [] := List.eq_nil_of_length_eq_zero (by simpa using hl)
        subst this
        cases A with
        | none => rfl
        | some a => simp [Builtin.firstCells, loadCells, loadCellsFrom]
      · obtain ⟨B2, O2, rfl, hcs⟩ := hsrc w hw h0
        have := run_loadCells (P := P) hcs
        rw [hl] at this
        exact this
    have hlen : (Builtin.lenOf (.slice A sl sc)).run P w = .ok sl w := rfl
    have hmin : Nat.min sl dl = n := by rw [hn]
    have hc : (Builtin.copy_ #[t, t2] ty #[.slice (some ⟨B, O, none⟩) dl dc, .slice A sl sc]).run P w = .ok (.int .i64 n) w' := by
      simp [Builtin.copy_, T.runUnd, T2.runSize, hlen, hmin, hfc, hw', goInt]
    have hrun : (execOp f.eval ⟨some dst, .call ⟨.builtin .copy, #[x, y], #[t, t2]⟩, ty, pos, af, none⟩).run P w = .ok (.value (.int .i64 n)) w' := by
      simp [execOp, resolve, invoke, builtin, hf.eval hx, hf.eval hy, hc]
    rw [hrun]
    exact kk _ _ (hf.put hN _) (by simpa using hk hw))
/-- append(s, make([]T, m)...) that must grow. -/
theorem RW.append_zeros {B O sl sc m : Nat} {olds zc : List Value} {tn : TypeId} {zn : Value} {szn byn : Nat} {kn : IntKind} [T : Ty P t (.slice e) z' sz' by'] [Tn : Ty P tn (.int kn) zn szn byn] [T2 : Ty P e d z sz by_] (hx : ev G x = some (.slice (some ⟨B, O, none⟩) sl sc)) (hy : ev G y = some (.int .i64 m))
    (hz : z.cells = zc.toArray) (hzs : zc.length = sz) (hsz : 0 < sz) (hm : 0 < m) (hl : olds.length = sl * sz) (hsrc : ∀ w, St E.w0 E.S H w → CellsAt w B O olds) (hg : sc < sl + m) (hb : (sl + m) * by_ ≤ 140737488355328) (hby : 0 < by_) (hmx : sl + m ≤ maxN) (hN : Nat.blt dst E.N = true)
    (kk : ∀ b cap tl, E.w0.heap.size ≤ b → sl + m ≤ cap → cap ≤ maxN → olds.length + tl.length = cap * sz → RW P E ops Q rest ((dst, .slice (some ⟨b, 0, none⟩) (sl + m) cap) :: G) (blk b (olds ++ tl) e :: H)) :
    RW P E ops Q (⟨some dst, .call ⟨.builtin .append, #[x, y], #[t, tn]⟩, ty, pos, af, none⟩ :: rest) G H :=
  RW.step rfl (fun f w hf hw => by
    obtain ⟨i, hi, hz', hs', hb'⟩ := T2.info
    have h1 : ¬ (sl + m ≤ sc) := by omega
    have hwr : IntKind.i64.wrap (m : Int) = m := w64 (by omega) (by unfold maxN at hmx; omega)
    have hneg : ¬ ((m : Int) < 0) := by omega
    have hbm : m * by_ ≤ 281474976710656 := by rw [Nat.add_mul] at hb; omega
    have h48i : ¬ (281474976710656 < (m : Int) * (i.bytes : Int)) := by rw [hb', ← Int.natCast_mul]; omega
    have h63' : ¬ (9223372036854775807 < ((sl : Int) + (m : Int))) := by unfold maxN at hmx; omega
    have hfit := growslice_fits (need := sl + m) (old := sc) (by omega) hb
    have h48' : ¬ (281474976710656 < Builtin.nextslicecap (sl + m) sc * i.bytes) := by rw [hb']; omega
    have hns : ¬ (m * i.size = 0) := Nat.mul_ne_zero (by omega) (by rw [hs']; omega)
    have hfo := run_firstCells_some (P := P) w.drew i.size sl ⟨B, O, none⟩ sl sc olds (by rw [hs']; exact hl) (by simpa using cellsAdd (hsrc w hw))
    have hr : (Builtin.append_ #[t, tn] ty #[.slice (some ⟨B, O, none⟩) sl sc, .int .i64 m]).run P w = .ok (.slice (some ⟨w.heap.size, 0, none⟩) (sl + m) (grownCap w (sl + m) sc e))
        (w.drew.alloc (.cells (olds.toArray ++ Builtin.zeroCells z.cells m ++ Builtin.zeroCells z.cells (grownCap w (sl + m) sc e - (sl + m))) e)) := by
      simp [Builtin.append_, run_underlying T.und, run_underlying Tn.und, sizeOf, typeInfo, zeroValue, hi, hz', asInt, asIntOf, hwr, h1, hneg, hns, h63', h48', h48i, Question.forced, hfo, newRow, grownCap]
    obtain ⟨t1, e1, l1⟩ := zeroCells_flat hz m
    obtain ⟨t2, e2, l2⟩ := zeroCells_flat hz (grownCap w (sl + m) sc e - (sl + m))
    have hge := grownCap_ge w (sl + m) sc e
    have hge2 := grownCap_le_maxLen w (sl + m) sc e (by unfold maxN at hmx; unfold maxLen; omega)
    have hrun : (execOp f.eval ⟨some dst, .call ⟨.builtin .append, #[x, y], #[t, tn]⟩, ty, pos, af, none⟩).run P w = .ok (.value (.slice (some ⟨w.heap.size, 0, none⟩) (sl + m) (grownCap w (sl + m) sc e)))
        (w.drew.alloc (.cells (olds ++ (t1 ++ t2)).toArray e)) := by
      rw [e1, e2] at hr
      have : olds.toArray ++ t1.toArray ++ t2.toArray = (olds ++ (t1 ++ t2)).toArray := by simp
      rw [this] at hr
      simp [execOp, resolve, invoke, builtin, hf.eval hx, hf.eval hy, hr]
    rw [hrun]
    refine kk w.heap.size _ (t1 ++ t2) hw.kp.size hge (by unfold maxLen at hge2; unfold maxN; exact hge2) ?_ _ _ (hf.put hN _) ?_
    · rw [List.length_append, l1, l2, hl, hzs, ← Nat.add_mul, ← Nat.add_mul]
      congr 1
      omega
    · refine hw.fresh (Keeps.trans (S2 := No) (Keeps.drew No w) (Keeps.alloc No w.drew _) (fun _ hb => hb.elim)) ⟨⟨Nat.le_refl _, ?_⟩, ?_⟩
      · show _ < (w.heap.push _).size; simp
      · show (w.heap.push _)[_]? = _; simp)

/-! ### calls that turn some chunks; the others lie apart -/
section
variable {l : List Operand} {vs caps : List Value} {at_ : Array TypeId} {f : FuncId} {fv : Operand}
theorem RW.callD {α : Type} {V : α → Value} {c : α → List HP} (C : List HP) {r : List HP} (hcall : ∀ args w, (callFunc f args).run P w = .ok (.enter f args) w) (hl : evs G l = some vs)
    (hc : ∀ w F, Mem.le E.ro (mem w (fun b => ¬ F b)) → Sep C w F → Sep r w (fun b => ¬ F b) → RetC P f vs w F V c) (hN : Nat.blt dst E.N = true)
    (kk : ∀ x, RW P E ops Q rest ((dst, V x) :: G) (c x ++ r)) : RW P E ops Q (⟨some dst, .call ⟨.value (.func f), l.toArray, at_⟩, ty, pos, af, none⟩ :: rest) G (C ++ r) :=
  RW.call_gen hcall hl (fun a w hf hw => by
    obtain ⟨F, hF, h1, h2⟩ := Sep.split hw.sep
    refine (hc w F (fun B O v hv => ⟨⟨fun hb => ?_, (ro_le hw _ _ _ hv).1.2⟩, (ro_le hw _ _ _ hv).2⟩) h1 (Sep.up (fun b hb => hb.2) h2)).mono ?_
    · rcases (hF B hb).1 with h | h
      · exact hv.1.1 h
      · have := World.block_lt_of_cell? E.w0 _ hv.2
        exact absurd this (Nat.not_lt.2 h)
    · rintro e w' ⟨x, rfl, hx⟩
      exact kk x _ _ (hf.put hN _) (St.turnF hw.kp hF h2 hx))
end

end
/-! ### slices of one's own that read as data -/
/-- What a chunk of data says, the others apart. -/
theorem Sep.rd {M : Mem} {t : K} {cs : List Value} {x : t.V} {pre r : List HP} {w : World} {A : Nat → Prop} (h : Sep (pre ++ rdHP M t cs x :: r) w A) (hM : Mem.le M (mem w A)) : Rd t (mem w A) cs x := by
  obtain ⟨F, hF, hp, _⟩ := Sep.pull h
  exact hp.mono (Mem.or_le hM (mem_up (fun b hb => (hF b hb).1)))
theorem Sep.rds {M : Mem} {t : K} {es : List (List Value)} {xs : List t.V} {pre r : List HP} {w : World} {A : Nat → Prop} (h : Sep (pre ++ rdsHP M t es xs :: r) w A) (hM : Mem.le M (mem w A)) : All2 (fun cs x => Rd t (mem w A) cs x) es xs := by
  obtain ⟨F, hF, hp, _⟩ := Sep.pull h
  exact hp.imp (fun _ _ k => k.mono (Mem.or_le hM (mem_up (fun b hb => (hF b hb).1))))
/-- A slice of one's own and its elements' data: the slice reads as data. -/
theorem rd_of_own {e : TypeId} {t : K} {N : Mem} {sz by_ : Nat} {v : Value} {es : List (List Value)} {xs : List t.V} {w : World} {F : Nat → Prop} (ho : (ownHP e sz v es).p w F) (hsz : sz = t.sz) (hF : Mem.le (mem w F) N) (hx : All2 (fun cs x => Rd t N cs x) es xs) (hb : xs.length * by_ ≤ reach) : Rd (.sl by_ t) N [v] xs := by
  subst hsz
  rcases ho with ⟨rfl, rfl⟩ | ⟨B, c, tl, rfl, hB, hc, hes, h1, h2, h3⟩
  · have : xs = [] := List.eq_nil_of_length_eq_zero hx.1.symm
    subst this
    exact ⟨none, 0, rfl, Nat.le_refl _, Nat.zero_le _, by simp, RowAt.nil⟩
  · refine ⟨some ⟨B, 0, none⟩, c, by rw [hx.1], by rw [← hx.1]; exact h2, h3, hb, fun _ => ⟨B, 0, rfl, fun j x hj => ?_⟩⟩
    have hjl : j < es.length := by rw [hx.1]; exact (List.getElem?_eq_some_iff.1 hj).1
    have hej : es[j]? = some es[j] := List.getElem?_eq_getElem hjl
    refine ⟨es[j], hes _ (List.getElem_mem hjl), hx.2 j _ _ hej hj, fun i v hv => hF _ _ _ ⟨⟨hB, unfrozen_of_blk hc _⟩, ?_⟩⟩
    have := flatten_at hes hej hv
    refine CellsAt.of_blk hc _ _ ?_ |> fun h => by simpa using h
    rw [List.getElem?_append_left (List.getElem?_eq_some_iff.1 this).1]
    exact this
/-- The two as one chunk. -/
theorem merge_own {e : TypeId} {t : K} {M : Mem} {sz by_ : Nat} {v : Value} {es : List (List Value)} {xs : List t.V} {r : List HP} {w : World} {A : Nat → Prop} (h : Sep (ownHP e sz v es :: rdsHP M t es xs :: r) w A) (hsz : sz = t.sz) (hb : xs.length * by_ ≤ reach) : Sep (rdHP M (.sl by_ t) [v] xs :: r) w A := by
  obtain ⟨F, hF, hp, F2, hF2, hp2, hr⟩ := h
  refine ⟨fun b => F b ∨ F2 b, fun b hb => hb.elim (hF b) (fun k => ⟨(hF2 b k).1.1, (hF2 b k).2⟩), ?_, Sep.up (fun b hb => ⟨hb.1.1, fun k => k.elim hb.1.2 hb.2⟩) hr⟩
  refine rd_of_own (N := M.or (mem w (fun b => F b ∨ F2 b))) hp hsz (Mem.le_trans (mem_up (fun b hb => .inl hb)) (Mem.le_right _ _)) (hp2.imp (fun _ _ k => k.mono (Mem.or_le (Mem.le_left _ _) (Mem.le_trans (mem_up (fun b hb => .inr hb)) (Mem.le_right _ _))))) hb
end Go.Proofs.YtbcdgcodnkgdoaaGreat
