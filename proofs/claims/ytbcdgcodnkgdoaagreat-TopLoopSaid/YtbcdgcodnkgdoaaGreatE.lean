/- The calculus, fifth part: a statement whose order of evaluation Go leaves open. Its first operations in whatever order (each hands back one value whatever the order, or lays one block); the others in the one order that is forced. Conditions: none; everything holds over any program. -/
import Derived.Test.YtbcdgcodnkgdoaaGreatD
set_option linter.unusedVariables false
set_option linter.unusedSimpArgs false
namespace Go.Proofs.YtbcdgcodnkgdoaaGreat
open Go Go.RowKit

inductive PK where
  | val (v : Value)
  | new (c : Nat → HP) (t : Nat → Value) (p : Nat) (c2 : Nat → HP)
  | put (dj : Nat) (c : Nat → HP) (t : Nat → Value) (c2 : Nat → HP)
def PK.out : PK → Nat → Value
  | .val v, _ => v
  | .new _ t _ _, b => t b
  | .put _ _ _ _, _ => undef
/-- Every edge leads back. -/
def backB (l : List Oper) : Bool := (List.range l.length).all fun i => match l[i]? with
  | some o => o.after.toList.all fun e => decide (e.on < i) || !Region.binds .any e
  | none => true
/-- From place n on each operation waits for all ahead of it. -/
def bm (acc : List Nat) (o : Oper) : Nat := o.after.toList.foldl (fun s e => if Region.binds .any e then s ||| 2 ^ e.on ||| acc.getD e.on 0 else s) 0
def bms : List Oper → List Nat → List Nat
  | [], acc => acc
  | o :: r, acc => bms r (acc ++ [bm acc o])
def forcedB (l : List Oper) (n : Nat) : Bool := (bms l []).zipIdx.all fun p => decide (p.2 < n) || (List.range p.2).all fun j => p.1.testBit j
def PK.isPut : Option PK → Bool
  | some (.put _ _ _ _) => true
  | _ => false
def dstB (l : List Oper) (ks : List PK) (n : Nat) (G : List (Nat × Value)) : Bool := (List.range n).all fun i => match l[i]? with
  | some o => match o.dst with
    | some d => (look G d).isNone && (List.range n).all fun j => decide (i = j) || (match l[j]? with
      | some o' => match o'.dst with
        | some d' => !(Nat.beq d d')
        | none => true
      | none => true)
    | none => PK.isPut ks[i]?
  | none => false
/-- What an operation may count on: the values of those that it waits for. -/
def depG (l : List Oper) (ks : List PK) (o : Oper) : List (Nat × Value) := o.after.toList.filterMap fun e =>
  if Region.binds .any e then match l[e.on]?, ks[e.on]? with
    | some o', some (.val v) => o'.dst.map fun d => (d, v)
    | _, _ => none
  else none
def Prem (P : Program) (E : Env) (ops : Array Oper) (Q : Pst) (Gd G : List (Nat × Value)) (H : List HP) (o : Oper) : PK → Prop
  | .val v => ∀ (Gx : List (Nat × Value)) (X : List HP), RW P E ops (Pst.then (fun a w => ∃ d, o.dst = some d ∧ Fr E.N E.ds a ((d, v) :: (Gd ++ G ++ Gx)) ∧ St E.w0 E.S (H ++ X) w) Q) [o] (Gd ++ G ++ Gx) (H ++ X)
  | .put dj c t c2 => ∀ (b : Nat) (Gx : List (Nat × Value)) (X : List HP), RW P E ops (Pst.then (fun a w => Fr E.N E.ds a ((dj, t b) :: (Gd ++ G ++ Gx)) ∧ St E.w0 E.S (c2 b :: (H ++ X)) w) Q) [o] ((dj, t b) :: (Gd ++ G ++ Gx)) (c b :: (H ++ X))
  | .new c t _ _ => ∀ (Gx : List (Nat × Value)) (X : List HP), RW P E ops (Pst.then (fun a w => ∃ b d, o.dst = some d ∧ Fr E.N E.ds a ((d, t b) :: (Gd ++ G ++ Gx)) ∧ St E.w0 E.S (c b :: (H ++ X)) w) Q) [o] (Gd ++ G ++ Gx) (H ++ X)
def Prems (P : Program) (E : Env) (ops : Array Oper) (Q : Pst) (l : List Oper) (ks : List PK) (G : List (Nat × Value)) (H : List HP) : List Oper → List PK → Prop
  | o :: os, k :: r => Prem P E ops Q (depG l ks o) G H o k ∧ Prems P E ops Q l ks G H os r
  | _, _ => True
theorem Prems.at_ {P : Program} {E : Env} {ops : Array Oper} {Q : Pst} {l : List Oper} {ks : List PK} {G : List (Nat × Value)} {H : List HP} : ∀ {os : List Oper} {r : List PK}, Prems P E ops Q l ks G H os r → ∀ (i : Nat) (o : Oper) (k : PK), os[i]? = some o → r[i]? = some k → Prem P E ops Q (depG l ks o) G H o k := by
  intro os
  induction os with
  | nil => intro r _ i o k h; simp at h
  | cons o os ih =>
    intro r h i o' k ho hk
    cases r with
    | nil => simp at hk
    | cons k' r =>
      obtain ⟨h1, h2⟩ := h
      cases i with
      | zero => simp at ho hk; subst ho; subst hk; exact h1
      | succ i => exact ih h2 i o' k (by simpa using ho) (by simpa using hk)
def outG : List Oper → List PK → (Nat → Nat) → List (Nat × Value)
  | o :: os, k :: r, bs => match o.dst with
    | some d => (d, k.out (bs d)) :: outG os r bs
    | none => outG os r bs
  | _, _, _ => []
def newH : List Oper → List PK → (Nat → Nat) → List HP
  | o :: os, .new c t p c2 :: r, bs => match o.dst with
    | some d => c2 (bs d) :: newH os r bs
    | none => newH os r bs
  | _ :: os, .val _ :: r, bs => newH os r bs
  | _ :: os, .put _ _ _ _ :: r, bs => newH os r bs
  | _, _, _ => []
section
variable {P : Program} {E : Env} {ops : Array Oper} {Q : Pst} {K : Act → World → Prop} {rest : List Oper} {G : List (Nat × Value)} {H : List HP}
theorem RW.done {o : Oper} {d : Nat} {v : Value} {G' : List (Nat × Value)} {H' : List HP} (hd : o.dst = some d) : RW P E ops (Pst.then (fun a w => ∃ d, o.dst = some d ∧ Fr E.N E.ds a ((d, v) :: G') ∧ St E.w0 E.S H' w) Q) [] ((d, v) :: G') H' :=
  fun a w hf hw => ⟨d, hd, hf, hw⟩
theorem RW.done_eq {o : Oper} {d : Nat} {v v' : Value} {G' : List (Nat × Value)} {H' : List HP} (hd : o.dst = some d) (hv : v' = v) : RW P E ops (Pst.then (fun a w => ∃ d, o.dst = some d ∧ Fr E.N E.ds a ((d, v) :: G') ∧ St E.w0 E.S H' w) Q) [] ((d, v') :: G') H' :=
  fun a w hf hw => ⟨d, hd, hv ▸ hf, hw⟩
theorem RW.done_new {o : Oper} {b d : Nat} {c : List Value} {t : TypeId} {G' : List (Nat × Value)} {H' : List HP} (hd : o.dst = some d) : RW P E ops (Pst.then (fun a w => ∃ b d, o.dst = some d ∧ Fr E.N E.ds a ((d, .pointer (some ⟨b, 0, none⟩)) :: G') ∧ St E.w0 E.S (blk b c t :: H') w) Q) [] ((d, .pointer (some ⟨b, 0, none⟩)) :: G') (blk b c t :: H') :=
  fun a w hf hw => ⟨b, d, hd, hf, hw⟩
end

theorem RW.done_put {P : Program} {E : Env} {ops : Array Oper} {Q : Pst} {G' : List (Nat × Value)} {H' : List HP} : RW P E ops (Pst.then (fun a w => Fr E.N E.ds a G' ∧ St E.w0 E.S H' w) Q) [] G' H' :=
  fun a w hf hw => ⟨hf, hw⟩
/-! ### the theorem -/
section
variable {P : Program} {E : Env} {Q : Pst} {G : List (Nat × Value)} {H : List HP} {l : List Oper} {n : Nat} {ks : List PK}
/-- The chunks that are laid so far: at the places that are listed. -/
def laidH (L : Nat → Bool) : List Oper → List PK → Nat → (Nat → Nat) → List HP
  | o :: os, .new c t p c2 :: r, i, bs => match o.dst with
    | some d => if L i then (if L p then c2 else c) (bs d) :: laidH L os r (i + 1) bs else laidH L os r (i + 1) bs
    | none => laidH L os r (i + 1) bs
  | _ :: os, .val _ :: r, i, bs => laidH L os r (i + 1) bs
  | _ :: os, .put _ _ _ _ :: r, i, bs => laidH L os r (i + 1) bs
  | _, _, _, _ => []
theorem laidH_all {L : Nat → Bool} {bs : Nat → Nat} : ∀ {os : List Oper} {r : List PK} {i : Nat}, (∀ j, i ≤ j → j < i + r.length → L j = true) → (∀ c t p c2, PK.new c t p c2 ∈ r → (if L p then c2 else c) = c2) → laidH L os r i bs = newH os r bs := by
  intro os
  induction os with
  | nil => intro r i _ _; cases r <;> rfl
  | cons o os ih =>
    intro r i h hF
    cases r with
    | nil => rfl
    | cons k r =>
      have ih' := ih (r := r) (i := i + 1) (fun j h1 h2 => h j (by omega) (by simp; omega)) (fun c t p c2 hm => hF c t p c2 (by simp [hm]))
      cases k with
      | val v => exact ih'
      | put dj c t c2 => exact ih'
      | new c t p c2 =>
        unfold laidH newH
        cases o.dst with
        | none => exact ih'
        | some d => simp only [h i (Nat.le_refl _) (by simp), if_true, ih', hF c t p c2 (by simp)]
theorem laidH_congr {L L' : Nat → Bool} {bs bs' : Nat → Nat} : ∀ {os : List Oper} {r : List PK} {i : Nat}, (∀ j, i ≤ j → j < i + r.length → L j = L' j) → (∀ (j : Nat) (o : Oper) (d : Nat), os[j]? = some o → o.dst = some d → j < r.length → L (i + j) = true → bs d = bs' d) → (∀ c t p c2, PK.new c t p c2 ∈ r → (if L p then c2 else c) = (if L' p then c2 else c)) → laidH L os r i bs = laidH L' os r i bs' := by
  intro os
  induction os with
  | nil => intro r i _ _ _; cases r <;> rfl
  | cons o os ih =>
    intro r i h hb hF
    cases r with
    | nil => rfl
    | cons k r =>
      have ih' := ih (r := r) (i := i + 1) (fun j h1 h2 => h j (by omega) (by simp; omega)) (fun j o d h1 h2 h3 h4 => hb (j + 1) o d (by simpa using h1) h2 (by simpa using h3) (by rwa [show i + (j + 1) = i + 1 + j from by omega])) (fun c t p c2 hm => hF c t p c2 (by simp [hm]))
      cases k with
      | val v => exact ih'
      | put dj c t c2 => exact ih'
      | new c t p c2 =>
        unfold laidH
        cases hd : o.dst with
        | none => exact ih'
        | some d =>
          simp only
          rw [← h i (Nat.le_refl _) (by simp), ih']
          cases hL : L i with
          | false => rfl
          | true => simp only [if_true]; rw [hb 0 o d rfl hd (by simp) (by simpa using hL), hF c t p c2 (by simp)]
theorem laidH_add {L L' : Nat → Bool} {bs bs' : Nat → Nat} {p : Nat} : ∀ {os : List Oper} {r : List PK} {i : Nat}, i ≤ p → (∀ j, j ≠ p → L j = L' j) → L p = false → L' p = true → (∀ (j : Nat) (o : Oper) (d : Nat), os[j]? = some o → o.dst = some d → j < r.length → L (i + j) = true → bs d = bs' d) →
    (∀ c t q c2, PK.new c t q c2 ∈ r → (if L q then c2 else c) = (if L' q then c2 else c)) → ∀ {o : Oper} {d : Nat} {c : Nat → HP} {t : Nat → Value} {q : Nat} {c2 : Nat → HP}, os[p - i]? = some o → o.dst = some d → r[p - i]? = some (.new c t q c2) → (if L' q then c2 else c) = c → (c (bs' d) :: laidH L os r i bs).Perm (laidH L' os r i bs') := by
  intro os
  induction os with
  | nil => intro r i _ _ _ _ _ _ o d c t q c2 h; simp at h
  | cons o os ih =>
    intro r i hip hLL hp hp' hb hF o' d c t q c2 ho hd hk hc0
    cases r with
    | nil => simp at hk
    | cons k r =>
      by_cases hi : i = p
      · subst hi
        simp only [Nat.sub_self, List.getElem?_cons_zero, Option.some.injEq] at ho hk
        subst ho; subst hk
        have hc : laidH L os r (i + 1) bs = laidH L' os r (i + 1) bs' := laidH_congr (fun j h1 h2 => hLL j (by omega)) (fun j o d h1 h2 h3 h4 => hb (j + 1) o d (by simpa using h1) h2 (by simpa using h3) (by rwa [show i + (j + 1) = i + 1 + j from by omega])) (fun c t p c2 hm => hF c t p c2 (by simp [hm]))
        unfold laidH
        simp only [hd, hp, hp', if_true, hc, hc0]
        exact List.Perm.refl _
      · have hlt : i + 1 ≤ p := by omega
        have hs : p - i = (p - (i + 1)) + 1 := by omega
        rw [hs] at ho hk
        have ih' := ih (r := r) (i := i + 1) hlt hLL hp hp' (fun j o d h1 h2 h3 h4 => hb (j + 1) o d (by simpa using h1) h2 (by simpa using h3) (by rwa [show i + (j + 1) = i + 1 + j from by omega])) (fun c t p c2 hm => hF c t p c2 (by simp [hm])) (by simpa using ho) hd (by simpa using hk) hc0
        cases k with
        | val v => exact ih'
        | put dj c t c2 => exact ih'
        | new c3 t3 q3 c4 =>
          unfold laidH
          cases hd2 : o.dst with
          | none => exact ih'
          | some d2 =>
            simp only
            rw [← hLL i hi]
            cases hL : L i with
            | false => exact ih'
            | true =>
              simp only [if_true]
              rw [← hb 0 o d2 rfl hd2 (by simp) (by simpa using hL), ← hF c3 t3 q3 c4 (by simp)]
              exact (List.Perm.swap _ _ _).trans (List.Perm.cons _ ih')
theorem laidH_val {L L' : Nat → Bool} {bs : Nat → Nat} {p : Nat} : ∀ {os : List Oper} {r : List PK} {i : Nat} {v : Value}, (∀ j, j ≠ p → L j = L' j) → (i ≤ p → r[p - i]? = some (.val v)) → (∀ c t q c2, PK.new c t q c2 ∈ r → (if L q then c2 else c) = (if L' q then c2 else c)) → laidH L os r i bs = laidH L' os r i bs := by
  intro os
  induction os with
  | nil => intro r i v _ _ _; cases r <;> rfl
  | cons o os ih =>
    intro r i v h hk hF
    cases r with
    | nil => rfl
    | cons k r =>
      have ih' := ih (r := r) (i := i + 1) (v := v) h (fun hip => by
        have := hk (by omega)
        rw [show p - i = (p - (i + 1)) + 1 from by omega] at this
        simpa using this) (fun c t p c2 hm => hF c t p c2 (by simp [hm]))
      cases k with
      | val v => exact ih'
      | put dj c t c2 => exact ih'
      | new c t q c2 =>
        have hip : i ≠ p := fun e => by subst e; have := hk (Nat.le_refl _); simp at this
        unfold laidH
        cases o.dst with
        | none => exact ih'
        | some d => simp only; rw [h i hip, ih', hF c t q c2 (by simp)]
theorem laidH_put {L L' : Nat → Bool} {bs : Nat → Nat} {p j : Nat} (hLL : ∀ m, m ≠ p → L m = L' m) (hp : L p = false) (hp' : L' p = true) (hj : L j = true) : ∀ {os : List Oper} {r : List PK} {i : Nat}, i ≤ j → (∀ m c t q c2, i ≤ m → m ≠ j → r[m - i]? = some (.new c t q c2) → (if L q then c2 else c) = (if L' q then c2 else c)) → (i ≤ p → PK.isPut r[p - i]? = true) →
    ∀ {o : Oper} {d : Nat} {c : Nat → HP} {t : Nat → Value} {c2 : Nat → HP}, os[j - i]? = some o → o.dst = some d → r[j - i]? = some (.new c t p c2) → ∃ X, (laidH L os r i bs).Perm (c (bs d) :: X) ∧ (laidH L' os r i bs).Perm (c2 (bs d) :: X) := by
  have hjp : j ≠ p := fun e => by rw [e, hp] at hj; cases hj
  intro os
  induction os with
  | nil => intro r i _ _ _ o d c t c2 h; simp at h
  | cons o os ih =>
    intro r i hij hF hP o' d c t c2 ho hd hk
    cases r with
    | nil => simp at hk
    | cons k r =>
      have hF' : ∀ m c t q c2, i + 1 ≤ m → m ≠ j → r[m - (i + 1)]? = some (.new c t q c2) → (if L q then c2 else c) = (if L' q then c2 else c) := fun m c t q c2 h1 h2 h3 => hF m c t q c2 (by omega) h2 (by rw [show m - i = (m - (i + 1)) + 1 from by omega]; simpa using h3)
      have hP' : i + 1 ≤ p → PK.isPut r[p - (i + 1)]? = true := fun h1 => by
        have := hP (by omega)
        rw [show p - i = (p - (i + 1)) + 1 from by omega] at this
        simpa using this
      by_cases hi : i = j
      · subst hi
        simp only [Nat.sub_self, List.getElem?_cons_zero, Option.some.injEq] at ho hk
        subst ho; subst hk
        have hc : laidH L os r (i + 1) bs = laidH L' os r (i + 1) bs := by
          have key : ∀ (os : List Oper) (r : List PK) (i0 : Nat), (∀ m c t q c2, i0 ≤ m → r[m - i0]? = some (.new c t q c2) → (if L q then c2 else c) = (if L' q then c2 else c)) → (i0 ≤ p → PK.isPut r[p - i0]? = true) → laidH L os r i0 bs = laidH L' os r i0 bs := by
            intro os
            induction os with
            | nil => intro r i0 _ _; cases r <;> rfl
            | cons o os ih2 =>
              intro r i0 h1 h2
              cases r with
              | nil => rfl
              | cons k r =>
                have ih2' := ih2 r (i0 + 1) (fun m c t q c2 h3 h4 => h1 m c t q c2 (by omega) (by rw [show m - i0 = (m - (i0 + 1)) + 1 from by omega]; simpa using h4)) (fun h3 => by
                  have := h2 (by omega)
                  rw [show p - i0 = (p - (i0 + 1)) + 1 from by omega] at this
                  simpa using this)
                cases k with
                | val v => exact ih2'
                | put dj c t c2 => exact ih2'
                | new c t q c2 =>
                  have hip : i0 ≠ p := fun e => by
                    subst e
                    have := h2 (Nat.le_refl _)
                    simp [PK.isPut] at this
                  unfold laidH
                  cases o.dst with
                  | none => exact ih2'
                  | some d => simp only; rw [hLL i0 hip, ih2', h1 i0 c t q c2 (Nat.le_refl _) (by simp)]
          exact key os r (i + 1) (fun m c t q c2 h1 h2 => hF' m c t q c2 h1 (by omega) h2) hP'
        have hj' : L' i = true := (hLL i hjp) ▸ hj
        have e1 : laidH L (o :: os) (.new c t p c2 :: r) i bs = c (bs d) :: laidH L os r (i + 1) bs := by
          rw [laidH]; simp only [hd, hj, hp, if_true, Bool.false_eq_true, if_false]
        have e2 : laidH L' (o :: os) (.new c t p c2 :: r) i bs = c2 (bs d) :: laidH L os r (i + 1) bs := by
          rw [laidH]; simp only [hd, hj', hp', if_true, ← hc]
        exact ⟨laidH L os r (i + 1) bs, e1 ▸ List.Perm.refl _, e2 ▸ List.Perm.refl _⟩
      · have hs : j - i = (j - (i + 1)) + 1 := by omega
        rw [hs] at ho hk
        obtain ⟨X, hX, hX'⟩ := ih (r := r) (i := i + 1) (by omega) hF' hP' (by simpa using ho) hd (by simpa using hk)
        cases k with
        | val v => exact ⟨X, hX, hX'⟩
        | put dj c t c2 => exact ⟨X, hX, hX'⟩
        | new c3 t3 q3 c4 =>
          have hip : i ≠ p := fun e => by
            subst e
            have := hP (Nat.le_refl _)
            simp [PK.isPut] at this
          unfold laidH
          cases hd2 : o.dst with
          | none => exact ⟨X, hX, hX'⟩
          | some d2 =>
            simp only
            rw [← hLL i hip, ← hF i c3 t3 q3 c4 (Nat.le_refl _) hi (by simp)]
            cases hL : L i with
            | false => exact ⟨X, hX, hX'⟩
            | true => exact ⟨_, (List.Perm.cons _ hX).trans (List.Perm.swap _ _ _), (List.Perm.cons _ hX').trans (List.Perm.swap _ _ _)⟩
theorem laidH_get {L : Nat → Bool} {bs : Nat → Nat} {j : Nat} (hj : L j = true) : ∀ {os : List Oper} {r : List PK} {i : Nat}, i ≤ j → ∀ {o : Oper} {d : Nat} {c : Nat → HP} {t : Nat → Value} {p : Nat}, os[j - i]? = some o → o.dst = some d → r[j - i]? = some (.new c t p c) → ∃ X, (laidH L os r i bs).Perm (c (bs d) :: X) := by
  intro os
  induction os with
  | nil => intro r i _ o d c t p h; simp at h
  | cons o os ih =>
    intro r i hij o' d c t p ho hd hk
    cases r with
    | nil => simp at hk
    | cons k r =>
      by_cases hi : i = j
      · subst hi
        simp only [Nat.sub_self, List.getElem?_cons_zero, Option.some.injEq] at ho hk
        subst ho; subst hk
        refine ⟨laidH L os r (i + 1) bs, ?_⟩
        rw [laidH]
        simp only [hd, hj, if_true, ite_self]
        exact List.Perm.refl _
      · have hs : j - i = (j - (i + 1)) + 1 := by omega
        rw [hs] at ho hk
        obtain ⟨X, hX⟩ := ih (r := r) (i := i + 1) (by omega) (by simpa using ho) hd (by simpa using hk)
        cases k with
        | val v => exact ⟨X, hX⟩
        | put dj c t c2 => exact ⟨X, hX⟩
        | new c3 t3 q3 c4 =>
          unfold laidH
          cases hd2 : o.dst with
          | none => exact ⟨X, hX⟩
          | some d2 =>
            simp only
            cases hL : L i with
            | false => exact ⟨X, hX⟩
            | true => exact ⟨_, (List.Perm.cons _ hX).trans (List.Perm.swap _ _ _)⟩
theorem laidH_none {L : Nat → Bool} {bs : Nat → Nat} : ∀ {os : List Oper} {r : List PK} {i : Nat}, (∀ j, L j = false) → laidH L os r i bs = [] := by
  intro os
  induction os with
  | nil => intro r i _; cases r <;> rfl
  | cons o os ih =>
    intro r i h
    cases r with
    | nil => rfl
    | cons k r =>
      cases k with
      | val v => exact ih h
      | put dj c t c2 => exact ih h
      | new c t p c2 =>
        unfold laidH
        cases o.dst with
        | none => exact ih h
        | some d => simp only [h i]; exact ih h
structure Mid (P : Program) (E : Env) (l : List Oper) (n : Nat) (ks : List PK) (G : List (Nat × Value)) (Hd : Bool → List HP) (q : Nat) (listed : Array Bool) (a : Act) (w : World) (bs : Nat → Nat) : Prop where
  size : listed.size = l.length
  below : ∀ i, n ≤ i → listed.getD i false = false
  down : ∀ (i : Nat) (o : Oper), listed.getD i false = true → l[i]? = some o → ∀ e ∈ o.after.toList, Region.binds .any e = true → listed.getD e.on false = true
  fN : a.tmps.size = E.N
  fd : a.defers = E.ds
  fG : ∀ i v, look G i = some v → a.tmps[i]? = some v
  fV : ∀ (i : Nat) (o : Oper) (d : Nat) (k : PK), listed.getD i false = true → l[i]? = some o → o.dst = some d → ks[i]? = some k → a.tmps[d]? = some (k.out (bs d))
  st : St E.w0 E.S (Hd (listed.getD q false) ++ laidH (fun i => listed.getD i false) l ks 0 bs) w
theorem look_outG {bs : Nat → Nat} : ∀ {os : List Oper} {r : List PK} {s : Nat} {v : Value}, look (outG os r bs) s = some v → ∃ (i : Nat) (o : Oper) (k : PK), os[i]? = some o ∧ r[i]? = some k ∧ o.dst = some s ∧ v = k.out (bs s) := by
  intro os
  induction os with
  | nil => intro r s v h; cases r <;> cases h
  | cons o os ih =>
    intro r s v h
    cases r with
    | nil => cases h
    | cons k r =>
      unfold outG at h
      cases hd : o.dst with
      | none =>
        rw [hd] at h
        obtain ⟨i, o', k', h1, h2, h3, h4⟩ := ih h
        exact ⟨i + 1, o', k', by simpa using h1, by simpa using h2, h3, h4⟩
      | some d =>
        rw [hd] at h
        simp only [look] at h
        cases hb : Nat.beq d s with
        | true =>
          rw [hb] at h
          have : d = s := Nat.eq_of_beq_eq_true hb
          subst this
          simp only [Option.some.injEq] at h
          exact ⟨0, o, k, rfl, rfl, hd, h.symm⟩
        | false =>
          rw [hb] at h
          obtain ⟨i, o', k', h1, h2, h3, h4⟩ := ih h
          exact ⟨i + 1, o', k', by simpa using h1, by simpa using h2, h3, h4⟩
theorem look_append {A B : List (Nat × Value)} {s : Nat} {v : Value} (h : look (A ++ B) s = some v) : look A s = some v ∨ look B s = some v := by
  induction A with
  | nil => exact .inr h
  | cons p A ih =>
    obtain ⟨i, u⟩ := p
    simp only [List.cons_append, look] at h ⊢
    cases hb : Nat.beq i s with
    | true => rw [hb] at h; exact .inl h
    | false => rw [hb] at h; exact ih h
theorem look_mem {A : List (Nat × Value)} {s : Nat} {v : Value} (h : look A s = some v) : (s, v) ∈ A := by
  induction A with
  | nil => cases h
  | cons p A ih =>
    obtain ⟨i, u⟩ := p
    simp only [look] at h
    cases hb : Nat.beq i s with
    | true =>
      rw [hb] at h
      have : i = s := Nat.eq_of_beq_eq_true hb
      subst this
      simp only [Option.some.injEq] at h
      subst h
      exact List.mem_cons_self ..
    | false => rw [hb] at h; exact List.mem_cons_of_mem _ (ih h)
theorem look_idx' : ∀ (l : List Value) (i j : Nat) (v : Value), i ≤ j → l[j - i]? = some v → look (idx i l) j = some v := by
  intro l
  induction l with
  | nil => intro i j v _ h; simp at h
  | cons u l ih =>
    intro i j v hij h
    simp only [idx, look]
    cases hb : Nat.beq i j with
    | true =>
      have : i = j := Nat.eq_of_beq_eq_true hb
      subst this
      simpa using h
    | false =>
      have hne : i ≠ j := Nat.ne_of_beq_eq_false hb
      refine ih (i + 1) j v (by omega) ?_
      rw [show j - i = (j - (i + 1)) + 1 from by omega] at h
      simpa using h
theorem look_none_append {A B : List (Nat × Value)} {s : Nat} (h : ∀ v, look A s ≠ some v) : look (A ++ B) s = look B s := by
  induction A with
  | nil => rfl
  | cons p A ih =>
    obtain ⟨i, u⟩ := p
    simp only [List.cons_append, look] at h ⊢
    cases hb : Nat.beq i s with
    | true => rw [hb] at h; exact absurd rfl (h u)
    | false => rw [hb] at h; exact ih h
theorem look_some_append {A B : List (Nat × Value)} {s : Nat} {v : Value} (h : look A s = some v) : look (A ++ B) s = some v := by
  induction A with
  | nil => cases h
  | cons p A ih =>
    obtain ⟨i, u⟩ := p
    simp only [List.cons_append, look] at h ⊢
    cases hb : Nat.beq i s with
    | true => rw [hb] at h; exact h
    | false => rw [hb] at h; exact ih h
/-- What stood in a slot stands there still, if it is not the one that is written. -/
theorem slot_kept {N : Nat} {ds : List Deferred} {a a' : Act} {D G : List (Nat × Value)} {d : Nat} {v : Value} (hD : ∀ s u, look D s = some u → a.tmps[s]? = some u) (hG : ∀ s u, look G s = some u → a.tmps[s]? = some u)
    (h : Fr N ds a' ((d, v) :: (D ++ G ++ idx 0 a.tmps.toList))) {s : Nat} (hs : s ≠ d) {u : Value} (hu : a.tmps[s]? = some u) : a'.tmps[s]? = some u := by
  have hsn : look (idx 0 a.tmps.toList) s = some u := look_idx' _ 0 s u (Nat.zero_le _) (by simpa using hu)
  refine h.at_ s u ?_
  simp only [look]
  have hb : Nat.beq d s = false := by
    cases hb : Nat.beq d s with
    | true => exact absurd (Nat.eq_of_beq_eq_true hb) (Ne.symm hs)
    | false => rfl
  rw [hb]
  cases hDG : look (D ++ G) s with
  | some u' =>
    have : a.tmps[s]? = some u' := (look_append hDG).elim (hD s u') (hG s u')
    rw [hu] at this
    injection this with this
    subst this
    exact look_some_append hDG
  | none => simp only; rw [look_none_append (fun v hv => by rw [hDG] at hv; cases hv)]; exact hsn
def cnt (L : Nat → Bool) : Nat → Nat
  | 0 => 0
  | m + 1 => cnt L m + cond (L m) 0 1
theorem cnt_set {L L' : Nat → Bool} {p : Nat} (hLL : ∀ j, j ≠ p → L' j = L j) (hp : L p = false) (hp' : L' p = true) : ∀ m, p < m → cnt L' m + 1 = cnt L m := by
  have hsame : ∀ m, m ≤ p → cnt L' m = cnt L m := by
    intro m
    induction m with
    | zero => intro _; rfl
    | succ m ih => intro h; simp only [cnt]; rw [ih (by omega), hLL m (by omega)]
  intro m
  induction m with
  | zero => intro h; omega
  | succ m ih =>
    intro h
    simp only [cnt]
    by_cases hm : m = p
    · subst hm; rw [hsame m (Nat.le_refl _), hp, hp']; simp
    · rw [hLL m hm]
      have := ih (by omega)
      omega
theorem cnt_pos {L : Nat → Bool} {p : Nat} (hp : L p = false) : ∀ m, p < m → 0 < cnt L m := by
  intro m
  induction m with
  | zero => intro h; omega
  | succ m ih =>
    intro h
    simp only [cnt]
    by_cases hm : m = p
    · subst hm; rw [hp]; simp
    · have := ih (by omega); omega
theorem ready_iff {l : List Oper} {listed : Array Bool} (hs : listed.size = l.length) (i : Nat) : i ∈ Region.ready .any l.toArray listed ↔ ∃ o, l[i]? = some o ∧ listed.getD i false = false ∧ ∀ e ∈ o.after.toList, Region.binds .any e = true → listed.getD e.on false = true := by
  unfold Region.ready
  rw [List.mem_filter, List.mem_range]
  constructor
  · rintro ⟨hi, hc⟩
    have hi' : i < l.length := by simpa using hi
    refine ⟨l[i], List.getElem?_eq_getElem hi', ?_⟩
    simp only [Bool.and_eq_true, Bool.not_eq_true'] at hc
    have hg : listed.getD i true = listed.getD i false := by simp [Array.getD_eq_getD_getElem?, Array.getElem?_eq_getElem (show i < listed.size by omega)]
    refine ⟨hg ▸ hc.1, fun e he hb => ?_⟩
    have h2 := hc.2
    simp only [List.getElem?_toArray, List.getElem?_eq_getElem hi', Option.map_some, Option.getD_some] at h2
    rw [← Array.all_toList, List.all_eq_true] at h2
    have := h2 e he
    simpa [hb] using this
  · rintro ⟨o, ho, hl, he⟩
    have hi' : i < l.length := (List.getElem?_eq_some_iff.1 ho).1
    refine ⟨by simpa using hi', ?_⟩
    have hg : listed.getD i true = listed.getD i false := by simp [Array.getD_eq_getD_getElem?, Array.getElem?_eq_getElem (show i < listed.size by omega)]
    simp only [List.getElem?_toArray, ho, Option.map_some, Option.getD_some, hg, hl, Bool.not_false, Bool.true_and]
    rw [← Array.all_toList, List.all_eq_true]
    intro e hm
    cases hb : Region.binds .any e with
    | false => rfl
    | true => rw [he e hm hb]; simp
theorem getD_set {L : Array Bool} {i j : Nat} (hi : i < L.size) : (L.setIfInBounds i true).getD j false = if i = j then true else L.getD j false := by
  simp only [Array.getD_eq_getD_getElem?, Array.getElem?_setIfInBounds]
  split
  · rename_i h; subst h; simp [hi]
  · rfl
theorem wpOp_of_list {P : Program} {l : List Oper} {Q : Exit → Act → World → Prop} {i : Nat} {o : Oper} {rest : List Oper} {a : Act} {w : World} (ho : l[i]? = some o) (h : wpList P l.toArray Q (o :: rest) a w) : wpOp P l.toArray Q i (wpList P l.toArray Q rest) a w := by
  unfold wpOp
  simp only [List.getElem?_toArray, ho]
  exact h
theorem wpOp_then {P : Program} {ops : Array Oper} {Q : Pst} {K1 K : Act → World → Prop} {i : Nat} {a : Act} {w : World} (h : wpOp P ops (Pst.then K1 Q).fn i K a w) : wpOp P ops Q.fn i K a w := by
  exact h
theorem foldl_bit (acc : List Nat) (i : Nat) : ∀ (es : List Edge) (s : Nat), (es.foldl (fun s e => if Region.binds .any e then s ||| 2 ^ e.on ||| acc.getD e.on 0 else s) s).testBit i = true →
    s.testBit i = true ∨ ∃ e ∈ es, Region.binds .any e = true ∧ (e.on = i ∨ (acc.getD e.on 0).testBit i = true) := by
  intro es
  induction es with
  | nil => intro s h; exact .inl h
  | cons e es ih =>
    intro s h
    rw [List.foldl_cons] at h
    rcases ih _ h with h | ⟨e', he', hb, hr⟩
    · split at h
      · rename_i hb
        rw [Nat.testBit_or, Nat.testBit_or, Bool.or_eq_true, Bool.or_eq_true] at h
        rcases h with (h | h) | h
        · exact .inl h
        · rw [Nat.testBit_two_pow] at h; exact .inr ⟨e, List.mem_cons_self .., hb, .inl (by simpa using h)⟩
        · exact .inr ⟨e, List.mem_cons_self .., hb, .inr h⟩
      · exact .inl h
    · exact .inr ⟨e', List.mem_cons_of_mem _ he', hb, hr⟩
/-- Whatever is listed with all that it waits for: then what a mask names is listed. -/
def BmOK (l : List Oper) (L : Nat → Bool) (acc : List Nat) : Prop := ∀ (k : Nat) (m : Nat), acc[k]? = some m → ∀ o, l[k]? = some o → (∀ e ∈ o.after.toList, Region.binds .any e = true → L e.on = true) → ∀ i, m.testBit i = true → L i = true
theorem bms_ok {l : List Oper} {L : Nat → Bool} (hdown : ∀ (m : Nat) (o : Oper), L m = true → l[m]? = some o → ∀ e ∈ o.after.toList, Region.binds .any e = true → L e.on = true) :
    ∀ (r : List Oper) (acc : List Nat), (∃ p, l = p ++ r ∧ p.length = acc.length) → BmOK l L acc → BmOK l L (bms r acc) := by
  intro r
  induction r with
  | nil => intro acc _ h; exact h
  | cons o r ih =>
    intro acc ⟨p, hl, hp⟩ h
    refine ih _ ⟨p ++ [o], by simp [hl], by simp [hp]⟩ ?_
    intro k m hk o' ho' hej i hbit
    by_cases hlt : k < acc.length
    · rw [List.getElem?_append_left hlt] at hk
      exact h k m hk o' ho' hej i hbit
    · have hke : k = acc.length := by
        have := (List.getElem?_eq_some_iff.1 hk).1
        simp at this; omega
      subst hke
      simp at hk
      subst hk
      have hoo : o' = o := by rw [hl, ← hp] at ho'; simp at ho'; exact ho'.symm
      subst hoo
      rcases foldl_bit acc i _ _ hbit with hz | ⟨e, he, hb, hr⟩
      · simp at hz
      · have hLe := hej e he hb
        rcases hr with hr | hr
        · rw [← hr]; exact hLe
        · cases hx : acc[e.on]? with
          | none => rw [List.getD_eq_getElem?_getD, hx] at hr; simp at hr
          | some m2 =>
            rw [List.getD_eq_getElem?_getD, hx] at hr
            have hin : e.on < l.length := by have := (List.getElem?_eq_some_iff.1 hx).1; rw [hl]; simp; omega
            exact h e.on m2 hx l[e.on] (List.getElem?_eq_getElem hin) (hdown e.on _ hLe (List.getElem?_eq_getElem hin)) i hr
theorem bms_length : ∀ (r : List Oper) (acc : List Nat), (bms r acc).length = acc.length + r.length := by
  intro r
  induction r with
  | nil => intro acc; rfl
  | cons o r ih => intro acc; rw [bms, ih]; simp; omega
theorem closed_forced {l : List Oper} {n i j : Nat} {o : Oper} {L : Nat → Bool} (hb : backB l = true) (hf : forcedB l n = true) (hni : n ≤ j) (ho : l[j]? = some o) (hij : i < j)
    (hdown : ∀ (m : Nat) (o : Oper), L m = true → l[m]? = some o → ∀ e ∈ o.after.toList, Region.binds .any e = true → L e.on = true) (hej : ∀ e ∈ o.after.toList, Region.binds .any e = true → L e.on = true) : L i = true := by
  have hjl : j < l.length := (List.getElem?_eq_some_iff.1 ho).1
  have hjb : j < (bms l []).length := by rw [bms_length]; simpa using hjl
  have hmem := List.getElem?_eq_getElem hjb
  have hz : ((bms l [])[j], j) ∈ (bms l []).zipIdx := by
    rw [List.mem_zipIdx_iff_getElem?]; exact hmem
  have h1 := (List.all_eq_true.1 hf) _ hz
  simp only [Bool.or_eq_true, decide_eq_true_eq] at h1
  rcases h1 with h1 | h1
  · omega
  · have h2 := (List.all_eq_true.1 h1) i (List.mem_range.2 hij)
    exact bms_ok hdown l [] ⟨[], rfl, rfl⟩ (fun k m hk => by simp at hk) j _ hmem o ho hej i h2
/-- All ahead of i are done, no other is: the rest in its order. -/
theorem tail_any {P : Program} {l : List Oper} {Q : Exit → Act → World → Prop} {n : Nat} (hb : backB l = true) (hf : forcedB l n = true) : ∀ (k i : Nat), i + k = l.length → n ≤ i → ∀ (fuel : Nat) (listed : Array Bool) (a : Act) (w : World), k ≤ fuel → listed.size = l.length → (∀ j, j < l.length → (listed.getD j false = true ↔ j < i)) →
    wpList P l.toArray Q (l.drop i) a w → wpAny P .any l.toArray Q fuel listed a w := by
  have hback : ∀ (i : Nat) (o : Oper), l[i]? = some o → ∀ e ∈ o.after.toList, Region.binds .any e = true → e.on < i := by
    intro i o ho e he hbe
    have hi : i < l.length := (List.getElem?_eq_some_iff.1 ho).1
    have := (List.all_eq_true.1 hb) i (List.mem_range.2 hi)
    rw [ho] at this
    have h9 := (List.all_eq_true.1 this) e he
    simpa [hbe] using h9
  intro k
  induction k with
  | zero =>
    intro i hik hni fuel listed a w hfu hs hl h
    have hnil : Region.ready .any l.toArray listed = [] := by
      rw [List.eq_nil_iff_forall_not_mem]
      intro j hj
      obtain ⟨o, ho, hlj, _⟩ := (ready_iff hs j).1 hj
      have hjl : j < l.length := (List.getElem?_eq_some_iff.1 ho).1
      have := (hl j hjl).2 (by omega)
      rw [hlj] at this; cases this
    have hd : l.drop i = [] := List.drop_of_length_le (by omega)
    rw [hd] at h
    cases fuel with
    | zero => exact ⟨hnil, h⟩
    | succ fuel => exact ⟨fun _ => h, fun j hj => by rw [hnil] at hj; cases hj⟩
  | succ k ih =>
    intro i hik hni fuel listed a w hfu hs hl h
    obtain ⟨fuel, rfl⟩ : ∃ m, fuel = m + 1 := ⟨fuel - 1, by omega⟩
    have hil : i < l.length := by omega
    have hir : i ∈ Region.ready .any l.toArray listed := by
      refine (ready_iff hs i).2 ⟨l[i], List.getElem?_eq_getElem hil, ?_, fun e he hbe => ?_⟩
      · cases hx : listed.getD i false with
        | false => rfl
        | true => exact absurd ((hl i hil).1 hx) (by omega)
      · have hlt := hback i l[i] (List.getElem?_eq_getElem hil) e he hbe
        exact (hl e.on (by omega)).2 hlt
    refine ⟨(fun hn => by rw [hn] at hir; cases hir), fun j hj => ?_⟩
    obtain ⟨o, ho, hlj, hej⟩ := (ready_iff hs j).1 hj
    have hjl : j < l.length := (List.getElem?_eq_some_iff.1 ho).1
    have hji : j = i := by
      rcases Nat.lt_trichotomy j i with h1 | h1 | h1
      · have := (hl j hjl).2 h1; rw [hlj] at this; cases this
      · exact h1
      · exact absurd ((hl i hil).1 (closed_forced hb hf (by omega) ho h1 (fun m o' hm ho' e he hbe => (hl e.on (by have := hback m o' ho' e he hbe; have := (List.getElem?_eq_some_iff.1 ho').1; omega)).2 (by have := hback m o' ho' e he hbe; have := (hl m (List.getElem?_eq_some_iff.1 ho').1).1 hm; omega)) hej)) (by omega)
    subst hji
    rw [List.drop_eq_getElem_cons hil] at h
    have ho' : l[j] = o := by rw [List.getElem?_eq_getElem hil] at ho; injection ho
    rw [ho'] at h
    refine wpOp_mono (fun a' w' h' => ih (j + 1) (by omega) (by omega) fuel _ a' w' (by omega) (by simp [hs]) (fun m hm => ?_) h') (wpOp_of_list ho h)
    rw [getD_set (by omega)]
    split
    · rename_i e; subst e; simp
    · rename_i e; rw [hl m hm]; omega
theorem cnt_le (L : Nat → Bool) : ∀ m, cnt L m ≤ m := by
  intro m
  induction m with
  | zero => exact Nat.le_refl _
  | succ m ih => simp only [cnt]; cases L m <;> simp <;> omega
theorem cnt_upto {L : Nat → Bool} {n : Nat} (h : ∀ i, i < n → L i = true) (hb : ∀ i, n ≤ i → L i = false) : ∀ m, n ≤ m → cnt L m = m - n := by
  have hz : ∀ q, q ≤ n → cnt L q = 0 := by
    intro q
    induction q with
    | zero => intro _; rfl
    | succ q ihq => intro hq; simp only [cnt]; rw [ihq (by omega), h q (by omega)]; rfl
  intro m
  induction m with
  | zero => intro hn; rw [hz 0 (by omega)]; omega
  | succ m ihm =>
    intro hn
    by_cases hm' : n ≤ m
    · simp only [cnt]; rw [ihm hm', hb m hm']; simp; omega
    · rw [hz (m + 1) (by omega)]; omega
theorem Mid.lt {l : List Oper} {n : Nat} {ks : List PK} {G : List (Nat × Value)} {E : Env} {P : Program} {Hd : Bool → List HP} {q : Nat} {listed : Array Bool} {a : Act} {w : World} {bs : Nat → Nat} (M : Mid P E l n ks G Hd q listed a w bs) {m : Nat} (h : listed.getD m false = true) : m < n := by
  rcases Nat.lt_or_ge m n with h1 | h1
  · exact h1
  · rw [M.below m h1] at h; cases h
theorem depG_true {l : List Oper} {n : Nat} {ks : List PK} {G : List (Nat × Value)} {E : Env} {P : Program} {Hd : Bool → List HP} {q : Nat} {listed : Array Bool} {a : Act} {w : World} {bs : Nat → Nat} (M : Mid P E l n ks G Hd q listed a w bs) {o : Oper}
    (hej : ∀ e ∈ o.after.toList, Region.binds .any e = true → listed.getD e.on false = true) : ∀ s u, look (depG l ks o) s = some u → a.tmps[s]? = some u := by
  intro s u hs
  have hm := look_mem hs
  unfold depG at hm
  rw [List.mem_filterMap] at hm
  obtain ⟨e, he, hv⟩ := hm
  split at hv
  · rename_i hb
    have hl := hej e he hb
    cases ho' : l[e.on]? with
    | none => rw [ho'] at hv; cases hv
    | some o' =>
      rw [ho'] at hv
      cases hk : ks[e.on]? with
      | none => rw [hk] at hv; cases hv
      | some k =>
        rw [hk] at hv
        cases k with
        | new c t p c2 => cases hv
        | put dj c t c2 => cases hv
        | val v =>
          simp only [Option.map_eq_some_iff] at hv
          obtain ⟨d, hd, hdv⟩ := hv
          injection hdv with h1 h2
          subst h1; subst h2
          exact M.fV e.on o' d (.val v) hl ho' hd hk
  · cases hv
/-- Each store of the free part finds the block that it fills; no other is touched. -/
structure PutOK (l : List Oper) (ks : List PK) : Prop where
  put : ∀ p dj c t c2, ks[p]? = some (.put dj c t c2) → ∃ (j : Nat) (oj op : Oper) (e : Edge), ks[j]? = some (.new c t p c2) ∧ l[j]? = some oj ∧ oj.dst = some dj ∧ l[p]? = some op ∧ e ∈ op.after.toList ∧ Region.binds .any e = true ∧ e.on = j
  uniq : ∀ (j j' p : Nat) c t c2 c' t' c2', ks[j]? = some (.new c t p c2) → ks[j']? = some (.new c' t' p c2') → j ≠ j' → c' = c2'
  new : ∀ (j : Nat) c t p c2, ks[j]? = some (.new c t p c2) → c = c2 ∨ PK.isPut ks[p]? = true
theorem PutOK.plain {l : List Oper} {ks : List PK} (h1 : ∀ dj c t c2, PK.put dj c t c2 ∉ ks) (h2 : ∀ c t p c2, PK.new c t p c2 ∈ ks → c = c2) : PutOK l ks :=
  ⟨fun p dj c t c2 h => absurd (List.mem_of_getElem? h) (h1 dj c t c2), fun j j' p c t c2 c' t' c2' _ h _ => h2 c' t' p c2' (List.mem_of_getElem? h), fun j c t p c2 h => .inl (h2 c t p c2 (List.mem_of_getElem? h))⟩
/-- From here on its operations run in whatever order. -/
def WA (P : Program) (E : Env) (l : List Oper) (Q : Pst) (G : List (Nat × Value)) (H : List HP) : Prop := ∀ (a : Act) (w : World), Fr E.N E.ds a G → St E.w0 E.S H w → wpAny P .any l.toArray Q.fn l.toArray.size (Array.replicate l.toArray.size false) a w.drew
theorem CW.of {id : Nat} (hm : P.follows .mixedOrders = true) (h : WA P E l Q G H) : CW P E (.region id l.toArray true) Q G H := fun a w hf hw => wp_region_any hm (h a w hf hw)
/-- A statement whose order is open; one operation, at place q, turns the chunks that are given; one, at place q2, sees what the operation at place j2 has laid. -/
theorem WA.anyU (q q2 j2 : Nat) (Hd : Bool → List HP) (n : Nat) (ks : List PK) (hk : ks.length = n) (hn : Nat.ble n l.length = true) (hb : backB l = true) (hf : forcedB l n = true) (hd : dstB l ks n G = true) (hput : PutOK l ks) (hpd : ∀ (i : Nat) (o : Oper) (d : Nat), i < n → l[i]? = some o → o.dst = some d → PK.isPut ks[i]? = true → False)
    (hq : ∀ k, ks[q]? = some k → ∃ v, k = .val v) (prems : ∀ (i : Nat) (o : Oper) (k : PK), i ≠ q → i ≠ q2 → l[i]? = some o → ks[i]? = some k → ∀ b, Prem P E l.toArray Q (depG l ks o) G (Hd b) o k)
    (premq : ∀ (o : Oper) (v : Value), l[q]? = some o → ks[q]? = some (.val v) → ∀ (Gx : List (Nat × Value)) (X : List HP), RW P E l.toArray (Pst.then (fun a w => ∃ d, o.dst = some d ∧ Fr E.N E.ds a ((d, v) :: (depG l ks o ++ G ++ Gx)) ∧ St E.w0 E.S (Hd true ++ X) w) Q) [o] (depG l ks o ++ G ++ Gx) (Hd false ++ X))
    (hq2 : ∀ o, q2 < n → l[q2]? = some o → ∃ (e : Edge) (oj : Oper) (dj : Nat) (c : Nat → HP) (t : Nat → Value) (p : Nat) (c2 cj : Nat → HP) (tj : Nat → Value) (pj : Nat), e ∈ o.after.toList ∧ Region.binds .any e = true ∧ e.on = j2 ∧ l[j2]? = some oj ∧ oj.dst = some dj ∧ ks[q2]? = some (.new c t p c2) ∧ ks[j2]? = some (.new cj tj pj cj) ∧
      ∀ (b0 : Bool) (b : Nat) (Gx : List (Nat × Value)) (X : List HP), RW P E l.toArray (Pst.then (fun a w => ∃ b' d, o.dst = some d ∧ Fr E.N E.ds a ((d, t b') :: (dj, tj b) :: (depG l ks o ++ G ++ Gx)) ∧ St E.w0 E.S (c b' :: cj b :: (Hd b0 ++ X)) w) Q) [o] ((dj, tj b) :: (depG l ks o ++ G ++ Gx)) (cj b :: (Hd b0 ++ X)))
    (tail : ∀ bs, RW P E l.toArray Q (l.drop n) (outG l ks bs ++ G) (Hd (decide (q < n)) ++ newH l ks bs)) : WA P E l Q G (Hd false) := by
  have hnl : n ≤ l.length := by simpa [Nat.ble_eq] using hn
  have hback : ∀ (i : Nat) (o : Oper), l[i]? = some o → ∀ e ∈ o.after.toList, Region.binds .any e = true → e.on < i := by
    intro i o ho e he hbe
    have hi : i < l.length := (List.getElem?_eq_some_iff.1 ho).1
    have := (List.all_eq_true.1 hb) i (List.mem_range.2 hi)
    rw [ho] at this
    have h9 := (List.all_eq_true.1 this) e he
    simpa [hbe] using h9
  have hdst : ∀ i, i < n → PK.isPut ks[i]? = false → ∃ (o : Oper) (d : Nat), l[i]? = some o ∧ o.dst = some d ∧ look G d = none ∧ ∀ (j : Nat) (o' : Oper) (d' : Nat), j < n → l[j]? = some o' → o'.dst = some d' → d = d' → i = j := by
    intro i hi hnp
    have h1 := (List.all_eq_true.1 hd) i (List.mem_range.2 hi)
    have hi' : i < l.length := by omega
    rw [List.getElem?_eq_getElem hi'] at h1
    simp only at h1
    cases hdd : l[i].dst with
    | none => rw [hdd] at h1; rw [hnp] at h1; cases h1
    | some d =>
      rw [hdd] at h1
      simp only [Bool.and_eq_true] at h1
      refine ⟨l[i], d, List.getElem?_eq_getElem hi', hdd, by simpa using h1.1, fun j o' d' hj ho' hd' he => ?_⟩
      have h2 := (List.all_eq_true.1 h1.2) j (List.mem_range.2 hj)
      rw [ho'] at h2
      simp only [hd'] at h2
      subst he
      simpa using h2
  have hnodst : ∀ i, i < n → PK.isPut ks[i]? = true → ∀ o, l[i]? = some o → ∀ d, o.dst ≠ some d := by
    intro i hi hp o ho d hdd
    exact hpd i o d hi ho hdd hp
  have toTail : ∀ (listed : Array Bool) (a : Act) (w : World) (bs : Nat → Nat), Mid P E l n ks G Hd q listed a w bs → (∀ i, i < n → listed.getD i false = true) → wpList P l.toArray Q.fn (l.drop n) a w := by
    intro listed a w bs M hall
    refine tail bs a w ⟨M.fN, M.fd, fun s u hs => ?_⟩ ?_
    · rcases look_append hs with hs | hs
      · obtain ⟨i, o, k, h1, h2, h3, h4⟩ := look_outG hs
        have hi : i < n := by have := (List.getElem?_eq_some_iff.1 h2).1; omega
        rw [h4]
        exact M.fV i o s k (hall i hi) h1 h3 h2
      · exact M.fG s u hs
    · have := M.st
      rw [show listed.getD q false = decide (q < n) from (by
        by_cases hqn : q < n
        · rw [hall q hqn, decide_eq_true hqn]
        · rw [M.below q (by omega), decide_eq_false hqn])] at this
      rwa [laidH_all (fun j _ hj => hall j (by omega)) (fun c t p c2 hm => ?_)] at this
      obtain ⟨j, hj⟩ := List.mem_iff_getElem?.1 hm
      rcases hput.new j c t p c2 hj with h | h
      · rw [h]; split <;> rfl
      · have hp : p < n := by
          rcases Nat.lt_or_ge p ks.length with h2 | h2
          · omega
          · rw [List.getElem?_eq_none h2] at h; cases h
        show (if listed.getD p false = true then c2 else c) = c2
        rw [if_pos (hall p hp)]
  intro a w hfr hst
  have key : ∀ (fuel : Nat) (listed : Array Bool) (a : Act) (w : World) (bs : Nat → Nat), Mid P E l n ks G Hd q listed a w bs → cnt (fun i => listed.getD i false) l.length ≤ fuel → wpAny P .any l.toArray Q.fn fuel listed a w := by
    intro fuel
    induction fuel with
    | zero =>
      intro listed a w bs M hc
      -- nothing is left: n = l.length
      have hall : ∀ i, i < l.length → listed.getD i false = true := fun i hi => by
        cases hx : listed.getD i false with
        | true => rfl
        | false => exact absurd (cnt_pos (L := fun i => listed.getD i false) hx l.length hi) (by omega)
      have hnl' : n = l.length := by
        rcases Nat.lt_or_ge n l.length with h | h
        · have := M.below n (Nat.le_refl _); rw [hall n h] at this; cases this
        · omega
      refine tail_any hb hf 0 l.length (by omega) (by omega) 0 listed a w (Nat.le_refl _) M.size (fun j hj => ⟨fun _ => hj, fun _ => hall j hj⟩) ?_
      rw [← hnl']
      exact toTail listed a w bs M (fun i hi => hall i (by omega))
    | succ fuel ih =>
      intro listed a w bs M hc
      by_cases hall : ∀ i, i < n → listed.getD i false = true
      · have hcn : l.length - n ≤ fuel + 1 := by
          have : cnt (fun i => listed.getD i false) l.length = l.length - n := cnt_upto hall M.below l.length hnl
          omega
        exact tail_any hb hf (l.length - n) n (by omega) (Nat.le_refl _) (fuel + 1) listed a w hcn M.size (fun j hj => ⟨fun h => M.lt h, fun h => hall j h⟩) (toTail listed a w bs M hall)
      · have hex : ∃ i, i < n ∧ listed.getD i false = false ∧ ∀ j, j < i → listed.getD j false = true := by
          have : ∀ m, (∀ i, i < m → listed.getD i false = true) ∨ ∃ i, i < m ∧ listed.getD i false = false ∧ ∀ j, j < i → listed.getD j false = true := by
            intro m
            induction m with
            | zero => exact .inl (fun i hi => by omega)
            | succ m ihm =>
              rcases ihm with h | ⟨i, h1, h2, h3⟩
              · cases hx : listed.getD m false with
                | true => exact .inl (fun i hi => if h4 : i < m then h i h4 else (show m = i by omega) ▸ hx)
                | false => exact .inr ⟨m, by omega, hx, h⟩
              · exact .inr ⟨i, by omega, h2, h3⟩
          rcases this n with h | h
          · exact absurd h hall
          · exact h
        obtain ⟨i0, hi0, hi0f, hi0a⟩ := hex
        have hrdy : i0 ∈ Region.ready .any l.toArray listed := (ready_iff M.size i0).2 ⟨l[i0], List.getElem?_eq_getElem (by omega), hi0f, fun e he hbe => hi0a _ (hback i0 _ (List.getElem?_eq_getElem (by omega)) e he hbe)⟩
        refine ⟨(fun h => by rw [h] at hrdy; cases hrdy), fun i hi => ?_⟩
        obtain ⟨o, ho, hlf, hej⟩ := (ready_iff M.size i).1 hi
        have hin : i < n := by
          rcases Nat.lt_or_ge i n with h | h
          · exact h
          · have := closed_forced (L := fun i => listed.getD i false) hb hf h ho (show i0 < i by omega) M.down hej
            rw [hi0f] at this; cases this
        have hki : i < ks.length := by omega
        have hget : ∀ j, j ≠ i → (listed.setIfInBounds i true).getD j false = listed.getD j false := fun j hj => by rw [getD_set (by rw [M.size]; omega), if_neg (Ne.symm hj)]
        have hseti : (listed.setIfInBounds i true).getD i false = true := by rw [getD_set (by rw [M.size]; omega), if_pos rfl]
        have hcells : PK.isPut ks[i]? = false → ∀ c t q c2, PK.new c t q c2 ∈ ks → (if listed.getD q false = true then c2 else c) = (if (listed.setIfInBounds i true).getD q false = true then c2 else c) := fun hnp c t q c2 hm => by
          obtain ⟨j, hj⟩ := List.mem_iff_getElem?.1 hm
          rcases hput.new j c t q c2 hj with h | h
          · rw [h]; simp
          · rw [hget q (fun e => by subst e; rw [hnp] at h; cases h)]
        have hP0 : i ≠ q → i ≠ q2 → Prem P E l.toArray Q (depG l ks o) G (Hd (listed.getD q false)) o ks[i] := fun hiq hi2 => prems i o ks[i] hiq hi2 ho (List.getElem?_eq_getElem hki) _
        have hnew2 : i = q2 → ∃ c t p c2, ks[i] = .new c t p c2 := fun e => by
          obtain ⟨_, _, _, c, t, p, c2, _, _, _, _, _, _, _, _, h, _⟩ := hq2 o (by omega) (by rw [← e]; exact ho)
          rw [← e, List.getElem?_eq_getElem hki] at h
          exact ⟨c, t, p, c2, Option.some.inj h⟩
        have hbq : i ≠ q → (listed.setIfInBounds i true).getD q false = listed.getD q false := fun h => hget q (Ne.symm h)
        have hvq : (∀ v, ks[i] ≠ .val v) → i ≠ q := fun h e => by
          obtain ⟨v, hv⟩ := hq ks[i] (by rw [← e]; exact List.getElem?_eq_getElem hki)
          exact h v hv
        have hDep := depG_true M hej
        have hsnap : Fr E.N E.ds a (depG l ks o ++ G ++ idx 0 a.tmps.toList) := ⟨M.fN, M.fd, fun s u hs => by
          rcases look_append hs with hs | hs
          · exact (look_append hs).elim (hDep s u) (M.fG s u)
          · have := look_idx _ 0 s u hs; simpa using this.2⟩
        have hcnt : cnt (fun j => (listed.setIfInBounds i true).getD j false) l.length ≤ fuel := by
          have := cnt_set (L := fun j => listed.getD j false) (L' := fun j => (listed.setIfInBounds i true).getD j false) (p := i) (fun j hj => by show (listed.setIfInBounds i true).getD j false = listed.getD j false; rw [getD_set (by rw [M.size]; omega), if_neg (Ne.symm hj)]) hlf (by show (listed.setIfInBounds i true).getD i false = true; rw [getD_set (by rw [M.size]; omega), if_pos rfl]) l.length (by omega)
          omega
        have hdown' : ∀ (m : Nat) (o' : Oper), (listed.setIfInBounds i true).getD m false = true → l[m]? = some o' → ∀ e ∈ o'.after.toList, Region.binds .any e = true → (listed.setIfInBounds i true).getD e.on false = true := by
          intro m o' hm' ho' e he hbi
          rw [getD_set (by rw [M.size]; omega)] at hm' ⊢
          split
          · rfl
          · split at hm'
            · rename_i e2; subst e2; rw [ho] at ho'; injection ho' with ho'; subst ho'; exact hej e he hbi
            · exact M.down m o' hm' ho' e he hbi
        have hbelow' : ∀ j, n ≤ j → (listed.setIfInBounds i true).getD j false = false := fun j hj => by rw [getD_set (by rw [M.size]; omega), if_neg (by omega)]; exact M.below j hj
        cases hkk : ks[i] with
        | put dj c t c2 =>
          have hiq := hvq (fun v e => by rw [hkk] at e; cases e)
          have hP := hP0 hiq (fun e => by obtain ⟨c, t, p, c2, h⟩ := hnew2 e; rw [hkk] at h; cases h)
          rw [hkk] at hP
          obtain ⟨j, oj, op, e, hkj, hoj, hdj, hop, he, hbe, hej2⟩ := hput.put i dj c t c2 (by rw [List.getElem?_eq_getElem hki, hkk])
          rw [ho] at hop; injection hop with hop; subst hop
          have hjl : listed.getD j false = true := hej2 ▸ hej e he hbe
          have hji : j ≠ i := fun e2 => by rw [e2, hlf] at hjl; cases hjl
          have hptr := M.fV j oj dj _ hjl hoj hdj hkj
          obtain ⟨X, hX, hX'⟩ := laidH_put (L := fun i => listed.getD i false) (L' := fun j => (listed.setIfInBounds i true).getD j false) (bs := bs) (p := i) (j := j) (fun m hm => (hget m hm).symm) hlf hseti hjl (os := l) (r := ks) (i := 0) (Nat.zero_le _)
            (fun m c' t' q c2' _ hm hk' => by
              rw [Nat.sub_zero] at hk'
              show (if listed.getD q false = true then c2' else c') = (if (listed.setIfInBounds i true).getD q false = true then c2' else c')
              by_cases hq : q = i
              · subst hq
                rw [hput.uniq j m q c t c2 c' t' c2' hkj hk' (Ne.symm hm)]
                simp
              · rw [hget q hq])
            (fun _ => by rw [Nat.sub_zero, List.getElem?_eq_getElem hki, hkk]; rfl) (o := oj) (d := dj) (c := c) (t := t) (c2 := c2) (by simpa using hoj) hdj (by simpa using hkj)
          have hfr1 : Fr E.N E.ds a ((dj, t (bs dj)) :: (depG l ks o ++ G ++ idx 0 a.tmps.toList)) := ⟨M.fN, M.fd, fun s u hs => by
            unfold look at hs
            cases hb : Nat.beq dj s with
            | true =>
              rw [hb] at hs
              have : dj = s := Nat.eq_of_beq_eq_true hb
              subst this
              simp only [Option.some.injEq] at hs
              subst hs
              exact hptr
            | false => rw [hb] at hs; exact hsnap.at_ s u hs⟩
          have hst1 : St E.w0 E.S (c (bs dj) :: (Hd (listed.getD q false) ++ X)) w := M.st.perm ((List.Perm.append_left _ hX).trans List.perm_middle)
          have h1 := hP (bs dj) (idx 0 a.tmps.toList) X a w hfr1 hst1
          refine wpOp_then (wpOp_mono (fun a' w' h' => ?_) (wpOp_of_list ho h1))
          obtain ⟨hfr', hst'⟩ := h'
          have hkeep : ∀ s u, a.tmps[s]? = some u → a'.tmps[s]? = some u := fun s u hs => by
            by_cases hsd : s = dj
            · subst hsd
              rw [hptr] at hs
              injection hs with hs
              subst hs
              exact hfr'.at_ _ _ (by simp [look, Nat.beq_refl, PK.out])
            · exact slot_kept hDep M.fG hfr' hsd hs
          refine ih _ a' w' bs ⟨by simp [M.size], hbelow', hdown', hfr'.size, hfr'.defers, fun s u hs => hkeep s u (M.fG s u hs), fun m o' d' k hm' ho' hd' hk' => ?_, ?_⟩ hcnt
          · by_cases hmi : m = i
            · subst hmi
              rw [List.getElem?_eq_getElem hki, hkk] at hk'; injection hk' with hk'; subst hk'
              rw [ho] at ho'; injection ho' with ho'; subst ho'
              exact absurd hd' (hnodst m hin (by rw [List.getElem?_eq_getElem hki, hkk]; rfl) o ho d')
            · rw [hget m hmi] at hm'
              exact hkeep _ _ (M.fV m o' d' k hm' ho' hd' hk')
          · rw [hbq hiq]
            exact hst'.perm (List.perm_middle.symm.trans (List.Perm.append_left _ hX'.symm))
        | val v =>
          have hnp : PK.isPut ks[i]? = false := by rw [List.getElem?_eq_getElem hki, hkk]; rfl
          obtain ⟨o2, d, ho2, hdd, hGd, huniq⟩ := hdst i hin hnp
          rw [ho] at ho2
          injection ho2 with ho2
          subst ho2
          have h1 : wpList P l.toArray (Pst.then (fun a' w => ∃ d, o.dst = some d ∧ Fr E.N E.ds a' ((d, v) :: (depG l ks o ++ G ++ idx 0 a.tmps.toList)) ∧ St E.w0 E.S (Hd ((listed.setIfInBounds i true).getD q false) ++ laidH (fun i => listed.getD i false) l ks 0 bs) w) Q).fn [o] a w := by
            by_cases hiq : i = q
            · have hst0 := M.st
              rw [← hiq, hlf] at hst0
              rw [← hiq, hseti]
              exact premq o v (by rw [← hiq]; exact ho) (by rw [← hiq, List.getElem?_eq_getElem hki, hkk]) (idx 0 a.tmps.toList) (laidH (fun i => listed.getD i false) l ks 0 bs) a w hsnap hst0
            · have hP := hP0 hiq (fun e => by obtain ⟨c, t, p, c2, h⟩ := hnew2 e; rw [hkk] at h; cases h)
              rw [hkk] at hP
              rw [hbq hiq]
              exact hP (idx 0 a.tmps.toList) (laidH (fun i => listed.getD i false) l ks 0 bs) a w hsnap M.st
          refine wpOp_then (wpOp_mono (fun a' w' h' => ?_) (wpOp_of_list ho h1))
          obtain ⟨d2, hd2, hfr', hst'⟩ := h'
          rw [hdd] at hd2
          injection hd2 with hd2
          subst hd2
          refine ih _ a' w' bs ⟨by simp [M.size], hbelow', hdown', hfr'.size, hfr'.defers, fun s u hs => ?_, fun m o' d' k hm' ho' hd' hk' => ?_, ?_⟩ hcnt
          · exact slot_kept hDep M.fG hfr' (fun e => by subst e; rw [hGd] at hs; cases hs) (M.fG s u hs)
          · rw [getD_set (by rw [M.size]; omega)] at hm'
            by_cases hmi : i = m
            · subst hmi
              rw [ho] at ho'; injection ho' with ho'; subst ho'
              rw [hdd] at hd'; injection hd' with hd'; subst hd'
              rw [List.getElem?_eq_getElem hki, hkk] at hk'; injection hk' with hk'; subst hk'
              exact hfr'.at_ _ _ (by simp [look, Nat.beq_refl, PK.out])
            · rw [if_neg hmi] at hm'
              have hmn : m < n := M.lt hm'
              refine slot_kept hDep M.fG hfr' (fun e => hmi (huniq m o' d' hmn ho' hd' e.symm)) (M.fV m o' d' k hm' ho' hd' hk')
          · have : laidH (fun i_1 => (listed.setIfInBounds i true).getD i_1 false) l ks 0 bs = laidH (fun i => listed.getD i false) l ks 0 bs := by
              exact laidH_val (p := i) (v := v) (fun j hj => by rw [getD_set (by rw [M.size]; omega), if_neg (Ne.symm hj)]) (fun _ => by rw [Nat.sub_zero, List.getElem?_eq_getElem hki, hkk]) (fun c t q c2 hm => (hcells hnp c t q c2 hm).symm)
            rw [this]; exact hst'
        | new c t q0 c2 =>
          have hiq := hvq (fun v e => by rw [hkk] at e; cases e)
          have hnp : PK.isPut ks[i]? = false := by rw [List.getElem?_eq_getElem hki, hkk]; rfl
          obtain ⟨o2, d, ho2, hdd, hGd, huniq⟩ := hdst i hin hnp
          rw [ho] at ho2
          injection ho2 with ho2
          subst ho2
          have hop : Go.wpOp P l.toArray Q.fn i (fun a' w => ∃ b d, o.dst = some d ∧ Fr E.N E.ds a' ((d, t b) :: (depG l ks o ++ G ++ idx 0 a.tmps.toList)) ∧ St E.w0 E.S (c b :: (Hd (listed.getD q false) ++ laidH (fun i => listed.getD i false) l ks 0 bs)) w) a w := by
            by_cases hi2 : i = q2
            · obtain ⟨e, oj, dj, c', t', p', c2', cj, tj, pj, he, hbe, hej2, hoj, hdj, hk2, hkj, hp2⟩ := hq2 o (by omega) (by rw [← hi2]; exact ho)
              rw [← hi2, List.getElem?_eq_getElem hki, hkk] at hk2
              injection hk2 with hk2
              injection hk2 with e1 e2 e3 e4
              subst e1; subst e2
              have hjl : listed.getD j2 false = true := hej2 ▸ hej e he hbe
              have hptr := M.fV j2 oj dj _ hjl hoj hdj hkj
              obtain ⟨X, hX⟩ := laidH_get (L := fun i => listed.getD i false) (bs := bs) (j := j2) hjl (os := l) (r := ks) (i := 0) (Nat.zero_le _) (by simpa using hoj) hdj (by simpa using hkj)
              have hfr1 : Fr E.N E.ds a ((dj, tj (bs dj)) :: (depG l ks o ++ G ++ idx 0 a.tmps.toList)) := ⟨M.fN, M.fd, fun s u hs => by
                unfold look at hs
                cases hb : Nat.beq dj s with
                | true =>
                  rw [hb] at hs
                  have : dj = s := Nat.eq_of_beq_eq_true hb
                  subst this
                  simp only [Option.some.injEq] at hs
                  subst hs
                  exact hptr
                | false => rw [hb] at hs; exact hsnap.at_ s u hs⟩
              have hst1 : St E.w0 E.S (cj (bs dj) :: (Hd (listed.getD q false) ++ X)) w := M.st.perm ((List.Perm.append_left _ hX).trans List.perm_middle)
              have h1 := hp2 (listed.getD q false) (bs dj) (idx 0 a.tmps.toList) X a w hfr1 hst1
              refine wpOp_then (wpOp_mono (fun a' w' h' => ?_) (wpOp_of_list ho h1))
              obtain ⟨b', d', hd', hfr', hst'⟩ := h'
              rw [hdd] at hd'
              injection hd' with hd'
              subst hd'
              refine ⟨b', d, hdd, ⟨hfr'.size, hfr'.defers, fun s u hs => ?_⟩, hst'.perm (List.Perm.cons _ (List.perm_middle.symm.trans (List.Perm.append_left _ hX.symm)))⟩
              unfold look at hs
              cases hb : Nat.beq d s with
              | true => rw [hb] at hs; exact hfr'.at_ s u (by unfold look; rw [hb]; exact hs)
              | false =>
                rw [hb] at hs
                refine hfr'.at_ s u (by
                  unfold look
                  rw [hb]
                  simp only
                  unfold look
                  cases hb2 : Nat.beq dj s with
                  | false => exact hs
                  | true =>
                    have : dj = s := Nat.eq_of_beq_eq_true hb2
                    subst this
                    have h9 := hsnap.at_ _ u hs
                    rw [hptr] at h9
                    simpa [PK.out] using h9)
            · have hP := hP0 hiq hi2
              rw [hkk] at hP
              exact wpOp_then (wpOp_of_list ho (hP (idx 0 a.tmps.toList) (laidH (fun i => listed.getD i false) l ks 0 bs) a w hsnap M.st))
          refine wpOp_mono (fun a' w' h' => ?_) hop
          obtain ⟨b, d2, hd2, hfr', hst'⟩ := h'
          rw [hdd] at hd2
          injection hd2 with hd2
          subst hd2
          refine ih _ a' w' (fun s => if s = d then b else bs s) ⟨by simp [M.size], hbelow', hdown', hfr'.size, hfr'.defers, fun s u hs => ?_, fun m o' d' k hm' ho' hd' hk' => ?_, ?_⟩ hcnt
          · exact slot_kept hDep M.fG hfr' (fun e => by subst e; rw [hGd] at hs; cases hs) (M.fG s u hs)
          · rw [getD_set (by rw [M.size]; omega)] at hm'
            by_cases hmi : i = m
            · subst hmi
              rw [ho] at ho'; injection ho' with ho'; subst ho'
              rw [hdd] at hd'; injection hd' with hd'; subst hd'
              rw [List.getElem?_eq_getElem hki, hkk] at hk'; injection hk' with hk'; subst hk'
              rw [if_pos rfl]
              exact hfr'.at_ _ _ (by simp [look, Nat.beq_refl, PK.out])
            · rw [if_neg hmi] at hm'
              have hmn : m < n := M.lt hm'
              have hne : d' ≠ d := fun e => hmi (huniq m o' d' hmn ho' hd' e.symm)
              rw [if_neg hne]
              exact slot_kept hDep M.fG hfr' hne (M.fV m o' d' k hm' ho' hd' hk')
          · have hp := laidH_add (L := fun i => listed.getD i false) (L' := fun j => (listed.setIfInBounds i true).getD j false) (bs := bs) (bs' := fun s => if s = d then b else bs s) (p := i) (os := l) (r := ks) (i := 0) (Nat.zero_le _)
              (fun j hj => by show listed.getD j false = (listed.setIfInBounds i true).getD j false; rw [getD_set (by rw [M.size]; omega), if_neg (Ne.symm hj)]) hlf (by show (listed.setIfInBounds i true).getD i false = true; rw [getD_set (by rw [M.size]; omega), if_pos rfl])
              (fun j o' d' h1 h2 h3 h4 => by
                simp only [Nat.zero_add] at h4
                have hne : d' ≠ d := fun e => by
                  have := huniq j o' d' (by omega) h1 h2 e.symm
                  subst this
                  rw [hlf] at h4; cases h4
                simp [hne]) (hcells hnp) (o := o) (d := d) (c := c) (t := t) (by simpa using ho) hdd (by rw [Nat.sub_zero, List.getElem?_eq_getElem hki, hkk]) (by
                show (if (listed.setIfInBounds i true).getD q0 false = true then c2 else c) = c
                have hki' : ks[i]? = some (.new c t q0 c2) := by rw [List.getElem?_eq_getElem hki, hkk]
                rcases hput.new i c t q0 c2 hki' with h | h
                · rw [h]; split <;> rfl
                · cases hq : ks[q0]? with
                  | none => rw [hq] at h; cases h
                  | some kq =>
                    rw [hq] at h
                    cases kq with
                    | put dj c' t' c2' =>
                      obtain ⟨j, oj, op, e, hkj, hoj, hdj, hop, he, hbe, hej2⟩ := hput.put q0 dj c' t' c2' hq
                      have hqi : q0 ≠ i := fun e2 => by subst e2; rw [hki'] at hq; cases hq
                      by_cases hji : j = i
                      · rw [hget q0 hqi]
                        cases hlq : listed.getD q0 false with
                        | false => rfl
                        | true =>
                          have := M.down q0 op hlq hop e he hbe
                          rw [hej2, hji, hlf] at this; cases this
                      · have := hput.uniq j i q0 c' t' c2' c t c2 hkj hki' hji
                        rw [this]; split <;> rfl
                    | val v => cases h
                    | new _ _ _ _ => cases h)
            simp only [if_true] at hp
            rw [hbq hiq]
            refine hst'.perm ?_
            exact List.perm_middle.symm.trans (List.Perm.append_left _ hp)
  have hrep : ∀ j, (Array.replicate l.toArray.size false).getD j false = false := fun j => by
    simp only [Array.getD_eq_getD_getElem?, Array.getElem?_replicate]
    split <;> rfl
  refine key l.toArray.size _ a w.drew (fun _ => 0) ⟨by simp, fun i _ => hrep i, fun i o h => (by rw [hrep i] at h; cases h), hfr.size, hfr.defers, hfr.at_, fun i o d k h => (by rw [hrep i] at h; cases h), ?_⟩ ?_
  · have : laidH (fun i => (Array.replicate l.toArray.size false).getD i false) l ks 0 (fun _ => 0) = [] := laidH_none hrep
    rw [this, List.append_nil, hrep q]
    exact hst.drew
  · simpa using cnt_le (fun i => (Array.replicate l.toArray.size false).getD i false) l.length
/-- .. none sees what another has laid. -/
theorem WA.anyT (q : Nat) (Hd : Bool → List HP) (n : Nat) (ks : List PK) (hk : ks.length = n) (hn : Nat.ble n l.length = true) (hb : backB l = true) (hf : forcedB l n = true) (hd : dstB l ks n G = true) (hput : PutOK l ks) (hpd : ∀ (i : Nat) (o : Oper) (d : Nat), i < n → l[i]? = some o → o.dst = some d → PK.isPut ks[i]? = true → False)
    (hq : ∀ k, ks[q]? = some k → ∃ v, k = .val v) (prems : ∀ (i : Nat) (o : Oper) (k : PK), i ≠ q → l[i]? = some o → ks[i]? = some k → ∀ b, Prem P E l.toArray Q (depG l ks o) G (Hd b) o k)
    (premq : ∀ (o : Oper) (v : Value), l[q]? = some o → ks[q]? = some (.val v) → ∀ (Gx : List (Nat × Value)) (X : List HP), RW P E l.toArray (Pst.then (fun a w => ∃ d, o.dst = some d ∧ Fr E.N E.ds a ((d, v) :: (depG l ks o ++ G ++ Gx)) ∧ St E.w0 E.S (Hd true ++ X) w) Q) [o] (depG l ks o ++ G ++ Gx) (Hd false ++ X))
    (tail : ∀ bs, RW P E l.toArray Q (l.drop n) (outG l ks bs ++ G) (Hd (decide (q < n)) ++ newH l ks bs)) : WA P E l Q G (Hd false) :=
  WA.anyU q l.length 0 Hd n ks hk hn hb hf hd hput hpd hq (fun i o k h1 _ ho hk' b => prems i o k h1 ho hk' b) premq (fun o _ ho => by rw [List.getElem?_eq_none (Nat.le_refl _)] at ho; cases ho) tail
/-- .. none turns what is given. -/
theorem WA.any (n : Nat) (ks : List PK) (hk : ks.length = n) (hn : Nat.ble n l.length = true) (hb : backB l = true) (hf : forcedB l n = true) (hd : dstB l ks n G = true) (hput : PutOK l ks) (hpd : ∀ (i : Nat) (o : Oper) (d : Nat), i < n → l[i]? = some o → o.dst = some d → PK.isPut ks[i]? = true → False)
    (prems : Prems P E l.toArray Q l ks G H l ks) (tail : ∀ bs, RW P E l.toArray Q (l.drop n) (outG l ks bs ++ G) (H ++ newH l ks bs)) : WA P E l Q G H := by
  have hnl : n ≤ l.length := by simpa [Nat.ble_eq] using hn
  have hno : ks[l.length]? = none := List.getElem?_eq_none (by omega)
  refine WA.anyT l.length (fun _ => H) n ks hk hn hb hf hd hput hpd (fun k h => by rw [hno] at h; cases h) (fun i o k _ ho hk' b => Prems.at_ prems i o k ho hk') (fun o v ho _ => by rw [List.getElem?_eq_none (Nat.le_refl _)] at ho; cases ho) tail
end
end Go.Proofs.YtbcdgcodnkgdoaaGreat
