/- The runner for closed calls: what its names and tables say of a world. Conditions: none. -/
import Derived.Test.YtbcdgcodnkgdoaaGreatRu0
import Derived.Test.YtbcdgcodnkgdoaaGreatZ
set_option linter.unusedVariables false
set_option linter.unusedSimpArgs false
namespace Go.Proofs.YtbcdgcodnkgdoaaGreat.Run
open Go Go.RowKit

/-! ### tables -/
theorem T.at_put {α : Type} {s : T α} {x : α} : ∀ (d : Nat) (t : T α) (k j : Nat), k < 2 ^ d → j < 2 ^ d → (t.put d k s).at j = some x → (j = k ∧ s.at 0 = some x) ∨ (j ≠ k ∧ t.at j = some x) := by
  intro d
  induction d with
  | zero =>
    intro t k j hk hj h
    have hk0 : k = 0 := by omega
    have hj0 : j = 0 := by omega
    subst hk0; subst hj0
    exact .inl ⟨rfl, h⟩
  | succ d ih =>
    intro t k j hk hj h
    have e2 : 2 ^ (d + 1) = 2 ^ d * 2 := Nat.pow_succ 2 d
    have hk2 : k / 2 < 2 ^ d := by omega
    have hj2 : j / 2 < 2 ^ d := by omega
    have hat : ∀ (l r : T α), (T.nd l r).at j = Bool.rec (motive := fun _ => Option α) (r.at (Nat.div j 2)) (l.at (Nat.div j 2)) (Nat.beq (Nat.mod j 2) 0) := fun _ _ => rfl
    have hput : t.put (d + 1) k s = Bool.rec (motive := fun _ => T α) (.nd t.fst (t.snd.put d (Nat.div k 2) s)) (.nd (t.fst.put d (Nat.div k 2) s) t.snd) (Nat.beq (Nat.mod k 2) 0) := rfl
    have ed : ∀ a, Nat.div a 2 = a / 2 := fun _ => rfl
    have em : ∀ a, Nat.mod a 2 = a % 2 := fun _ => rfl
    have hfst : ∀ y, t.fst.at (j / 2) = some y → j % 2 = 0 → t.at j = some y := fun y hy hm => by
      cases t with
      | e => cases hy
      | lf v => cases hy
      | nd l r =>
        have hb : Nat.beq (Nat.mod j 2) 0 = true := by rw [em, hm]; rfl
        rw [hat, hb]; exact hy
    have hsnd : ∀ y, t.snd.at (j / 2) = some y → j % 2 ≠ 0 → t.at j = some y := fun y hy hm => by
      cases t with
      | e => cases hy
      | lf v => cases hy
      | nd l r =>
        have hb : Nat.beq (Nat.mod j 2) 0 = false := by rw [em, (by omega : j % 2 = 1)]; rfl
        rw [hat, hb]; exact hy
    rw [hput] at h
    by_cases hkm : k % 2 = 0
    · have hbk : Nat.beq (Nat.mod k 2) 0 = true := by rw [em, hkm]; rfl
      rw [hbk] at h
      by_cases hjm : j % 2 = 0
      · have hbj : Nat.beq (Nat.mod j 2) 0 = true := by rw [em, hjm]; rfl
        rw [show (Bool.rec (motive := fun _ => T α) (.nd t.fst (t.snd.put d (Nat.div k 2) s)) (.nd (t.fst.put d (Nat.div k 2) s) t.snd) true : T α) = .nd (t.fst.put d (Nat.div k 2) s) t.snd from rfl, hat, hbj] at h
        rcases ih t.fst (k / 2) (j / 2) hk2 hj2 h with ⟨h1, h2⟩ | ⟨h1, h2⟩
        · exact .inl ⟨by omega, h2⟩
        · exact .inr ⟨by omega, hfst _ h2 hjm⟩
      · have hbj : Nat.beq (Nat.mod j 2) 0 = false := by rw [em, (by omega : j % 2 = 1)]; rfl
        rw [show (Bool.rec (motive := fun _ => T α) (.nd t.fst (t.snd.put d (Nat.div k 2) s)) (.nd (t.fst.put d (Nat.div k 2) s) t.snd) true : T α) = .nd (t.fst.put d (Nat.div k 2) s) t.snd from rfl, hat, hbj] at h
        exact .inr ⟨by omega, hsnd _ h hjm⟩
    · have hbk : Nat.beq (Nat.mod k 2) 0 = false := by rw [em, (by omega : k % 2 = 1)]; rfl
      rw [hbk] at h
      by_cases hjm : j % 2 = 0
      · have hbj : Nat.beq (Nat.mod j 2) 0 = true := by rw [em, hjm]; rfl
        rw [show (Bool.rec (motive := fun _ => T α) (.nd t.fst (t.snd.put d (Nat.div k 2) s)) (.nd (t.fst.put d (Nat.div k 2) s) t.snd) false : T α) = .nd t.fst (t.snd.put d (Nat.div k 2) s) from rfl, hat, hbj] at h
        exact .inr ⟨by omega, hfst _ h hjm⟩
      · have hbj : Nat.beq (Nat.mod j 2) 0 = false := by rw [em, (by omega : j % 2 = 1)]; rfl
        rw [show (Bool.rec (motive := fun _ => T α) (.nd t.fst (t.snd.put d (Nat.div k 2) s)) (.nd (t.fst.put d (Nat.div k 2) s) t.snd) false : T α) = .nd t.fst (t.snd.put d (Nat.div k 2) s) from rfl, hat, hbj] at h
        rcases ih t.snd (k / 2) (j / 2) hk2 hj2 h with ⟨h1, h2⟩ | ⟨h1, h2⟩
        · exact .inl ⟨by omega, h2⟩
        · exact .inr ⟨by omega, hsnd _ h2 hjm⟩
theorem iteB_none {α : Type} {b : Bool} {o : Option α} {x : α} (h : iteB b o none = some x) : b = true ∧ o = some x := by
  cases b with
  | true => exact ⟨rfl, h⟩
  | false => cases h
theorem blt_lt {a b : Nat} (h : Nat.blt a b = true) : a < b := by simpa [Nat.blt_eq] using h
theorem fget_set {N : Nat} {t : T V} {k j : Nat} {v x : V} (hk : k < N) (h : fget N (fset N t k v) j = some x) : (j = k ∧ x = v) ∨ (j ≠ k ∧ fget N t j = some x) := by
  obtain ⟨hb, h⟩ := iteB_none h
  have hj := blt_lt hb
  have hp : N < 2 ^ (Nat.log2 N + 1) := Nat.lt_log2_self
  rcases T.at_put (Nat.succ (Nat.log2 N)) t k j (Nat.lt_trans hk hp) (Nat.lt_trans hj hp) h with ⟨h1, h2⟩ | ⟨h1, h2⟩
  · exact .inl ⟨h1, (Option.some.inj h2).symm⟩
  · refine .inr ⟨h1, ?_⟩
    unfold fget
    rw [hb]
    exact h2
theorem hput_at {t s : T B} {k j : Nat} {x : B} (hj : j < 4096) (h : (hput t k s).at j = some x) : (j = k ∧ s.at 0 = some x) ∨ (j ≠ k ∧ t.at j = some x) := by
  unfold hput at h
  cases hb : Nat.blt k 4096 with
  | true =>
    rw [hb] at h
    exact T.at_put 12 t k j (blt_lt hb) hj h
  | false =>
    rw [hb] at h
    refine .inr ⟨fun e => ?_, h⟩
    subst e
    have : Nat.blt j 4096 = true := by simpa [Nat.blt_eq] using hj
    rw [this] at hb
    cases hb
theorem Hp.get_eq (h : Hp) (k : Nat) : h.get k = iteB (Nat.blt k 4096) (h.t.at k) none := rfl
theorem Hp.get_set {h : Hp} {k j : Nat} {b x : B} (e : (h.set k b).get j = some x) : (j = k ∧ x = b) ∨ (j ≠ k ∧ h.get j = some x) := by
  rw [Hp.get_eq] at e
  obtain ⟨hb, e⟩ := iteB_none e
  rcases hput_at (blt_lt hb) e with ⟨h1, h2⟩ | ⟨h1, h2⟩
  · exact .inl ⟨h1, (Option.some.inj h2).symm⟩
  · exact .inr ⟨h1, by rw [Hp.get_eq, hb]; exact h2⟩
theorem Hp.get_del {h : Hp} {k j : Nat} {x : B} (e : (h.del k).get j = some x) : j ≠ k ∧ h.get j = some x := by
  rw [Hp.get_eq] at e
  obtain ⟨hb, e⟩ := iteB_none e
  rcases hput_at (blt_lt hb) e with ⟨h1, h2⟩ | ⟨h1, h2⟩
  · cases h2
  · exact ⟨h1, by rw [Hp.get_eq, hb]; exact h2⟩
theorem Hp.get_new {h : Hp} {j : Nat} {b x : B} (e : (h.new b).get j = some x) : (j = h.n ∧ x = b) ∨ (j ≠ h.n ∧ h.get j = some x) := by
  rw [Hp.get_eq] at e
  obtain ⟨hb, e⟩ := iteB_none e
  rcases hput_at (blt_lt hb) e with ⟨h1, h2⟩ | ⟨h1, h2⟩
  · exact .inl ⟨h1, (Option.some.inj h2).symm⟩
  · exact .inr ⟨h1, by rw [Hp.get_eq, hb]; exact h2⟩
@[simp] theorem Hp.n_set (h : Hp) (k : Nat) (b : B) : (h.set k b).n = h.n := rfl
@[simp] theorem Hp.n_del (h : Hp) (k : Nat) : (h.del k).n = h.n := rfl
@[simp] theorem Hp.n_new (h : Hp) (b : B) : (h.new b).n = h.n + 1 := rfl

/-! ### names -/
abbrev Sg := Nat → Option (Nat × Nat)
def Sg.le (σ τ : Sg) : Prop := ∀ k q, σ k = some q → τ k = some q
theorem Sg.le.refl (σ : Sg) : σ.le σ := fun _ _ h => h
theorem Sg.le.trans {σ τ ρ : Sg} (h : σ.le τ) (k : τ.le ρ) : σ.le ρ := fun i q e => k i q (h i q e)
def Sg.add (σ : Sg) (k : Nat) (q : Nat × Nat) : Sg := fun j => if j = k then some q else σ j
theorem Sg.le_add {σ : Sg} {k : Nat} {q : Nat × Nat} (h : σ k = none) : σ.le (σ.add k q) := fun j r e => by
  unfold Sg.add
  split
  · rename_i hj; rw [hj, h] at e; cases e
  · exact e
theorem Sg.add_self (σ : Sg) (k : Nat) (q : Nat × Nat) : σ.add k q k = some q := by simp [Sg.add]

mutual
def den (σ : Sg) : V → Option Value
  | .b x => some (.bool x)
  | .i k n => some (.int k n)
  | .s x => some (.string x)
  | .p0 => some (.pointer none)
  | .p m o => match σ m with
    | some q => some (.pointer (some ⟨q.1, o, none⟩))
    | none => none
  | .l0 => some (.slice none 0 0)
  | .l m off o n => match σ m with
    | some q => some (.slice (some ⟨q.1, off, none⟩) n (q.2 - o))
    | none => none
  | .m0 => some (.map none)
  | .m m => match σ m with
    | some q => some (.map (some q.1))
    | none => none
  | .f0 => some .nilFunc
  | .f g pre caps => match denL σ pre with
    | some a => match denL σ caps with
      | some b => some (.func (.func g) a.toArray b.toArray)
      | none => none
    | none => none
  | .y m => match σ m with
    | some q => some (.func (.yield q.1) #[] #[])
    | none => none
  | .i0 => some .nilIface
  | .a l => match denL σ l with
    | some c => some (.agg c.toArray)
    | none => none
  | .t l => match denL σ l with
    | some c => some (.tuple c.toArray)
    | none => none
def denL (σ : Sg) : List V → Option (List Value)
  | [] => some []
  | v :: r => match den σ v with
    | some x => match denL σ r with
      | some l => some (x :: l)
      | none => none
    | none => none
end
theorem denL_eq (σ : Sg) (v : V) (r : List V) : denL σ (v :: r) = (match den σ v with
    | some x => match denL σ r with
      | some l => some (x :: l)
      | none => none
    | none => none) := by rw [denL]
theorem denL_cons {σ : Sg} {v : V} {r : List V} {l : List Value} : denL σ (v :: r) = some l ↔ ∃ x a, den σ v = some x ∧ denL σ r = some a ∧ l = x :: a := by
  rw [denL_eq]
  constructor
  · intro h
    cases hv : den σ v with
    | none => rw [hv] at h; cases h
    | some x =>
      rw [hv] at h
      cases hr : denL σ r with
      | none => rw [hr] at h; cases h
      | some a => rw [hr] at h; exact ⟨x, a, rfl, rfl, (Option.some.inj h).symm⟩
  · rintro ⟨x, a, h1, h2, rfl⟩
    rw [h1, h2]
@[simp] theorem denL_nil {σ : Sg} : denL σ [] = some [] := by rw [denL]
mutual
theorem den_mono {σ τ : Sg} (h : σ.le τ) : ∀ (v : V) (x : Value), den σ v = some x → den τ v = some x
  | .b _, _, e => e
  | .i _ _, _, e => e
  | .s _, _, e => e
  | .p0, _, e => e
  | .l0, _, e => e
  | .m0, _, e => e
  | .f0, _, e => e
  | .i0, _, e => e
  | .p m o, x, e => by
    unfold den at e ⊢
    cases hm : σ m with
    | none => rw [hm] at e; cases e
    | some q => rw [hm] at e; rw [h m q hm]; exact e
  | .l m off o n, x, e => by
    unfold den at e ⊢
    cases hm : σ m with
    | none => rw [hm] at e; cases e
    | some q => rw [hm] at e; rw [h m q hm]; exact e
  | .m m, x, e => by
    unfold den at e ⊢
    cases hm : σ m with
    | none => rw [hm] at e; cases e
    | some q => rw [hm] at e; rw [h m q hm]; exact e
  | .y m, x, e => by
    unfold den at e ⊢
    cases hm : σ m with
    | none => rw [hm] at e; cases e
    | some q => rw [hm] at e; rw [h m q hm]; exact e
  | .f g pre caps, x, e => by
    unfold den at e ⊢
    cases h1 : denL σ pre with
    | none => rw [h1] at e; cases e
    | some a =>
      rw [h1] at e
      cases h2 : denL σ caps with
      | none => rw [h2] at e; cases e
      | some b =>
        rw [h2] at e
        rw [denL_mono h pre a h1, denL_mono h caps b h2]
        exact e
  | .a l, x, e => by
    unfold den at e ⊢
    cases h1 : denL σ l with
    | none => rw [h1] at e; cases e
    | some a => rw [h1] at e; rw [denL_mono h l a h1]; exact e
  | .t l, x, e => by
    unfold den at e ⊢
    cases h1 : denL σ l with
    | none => rw [h1] at e; cases e
    | some a => rw [h1] at e; rw [denL_mono h l a h1]; exact e
theorem denL_mono {σ τ : Sg} (h : σ.le τ) : ∀ (l : List V) (a : List Value), denL σ l = some a → denL τ l = some a
  | [], _, e => by simpa using e
  | v :: r, a, e => by
    obtain ⟨x, b, h1, h2, rfl⟩ := denL_cons.1 e
    exact denL_cons.2 ⟨x, b, den_mono h v x h1, denL_mono h r b h2, rfl⟩
end
theorem denL_len {σ : Sg} : ∀ {l : List V} {a : List Value}, denL σ l = some a → a.length = l.length := by
  intro l
  induction l with
  | nil => intro a h; simp at h; simp [← h]
  | cons v r ih => intro a h; obtain ⟨x, b, _, h2, rfl⟩ := denL_cons.1 h; simp [ih h2]
theorem denL_at {σ : Sg} : ∀ {l : List V} {a : List Value} {i : Nat} {v : V}, denL σ l = some a → l[i]? = some v → ∃ x, a[i]? = some x ∧ den σ v = some x := by
  intro l
  induction l with
  | nil => intro a i v _ h; simp at h
  | cons u r ih =>
    intro a i v h hi
    obtain ⟨x, b, h1, h2, rfl⟩ := denL_cons.1 h
    cases i with
    | zero => simp at hi; subst hi; exact ⟨x, by simp, h1⟩
    | succ i => simpa using ih h2 (by simpa using hi)
theorem denL_append {σ : Sg} : ∀ {l m : List V} {a b : List Value}, denL σ l = some a → denL σ m = some b → denL σ (l ++ m) = some (a ++ b) := by
  intro l
  induction l with
  | nil => intro m a b h k; simp at h; subst h; simpa using k
  | cons v r ih => intro m a b h k; obtain ⟨x, c, h1, h2, rfl⟩ := denL_cons.1 h; exact denL_cons.2 ⟨x, c ++ b, h1, ih h2 k, rfl⟩
theorem denL_take {σ : Sg} (n : Nat) : ∀ {l : List V} {a : List Value}, denL σ l = some a → denL σ (l.take n) = some (a.take n) := by
  induction n with
  | zero => intro l a h; simp
  | succ n ih =>
    intro l a h
    cases l with
    | nil => simp at h; subst h; simp
    | cons v r => obtain ⟨x, c, h1, h2, rfl⟩ := denL_cons.1 h; exact denL_cons.2 ⟨x, c.take n, h1, ih h2, rfl⟩
theorem denL_drop {σ : Sg} (n : Nat) : ∀ {l : List V} {a : List Value}, denL σ l = some a → denL σ (l.drop n) = some (a.drop n) := by
  induction n with
  | zero => intro l a h; simpa using h
  | succ n ih =>
    intro l a h
    cases l with
    | nil => simp at h; subst h; simp
    | cons v r => obtain ⟨x, c, h1, h2, rfl⟩ := denL_cons.1 h; simpa using ih h2
theorem over_eq {c vs : List V} {o : Nat} (h : o + vs.length ≤ c.length) : over c o vs = c.take o ++ vs ++ c.drop (o + vs.length) := by
  unfold over
  split
  · rename_i v
    simp only [List.length_cons, List.length_nil] at h ⊢
    rw [List.set_eq_take_append_cons_drop, if_pos (by omega)]
    simp
  · rfl
theorem denL_over {σ : Sg} {c vs : List V} {o : Nat} {c' vs' : List Value} (h : o + vs.length ≤ c.length) (h1 : denL σ c = some c') (h2 : denL σ vs = some vs') : denL σ (over c o vs) = some (c'.take o ++ vs' ++ c'.drop (o + vs'.length)) := by
  rw [over_eq h, denL_len h2]
  exact denL_append (denL_append (denL_take _ h1) h2) (denL_drop _ h1)
theorem over_length {c vs : List V} {o : Nat} (h : o + vs.length ≤ c.length) : (over c o vs).length = c.length := by
  rw [over_eq h]; simp; omega
/-- What is told of a value that is written in the program. -/
theorem ofV1_den {σ : Sg} {x : Value} {v : V} (h : ofV1 x = some v) : den σ v = some x := by
  unfold ofV1 at h
  split at h <;> first | (cases h; done) | (obtain rfl := Option.some.inj h; simp [den])
theorem ofVs_den {σ : Sg} : ∀ {l : List Value} {c : List V}, ofVs l = some c → denL σ c = some l := by
  intro l
  induction l with
  | nil => intro c h; simp [ofVs] at h; subst h; simp
  | cons x r ih =>
    intro c h
    unfold ofVs at h
    cases h1 : ofV1 x with
    | none => rw [h1] at h; cases h
    | some v =>
      rw [h1] at h
      cases h2 : ofVs r with
      | none => rw [h2] at h; cases h
      | some d =>
        rw [h2] at h
        obtain rfl := Option.some.inj h
        exact denL_cons.2 ⟨x, r, ofV1_den h1, ih h2, rfl⟩
theorem ofV_den {σ : Sg} {x : Value} {v : V} (h : ofV x = some v) : den σ v = some x := by
  unfold ofV at h
  split at h
  · rename_i cs
    cases h1 : ofVs cs.toList with
    | none => rw [h1] at h; cases h
    | some l => rw [h1] at h; obtain rfl := Option.some.inj h; simp [den, ofVs_den h1]
  · rename_i cs
    split at h
    · rename_i hc; obtain rfl := Option.some.inj h; simp [den]; rw [← Array.toList_inj]; simp [hc]
    · cases h
  · rename_i g pre caps
    split at h
    · rename_i h1 h2
      obtain rfl := Option.some.inj h
      simp [den]
      constructor
      · rw [← Array.toList_inj]; simp [h1]
      · rw [← Array.toList_inj]; simp [h2]
    · cases h
  · exact ofV1_den h
theorem flat_den {σ : Sg} {v : V} {x : Value} (h : den σ v = some x) (h1 : v.flat.all V.one = true) : denL σ v.flat = some x.cells.toList := by
  cases v <;> first
    | (rename_i l
       unfold den at h
       cases h2 : denL σ l with
       | none => rw [h2] at h; cases h
       | some c => rw [h2] at h; first | (obtain rfl := Option.some.inj h; simpa [V.flat, Value.cells] using h2) | (simp [V.flat, V.one] at h1))
    | (have : ∀ c, x ≠ .agg c := by intro c hc; subst hc; unfold den at h; revert h; first | (intro h; cases h; done) | (split <;> intro h <;> first | (cases h; done) | (revert h; split <;> intro h <;> cases h))
       have hx : x.cells = #[x] := by cases x <;> first | rfl | exact absurd rfl (this _)
       simp only [V.flat, hx]
       exact denL_cons.2 ⟨x, [], h, by simp, rfl⟩)
theorem one_den {σ : Sg} {v : V} {x : Value} (h : den σ v = some x) (h1 : v.one = true) : x.oneCell' = true := by
  cases v <;> first
    | (simp [V.one] at h1; done)
    | (unfold den at h; revert h; first | (intro h; obtain rfl := Option.some.inj h; rfl) | (split <;> intro h <;> first | (cases h; done) | (obtain rfl := Option.some.inj h; rfl) | (revert h; split <;> intro h <;> first | (cases h; done) | (obtain rfl := Option.some.inj h; rfl))))
theorem ones_den {σ : Sg} : ∀ {l : List V} {a : List Value}, denL σ l = some a → l.all V.one = true → ∀ x ∈ a, x.oneCell' = true := by
  intro l
  induction l with
  | nil => intro a h _ x hx; simp at h; subst h; simp at hx
  | cons v r ih =>
    intro a h h1 x hx
    obtain ⟨y, b, h2, h3, rfl⟩ := denL_cons.1 h
    simp only [List.all_cons, Bool.and_eq_true] at h1
    rcases List.mem_cons.1 hx with rfl | hx
    · exact one_den h2 h1.1
    · exact ih h3 h1.2 x hx
end Go.Proofs.YtbcdgcodnkgdoaaGreat.Run
