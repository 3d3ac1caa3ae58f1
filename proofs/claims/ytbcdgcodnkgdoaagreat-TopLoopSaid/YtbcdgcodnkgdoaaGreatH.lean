/- The calculus, eighth part: chunks taken together, elements put in, slices of one's own laid open. Conditions: none; everything holds over any program. -/
import Derived.Test.YtbcdgcodnkgdoaaGreatG
set_option linter.unusedVariables false
set_option linter.unusedSimpArgs false
namespace Go.Proofs.YtbcdgcodnkgdoaaGreat
open Go Go.RowKit

theorem St.newp {w0 w : World} {pre r : List HP} {c : HP} (h : St w0 No (pre ++ c :: r) w) : c.p w (fun b => w0.heap.size ≤ b ∧ b < w.heap.size) := by
  obtain ⟨F, hp, hF⟩ := h.get
  exact c.up (fun b hb => ⟨(hF b hb).1.elim (fun k => k.elim) id, (hF b hb).2⟩) hp
/-- Two chunks as one. -/
theorem Sep.two {c d e : HP} {r : List HP} {w : World} {A : Nat → Prop} (hm : ∀ F F2 : Nat → Prop, c.p w F → d.p w F2 → e.p w (fun b => F b ∨ F2 b)) (h : Sep (c :: d :: r) w A) : Sep (e :: r) w A := by
  obtain ⟨F, hF, hp, F2, hF2, hp2, hr⟩ := h
  exact ⟨fun b => F b ∨ F2 b, fun b hb => hb.elim (hF b) (fun k => ⟨(hF2 b k).1.1, (hF2 b k).2⟩), hm F F2 hp hp2, Sep.up (fun b hb => ⟨hb.1.1, fun k => k.elim hb.1.2 hb.2⟩) hr⟩
theorem St.two {w0 w : World} {S : Nat → Prop} {c d e : HP} {r : List HP} (hm : ∀ F F2 : Nat → Prop, c.p w F → d.p w F2 → e.p w (fun b => F b ∨ F2 b)) (h : St w0 S (c :: d :: r) w) : St w0 S (e :: r) w := ⟨h.kp, Sep.two hm h.sep⟩
theorem St.merge_own {w0 w : World} {S : Nat → Prop} {e : TypeId} {t : K} {M : Mem} {sz by_ : Nat} {v : Value} {es : List (List Value)} {xs : List t.V} {r : List HP} (h : St w0 S (ownHP e sz v es :: rdsHP M t es xs :: r) w) (hsz : sz = t.sz) (hb : xs.length * by_ ≤ reach) : St w0 S (rdHP M (.sl by_ t) [v] xs :: r) w :=
  ⟨h.kp, Go.Proofs.YtbcdgcodnkgdoaaGreat.merge_own h.sep hsz hb⟩
theorem All2.insert {α β : Type} {R : α → β → Prop} {xs : List α} {ys : List β} {x : α} {y : β} (h : All2 R xs ys) (hx : R x y) (i : Nat) : All2 R (xs.take i ++ [x] ++ xs.drop i) (ys.take i ++ [y] ++ ys.drop i) := by
  obtain ⟨hl, hr⟩ := h
  refine ⟨by simp [hl], fun j a b ha hb => ?_⟩
  have hlen : (xs.take i ++ [x]).length = (ys.take i ++ [y]).length := by simp [hl]
  have hlt : (xs.take i).length = (ys.take i).length := by simp [hl]
  rcases Nat.lt_or_ge j (xs.take i ++ [x]).length with h1 | h1
  · rw [List.getElem?_append_left h1] at ha
    rw [List.getElem?_append_left (by omega)] at hb
    rcases Nat.lt_or_ge j (xs.take i).length with h2 | h2
    · rw [List.getElem?_append_left h2] at ha
      rw [List.getElem?_append_left (by omega)] at hb
      rw [List.getElem?_take] at ha hb
      split at ha
      · rename_i hji
        rw [if_pos hji] at hb
        exact hr j a b ha hb
      · cases ha
    · rw [List.getElem?_append_right h2] at ha
      rw [List.getElem?_append_right (by omega), ← hlt] at hb
      have : j - (xs.take i).length = 0 := by simp at h1 h2 ⊢; omega
      rw [this] at ha hb
      simp at ha hb
      subst ha; subst hb
      exact hx
  · rw [List.getElem?_append_right h1] at ha
    rw [List.getElem?_append_right (by omega), ← hlen] at hb
    rw [List.getElem?_drop] at ha hb
    exact hr _ a b ha hb
theorem All2.append {α β : Type} {R : α → β → Prop} {xs xs' : List α} {ys ys' : List β} (h : All2 R xs ys) (h' : All2 R xs' ys') : All2 R (xs ++ xs') (ys ++ ys') := by
  obtain ⟨hl, hr⟩ := h
  obtain ⟨hl', hr'⟩ := h'
  refine ⟨by simp [hl, hl'], fun j a b ha hb => ?_⟩
  rcases Nat.lt_or_ge j xs.length with h1 | h1
  · rw [List.getElem?_append_left h1] at ha
    rw [List.getElem?_append_left (by omega)] at hb
    exact hr j a b ha hb
  · rw [List.getElem?_append_right h1] at ha
    rw [List.getElem?_append_right (by omega), ← hl] at hb
    exact hr' _ a b ha hb
theorem All2.nil {α β : Type} {R : α → β → Prop} : All2 R ([] : List α) ([] : List β) := ⟨rfl, fun i a b h => by simp at h⟩
theorem All2.one {α β : Type} {R : α → β → Prop} {x : α} {y : β} (h : R x y) : All2 R [x] [y] := ⟨rfl, fun i a b ha hb => by
  cases i with
  | zero => simp at ha hb; subst ha; subst hb; exact h
  | succ i => simp at ha⟩
theorem rds_insert {M : Mem} {t : K} {es : List (List Value)} {xs : List t.V} {cs : List Value} {x : t.V} {w : World} {F F2 : Nat → Prop} (i : Nat) (h : (rdsHP M t es xs).p w F) (h' : (rdHP M t cs x).p w F2) : (rdsHP M t (es.take i ++ [cs] ++ es.drop i) (xs.take i ++ [x] ++ xs.drop i)).p w (fun b => F b ∨ F2 b) := by
  have k1 : (rdsHP M t es xs).p w (fun b => F b ∨ F2 b) := (rdsHP M t es xs).up (fun b hb => .inl hb) h
  have k2 : (rdHP M t cs x).p w (fun b => F b ∨ F2 b) := (rdHP M t cs x).up (fun b hb => .inr hb) h'
  exact All2.insert (R := fun cs x => Rd t (M.or (mem w (fun b => F b ∨ F2 b))) cs x) k1 k2 i
theorem rds_append {M : Mem} {t : K} {es es' : List (List Value)} {xs xs' : List t.V} {w : World} {F F2 : Nat → Prop} (h : (rdsHP M t es xs).p w F) (h' : (rdsHP M t es' xs').p w F2) : (rdsHP M t (es ++ es') (xs ++ xs')).p w (fun b => F b ∨ F2 b) := by
  have k1 : (rdsHP M t es xs).p w (fun b => F b ∨ F2 b) := (rdsHP M t es xs).up (fun b hb => .inl hb) h
  have k2 : (rdsHP M t es' xs').p w (fun b => F b ∨ F2 b) := (rdsHP M t es' xs').up (fun b hb => .inr hb) h'
  exact All2.append (R := fun cs x => Rd t (M.or (mem w (fun b => F b ∨ F2 b))) cs x) k1 k2
section
variable {P : Program} {E : Env} {ops : Array Oper} {Q : Pst} {K0 : Act → World → Prop} {rest : List Oper} {G : List (Nat × Value)} {H : List HP}
theorem PW.two {c d : HP} (e : HP) {r : List HP} (hm : ∀ (w : World) (F F2 : Nat → Prop), c.p w F → d.p w F2 → e.p w (fun b => F b ∨ F2 b)) (k : PW E K0 G (e :: r)) : PW E K0 G (c :: d :: r) := fun a w hf hw => k a w hf (hw.two (hm w))
theorem RW.two {c d : HP} (e : HP) {r : List HP} (hm : ∀ (w : World) (F F2 : Nat → Prop), c.p w F → d.p w F2 → e.p w (fun b => F b ∨ F2 b)) (k : RW P E ops Q rest G (e :: r)) : RW P E ops Q rest G (c :: d :: r) := PW.two e hm k
theorem CW.two {c0 : Code} {c d : HP} (e : HP) {r : List HP} (hm : ∀ (w : World) (F F2 : Nat → Prop), c.p w F → d.p w F2 → e.p w (fun b => F b ∨ F2 b)) (k : CW P E c0 Q G (e :: r)) : CW P E c0 Q G (c :: d :: r) := PW.two e hm k
/-- A chunk that asks for no memory. -/
theorem PW.add (c : HP) (hc : ∀ w, St E.w0 E.S H w → c.p w No) (k : PW E K0 G (c :: H)) : PW E K0 G H := fun a w hf hw => k a w hf ⟨hw.kp, No, fun b hb => hb.elim, hc w hw, Sep.up (fun b hb => ⟨hb, fun k => k.elim⟩) hw.sep⟩
theorem RW.add_ (c : HP) (hc : ∀ w, St E.w0 E.S H w → c.p w No) (k : RW P E ops Q rest G (c :: H)) : RW P E ops Q rest G H := PW.add c hc k
theorem CW.add_ {c0 : Code} (c : HP) (hc : ∀ w, St E.w0 E.S H w → c.p w No) (k : CW P E c0 Q G (c :: H)) : CW P E c0 Q G H := PW.add c hc k
end
theorem RetC.up {P : Program} {f : FuncId} {args : List Value} {w : World} {F F' : Nat → Prop} {α : Type} {V : α → Value} {c : α → List HP} (hF : ∀ b, F b → F' b) (h : RetC P f args w F V c) : RetC P f args w F' V c :=
  h.mono (by rintro e w' ⟨x, rfl, hx⟩; exact ⟨x, rfl, hx.kp.mono hF, Sep.up (fun b hb => hb.imp (hF b) id) hx.sep⟩)
/-- A call that hands back new chunks. -/
theorem RW.callN {P : Program} {E : Env} {ops : Array Oper} {Q : Pst} {rest : List Oper} {G : List (Nat × Value)} {H : List HP} {dst : Nat} {ty : TypeId} {pos : String} {af : Array Edge} {l : List Operand} {vs : List Value} {at_ : Array TypeId} {f : FuncId} {α : Type} {V : α → Value} {c : α → List HP}
    (hcall : ∀ args w, (callFunc f args).run P w = .ok (.enter f args) w) (hl : evs G l = some vs) (hc : ∀ w, St E.w0 E.S H w → RetC P f vs w No V c) (hN : Nat.blt dst E.N = true)
    (kk : ∀ x, RW P E ops Q rest ((dst, V x) :: G) (c x ++ H)) : RW P E ops Q (⟨some dst, .call ⟨.value (.func f), l.toArray, at_⟩, ty, pos, af, none⟩ :: rest) G H :=
  RW.call_gen hcall hl (fun a w hf hw => (hc w hw).mono (by
    rintro e w' ⟨x, rfl, hx⟩
    exact kk x _ _ (hf.put hN _) (St.turnF (F := No) hw.kp (fun b hb => hb.elim) (Sep.up (fun b hb => ⟨hb, fun k => k.elim⟩) hw.sep) hx)))
theorem St.pull {w0 w : World} {S : Nat → Prop} (pre : List HP) {r : List HP} {c : HP} (h : St w0 S (pre ++ c :: r) w) : St w0 S (c :: (pre ++ r)) w := h.perm List.perm_middle
theorem RW.pull {P : Program} {E : Env} {ops : Array Oper} {Q : Pst} {rest : List Oper} {G : List (Nat × Value)} (pre : List HP) {r : List HP} {c : HP} (k : RW P E ops Q rest G (c :: (pre ++ r))) : RW P E ops Q rest G (pre ++ c :: r) := PW.perm List.perm_middle k
theorem CW.pull {P : Program} {E : Env} {c0 : Code} {Q : Pst} {G : List (Nat × Value)} (pre : List HP) {r : List HP} {c : HP} (k : CW P E c0 Q G (c :: (pre ++ r))) : CW P E c0 Q G (pre ++ c :: r) := PW.perm List.perm_middle k
/-- What a slice of one's own is: nil, or a block. -/
def ownB (e : TypeId) (sz : Nat) (v : Value) (es : List (List Value)) (F : Nat → Prop) (B c : Nat) (tl : List Value) : Prop := v = .slice (some ⟨B, 0, none⟩) es.length c ∧ F B ∧ (∀ x ∈ es, x.length = sz) ∧ es.flatten.length + tl.length = c * sz ∧ es.length ≤ c ∧ c ≤ maxN
/-- A block of which the first cells are elements, as a slice of one's own. -/
theorem own_of_blk {e : TypeId} {sz B c n : Nat} {es : List (List Value)} {cells : List Value} {w : World} {F : Nat → Prop} (h : (blk B cells e).p w F) (tl : List Value) (hc : cells = es.flatten ++ tl) (hn : es.length = n) (hs : ∀ x ∈ es, x.length = sz) (hl : cells.length = c * sz) (h1 : n ≤ c) (h2 : c ≤ maxN) : (ownHP e sz (.slice (some ⟨B, 0, none⟩) n c) es).p w F := by
  subst hc; subst hn
  exact .inr ⟨B, c, tl, rfl, h.1, h.2, hs, by rw [← List.length_append]; exact hl, h1, h2⟩
end Go.Proofs.YtbcdgcodnkgdoaaGreat
