/- Calls of function values that may unwind; what stays; a resolver's data without its own block. Conditions: none. -/
import Derived.Test.YtkfmlekomfnleaaR12
import Derived.Test.YtkfmlekomfnleaaM2
set_option linter.unusedVariables false
set_option linter.unusedSimpArgs false
set_option maxRecDepth 10000
namespace Go.Proofs.Ytkfmlekomfnleaa
open Go Go.RowKit

section
variable {P : Program} {E : Env} {ops : Array Oper} {Q : Pst} {rest : List Oper} {G : List (Nat × Value)} {H : List HP}
variable {ty : TypeId} {pos : String} {af : Array Edge}
/-- A call of a function value, some arguments bound already. -/
theorem RW.callw_gen {dst : Option Nat} {fv : Operand} {l : List Operand} {vs pre caps : List Value} {at_ : Array TypeId} {f : FuncId} (hcall : ∀ args w, (callFunc f args).run P w = .ok (.enter f args) w) (hfv : ev G fv = some (.func (.func f) pre.toArray caps.toArray)) (hl : evs G l = some vs)
    (hc : ∀ a w, Fr E.N E.ds a G → St E.w0 E.S H w → Calls P f (pre ++ (vs ++ caps)).toArray w fun
      | .returned v, w'' => wpList P ops Q.fn rest (a.put dst v) w''
      | .panicked chain, w'' => Q.pan chain a w''
      | .outgrown, _ => LetsOut Q.fn) : RW P E ops Q (⟨dst, .call ⟨.value fv, l.toArray, at_⟩, ty, pos, af, none⟩ :: rest) G H :=
  RW.step rfl (fun a w hf hw => by
    have hrun : (execOp a.eval ⟨dst, .call ⟨.value fv, l.toArray, at_⟩, ty, pos, af, none⟩).run P w = .ok (.enter f (pre ++ (vs ++ caps)).toArray) w := by
      simp [execOp, resolve, hf.eval hfv, Deferred.ofValue, invoke, hf.evals hl, hcall]
    rw [hrun]
    exact hc a w hf hw)
/-- .. that may unwind, and turns the chunks C. -/
theorem RW.callwE {fn : Func} {dst : Nat} {fv : Operand} {l : List Operand} {vs pre caps : List Value} {at_ : Array TypeId} {f : FuncId} {α β γ δ : Type} {SP : Ex γ} {V' : γ → δ → Value} {c' : γ → δ → List HP} {sp : Ex α} {k : α → Ex γ} {V : α → β → Value} {c : α → β → List HP} (C : List HP) {r : List HP} (hSP : SP = bnd sp k)
    (hcall : ∀ args w, (callFunc f args).run P w = .ok (.enter f args) w) (hfv : ev G fv = some (.func (.func f) pre.toArray caps.toArray)) (hl : evs G l = some vs)
    (hc : ∀ w F, St E.w0 E.S (C ++ r) w → (∀ b, F b → E.S b ∨ E.w0.heap.size ≤ b) → Sep C w F → Sep r w (fun b => (E.S b ∨ E.w0.heap.size ≤ b) ∧ ¬ F b) → RetE P f (pre ++ (vs ++ caps)) w F sp V c) (hQ : Q.pan = PanP P fn (XP E.w0 E.S SP V' c')) (hds : E.ds = []) (hN : Nat.blt dst E.N = true)
    (kk : ∀ x y, sp = .ok x → SP = k x → RW P E ops Q rest ((dst, V x y) :: G) (c x y ++ r)) : RW P E ops Q (⟨some dst, .call ⟨.value fv, l.toArray, at_⟩, ty, pos, af, none⟩ :: rest) G (C ++ r) :=
  RW.callw_gen hcall hfv hl (fun a w hf hw => by
    obtain ⟨F, hF, h1, h2⟩ := Sep.split hw.sep
    refine (hc w F hw (fun b hb => (hF b hb).1) h1 h2).mono ?_
    intro e w' he
    unfold XP at he
    cases sp with
    | error er =>
      obtain ⟨rfl, hx⟩ := he
      show Q.pan _ a w'
      rw [hQ]
      exact ⟨⟨by rw [hf.defers, hds], XP.err (hSP.trans rfl) (St.turnF hw.kp hF h2 hx)⟩⟩
    | ok x =>
      obtain ⟨y, rfl, hx⟩ := he
      exact kk x y rfl hSP _ _ (hf.put hN _) (St.turnF hw.kp hF h2 hx))
end
/-- What one may read stays, and may be read. -/
def Stay (w : World) (F : Nat → Prop) (w2 : World) (F2 : Nat → Prop) : Prop := ∀ b, b < w.heap.size → ¬ F b → ¬ F2 b ∧ w2.heap[b]? = w.heap[b]?
theorem Stay.of {E : Env} {H : List HP} {w : World} {F : Nat → Prop} (hw : St E.w0 E.S H w) (hF : ∀ b, F b → E.S b ∨ E.w0.heap.size ≤ b) : Stay E.w0 E.S w F :=
  fun b hl hb => ⟨fun k => (hF b k).elim hb (fun k2 => absurd hl (by omega)), hw.kp.block b hl hb⟩
theorem Stay.trans {w w2 w3 : World} {F F2 F3 : Nat → Prop} (h : Stay w F w2 F2) (hs : w.heap.size ≤ w2.heap.size) (k : Stay w2 F2 w3 F3) : Stay w F w3 F3 :=
  fun b hl hb => ⟨(k b (by omega) (h b hl hb).1).1, (k b (by omega) (h b hl hb).1).2.trans (h b hl hb).2⟩
theorem Stay.mem {w w2 : World} {F F2 : Nat → Prop} (h : Stay w F w2 F2) : Mem.le (mem w (fun b => ¬ F b)) (mem w2 (fun b => ¬ F2 b)) := fun B O v hv => by
  have hl := World.block_lt_of_cell? w _ hv.2
  obtain ⟨h1, h2⟩ := h B hl hv.1.1
  exact ⟨⟨h1, (frozen_same h2 _).trans hv.1.2⟩, by simpa [World.cell?, h2] using hv.2⟩
theorem Stay.map {w w2 : World} {F F2 : Nat → Prop} (h : Stay w F w2 F2) {b : Nat} {D : List (Str × Int)} (hm : MapOn w (fun b => ¬ F b) b D) : MapOn w2 (fun b => ¬ F2 b) b D := by
  obtain ⟨h1, h2⟩ := h b hm.2.lt hm.1
  obtain ⟨es, clock, h3, h4⟩ := hm.2
  exact ⟨h1, es, clock, h2.trans h3, h4⟩
/-- A resolver's data, its own block left out. -/
structure RD (w : World) (ok : Nat → Prop) (s : kStat.V) (x : RC) : Prop where
  stat : StatOn (mem w ok) s x
  kinds : MapOn w ok x.b1 (indexD (sKinds s))
  members : MapOn w ok x.b2 (indexD ((sMembers s).map nameOf))
  preds : MapOn w ok x.b3 (indexD ((sPreds s).map nameOf))
  sources : MapOn w ok x.b4 (indexD ((sSources s).map nameOf))
  rules : MapOn w ok x.b5 (indexD ((sRules s).map nameOf))
  totals : MapOn w ok x.b6 (indexD ((sTotals s).map nameOf))
theorem RD.stay {w w2 : World} {F F2 : Nat → Prop} {s : kStat.V} {x : RC} (h : RD w (fun b => ¬ F b) s x) (k : Stay w F w2 F2) : RD w2 (fun b => ¬ F2 b) s x :=
  ⟨h.stat.mono k.mem, k.map h.kinds, k.map h.members, k.map h.preds, k.map h.sources, k.map h.rules, k.map h.totals⟩
theorem blk_mem {w : World} {ok : Nat → Prop} {b : Nat} {c : List Value} {t : TypeId} (hb : ok b) (h : w.heap[b]? = some (.cells c.toArray t (0, 0))) : ∀ (j : Nat) (v : Value), c[j]? = some v → mem w ok b j v := fun j v hj =>
  ⟨⟨hb, unfrozen_of_blk h _⟩, by have := cell_of_blk h hj; exact this⟩
theorem RD.rs {w : World} {ok : Nat → Prop} {br : Nat} {s : kStat.V} {at_ : Int} {x : RC} {t : TypeId} (h : RD w ok s x) (hb : ok br) (hc : w.heap[br]? = some (.cells (x.cells s at_).toArray t (0, 0))) : RS w ok br s at_ x :=
  ⟨blk_mem hb hc, h.stat, h.kinds, h.members, h.preds, h.sources, h.rules, h.totals⟩
/-- The chunk that lies behind the others, apart from what the call turns. -/
theorem Sep.apart {c : HP} {C : List HP} {w : World} {A : Nat → Prop} : Sep (c :: C) w A → ∃ F : Nat → Prop, c.p w F ∧ ∀ b, F b → A b := fun ⟨F, hF, hc, _⟩ => ⟨F, hc, fun b hb => (hF b hb).1⟩
theorem Sep.blk_at {b : Nat} {c : List Value} {t : TypeId} {C : List HP} {w : World} {A : Nat → Prop} (h : Sep (blk b c t :: C) w A) : A b ∧ w.heap[b]? = some (.cells c.toArray t (0, 0)) := by
  obtain ⟨F, hF, hc, _⟩ := h
  exact ⟨(hF b hc.1).1, hc.2⟩
/-- Items one by one, counted. -/
def eachD {α σ : Type} (f : Int → Int → σ → α → Ex σ) : Int → Int → σ → List α → Ex (Int × σ)
  | at_, _, y, [] => .ok (at_, y)
  | at_, i, y, x :: l => bnd (f at_ i y x) fun y' => eachD f (at_ + 1) (i + 1) y' l
theorem eachD_step {α σ : Type} {f : Int → Int → σ → α → Ex σ} {at_ i : Int} {y : σ} {l : List α} {k : Nat} (hk : k < l.length) : eachD f at_ i y (l.drop k) = bnd (f at_ i y l[k]) fun y' => eachD f (at_ + 1) (i + 1) y' (l.drop (k + 1)) := by
  rw [List.drop_eq_getElem_cons hk, eachD]
theorem eachD_end {α σ : Type} {f : Int → Int → σ → α → Ex σ} {at_ i : Int} {y : σ} {l : List α} {k : Nat} (hk : l.length ≤ k) : eachD f at_ i y (l.drop k) = .ok (at_, y) := by
  rw [List.drop_eq_nil_of_le hk, eachD]
theorem eachD_at {α σ : Type} {f : Int → Int → σ → α → Ex σ} : ∀ {l : List α} {at_ i : Int} {y : σ} {z : Int × σ}, eachD f at_ i y l = .ok z → z.1 = at_ + l.length := by
  intro l
  induction l with
  | nil => intro at_ i y z h; cases h; simp
  | cons x l ih =>
    intro at_ i y z h
    obtain ⟨y', _, h⟩ := bnd_inv h
    rw [ih h]
    simp only [List.length_cons]
    omega
end Go.Proofs.Ytkfmlekomfnleaa
