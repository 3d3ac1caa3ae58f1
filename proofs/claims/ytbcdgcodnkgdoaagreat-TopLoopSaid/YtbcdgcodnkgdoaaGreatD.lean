/- The calculus, fourth part: how values read as data, chunks of data, entering and leaving a function. Conditions: none; everything holds over any program. -/
import Derived.Test.YtbcdgcodnkgdoaaGreatC
set_option linter.unusedVariables false
set_option linter.unusedSimpArgs false
namespace Go.Proofs.YtbcdgcodnkgdoaaGreat
open Go Go.RowKit

/-! ### kinds of data -/
inductive K where
  | int (k : IntKind)
  | bool
  | str
  | sl (by_ : Nat) (t : K)
  | pr (a b : K)
@[reducible] def K.V : K → Type
  | .int _ => Int
  | .bool => Bool
  | .str => ByteArray
  | .sl _ t => List t.V
  | .pr a b => a.V × b.V
def K.sz : K → Nat
  | .pr a b => a.sz + b.sz
  | _ => 1
/-- What is known of memory: block, place, value. -/
abbrev Mem := Nat → Nat → Value → Prop
def Mem.le (M M' : Mem) : Prop := ∀ B O v, M B O v → M' B O v
def mem (w : World) (ok : Nat → Prop) : Mem := fun B O v => (ok B ∧ w.frozen? ⟨B, O, none⟩ = false) ∧ w.cell? ⟨B, O, none⟩ = some v
theorem frozen_same {w w' : World} {B : Nat} (h : w'.heap[B]? = w.heap[B]?) (O : Nat) : w'.frozen? ⟨B, O, none⟩ = w.frozen? ⟨B, O, none⟩ := by simp [World.frozen?, h]
def Mem.or (M M' : Mem) : Mem := fun B O v => M B O v ∨ M' B O v
def Mem.none : Mem := fun _ _ _ => False
theorem Mem.le_refl (M : Mem) : Mem.le M M := fun _ _ _ h => h
theorem Mem.le_trans {M M' M'' : Mem} (h : Mem.le M M') (k : Mem.le M' M'') : Mem.le M M'' := fun _ _ _ x => k _ _ _ (h _ _ _ x)
theorem Mem.le_left (M M' : Mem) : Mem.le M (M.or M') := fun _ _ _ h => .inl h
theorem Mem.le_right (M M' : Mem) : Mem.le M' (M.or M') := fun _ _ _ h => .inr h
theorem Mem.or_le {M M' N : Mem} (h : Mem.le M N) (k : Mem.le M' N) : Mem.le (M.or M') N := fun _ _ _ x => x.elim (h _ _ _) (k _ _ _)
theorem Mem.none_le (M : Mem) : Mem.le Mem.none M := fun _ _ _ h => h.elim
theorem mem_up {w : World} {F F' : Nat → Prop} (h : ∀ b, F b → F' b) : Mem.le (mem w F) (mem w F') := fun _ _ _ x => ⟨⟨h _ x.1.1, x.1.2⟩, x.2⟩
theorem mem_keeps {w w' : World} {S : Nat → Prop} (k : Keeps S w w') : Mem.le (mem w (fun b => ¬ S b)) (mem w' (fun b => ¬ S b)) := fun _ _ _ x => ⟨⟨x.1.1, (frozen_same (k.block _ (World.block_lt_of_cell? w _ x.2) x.1.1) _).trans x.1.2⟩, cell_keeps x.2 k x.1.1⟩
theorem mem_same {w w' : World} {F : Nat → Prop} (h : ∀ b, F b → b < w.heap.size → w'.heap[b]? = w.heap[b]?) : Mem.le (mem w F) (mem w' F) := fun B O v x => by
  have hl := World.block_lt_of_cell? w _ x.2
  have := h B x.1.1 hl
  refine ⟨⟨x.1.1, (frozen_same this _).trans x.1.2⟩, ?_⟩
  simpa [World.cell?, this] using x.2
/-- What a function may read for good: what it does not own. -/
def Env.ro (E : Env) : Mem := mem E.w0 (fun b => ¬ E.S b)
theorem ro_le {E : Env} {H : List HP} {w : World} (h : St E.w0 E.S H w) : Mem.le E.ro (mem w (fun b => ¬ E.S b)) := mem_keeps h.kp
theorem ro_le' {E : Env} {H : List HP} {w : World} (h : St E.w0 E.S H w) : Mem.le E.ro (mem w Any) := Mem.le_trans (mem_keeps h.kp) (mem_up (fun _ _ => trivial))

def inR (k : IntKind) (x : Int) : Prop := (Lit.int k x).wf = true
def maxN : Nat := 9223372036854775807
def reach : Nat := 140737488351232
def RowAt {α : Type} (sz : Nat) (R : List Value → α → Prop) (M : Mem) (A : Option Addr) (xs : List α) : Prop :=
  xs ≠ [] → ∃ B O, A = some ⟨B, O, none⟩ ∧ ∀ (j : Nat) (x : α), xs[j]? = some x → ∃ cs : List Value, cs.length = sz ∧ R cs x ∧ ∀ (i : Nat) (v : Value), cs[i]? = some v → M B (O + j * sz + i) v
def Rd : (t : K) → Mem → List Value → t.V → Prop
  | .int k, _, cs, x => cs = [.int k x] ∧ inR k x
  | .bool, _, cs, x => cs = [.bool x]
  | .str, _, cs, x => cs = [.string x] ∧ x.size ≤ reach
  | .sl by_ t, M, cs, x => ∃ A c, cs = [.slice A (List.length (α := t.V) x) c] ∧ List.length (α := t.V) x ≤ c ∧ c ≤ maxN ∧ List.length (α := t.V) x * by_ ≤ reach ∧ RowAt t.sz (fun cs y => Rd t M cs y) M A (show List t.V from x)
  | .pr a b, M, cs, x => ∃ c1 c2, cs = c1 ++ c2 ∧ Rd a M c1 x.1 ∧ Rd b M c2 x.2
theorem RowAt.mono {α : Type} {sz : Nat} {R R' : List Value → α → Prop} {M M' : Mem} {A : Option Addr} {xs : List α} (hM : Mem.le M M') (hR : ∀ cs x, R cs x → R' cs x) (h : RowAt sz R M A xs) : RowAt sz R' M' A xs := fun hn => by
  obtain ⟨B, O, hA, hj⟩ := h hn
  refine ⟨B, O, hA, fun j x hx => ?_⟩
  obtain ⟨cs, h1, h2, h3⟩ := hj j x hx
  exact ⟨cs, h1, hR _ _ h2, fun i v hv => hM _ _ _ (h3 i v hv)⟩
theorem Rd.mono : ∀ {t : K} {M M' : Mem} {cs : List Value} {x : t.V}, Mem.le M M' → Rd t M cs x → Rd t M' cs x := by
  intro t
  induction t with
  | int k => intro _ _ _ _ _ h; exact h
  | bool => intro _ _ _ _ _ h; exact h
  | str => intro _ _ _ _ _ h; exact h
  | sl e t ih =>
    intro M M' cs x hM h
    obtain ⟨A, c, h1, h2, h3, h4, h5⟩ := h
    exact ⟨A, c, h1, h2, h3, h4, h5.mono hM (fun cs y hy => ih hM hy)⟩
  | pr a b iha ihb =>
    intro M M' cs x hM h
    obtain ⟨c1, c2, h1, h2, h3⟩ := h
    exact ⟨c1, c2, h1, iha hM h2, ihb hM h3⟩
theorem Rd.len : ∀ {t : K} {M : Mem} {cs : List Value} {x : t.V}, Rd t M cs x → cs.length = t.sz := by
  intro t
  induction t with
  | int k => intro _ _ _ h; rw [h.1]; rfl
  | bool => intro _ _ _ h; rw [show _ = _ from h]; rfl
  | str => intro _ _ _ h; rw [h.1]; rfl
  | sl e t ih => intro _ _ _ h; obtain ⟨A, c, h1, _⟩ := h; rw [h1]; rfl
  | pr a b iha ihb => intro _ _ _ h; obtain ⟨c1, c2, h1, h2, h3⟩ := h; rw [h1, List.length_append, iha h2, ihb h3]; rfl
theorem Rd.one : ∀ {t : K} {M : Mem} {cs : List Value} {x : t.V}, Rd t M cs x → ∀ v ∈ cs, v.oneCell' = true := by
  intro t
  induction t with
  | int k => intro _ _ _ h v hv; rw [h.1] at hv; simp at hv; subst hv; rfl
  | bool => intro _ _ _ h v hv; rw [show _ = _ from h] at hv; simp at hv; subst hv; rfl
  | str => intro _ _ _ h v hv; rw [h.1] at hv; simp at hv; subst hv; rfl
  | sl e t ih => intro _ _ _ h v hv; obtain ⟨A, c, h1, _⟩ := h; rw [h1] at hv; simp at hv; subst hv; rfl
  | pr a b iha ihb =>
    intro _ _ _ h v hv
    obtain ⟨c1, c2, h1, h2, h3⟩ := h
    rw [h1, List.mem_append] at hv
    exact hv.elim (iha h2 v) (ihb h3 v)
theorem RowAt.nil {α : Type} {sz : Nat} {R : List Value → α → Prop} {M : Mem} {A : Option Addr} : RowAt sz R M A ([] : List α) := fun h => absurd rfl h
/-- Element i of a slice that reads as xs. -/
theorem RowAt.get {α : Type} {sz : Nat} {R : List Value → α → Prop} {M : Mem} {A : Option Addr} {xs : List α} (h : RowAt sz R M A xs) {i : Nat} {x : α} (hi : xs[i]? = some x) :
    ∃ B O cs, A = some ⟨B, O, none⟩ ∧ cs.length = sz ∧ R cs x ∧ ∀ (j : Nat) (v : Value), cs[j]? = some v → M B (O + i * sz + j) v := by
  obtain ⟨B, O, hA, hj⟩ := h (by intro he; subst he; simp at hi)
  obtain ⟨cs, h1, h2, h3⟩ := hj i x hi
  exact ⟨B, O, cs, hA, h1, h2, h3⟩

/-! ### chunks of data -/
/-- Cells that read as data, in memory of their own and in M. -/
def rdHP (M : Mem) (t : K) (cs : List Value) (x : t.V) : HP where
  p w F := Rd t (M.or (mem w F)) cs x
  st := fun h _ k => k.mono (Mem.or_le (Mem.le_left _ _) (Mem.le_trans (mem_same h) (Mem.le_right _ _)))
  up := fun h k => k.mono (Mem.or_le (Mem.le_left _ _) (Mem.le_trans (mem_up h) (Mem.le_right _ _)))
def All2 {α β : Type} (R : α → β → Prop) (xs : List α) (ys : List β) : Prop := xs.length = ys.length ∧ ∀ (i : Nat) (x : α) (y : β), xs[i]? = some x → ys[i]? = some y → R x y
theorem All2.imp {α β : Type} {R R' : α → β → Prop} {xs : List α} {ys : List β} (h : ∀ x y, R x y → R' x y) (k : All2 R xs ys) : All2 R' xs ys := ⟨k.1, fun i x y hx hy => h _ _ (k.2 i x y hx hy)⟩
/-- Several of a kind. -/
def rdsHP (M : Mem) (t : K) (es : List (List Value)) (xs : List t.V) : HP where
  p w F := All2 (fun cs x => Rd t (M.or (mem w F)) cs x) es xs
  st := fun h _ k => k.imp (fun _ _ k => k.mono (Mem.or_le (Mem.le_left _ _) (Mem.le_trans (mem_same h) (Mem.le_right _ _))))
  up := fun h k => k.imp (fun _ _ k => k.mono (Mem.or_le (Mem.le_left _ _) (Mem.le_trans (mem_up h) (Mem.le_right _ _))))
/-- A slice of the function's own: its elements' cells; behind them whatever. -/
def ownHP (e : TypeId) (sz : Nat) (v : Value) (es : List (List Value)) : HP where
  p w F := (v = .slice none 0 0 ∧ es = []) ∨ ∃ B c tl, v = .slice (some ⟨B, 0, none⟩) es.length c ∧ F B ∧ w.heap[B]? = some (.cells (es.flatten ++ tl).toArray e (0, 0)) ∧ (∀ x ∈ es, x.length = sz) ∧ es.flatten.length + tl.length = c * sz ∧ es.length ≤ c ∧ c ≤ maxN
  st := fun h _ k => k.imp id (fun ⟨B, c, tl, h1, h2, h3, h4⟩ => ⟨B, c, tl, h1, h2, (h B h2 (Array.getElem?_eq_some_iff.1 h3).1).trans h3, h4⟩)
  up := fun h k => k.imp id (fun ⟨B, c, tl, h1, h2, h4⟩ => ⟨B, c, tl, h1, h B h2, h4⟩)
def exHP {ι : Type} (c : ι → HP) : HP where
  p w F := ∃ i, (c i).p w F
  st := fun h hs ⟨i, k⟩ => ⟨i, (c i).st h hs k⟩
  up := fun h ⟨i, k⟩ => ⟨i, (c i).up h k⟩
def starHP (c d : HP) : HP where
  p w F := ∃ G : Nat → Prop, (∀ b, G b → F b) ∧ c.p w G ∧ d.p w (fun b => F b ∧ ¬ G b)
  st := fun h hs ⟨G, hG, hc, hd⟩ => ⟨G, hG, c.st (fun b hb => h b (hG b hb)) hs hc, d.st (fun b hb => h b hb.1) hs hd⟩
  up := fun h ⟨G, hG, hc, hd⟩ => ⟨G, fun b hb => h b (hG b hb), hc, d.up (fun b hb => ⟨h b hb.1, hb.2⟩) hd⟩
theorem Sep.split {H1 r : List HP} {w : World} : ∀ {A : Nat → Prop}, Sep (H1 ++ r) w A → ∃ F : Nat → Prop, (∀ b, F b → A b ∧ b < w.heap.size) ∧ Sep H1 w F ∧ Sep r w (fun b => A b ∧ ¬ F b) := by
  induction H1 with
  | nil => intro A h; exact ⟨No, fun b hb => hb.elim, trivial, Sep.up (fun b hb => ⟨hb, fun h => h.elim⟩) h⟩
  | cons c H1 ih =>
    intro A ⟨F, hF, hc, hr⟩
    obtain ⟨F', hF', h1, h2⟩ := ih hr
    refine ⟨fun b => F b ∨ F' b, fun b hb => hb.elim (hF b) (fun k => ⟨(hF' b k).1.1, (hF' b k).2⟩), ⟨F, fun b hb => ⟨.inl hb, (hF b hb).2⟩, hc, Sep.up (fun b hb => ⟨.inr hb, (hF' b hb).1.2⟩) h1⟩, Sep.up (fun b hb => ⟨hb.1.1, fun k => k.elim hb.1.2 hb.2⟩) h2⟩
/-- Footprints inside the heap. -/
theorem Sep.inside {H : List HP} {w : World} {A : Nat → Prop} (h : Sep H w A) : Sep H w (fun b => A b ∧ b < w.heap.size) := by
  have : Sep (H ++ []) w A := by rw [List.append_nil]; exact h
  obtain ⟨F, hF, h1, _⟩ := Sep.split this
  exact Sep.up (fun b hb => hF b hb) h1

section
variable {P : Program} {E : Env} {ops : Array Oper} {Q : Pst} {K : Act → World → Prop} {rest : List Oper} {G : List (Nat × Value)} {H : List HP}
/-- What a chunk leaves open is fixed. -/
theorem PW.open_ {ι : Type} (pre : List HP) {r : List HP} {c : HP} (c' : ι → HP) (hc : ∀ w F, c.p w F → ∃ i, (c' i).p w F) (k : ∀ i, PW E K G (pre ++ c' i :: r)) : PW E K G (pre ++ c :: r) := fun a w hf hw => by
  obtain ⟨F, hF, hp, hr⟩ := Sep.pull hw.sep
  obtain ⟨i, hi⟩ := hc w F hp
  exact k i a w hf ⟨hw.kp, Sep.push ⟨F, hF, hi, hr⟩⟩
theorem PW.change (pre : List HP) {r : List HP} {c : HP} (c' : HP) (hc : ∀ w F, c.p w F → c'.p w F) (k : PW E K G (pre ++ c' :: r)) : PW E K G (pre ++ c :: r) := fun a w hf hw => k a w hf (hw.change (hc w))
theorem PW.openEx {ι : Type} (pre : List HP) {r : List HP} {c : ι → HP} (k : ∀ i, PW E K G (pre ++ c i :: r)) : PW E K G (pre ++ exHP c :: r) := PW.open_ pre c (fun _ _ h => h) k
theorem PW.unstar (pre : List HP) {r : List HP} {c d : HP} (k : PW E K G (pre ++ c :: d :: r)) : PW E K G (pre ++ starHP c d :: r) := fun a w hf hw => by
  obtain ⟨F, hF, ⟨G', hG, hc, hd⟩, hr⟩ := Sep.pull hw.sep
  refine k a w hf ⟨hw.kp, ?_⟩
  have h2 : Sep (c :: d :: (pre ++ r)) w (fun b => E.S b ∨ E.w0.heap.size ≤ b) :=
    ⟨G', fun b hb => ⟨(hF b (hG b hb)).1, (hF b (hG b hb)).2⟩, hc, fun b => F b ∧ ¬ G' b, fun b hb => ⟨⟨(hF b hb.1).1, hb.2⟩, (hF b hb.1).2⟩, hd, Sep.up (fun b hb => ⟨⟨hb.1, fun hg => hb.2 (hG b hg)⟩, fun hg => hb.2 hg.1⟩) hr⟩
  refine Sep.perm ?_ h2
  refine List.Perm.trans ?_ (List.perm_middle (l₁ := pre)).symm
  exact List.Perm.cons _ (List.perm_middle).symm
theorem PW.purely (pre : List HP) {r : List HP} {φ : Prop} (k : φ → PW E K G (pre ++ r)) : PW E K G (pre ++ pureHP φ :: r) := fun a w hf hw => by
  obtain ⟨F, hF, hp, hr⟩ := Sep.pull hw.sep
  exact k hp a w hf ⟨hw.kp, Sep.up (fun b hb => hb.1) hr⟩
/-- A fact that the heap gives. -/
theorem PW.have_ {φ : Prop} (h : ∀ w, St E.w0 E.S H w → φ) (k : φ → PW E K G H) : PW E K G H := fun a w hf hw => k (h w hw) a w hf hw

/-- A cell of what may be read for good. -/
theorem RW.load_ro {dst : Nat} {ty t : TypeId} {pos : String} {af : Array Edge} {x : Operand} {d : TypeDesc} {z v : Value} {sz by_ B O : Nat} {M : Mem} [T : Ty P t d z sz by_] (hx : ev G x = some (.pointer (some ⟨B, O, none⟩))) (hM : Mem.le M E.ro) (hc : M B O v) (hd : isAggD d = false) (hN : Nat.blt dst E.N = true)
    (k : RW P E ops Q rest ((dst, v) :: G) H) : RW P E ops Q (⟨some dst, .load t x, ty, pos, af, none⟩ :: rest) G H :=
  RW.load_old hx (hM _ _ _ hc).2 (hM _ _ _ hc).1.1 hd hN k
theorem RW.load_ros {dst : Nat} {ty t : TypeId} {pos : String} {af : Array Edge} {x : Operand} {d : TypeDesc} {z : Value} {sz by_ B O : Nat} {cs : List Value} {M : Mem} [T : Ty P t d z sz by_] (hx : ev G x = some (.pointer (some ⟨B, O, none⟩))) (hM : Mem.le M E.ro) (hc : ∀ (i : Nat) (v : Value), cs[i]? = some v → M B (O + i) v) (hd : isAggD d = true) (hs : cs.length = sz) (hp : 0 < cs.length) (hN : Nat.blt dst E.N = true)
    (k : RW P E ops Q rest ((dst, .agg cs.toArray) :: G) H) : RW P E ops Q (⟨some dst, .load t x, ty, pos, af, none⟩ :: rest) G H :=
  RW.load_olds hx (fun i v hv => (hM _ _ _ (hc i v hv)).2) (hM _ _ _ (hc 0 _ (List.getElem?_eq_getElem hp))).1.1 hd hs hN k
theorem any_ro {N : Nat} {ds : List Deferred} {w : World} : Mem.le (mem w Any) (Env.ro ⟨N, ds, w, No⟩) := fun _ _ _ h => ⟨⟨fun k => k, h.1.2⟩, h.2⟩

/-! ### entering and leaving -/
def idx : Nat → List Value → List (Nat × Value)
  | _, [] => []
  | i, v :: r => (i, v) :: idx (i + 1) r
theorem look_idx : ∀ (l : List Value) (i j : Nat) (v : Value), look (idx i l) j = some v → i ≤ j ∧ l[j - i]? = some v := by
  intro l
  induction l with
  | nil => intro i j v h; cases h
  | cons u l ih =>
    intro i j v h
    simp only [idx, look] at h
    cases hb : Nat.beq i j with
    | true =>
      rw [hb] at h
      have : i = j := Nat.eq_of_beq_eq_true hb
      subst this
      simp only [Option.some.injEq] at h
      subst h
      simp
    | false =>
      rw [hb] at h
      have hne : i ≠ j := Nat.ne_of_beq_eq_false hb
      obtain ⟨h1, h2⟩ := ih (i + 1) j v h
      refine ⟨by omega, ?_⟩
      rw [show j - i = (j - (i + 1)) + 1 from by omega]
      simpa using h2
/-- What is asked at the end of a function. -/
structure RetP (P : Program) (fn : Func) (R : Ending → World → Prop) (a : Act) (w : World) : Prop where
  out : bodyPost P fn R .ret a w
structure PanP (P : Program) (fn : Func) (R : Ending → World → Prop) (c : List PanicEntry) (a : Act) (w : World) : Prop where
  out : bodyPost P fn R (.panic c) a w
@[reducible] def fin (P : Program) (fn : Func) (R : Ending → World → Prop) : Pst :=
  ⟨RetP P fn R, RetP P fn R, fun _ _ _ => False, fun _ _ _ => False, fun c => PanP P fn R c, bodyPost P fn R .outgrown⟩
theorem Calls.enter {f : FuncId} {fn : Func} {c : Code} {args : List Value} {w : World} {S : Nat → Prop} {R : Ending → World → Prop} (hf : P.funcs[f]? = some fn) (hb : fn.body = some c) (N : Nat) (hN : fn.ntmps = N) (hle : Nat.ble args.length N = true)
    (hst : Sep H w S) (k : CW P ⟨N, [], w, S⟩ c (fin P fn R) (idx 0 args) H) : Calls P f args.toArray w R := by
  refine calls_of_wp hf hb (wp_mono (k _ _ ⟨?_, rfl, fun i v hi => ?_⟩ (St.start hst)) (fun e a w h => by cases e <;> first | exact h.out | exact h | exact h.elim))
  · have : args.length ≤ N := by simpa [Nat.ble_eq] using hle
    simp [hN]; omega
  · obtain ⟨_, h2⟩ := look_idx _ _ _ _ hi
    have hlt : i < args.length := by
      have := (List.getElem?_eq_some_iff.1 h2).1
      omega
    rw [Array.getElem?_append_left (by simpa using hlt)]
    simpa using h2
def resV : List Value → Value
  | [v] => v
  | vs => .tuple vs.toArray
def resRun (tmps : Array Value) : ResultVar → Sem Value
  | .tmp t => pure (tmps.getD t undef)
  | .cell ad t => do loadVar t (← asAddr (tmps.getD ad undef))
def ResOK (P : Program) (E : Env) (G : List (Nat × Value)) (H : List HP) (rs : List ResultVar) (vs : List Value) : Prop :=
  ∀ a w, Fr E.N E.ds a G → St E.w0 E.S H w → rs.length = vs.length ∧ ∀ (i : Nat) (r : ResultVar) (v : Value), rs[i]? = some r → vs[i]? = some v → (resRun a.tmps r).run P w = .ok v w
theorem ResOK.nil : ResOK P E G H [] [] := fun a w _ _ => ⟨rfl, fun i r v h => by simp at h⟩
theorem ResOK.cons {rs : List ResultVar} {vs : List Value} {r : ResultVar} {v : Value} (h : ∀ a w, Fr E.N E.ds a G → St E.w0 E.S H w → (resRun a.tmps r).run P w = .ok v w) (k : ResOK P E G H rs vs) : ResOK P E G H (r :: rs) (v :: vs) := fun a w hf hw => by
  obtain ⟨k1, k2⟩ := k a w hf hw
  refine ⟨by simp [k1], fun i r' v' hr hv => ?_⟩
  cases i with
  | zero => simp at hr hv; subst hr; subst hv; exact h a w hf hw
  | succ i => exact k2 i r' v' (by simpa using hr) (by simpa using hv)
theorem ResOK.tmp {rs : List ResultVar} {vs : List Value} {t : Nat} {v : Value} (h : look G t = some v) (k : ResOK P E G H rs vs) : ResOK P E G H (.tmp t :: rs) (v :: vs) :=
  ResOK.cons (fun a w hf _ => by simp [resRun, Array.getD_eq_getD_getElem?, hf.at_ t v h]) k
theorem ResOK.cell {rs : List ResultVar} {vs : List Value} {t B : Nat} {ty te : TypeId} {d : TypeDesc} {z : Value} {sz by_ : Nat} [T : Ty P ty d z sz by_] (pre : List HP) {r : List HP} {c : List Value} (h : look G t = some (.pointer (some ⟨B, 0, none⟩))) (hd : isAggD d = true) (hs : c.length = sz)
    (k : ResOK P E G (pre ++ blk B c te :: r) rs vs) : ResOK P E G (pre ++ blk B c te :: r) (.cell t ty :: rs) (.agg c.toArray :: vs) :=
  ResOK.cons (fun a w hf hw => by simp [resRun, Array.getD_eq_getD_getElem?, hf.at_ t _ h, asAddr, run_loadVar_agg hd hs (CellsAt.of_blk hw.blk)]) k
theorem ResOK.cell1 {rs : List ResultVar} {vs : List Value} {t B : Nat} {ty te : TypeId} {d : TypeDesc} {z : Value} {sz by_ : Nat} [T : Ty P ty d z sz by_] (pre : List HP) {r : List HP} {v : Value} (h : look G t = some (.pointer (some ⟨B, 0, none⟩))) (hd : isAggD d = false)
    (k : ResOK P E G (pre ++ blk B [v] te :: r) rs vs) : ResOK P E G (pre ++ blk B [v] te :: r) (.cell t ty :: rs) (v :: vs) :=
  ResOK.cons (fun a w hf hw => by simp [resRun, Array.getD_eq_getD_getElem?, hf.at_ t _ h, asAddr, run_loadVar_one hd (cell_of_blk (o := 0) (v := v) hw.blk (by simp))]) k
theorem run_mapM_list {α β : Type} {P : Program} {w : World} (f : α → Sem β) : ∀ (l : List α) (vs : List β), l.length = vs.length → (∀ (i : Nat) (r : α) (v : β), l[i]? = some r → vs[i]? = some v → (f r).run P w = .ok v w) → (l.mapM f).run P w = .ok vs w := by
  intro l
  induction l with
  | nil => intro vs hl _; cases vs <;> simp_all
  | cons x l ih =>
    intro vs hl h
    cases vs with
    | nil => simp at hl
    | cons v vs =>
      rw [List.mapM_cons]
      simp only [Sem.run_bind, h 0 x v rfl rfl, Result.andThen, ih vs (by simpa using hl) (fun i r u hr hu => h (i + 1) r u (by simpa using hr) (by simpa using hu))]
      rfl
theorem run_results {fn : Func} {rs : List ResultVar} {vs : List Value} (hr : fn.results = rs.toArray) (h : ResOK P E G H rs vs) {a : Act} {w : World} (hf : Fr E.N E.ds a G) (hw : St E.w0 E.S H w) : (results fn a.tmps).run P w = .ok (resV vs) w := by
  obtain ⟨h1, h2⟩ := h a w hf hw
  have hm := run_mapM_list (P := P) (w := w) (resRun a.tmps) rs vs h1 h2
  unfold results
  rw [hr, List.mapM_toArray]
  change Sem.run P (do let vs ← List.toArray <$> List.mapM (resRun a.tmps) rs; pure (if h : vs.size = 1 then vs[0] else .tuple vs)) w = _
  simp only [Sem.run_bind, Sem.run_map, hm, Result.andThen]
  cases vs with
  | nil => rfl
  | cons v vs => cases vs with
    | nil => rfl
    | cons u vs => rfl
theorem PW.ret {fn : Func} {R : Ending → World → Prop} {rs : List ResultVar} {vs : List Value} (hr : fn.results = rs.toArray) (hd : E.ds = []) (h : ResOK P E G H rs vs) (k : ∀ w, St E.w0 E.S H w → R (.returned (resV vs)) w) :
    PW E (RetP P fn R) G H := fun a w hf hw => ⟨⟨hf.defers.trans hd, _, run_results hr h hf hw, k w hw⟩⟩
theorem PW.ret1 {fn : Func} {R : Ending → World → Prop} {t : Nat} {v : Value} (hr : fn.results = #[.tmp t]) (hd : E.ds = []) (h : look G t = some v) (k : ∀ w, St E.w0 E.S H w → R (.returned v) w) :
    PW E (RetP P fn R) G H := PW.ret (rs := [.tmp t]) (vs := [v]) hr hd (ResOK.tmp h ResOK.nil) k

/-! ### more on code -/
theorem CW.seqR {id : Nat} {l : List Oper} {y : Code} (h : RW P E l.toArray (Pst.then (y.wp P Q.fn) Q) l G H) : CW P E (.seq (.region id l.toArray false) y) Q G H := CW.seq (CW.region h)
theorem PW.code {c : Code} (h : CW P E c Q G H) : PW E (c.wp P Q.fn) G H := h
theorem CW.exit_to {id : Nat} {c : Code} {Q2 : Pst} (hK : Q.exi id = c.wp P Q2.fn) (h : CW P E c Q2 G H) : CW P E (.exit id) Q G H := CW.exit hK h
theorem CW.ret1 {fn : Func} {R : Ending → World → Prop} {t : Nat} {v : Value} (hK : Q.ret = RetP P fn R) (hr : fn.results = #[.tmp t]) (hd : E.ds = []) (h : look G t = some v) (k : ∀ w, St E.w0 E.S H w → R (.returned v) w) : CW P E .ret Q G H := CW.ret hK (PW.ret1 hr hd h k)
theorem CW.rets {fn : Func} {R : Ending → World → Prop} {rs : List ResultVar} {vs : List Value} (hK : Q.ret = RetP P fn R) (hr : fn.results = rs.toArray) (hd : E.ds = []) (h : ResOK P E G H rs vs) (k : ∀ w, St E.w0 E.S H w → R (.returned (resV vs)) w) : CW P E .ret Q G H := CW.ret hK (PW.ret hr hd h k)
theorem PW.again {ι : Type} {g : ι → List (Nat × Value)} {h : ι → List HP} {m : ι → Nat} {n : Nat} (j : ι) (hs : Sub (g j) G) (hh : ∀ {w}, St E.w0 E.S H w → St E.w0 E.S (h j) w) (hm : m j < n) :
    PW E (fun a w => ∃ j, Fr E.N E.ds a (g j) ∧ St E.w0 E.S (h j) w ∧ m j < n) G H := fun a w hf hw => ⟨j, hf.sub hs, hh hw, hm⟩
theorem PW.meet {ι : Type} {g : ι → List (Nat × Value)} {h : ι → List HP} (j : ι) (hs : Sub (g j) G) (hh : ∀ {w}, St E.w0 E.S H w → St E.w0 E.S (h j) w) :
    PW E (fun a w => ∃ j, Fr E.N E.ds a (g j) ∧ St E.w0 E.S (h j) w) G H := fun a w hf hw => ⟨j, hf.sub hs, hh hw⟩


/-! ### the same for code and for what is left of a region -/
theorem CW.drop {c0 : Code} {H' : List HP} (hs : List.Sublist H' H) (k : CW P E c0 Q G H') : CW P E c0 Q G H := PW.drop hs k
theorem CW.perm {c0 : Code} {H' : List HP} (H'' : List HP) (hs : H.Perm H'') (k : CW P E c0 Q G H'') : CW P E c0 Q G H := PW.perm hs k
theorem CW.open_ {c0 : Code} {ι : Type} (pre : List HP) {r : List HP} {c : HP} (c' : ι → HP) (hc : ∀ w F, c.p w F → ∃ i, (c' i).p w F) (k : ∀ i, CW P E c0 Q G (pre ++ c' i :: r)) : CW P E c0 Q G (pre ++ c :: r) := PW.open_ pre c' hc k
theorem CW.change {c0 : Code} (pre : List HP) {r : List HP} {c : HP} (c' : HP) (hc : ∀ w F, c.p w F → c'.p w F) (k : CW P E c0 Q G (pre ++ c' :: r)) : CW P E c0 Q G (pre ++ c :: r) := PW.change pre c' hc k
theorem CW.openEx {c0 : Code} {ι : Type} (pre : List HP) {r : List HP} {c : ι → HP} (k : ∀ i, CW P E c0 Q G (pre ++ c i :: r)) : CW P E c0 Q G (pre ++ exHP c :: r) := PW.openEx pre k
theorem CW.unstar {c0 : Code} (pre : List HP) {r : List HP} {c d : HP} (k : CW P E c0 Q G (pre ++ c :: d :: r)) : CW P E c0 Q G (pre ++ starHP c d :: r) := PW.unstar pre k
theorem CW.purely {c0 : Code} (pre : List HP) {r : List HP} {φ : Prop} (k : φ → CW P E c0 Q G (pre ++ r)) : CW P E c0 Q G (pre ++ pureHP φ :: r) := PW.purely pre k
theorem CW.have_ {c0 : Code} {φ : Prop} (h : ∀ w, St E.w0 E.S H w → φ) (k : φ → CW P E c0 Q G H) : CW P E c0 Q G H := PW.have_ h k
theorem RW.drop {H' : List HP} (hs : List.Sublist H' H) (k : RW P E ops Q rest G H') : RW P E ops Q rest G H := PW.drop hs k
theorem RW.perm {H' : List HP} (H'' : List HP) (hs : H.Perm H'') (k : RW P E ops Q rest G H'') : RW P E ops Q rest G H := PW.perm hs k
theorem RW.open_ {ι : Type} (pre : List HP) {r : List HP} {c : HP} (c' : ι → HP) (hc : ∀ w F, c.p w F → ∃ i, (c' i).p w F) (k : ∀ i, RW P E ops Q rest G (pre ++ c' i :: r)) : RW P E ops Q rest G (pre ++ c :: r) := PW.open_ pre c' hc k
theorem RW.change (pre : List HP) {r : List HP} {c : HP} (c' : HP) (hc : ∀ w F, c.p w F → c'.p w F) (k : RW P E ops Q rest G (pre ++ c' :: r)) : RW P E ops Q rest G (pre ++ c :: r) := PW.change pre c' hc k
theorem RW.openEx {ι : Type} (pre : List HP) {r : List HP} {c : ι → HP} (k : ∀ i, RW P E ops Q rest G (pre ++ c i :: r)) : RW P E ops Q rest G (pre ++ exHP c :: r) := PW.openEx pre k
theorem RW.unstar (pre : List HP) {r : List HP} {c d : HP} (k : RW P E ops Q rest G (pre ++ c :: d :: r)) : RW P E ops Q rest G (pre ++ starHP c d :: r) := PW.unstar pre k
theorem RW.purely (pre : List HP) {r : List HP} {φ : Prop} (k : φ → RW P E ops Q rest G (pre ++ r)) : RW P E ops Q rest G (pre ++ pureHP φ :: r) := PW.purely pre k
theorem RW.have_ {φ : Prop} (h : ∀ w, St E.w0 E.S H w → φ) (k : φ → RW P E ops Q rest G H) : RW P E ops Q rest G H := PW.have_ h k

/-! ### calls that turn some chunks -/
/-- A call that turns the chunks C: what it hands back, what becomes of them. -/
def RetC (P : Program) (f : FuncId) (args : List Value) (w : World) (F : Nat → Prop) {α : Type} (V : α → Value) (c : α → List HP) : Prop :=
  Calls P f args.toArray w (fun e w' => ∃ x, e = .returned (V x) ∧ St w F (c x) w')
section
variable {dst : Nat} {ty : TypeId} {pos : String} {af : Array Edge} {l : List Operand} {vs caps : List Value} {at_ : Array TypeId} {f : FuncId} {fv : Operand}
theorem RW.callC {α : Type} {V : α → Value} {c : α → List HP} (C : List HP) {r : List HP} (hcall : ∀ args w, (callFunc f args).run P w = .ok (.enter f args) w) (hl : evs G l = some vs)
    (hc : ∀ w F, Mem.le E.ro (mem w (fun b => ¬ F b)) → Sep C w F → St E.w0 E.S (C ++ r) w → RetC P f vs w F V c) (hN : Nat.blt dst E.N = true)
    (kk : ∀ x, RW P E ops Q rest ((dst, V x) :: G) (c x ++ r)) : RW P E ops Q (⟨some dst, .call ⟨.value (.func f), l.toArray, at_⟩, ty, pos, af, none⟩ :: rest) G (C ++ r) :=
  RW.call_gen hcall hl (fun a w hf hw => by
    obtain ⟨F, hF, h1, h2⟩ := Sep.split hw.sep
    refine (hc w F (fun B O v hv => ⟨⟨fun hb => ?_, (ro_le hw _ _ _ hv).1.2⟩, (ro_le hw _ _ _ hv).2⟩) h1 hw).mono ?_
    · rcases (hF B hb).1 with h | h
      · exact hv.1.1 h
      · have := World.block_lt_of_cell? E.w0 _ hv.2
        exact absurd this (Nat.not_lt.2 h)
    · rintro e w' ⟨x, rfl, hx⟩
      exact kk x _ _ (hf.put hN _) (St.turnF hw.kp hF h2 hx))
theorem RW.callC0 {α : Type} {V : α → Value} {c : α → List HP} (C : List HP) {r : List HP} (hcall : ∀ args w, (callFunc f args).run P w = .ok (.enter f args) w) (hl : evs G l = some vs)
    (hc : ∀ w F, Mem.le E.ro (mem w (fun b => ¬ F b)) → Sep C w F → St E.w0 E.S (C ++ r) w → RetC P f vs w F V c)
    (kk : ∀ x, RW P E ops Q rest G (c x ++ r)) : RW P E ops Q (⟨none, .call ⟨.value (.func f), l.toArray, at_⟩, ty, pos, af, none⟩ :: rest) G (C ++ r) :=
  RW.call_gen hcall hl (fun a w hf hw => by
    obtain ⟨F, hF, h1, h2⟩ := Sep.split hw.sep
    refine (hc w F (fun B O v hv => ⟨⟨fun hb => ?_, (ro_le hw _ _ _ hv).1.2⟩, (ro_le hw _ _ _ hv).2⟩) h1 hw).mono ?_
    · rcases (hF B hb).1 with h | h
      · exact hv.1.1 h
      · have := World.block_lt_of_cell? E.w0 _ hv.2
        exact absurd this (Nat.not_lt.2 h)
    · rintro e w' ⟨x, rfl, hx⟩
      exact kk x _ _ (hf.skip _) (St.turnF hw.kp hF h2 hx))
end
end
end Go.Proofs.YtbcdgcodnkgdoaaGreat
