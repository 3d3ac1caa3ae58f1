/- Parts of the proof: The calculus of this family, first part: frames as association lists, heaps as lists of separated chunks, one rule a form of code. · The calculus, second part: one rule an operation. · The calculus, third part: arithmetic, fields, indexes, calls, guards. · The calculus, fourth part: how values read as data, chunks of data, entering and leaving a function. · From what a row's reader trod to the calculus' reading of data. Conditions: none. -/
import Derived.WalkKit
import Derived.Carry
import Derived.Orders
import Derived.Deep.LoopGhost
import Derived.ChangeKeysEq
import Derived.Deep.Slices
import Derived.ProofKit
/- The calculus of this family, first part: frames as association lists, heaps as lists of separated chunks, one rule a form of code. Conditions: none; everything holds over any program. -/
set_option linter.unusedVariables false
set_option linter.unusedSimpArgs false
namespace Go.Proofs.YtkfmlekomfnleaaGreat
open Go Go.RowKit

/-! ### worlds -/
structure Keeps (S : Nat → Prop) (w w' : World) : Prop where
  os : w'.os = w.os
  tape : w'.tape = w.tape
  output : w'.output = w.output
  size : w.heap.size ≤ w'.heap.size
  block : ∀ i, i < w.heap.size → ¬ S i → w'.heap[i]? = w.heap[i]?

def No : Nat → Prop := fun _ => False
def Any : Nat → Prop := fun _ => True

theorem Keeps.refl (S : Nat → Prop) (w : World) : Keeps S w w := ⟨rfl, rfl, rfl, Nat.le_refl _, fun _ _ _ => rfl⟩
theorem Keeps.trans {S S2 : Nat → Prop} {w w1 w2 : World} (h : Keeps S w w1) (k : Keeps S2 w1 w2) (hs : ∀ b, S2 b → S b ∨ w.heap.size ≤ b) : Keeps S w w2 :=
  ⟨k.os.trans h.os, k.tape.trans h.tape, k.output.trans h.output, Nat.le_trans h.size k.size, fun i hi hn =>
    (k.block i (Nat.lt_of_lt_of_le hi h.size) (fun h2 => (hs i h2).elim hn (fun h3 => absurd hi (by omega)))).trans (h.block i hi hn)⟩
theorem Keeps.mono {S S2 : Nat → Prop} {w w1 : World} (h : Keeps S w w1) (hs : ∀ b, S b → S2 b) : Keeps S2 w w1 :=
  ⟨h.os, h.tape, h.output, h.size, fun i hi hn => h.block i hi (fun k => hn (hs i k))⟩
theorem Keeps.below {w w1 : World} (h : Keeps No w w1) : Below w.heap.size w w1 := ⟨h.os, h.tape, h.output, h.size, fun i hi => h.block i hi (fun k => k.elim)⟩
theorem Keeps.of_below {S : Nat → Prop} {w w1 : World} (h : Below w.heap.size w w1) : Keeps S w w1 := ⟨h.os, h.tape, h.output, h.size, fun i hi _ => h.block i hi⟩
theorem Keeps.alloc (S : Nat → Prop) (w : World) (o : Obj) : Keeps S w (w.alloc o) :=
  ⟨rfl, rfl, rfl, by show _ ≤ (w.heap.push o).size; simp, fun i hi _ => by show (w.heap.push o)[i]? = _; rw [Array.getElem?_push]; simp [Nat.ne_of_lt hi]⟩
theorem Keeps.drew (S : Nat → Prop) (w : World) : Keeps S w w.drew := ⟨rfl, rfl, rfl, Nat.le_refl _, fun _ _ _ => rfl⟩
theorem heap_set_ne (w : World) (p : Addr) (v : Value) (i : Nat) (h : i ≠ p.block) : (w.setCell p v).heap[i]? = w.heap[i]? := by
  simp [World.setCell, Array.getElem?_modify, Ne.symm h]
theorem heap_set_size (w : World) (p : Addr) (v : Value) : (w.setCell p v).heap.size = w.heap.size := by simp [World.setCell]
theorem Keeps.set {S : Nat → Prop} (w : World) (p : Addr) (v : Value) (h : S p.block) : Keeps S w (w.setCell p v) :=
  ⟨rfl, rfl, rfl, by rw [heap_set_size]; exact Nat.le_refl _, fun i _ hn => heap_set_ne w p v i (fun e => hn (e ▸ h))⟩

/-! ### chunks -/
structure HP where
  p : World → (Nat → Prop) → Prop
  st : ∀ {w w' : World} {F : Nat → Prop}, (∀ b, F b → b < w.heap.size → w'.heap[b]? = w.heap[b]?) → w.heap.size ≤ w'.heap.size → p w F → p w' F
  up : ∀ {w : World} {F F' : Nat → Prop}, (∀ b, F b → F' b) → p w F → p w F'

def Sep : List HP → World → (Nat → Prop) → Prop
  | [], _, _ => True
  | c :: r, w, A => ∃ F : Nat → Prop, (∀ b, F b → A b ∧ b < w.heap.size) ∧ c.p w F ∧ Sep r w (fun b => A b ∧ ¬ F b)

theorem Sep.up {Γ : List HP} : ∀ {w : World} {A A' : Nat → Prop}, (∀ b, A b → A' b) → Sep Γ w A → Sep Γ w A' := by
  induction Γ with
  | nil => intro _ _ _ _ _; trivial
  | cons c r ih =>
    intro w A A' hA ⟨F, hF, hc, hr⟩
    exact ⟨F, fun b hb => ⟨hA b (hF b hb).1, (hF b hb).2⟩, hc, ih (fun b hb => ⟨hA b hb.1, hb.2⟩) hr⟩
theorem Sep.keep {Γ : List HP} : ∀ {w w' : World} {A : Nat → Prop}, (∀ b, A b → b < w.heap.size → w'.heap[b]? = w.heap[b]?) → w.heap.size ≤ w'.heap.size → Sep Γ w A → Sep Γ w' A := by
  induction Γ with
  | nil => intro _ _ _ _ _ _; trivial
  | cons c r ih =>
    intro w w' A hA hs ⟨F, hF, hc, hr⟩
    exact ⟨F, fun b hb => ⟨(hF b hb).1, Nat.lt_of_lt_of_le (hF b hb).2 hs⟩, c.st (fun b hb hl => hA b (hF b hb).1 hl) hs hc, ih (fun b hb hl => hA b hb.1 hl) hs hr⟩
theorem Sep.swap {c d : HP} {r : List HP} {w : World} {A : Nat → Prop} (h : Sep (c :: d :: r) w A) : Sep (d :: c :: r) w A := by
  obtain ⟨F, hF, hc, G, hG, hd, hr⟩ := h
  exact ⟨G, fun b hb => ⟨(hG b hb).1.1, (hG b hb).2⟩, hd, F, fun b hb => ⟨⟨(hF b hb).1, fun hg => (hG b hg).1.2 hb⟩, (hF b hb).2⟩, hc, Sep.up (fun b hb => ⟨⟨hb.1.1, hb.2⟩, hb.1.2⟩) hr⟩
theorem Sep.tail {c : HP} {r : List HP} {w : World} {A : Nat → Prop} (h : Sep (c :: r) w A) : Sep r w A := by
  obtain ⟨F, _, _, hr⟩ := h
  exact Sep.up (fun b hb => hb.1) hr
theorem Sep.cons_perm {c : HP} {r r' : List HP} {w : World} {A : Nat → Prop} (hp : ∀ A, Sep r w A → Sep r' w A) (h : Sep (c :: r) w A) : Sep (c :: r') w A := by
  obtain ⟨F, hF, hc, hr⟩ := h
  exact ⟨F, hF, hc, hp _ hr⟩
theorem Sep.perm {Γ Δ : List HP} (hp : Γ.Perm Δ) : ∀ {w : World} {A : Nat → Prop}, Sep Γ w A → Sep Δ w A := by
  induction hp with
  | nil => intro _ _ h; exact h
  | cons c _ ih => intro _ _ h; exact Sep.cons_perm (fun _ => ih) h
  | swap c d r => intro _ _ h; exact Sep.swap h
  | trans _ _ ih1 ih2 => intro _ _ h; exact ih2 (ih1 h)
theorem Sep.pull {pre r : List HP} {c : HP} {w : World} {A : Nat → Prop} (h : Sep (pre ++ c :: r) w A) : Sep (c :: (pre ++ r)) w A := Sep.perm List.perm_middle h
theorem Sep.push {pre r : List HP} {c : HP} {w : World} {A : Nat → Prop} (h : Sep (c :: (pre ++ r)) w A) : Sep (pre ++ c :: r) w A := Sep.perm List.perm_middle.symm h
/-- Some of the chunks. -/
theorem Sep.sub {Γ Δ : List HP} (hs : List.Sublist Δ Γ) : ∀ {w : World} {A : Nat → Prop}, Sep Γ w A → Sep Δ w A := by
  induction hs with
  | slnil => intro _ _ h; exact h
  | cons c _ ih => intro _ _ h; exact ih (Sep.tail h)
  | cons_cons c _ ih => intro _ _ h; exact Sep.cons_perm (fun _ => ih) h
theorem Sep.nil {w : World} {A : Nat → Prop} : Sep [] w A := trivial
theorem Sep.new {c : HP} {Γ : List HP} {w w' : World} {A : Nat → Prop} (hA : ∀ b, A b → b < w.heap.size → w'.heap[b]? = w.heap[b]?) (hs : w.heap.size ≤ w'.heap.size)
    (hn : ∀ b, w.heap.size ≤ b → A b) (hc : c.p w' (fun b => w.heap.size ≤ b ∧ b < w'.heap.size)) (h : Sep Γ w A) : Sep (c :: Γ) w' A := by
  refine ⟨_, fun b hb => ⟨hn b hb.1, hb.2⟩, hc, ?_⟩
  have key : ∀ (Γ : List HP) (A A' : Nat → Prop), (∀ b, A b → b < w.heap.size → A' b) → (∀ b, A b → b < w.heap.size → w'.heap[b]? = w.heap[b]?) → Sep Γ w A → Sep Γ w' A' := by
    intro Γ
    induction Γ with
    | nil => intro _ _ _ _ _; trivial
    | cons d r ih =>
      intro A A' hAA hA ⟨F, hF, hd, hr⟩
      exact ⟨F, fun b hb => ⟨hAA b (hF b hb).1 (hF b hb).2, Nat.lt_of_lt_of_le (hF b hb).2 hs⟩, d.st (fun b hb hl => hA b (hF b hb).1 hl) hs hd, ih _ _ (fun b hb hl => ⟨hAA b hb.1 hl, hb.2⟩) (fun b hb hl => hA b hb.1 hl) hr⟩
  exact key Γ A _ (fun b hb hl => ⟨hb, fun hk => absurd hk.1 (by omega)⟩) hA h

/-- A block known to the last cell. -/
def blk (b : Nat) (c : List Value) (t : TypeId) : HP where
  p w F := F b ∧ w.heap[b]? = some (.cells c.toArray t (0, 0))
  st := fun h hs ⟨hb, hw⟩ => ⟨hb, (h b hb (Array.getElem?_eq_some_iff.1 hw).1).trans hw⟩
  up := fun h ⟨hb, hw⟩ => ⟨h b hb, hw⟩
/-- A plain fact on no memory. -/
def pureHP (φ : Prop) : HP where
  p _ _ := φ
  st := fun _ _ h => h
  up := fun _ h => h

structure St (w0 : World) (S : Nat → Prop) (H : List HP) (w : World) : Prop where
  kp : Keeps S w0 w
  sep : Sep H w (fun b => S b ∨ w0.heap.size ≤ b)

theorem St.start {w : World} {S : Nat → Prop} {H : List HP} (h : Sep H w S) : St w S H w := ⟨Keeps.refl _ _, Sep.up (fun _ hb => .inl hb) h⟩
theorem St.nil (w : World) (S : Nat → Prop) : St w S [] w := ⟨Keeps.refl _ _, trivial⟩
/-- A world in which all that lay in w lies unturned. -/
theorem St.quiet {w0 w w' : World} {S : Nat → Prop} {H : List HP} (h : St w0 S H w) (k : Keeps No w w') : St w0 S H w' :=
  ⟨h.kp.trans k (fun _ hb => hb.elim), Sep.keep (fun b _ hl => k.block b hl (fun hb => hb.elim)) k.size h.sep⟩
theorem St.drew {w0 w : World} {S : Nat → Prop} {H : List HP} (h : St w0 S H w) : St w0 S H w.drew := h.quiet (Keeps.drew _ _)
theorem St.sub {w0 w : World} {S : Nat → Prop} {H H' : List HP} (h : St w0 S H w) (hs : List.Sublist H' H) : St w0 S H' w := ⟨h.kp, Sep.sub hs h.sep⟩
theorem St.perm {w0 w : World} {S : Nat → Prop} {H H' : List HP} (h : St w0 S H w) (hp : H.Perm H') : St w0 S H' w := ⟨h.kp, Sep.perm hp h.sep⟩
/-- A call, or an allocation, from w on: all old blocks stand, a new chunk lies in what is new. -/
theorem St.fresh {w0 w w' : World} {S : Nat → Prop} {H : List HP} {c : HP} (h : St w0 S H w) (k : Keeps No w w') (hc : c.p w' (fun b => w.heap.size ≤ b ∧ b < w'.heap.size)) : St w0 S (c :: H) w' :=
  ⟨h.kp.trans k (fun _ hb => hb.elim), Sep.new (fun b _ hl => k.block b hl (fun hb => hb.elim)) k.size (fun b hb => .inr (Nat.le_trans h.kp.size hb)) hc h.sep⟩
/-- A call that turns what lies in F into some chunks. -/
theorem St.turnF {w0 w w' : World} {S F : Nat → Prop} {r new : List HP} (hkp : Keeps S w0 w) (hF : ∀ b, F b → (S b ∨ w0.heap.size ≤ b) ∧ b < w.heap.size) (hr : Sep r w (fun b => (S b ∨ w0.heap.size ≤ b) ∧ ¬ F b))
    (hk : St w F new w') : St w0 S (new ++ r) w' := by
  refine ⟨hkp.trans hk.kp (fun b hb => (hF b hb).1), ?_⟩
  have key : ∀ (new : List HP) (A B : Nat → Prop), (∀ b, A b → B b) → (∀ Γ : List HP, Sep Γ w (fun b => (S b ∨ w0.heap.size ≤ b) ∧ ¬ F b) → Sep Γ w' (fun b => B b ∧ ¬ A b)) →
      Sep new w' A → ∀ Γ, Sep Γ w (fun b => (S b ∨ w0.heap.size ≤ b) ∧ ¬ F b) → Sep (new ++ Γ) w' B := by
    intro new
    induction new with
    | nil => intro A B hAB hG _ Γ hΓ; exact Sep.up (fun b hb => hb.1) (hG Γ hΓ)
    | cons d new ih =>
      intro A B hAB hG ⟨G, hGG, hd, hn⟩ Γ hΓ
      refine ⟨G, fun b hb => ⟨hAB b (hGG b hb).1, (hGG b hb).2⟩, hd, ih (fun b => A b ∧ ¬ G b) _ (fun b hb => ⟨hAB b hb.1, hb.2⟩) (fun Γ hΓ => ?_) hn Γ hΓ⟩
      exact Sep.up (fun b hb => ⟨⟨hb.1, fun hg => hb.2 (hGG b hg).1⟩, fun ha => hb.2 ha.1⟩) (hG Γ hΓ)
  refine key new (fun b => F b ∨ w.heap.size ≤ b) _ (fun b hb => ?_) (fun Γ hΓ => ?_) hk.sep _ hr
  · rcases hb with hb | hb
    · exact (hF b hb).1
    · exact .inr (Nat.le_trans hkp.size hb)
  · have key2 : ∀ (Γ : List HP) (A A' : Nat → Prop), (∀ b, A b → ¬ F b) → (∀ b, A b → b < w.heap.size → A' b) → Sep Γ w A → Sep Γ w' A' := by
      intro Γ
      induction Γ with
      | nil => intro _ _ _ _ _; trivial
      | cons d r ih =>
        intro A A' hnF hAA ⟨G, hG, hd, hr⟩
        exact ⟨G, fun b hb => ⟨hAA b (hG b hb).1 (hG b hb).2, Nat.lt_of_lt_of_le (hG b hb).2 hk.kp.size⟩, d.st (fun b hb hl => hk.kp.block b hl (hnF b (hG b hb).1)) hk.kp.size hd, ih _ _ (fun b hb => hnF b hb.1) (fun b hb hl => ⟨hAA b hb.1 hl, hb.2⟩) hr⟩
    exact key2 Γ _ _ (fun b hb => hb.2) (fun b hb hl => ⟨hb.1, fun hk => hk.elim hb.2 (fun h2 => absurd h2 (by omega))⟩) hΓ
/-- What a chunk says now. -/
theorem St.get {w0 w : World} {S : Nat → Prop} {pre r : List HP} {c : HP} (h : St w0 S (pre ++ c :: r) w) : ∃ F : Nat → Prop, c.p w F ∧ (∀ b, F b → (S b ∨ w0.heap.size ≤ b) ∧ b < w.heap.size) := by
  obtain ⟨F, hF, hc, _⟩ := Sep.pull h.sep
  exact ⟨F, hc, hF⟩
theorem St.blk {w0 w : World} {S : Nat → Prop} {pre r : List HP} {b : Nat} {c : List Value} {t : TypeId} (h : St w0 S (pre ++ blk b c t :: r) w) : w.heap[b]? = some (.cells c.toArray t (0, 0)) := by
  obtain ⟨F, hc, _⟩ := h.get
  exact hc.2
/-- The chunk at its place is exchanged for another over the same world. -/
theorem St.change {w0 w : World} {S : Nat → Prop} {pre r : List HP} {c d : HP} (h : St w0 S (pre ++ c :: r) w) (k : ∀ F, c.p w F → d.p w F) : St w0 S (pre ++ d :: r) w := by
  obtain ⟨F, hF, hc, hr⟩ := Sep.pull h.sep
  exact ⟨h.kp, Sep.push ⟨F, hF, k F hc, hr⟩⟩
theorem St.store {w0 w : World} {S : Nat → Prop} {pre r : List HP} {b : Nat} {c : List Value} {t : TypeId} (h : St w0 S (pre ++ Go.Proofs.YtkfmlekomfnleaaGreat.blk b c t :: r) w) (o : Nat) (v : Value) :
    St w0 S (pre ++ Go.Proofs.YtkfmlekomfnleaaGreat.blk b (c.set o v) t :: r) (w.setCell ⟨b, o, none⟩ v) := by
  obtain ⟨F, hF, ⟨hb, hc⟩, hr⟩ := Sep.pull h.sep
  refine ⟨h.kp.trans (S2 := fun i => i = b) (Keeps.set w _ v rfl) (fun i hi => hi ▸ (hF b hb).1), Sep.push ⟨F, fun i hi => ⟨(hF i hi).1, by rw [heap_set_size]; exact (hF i hi).2⟩, ⟨hb, ?_⟩, ?_⟩⟩
  · simp [World.setCell, Array.getElem?_modify, hc]
  · exact Sep.keep (fun i hi _ => heap_set_ne w _ v i (fun e => hi.2 (e ▸ hb))) (by rw [heap_set_size]; exact Nat.le_refl _) hr

/-! ### frames -/
def look : List (Nat × Value) → Nat → Option Value
  | [], _ => none
  | (i, v) :: r, j => match Nat.beq i j with
    | true => some v
    | false => look r j
structure Fr (N : Nat) (ds : List Deferred) (a : Act) (G : List (Nat × Value)) : Prop where
  size : a.tmps.size = N
  defers : a.defers = ds
  at_ : ∀ i v, look G i = some v → a.tmps[i]? = some v
def ev (G : List (Nat × Value)) : Operand → Option Value
  | .tmp t => look G t
  | .const v => some v
  | .global g => some (.pointer (some ⟨g, 0, none⟩))
  | .func f => some (.func (.func f) #[] #[])
theorem Fr.eval {N : Nat} {ds : List Deferred} {a : Act} {G : List (Nat × Value)} (h : Fr N ds a G) {x : Operand} {v : Value} (hv : ev G x = some v) : a.eval x = v := by
  cases x with
  | tmp t => simp [Act.eval, Array.getD_eq_getD_getElem?, h.at_ t v hv]
  | const c => simpa [ev, Act.eval] using hv
  | global g => simpa [ev, Act.eval] using hv
  | func f => simpa [ev, Act.eval] using hv
theorem Fr.put {N : Nat} {ds : List Deferred} {a : Act} {G : List (Nat × Value)} (h : Fr N ds a G) {d : Nat} (hd : Nat.blt d N = true) (v : Value) : Fr N ds (a.put (some d) v) ((d, v) :: G) := by
  refine ⟨by simp [Act.put, h.size], h.defers, fun i u hi => ?_⟩
  have hd' : d < N := by simpa [Nat.blt_eq] using hd
  unfold look at hi
  cases hb : Nat.beq d i with
  | true =>
    rw [hb] at hi
    have : d = i := Nat.eq_of_beq_eq_true hb
    subst this
    simp only [Option.some.injEq] at hi
    subst hi
    simp [Act.put, h.size, hd']
  | false =>
    rw [hb] at hi
    have : d ≠ i := Nat.ne_of_beq_eq_false hb
    simp only [Act.put]
    rw [Array.getElem?_setIfInBounds_ne this]
    exact h.at_ i u hi
theorem Fr.skip {N : Nat} {ds : List Deferred} {a : Act} {G : List (Nat × Value)} (h : Fr N ds a G) (v : Value) : Fr N ds (a.put none v) G := h
/-- What is asked of some slots. -/
def Sub : List (Nat × Value) → List (Nat × Value) → Prop
  | [], _ => True
  | (i, v) :: r, G => look G i = some v ∧ Sub r G
theorem Sub.look {G' G : List (Nat × Value)} (h : Sub G' G) : ∀ i v, look G' i = some v → Go.Proofs.YtkfmlekomfnleaaGreat.look G i = some v := by
  induction G' with
  | nil => intro i v hi; cases hi
  | cons p r ih =>
    intro i v hi
    obtain ⟨j, u⟩ := p
    obtain ⟨h1, h2⟩ := h
    unfold Go.Proofs.YtkfmlekomfnleaaGreat.look at hi
    cases hb : Nat.beq j i with
    | true =>
      rw [hb] at hi
      have : j = i := Nat.eq_of_beq_eq_true hb
      subst this
      simp only [Option.some.injEq] at hi
      subst hi
      exact h1
    | false => rw [hb] at hi; exact ih h2 i v hi
theorem Fr.sub {N : Nat} {ds : List Deferred} {a : Act} {G G' : List (Nat × Value)} (h : Fr N ds a G) (hs : Sub G' G) : Fr N ds a G' := ⟨h.size, h.defers, fun i v hi => h.at_ i v (hs.look i v hi)⟩

/-! ### judgements -/
/-- What is asked at each way out of a piece of code. -/
structure Pst where
  nrm : Act → World → Prop
  ret : Act → World → Prop
  exi : Nat → Act → World → Prop
  gto : Nat → Act → World → Prop
  pan : List PanicEntry → Act → World → Prop
  out : Act → World → Prop
def Pst.fn (Q : Pst) : Exit → Act → World → Prop
  | .normal => Q.nrm
  | .ret => Q.ret
  | .exit i => Q.exi i
  | .goto l => Q.gto l
  | .panic c => Q.pan c
  | .outgrown => Q.out
@[reducible] def Pst.then (K : Act → World → Prop) (Q : Pst) : Pst := ⟨K, Q.ret, Q.exi, Q.gto, Q.pan, Q.out⟩
@[reducible] def Pst.inBlock (id : Nat) (Q : Pst) : Pst := ⟨Q.nrm, Q.ret, fun j => if j = id then Q.nrm else Q.exi j, Q.gto, Q.pan, Q.out⟩
structure Env where
  N : Nat
  ds : List Deferred
  w0 : World
  S : Nat → Prop
/-- From every frame and world of that kind. -/
def PW (E : Env) (K : Act → World → Prop) (G : List (Nat × Value)) (H : List HP) : Prop := ∀ a w, Fr E.N E.ds a G → St E.w0 E.S H w → K a w
def RW (P : Program) (E : Env) (ops : Array Oper) (Q : Pst) (rest : List Oper) (G : List (Nat × Value)) (H : List HP) : Prop := PW E (wpList P ops Q.fn rest) G H
def CW (P : Program) (E : Env) (c : Code) (Q : Pst) (G : List (Nat × Value)) (H : List HP) : Prop := PW E (c.wp P Q.fn) G H

section
variable {P : Program} {E : Env} {ops : Array Oper} {Q : Pst} {K : Act → World → Prop} {rest : List Oper} {G G' : List (Nat × Value)} {H H' : List HP}
theorem PW.keep (hs : Sub G' G) (k : PW E K G' H) : PW E K G H := fun a w hf hw => k a w (hf.sub hs) hw
theorem PW.drop (hs : List.Sublist H' H) (k : PW E K G H') : PW E K G H := fun a w hf hw => k a w hf (hw.sub hs)
theorem PW.perm (hs : H.Perm H') (k : PW E K G H') : PW E K G H := fun a w hf hw => k a w hf (hw.perm hs)
theorem CW.keep (G' : List (Nat × Value)) {c : Code} (hs : Sub G' G) (k : CW P E c Q G' H) : CW P E c Q G H := PW.keep hs k
theorem CW.keepH (H' : List HP) {c : Code} (hs : List.Sublist H' H) (k : CW P E c Q G H') : CW P E c Q G H := PW.drop hs k
theorem RW.keep (G' : List (Nat × Value)) (hs : Sub G' G) (k : RW P E ops Q rest G' H) : RW P E ops Q rest G H := PW.keep hs k

/-! ### code -/
theorem fn_then (K : Act → World → Prop) (Q : Pst) : (Pst.then K Q).fn = Exit.then K Q.fn := by funext e; cases e <;> rfl
theorem fn_inBlock (id : Nat) (Q : Pst) : (Pst.inBlock id Q).fn = Exit.inBlock id Q.fn := by
  funext e a w
  cases e <;> try rfl
  simp only [Pst.fn, Pst.inBlock, Exit.inBlock]
  split <;> rfl
theorem CW.seq {x y : Code} (h : CW P E x (Pst.then (y.wp P Q.fn) Q) G H) : CW P E (.seq x y) Q G H := fun a w hf hw => wp_seq (fn_then _ _ ▸ h a w hf hw)
theorem CW.region {id : Nat} {l : List Oper} (h : RW P E l.toArray Q l G H) : CW P E (.region id l.toArray false) Q G H := fun a w hf hw => wp_region_list (by simpa using h a w hf hw)
theorem RW.nil (h : PW E Q.nrm G H) : RW P E ops Q [] G H := h
/-- Behind a region that is the first of two: the second. -/
theorem RW.next {y : Code} {Q2 : Pst} (h : CW P E y Q2 G H) : RW P E ops (Pst.then (y.wp P Q2.fn) Q2) [] G H := h
theorem CW.skip (h : PW E Q.nrm G H) : CW P E .skip Q G H := fun a w hf hw => wp_skip (h a w hf hw)
theorem CW.skip_next {y : Code} {Q2 : Pst} (h : CW P E y Q2 G H) : CW P E .skip (Pst.then (y.wp P Q2.fn) Q2) G H := fun a w hf hw => wp_skip (h a w hf hw)
theorem CW.block {id : Nat} {c : Code} (h : CW P E c (Pst.inBlock id Q) G H) : CW P E (.block id c) Q G H := fun a w hf hw => wp_block (fn_inBlock _ _ ▸ h a w hf hw)
theorem CW.exit {id : Nat} {K : Act → World → Prop} (hK : Q.exi id = K) (h : PW E K G H) : CW P E (.exit id) Q G H := fun a w hf hw => wp_exit (by subst hK; exact h a w hf hw)
theorem CW.ret {K : Act → World → Prop} (hK : Q.ret = K) (h : PW E K G H) : CW P E .ret Q G H := fun a w hf hw => wp_ret (by subst hK; exact h a w hf hw)
theorem CW.cond {c : Operand} {x y : Code} {b : Bool} (hc : ev G c = some (.bool b)) (ht : b = true → CW P E x Q G H) (hf : b = false → CW P E y Q G H) : CW P E (.cond c x y) Q G H :=
  fun a w hfr hw => wp_cond_split (hfr.eval hc) (fun hb => ht hb a w hfr hw) (fun hb => hf hb a w hfr hw)
/-- The same, a proposition decided. -/
theorem CW.ite {c : Operand} {x y : Code} {p : Prop} [Decidable p] (hc : ev G c = some (.bool (decide p))) (ht : p → CW P E x Q G H) (hf : ¬ p → CW P E y Q G H) : CW P E (.cond c x y) Q G H :=
  CW.cond hc (fun h => ht (of_decide_eq_true h)) (fun h => hf (of_decide_eq_false h))
theorem CW.iteN {c : Operand} {x y : Code} {p : Prop} [Decidable p] (hc : ev G c = some (.bool (!decide p))) (ht : ¬ p → CW P E x Q G H) (hf : p → CW P E y Q G H) : CW P E (.cond c x y) Q G H :=
  CW.cond hc (fun h => ht (by simpa using h)) (fun h => hf (by simpa using h))
theorem CW.ct {c : Operand} {x y : Code} (hc : ev G c = some (.bool true)) (k : CW P E x Q G H) : CW P E (.cond c x y) Q G H := CW.cond hc (fun _ => k) (fun h => by cases h)
theorem CW.cf {c : Operand} {x y : Code} (hc : ev G c = some (.bool false)) (k : CW P E y Q G H) : CW P E (.cond c x y) Q G H := CW.cond hc (fun h => by cases h) (fun _ => k)
/-- The ways through the first of two meet again. -/
theorem CW.cut {ι : Type} (g : ι → List (Nat × Value)) (h : ι → List HP) {x y : Code} (hx : CW P E x (Pst.then (fun a w => ∃ i, Fr E.N E.ds a (g i) ∧ St E.w0 E.S (h i) w) Q) G H)
    (hy : ∀ i, CW P E y Q (g i) (h i)) : CW P E (.seq x y) Q G H := fun a w hf hw => by
  refine wp_seq (wp_mono (hx a w hf hw) (fun e a w hq => ?_))
  cases e with
  | normal => obtain ⟨i, hf, hw⟩ := hq; exact hy i a w hf hw
  | _ => exact hq
/-- A loop: a state i, smaller round by round. -/
theorem CW.loop {ι : Type} (g : ι → List (Nat × Value)) (h : ι → List HP) (m : ι → Nat) (i0 : ι) {c : Code} (h0 : Sub (g i0) G) (hh : ∀ {w}, St E.w0 E.S H w → St E.w0 E.S (h i0) w)
    (round : ∀ i, CW P E c (Pst.then (fun a w => ∃ j, Fr E.N E.ds a (g j) ∧ St E.w0 E.S (h j) w ∧ m j < m i) Q) (g i) (h i)) : CW P E (.loop c) Q G H := fun a w hf hw => by
  refine wp_loop_ghost (fun n a w => ∃ j, m j = n ∧ Fr E.N E.ds a (g j) ∧ St E.w0 E.S (h j) w) (m i0) ⟨i0, rfl, hf.sub h0, hh hw⟩ ?_
  intro n a w ⟨j, hn, hfj, hwj⟩
  refine wp_mono (round j a w hfj hwj) (fun e a' w' hq => ?_)
  cases e with
  | normal => obtain ⟨k, hfk, hwk, hlt⟩ := hq; exact ⟨m k, hn ▸ hlt, k, rfl, hfk, hwk⟩
  | _ => exact hq
end
end Go.Proofs.YtkfmlekomfnleaaGreat
/- The calculus, second part: one rule an operation. Conditions: none; everything holds over any program. -/
set_option linter.unusedVariables false
set_option linter.unusedSimpArgs false
namespace Go.Proofs.YtkfmlekomfnleaaGreat
open Go Go.RowKit

/-! ### types -/
class Ty (P : Program) (t : TypeId) (d : outParam TypeDesc) (z : outParam Value) (sz by_ : outParam Nat) : Prop where
  und : P.underlying t = some d
  inf : (P.info? t).map (fun i => (i.zero, i.size, i.bytes)) = some (some z, sz, by_)
def isAggD : TypeDesc → Bool
  | .struct _ | .array _ _ => true
  | _ => false
section
variable {P : Program} {t : TypeId} {d : TypeDesc} {z : Value} {sz by_ : Nat}
theorem Ty.info (T : Ty P t d z sz by_) : ∃ i, P.info? t = some i ∧ i.zero = some z ∧ i.size = sz ∧ i.bytes = by_ := by
  have h := T.inf
  cases hi : P.info? t with
  | none => rw [hi] at h; cases h
  | some i =>
    rw [hi] at h
    simp only [Option.map_some, Option.some.injEq, Prod.mk.injEq] at h
    exact ⟨i, rfl, h.1, h.2.1, h.2.2⟩
theorem Ty.runUnd (T : Ty P t d z sz by_) (w : World) : (underlying t).run P w = .ok d w := by
  simp [underlying, T.und]
theorem Ty.runSize (T : Ty P t d z sz by_) (w : World) : (sizeOf t).run P w = .ok sz w := by
  obtain ⟨i, hi, _, hs, _⟩ := T.info
  simp [sizeOf, typeInfo, hi, hs]
theorem Ty.runZero (T : Ty P t d z sz by_) (w : World) : (zeroValue t).run P w = .ok z w := by
  obtain ⟨i, hi, hz, _⟩ := T.info
  simp [zeroValue, typeInfo, hi, hz]
theorem Ty.runAgg (T : Ty P t d z sz by_) (w : World) : (isAgg t).run P w = .ok (isAggD d) w := by
  cases d <;> simp [isAgg, T.runUnd, isAggD]
end

/-- The cells from a place on. -/
def CellsAt (w : World) (b o : Nat) (cs : List Value) : Prop := ∀ i v, cs[i]? = some v → w.cell? ⟨b, o + i, none⟩ = some v
theorem CellsAt.nil (w : World) (b o : Nat) : CellsAt w b o [] := fun i v h => by simp at h
theorem CellsAt.one {w : World} {b o : Nat} {v : Value} (h : w.cell? ⟨b, o, none⟩ = some v) : CellsAt w b o [v] := fun i u hu => by
  cases i with
  | zero => simp at hu; subst hu; simpa using h
  | succ i => simp at hu
theorem CellsAt.at_ {w : World} {b o : Nat} {cs : List Value} (h : CellsAt w b o cs) (i : Nat) {v : Value} (hv : cs[i]? = some v) : w.cell? ⟨b, o + i, none⟩ = some v := h i v hv
theorem CellsAt.drop {w : World} {b o : Nat} {cs : List Value} (h : CellsAt w b o cs) (k : Nat) : CellsAt w b (o + k) (cs.drop k) := fun i v hv => by
  rw [List.getElem?_drop] at hv
  have := h _ _ hv
  rwa [← Nat.add_assoc] at this
theorem CellsAt.take {w : World} {b o : Nat} {cs : List Value} (h : CellsAt w b o cs) (k : Nat) : CellsAt w b o (cs.take k) := fun i v hv => by
  rw [List.getElem?_take] at hv
  split at hv
  · exact h _ _ hv
  · cases hv
theorem add_at (b o n : Nat) : (⟨b, o, none⟩ : Addr).add n = ⟨b, o + n, none⟩ := by
  unfold Addr.add
  split
  · rename_i h; simp [h]
  · rfl
theorem run_loadCellsFrom {P : Program} {w : World} {b o : Nat} : ∀ (cs : List Value) (i : Nat) (acc : Array Value), (∀ j v, cs[j]? = some v → w.cell? ⟨b, o + (i + j), none⟩ = some v) →
    (loadCellsFrom ⟨b, o, none⟩ i cs.length acc).run P w = .ok (acc ++ cs.toArray) w := by
  intro cs
  induction cs with
  | nil => intro i acc _; simp [loadCellsFrom]
  | cons c cs ih =>
    intro i acc h
    have h0 := h 0 c (by simp)
    simp only [Nat.add_zero] at h0
    rw [List.length_cons]
    unfold loadCellsFrom
    rw [add_at]
    simp only [Sem.run_bind, run_load, h0, Result.andThen]
    rw [ih (i + 1) (acc.push c) (fun j v hj => by have := h (j + 1) v (by simpa using hj); rwa [show o + (i + (j + 1)) = o + (i + 1 + j) from by omega] at this)]
    simp
theorem run_loadCells {P : Program} {w : World} {b o : Nat} {cs : List Value} (h : CellsAt w b o cs) : (loadCells ⟨b, o, none⟩ cs.length).run P w = .ok cs.toArray w := by
  unfold loadCells
  rw [run_loadCellsFrom cs 0 #[] (fun j v hj => by simpa using h j v hj)]
  simp
theorem run_loadVar_one {P : Program} {t : TypeId} {d : TypeDesc} {z : Value} {sz by_ : Nat} [T : Ty P t d z sz by_] (hd : isAggD d = false) {w : World} {a : Addr} {v : Value} (h : w.cell? a = some v) :
    (loadVar t a).run P w = .ok v w := by
  simp [loadVar, T.runAgg, hd, h]
theorem run_loadVar_agg {P : Program} {t : TypeId} {d : TypeDesc} {z : Value} {sz by_ : Nat} [T : Ty P t d z sz by_] (hd : isAggD d = true) {w : World} {b o : Nat} {cs : List Value} (hs : cs.length = sz) (h : CellsAt w b o cs) :
    (loadVar t ⟨b, o, none⟩).run P w = .ok (.agg cs.toArray) w := by
  subst hs
  simp only [loadVar, Sem.run_bind, T.runAgg, hd, Result.andThen, if_true, T.runSize, run_loadCells h]
  rfl
/-- A block known whole. -/
theorem CellsAt.of_blk {w : World} {b : Nat} {c : List Value} {t : TypeId} (h : w.heap[b]? = some (.cells c.toArray t (0, 0))) : CellsAt w b 0 c := fun i v hv => by
  simp [World.cell?, h, hv]
theorem cell_of_blk {w : World} {b : Nat} {c : List Value} {t : TypeId} (h : w.heap[b]? = some (.cells c.toArray t (0, 0))) {o : Nat} {v : Value} (hv : c[o]? = some v) : w.cell? ⟨b, o, none⟩ = some v := by
  simp [World.cell?, h, hv]
theorem unfrozen_of_blk {w : World} {b : Nat} {c : List Value} {t : TypeId} (h : w.heap[b]? = some (.cells c.toArray t (0, 0))) (o : Nat) : w.frozen? ⟨b, o, none⟩ = false := by
  simp [World.frozen?, h]

/-! ### steps -/
section
variable {P : Program} {E : Env} {ops : Array Oper} {Q : Pst} {rest : List Oper} {G : List (Nat × Value)} {H : List HP}
theorem RW.step {op : Oper} (hg : op.guard = none) (h : ∀ a w, Fr E.N E.ds a G → St E.w0 E.S H w → op.upon P a (wpList P ops Q.fn rest) Q.fn ((execOp a.eval op).run P w)) : RW P E ops Q (op :: rest) G H := by
  intro a w hf hw
  refine wpList_plain hg (fun K hK => ?_)
  exact Go.Oper.wp_mono hK (h a w hf hw)
theorem RW.val {dst : Nat} {op : Op} {ty : TypeId} {pos : String} {af : Array Edge} {v : Value} (hN : Nat.blt dst E.N = true)
    (hr : ∀ a w, Fr E.N E.ds a G → St E.w0 E.S H w → (execOp a.eval ⟨some dst, op, ty, pos, af, none⟩).run P w = .ok (.value v) w)
    (k : RW P E ops Q rest ((dst, v) :: G) H) : RW P E ops Q (⟨some dst, op, ty, pos, af, none⟩ :: rest) G H :=
  RW.step rfl (fun a w hf hw => by rw [hr a w hf hw]; exact k _ _ (hf.put hN v) hw)
/-- A new block. -/
theorem RW.newblk {dst : Nat} {op : Op} {ty : TypeId} {pos : String} {af : Array Edge} {V : Nat → Value} {c : List Value} {t : TypeId} (hN : Nat.blt dst E.N = true)
    (hr : ∀ a w, Fr E.N E.ds a G → St E.w0 E.S H w → (execOp a.eval ⟨some dst, op, ty, pos, af, none⟩).run P w = .ok (.value (V w.heap.size)) (w.alloc (.cells c.toArray t)))
    (k : ∀ b, E.w0.heap.size ≤ b → RW P E ops Q rest ((dst, V b) :: G) (blk b c t :: H)) : RW P E ops Q (⟨some dst, op, ty, pos, af, none⟩ :: rest) G H :=
  RW.step rfl (fun a w hf hw => by
    rw [hr a w hf hw]
    refine k w.heap.size hw.kp.size _ _ (hf.put hN _) (hw.fresh (Keeps.alloc _ _ _) ⟨⟨Nat.le_refl _, ?_⟩, ?_⟩)
    · show _ < (w.heap.push _).size; simp
    · show (w.heap.push _)[_]? = _; simp)
section
variable {dst : Nat} {ty : TypeId} {pos : String} {af : Array Edge} {t tx ty' : TypeId} {d : TypeDesc} {z : Value} {sz by_ : Nat} {x y : Operand} {u v : Value} {a b : Int} {k kk : IntKind} {p q : Bool} {s1 s2 : ByteArray}
theorem RW.move (hx : ev G x = some v) (hN : Nat.blt dst E.N = true) (k : RW P E ops Q rest ((dst, v) :: G) H) : RW P E ops Q (⟨some dst, .move x, ty, pos, af, none⟩ :: rest) G H :=
  RW.val hN (fun a w hf _ => by simp [execOp, hf.eval hx]) k
theorem RW.assign (hx : ev G x = some v) (hN : Nat.blt dst E.N = true) (k : RW P E ops Q rest ((dst, v) :: G) H) : RW P E ops Q (⟨some dst, .assign x, ty, pos, af, none⟩ :: rest) G H :=
  RW.val hN (fun a w hf _ => by simp [execOp, hf.eval hx]) k
theorem RW.pick_t {c : Operand} (hc : ev G c = some (.bool true)) (hx : ev G x = some v) (hN : Nat.blt dst E.N = true) (k : RW P E ops Q rest ((dst, v) :: G) H) : RW P E ops Q (⟨some dst, .pick c x y, ty, pos, af, none⟩ :: rest) G H :=
  RW.val hN (fun a w hf _ => by simp [execOp, hf.eval hc, hf.eval hx, asBool]) k
theorem RW.pick_f {c : Operand} (hc : ev G c = some (.bool false)) (hy : ev G y = some v) (hN : Nat.blt dst E.N = true) (k : RW P E ops Q rest ((dst, v) :: G) H) : RW P E ops Q (⟨some dst, .pick c x y, ty, pos, af, none⟩ :: rest) G H :=
  RW.val hN (fun a w hf _ => by simp [execOp, hf.eval hc, hf.eval hy, asBool]) k
theorem RW.alloc [T : Ty P t d z sz by_] {c : List Value} (hc : z.cells = c.toArray) (hN : Nat.blt dst E.N = true) (k : ∀ b, E.w0.heap.size ≤ b → RW P E ops Q rest ((dst, .pointer (some ⟨b, 0, none⟩)) :: G) (blk b c t :: H)) :
    RW P E ops Q (⟨some dst, .alloc t, ty, pos, af, none⟩ :: rest) G H :=
  RW.newblk (V := fun b => .pointer (some ⟨b, 0, none⟩)) hN (fun a w _ _ => by simp [execOp, Instr.alloc, T.runZero, newVar, newRow, hc]) k
theorem RW.box_agg {l : List Value} (hx : ev G x = some (.agg l.toArray)) (hN : Nat.blt dst E.N = true) (k : ∀ b, E.w0.heap.size ≤ b → RW P E ops Q rest ((dst, .pointer (some ⟨b, 0, none⟩)) :: G) (blk b l t :: H)) :
    RW P E ops Q (⟨some dst, .box t x, ty, pos, af, none⟩ :: rest) G H :=
  RW.newblk (V := fun b => .pointer (some ⟨b, 0, none⟩)) hN (fun a w hf _ => by simp [execOp, Instr.box, newVar, newRow, hf.eval hx, Value.cells]) k
theorem RW.box_one (hx : ev G x = some v) (hv : v.cells = #[v]) (hN : Nat.blt dst E.N = true) (k : ∀ b, E.w0.heap.size ≤ b → RW P E ops Q rest ((dst, .pointer (some ⟨b, 0, none⟩)) :: G) (blk b [v] t :: H)) :
    RW P E ops Q (⟨some dst, .box t x, ty, pos, af, none⟩ :: rest) G H :=
  RW.newblk (V := fun b => .pointer (some ⟨b, 0, none⟩)) hN (fun a w hf _ => by simp [execOp, Instr.box, newVar, newRow, hf.eval hx, hv]) k
/-- A load that meets one cell. -/
theorem RW.load_fact [T : Ty P t d z sz by_] {A : Addr} (hx : ev G x = some (.pointer (some A))) (hd : isAggD d = false) (hN : Nat.blt dst E.N = true) (hc : ∀ w, St E.w0 E.S H w → w.cell? A = some v)
    (k : RW P E ops Q rest ((dst, v) :: G) H) : RW P E ops Q (⟨some dst, .load t x, ty, pos, af, none⟩ :: rest) G H :=
  RW.val hN (fun a w hf hw => by simp [execOp, Instr.loadAt, Instr.sureAddr, hf.eval hx, run_loadVar_one hd (hc w hw)]) k
theorem RW.load_facts [T : Ty P t d z sz by_] {B O : Nat} {cs : List Value} (hx : ev G x = some (.pointer (some ⟨B, O, none⟩))) (hd : isAggD d = true) (hs : cs.length = sz) (hN : Nat.blt dst E.N = true) (hc : ∀ w, St E.w0 E.S H w → CellsAt w B O cs)
    (k : RW P E ops Q rest ((dst, .agg cs.toArray) :: G) H) : RW P E ops Q (⟨some dst, .load t x, ty, pos, af, none⟩ :: rest) G H :=
  RW.val hN (fun a w hf hw => by simp [execOp, Instr.loadAt, Instr.sureAddr, hf.eval hx, run_loadVar_agg hd hs (hc w hw)]) k
/-- .. a cell of what came in. -/
theorem RW.load_old [T : Ty P t d z sz by_] {B O : Nat} (hx : ev G x = some (.pointer (some ⟨B, O, none⟩))) (hc : E.w0.cell? ⟨B, O, none⟩ = some v) (hS : ¬ E.S B) (hd : isAggD d = false) (hN : Nat.blt dst E.N = true)
    (k : RW P E ops Q rest ((dst, v) :: G) H) : RW P E ops Q (⟨some dst, .load t x, ty, pos, af, none⟩ :: rest) G H :=
  RW.load_fact hx hd hN (fun w hw => by
    have hl := World.block_lt_of_cell? E.w0 _ hc
    have := hw.kp.block B hl hS
    simpa [World.cell?, this] using hc) k
theorem CellsAt.keeps {w w' : World} {S : Nat → Prop} {B O : Nat} {cs : List Value} (h : CellsAt w B O cs) (k : Keeps S w w') (hS : ¬ S B) : CellsAt w' B O cs := fun i v hv => by
  have hc := h i v hv
  have hl := World.block_lt_of_cell? w _ hc
  have := k.block B hl hS
  simpa [World.cell?, this] using hc
theorem cell_keeps {w w' : World} {S : Nat → Prop} {B O : Nat} {v : Value} (h : w.cell? ⟨B, O, none⟩ = some v) (k : Keeps S w w') (hS : ¬ S B) : w'.cell? ⟨B, O, none⟩ = some v := by
  have hl := World.block_lt_of_cell? w _ h
  have := k.block B hl hS
  simpa [World.cell?, this] using h
theorem RW.load_olds [T : Ty P t d z sz by_] {B O : Nat} {cs : List Value} (hx : ev G x = some (.pointer (some ⟨B, O, none⟩))) (hc : CellsAt E.w0 B O cs) (hS : ¬ E.S B) (hd : isAggD d = true) (hs : cs.length = sz) (hN : Nat.blt dst E.N = true)
    (k : RW P E ops Q rest ((dst, .agg cs.toArray) :: G) H) : RW P E ops Q (⟨some dst, .load t x, ty, pos, af, none⟩ :: rest) G H :=
  RW.load_facts hx hd hs hN (fun w hw => hc.keeps hw.kp hS) k
/-- .. a cell of a block known whole. -/
theorem RW.load_blk [T : Ty P t d z sz by_] (pre : List HP) {r : List HP} {B O : Nat} {c : List Value} {te : TypeId} (hx : ev G x = some (.pointer (some ⟨B, O, none⟩))) (hv : c[O]? = some v) (hd : isAggD d = false) (hN : Nat.blt dst E.N = true)
    (k : RW P E ops Q rest ((dst, v) :: G) (pre ++ blk B c te :: r)) : RW P E ops Q (⟨some dst, .load t x, ty, pos, af, none⟩ :: rest) G (pre ++ blk B c te :: r) :=
  RW.load_fact hx hd hN (fun w hw => cell_of_blk hw.blk hv) k
theorem RW.load_whole [T : Ty P t d z sz by_] (pre : List HP) {r : List HP} {B : Nat} {c : List Value} {te : TypeId} (hx : ev G x = some (.pointer (some ⟨B, 0, none⟩))) (hs : c.length = sz) (hd : isAggD d = true) (hN : Nat.blt dst E.N = true)
    (k : RW P E ops Q rest ((dst, .agg c.toArray) :: G) (pre ++ blk B c te :: r)) : RW P E ops Q (⟨some dst, .load t x, ty, pos, af, none⟩ :: rest) G (pre ++ blk B c te :: r) :=
  RW.load_facts hx hd hs hN (fun w hw => CellsAt.of_blk hw.blk) k

theorem RW.load_part1 [T : Ty P t d z 1 by_] (pre : List HP) {r : List HP} {B O : Nat} {c tl : List Value} {v0 : Value} {te : TypeId} (hx : ev G x = some (.pointer (some ⟨B, O, none⟩))) (hv : c.drop O = v0 :: tl) (hd : isAggD d = true) (hN : Nat.blt dst E.N = true)
    (k : RW P E ops Q rest ((dst, .agg #[v0]) :: G) (pre ++ blk B c te :: r)) : RW P E ops Q (⟨some dst, .load t x, ty, pos, af, none⟩ :: rest) G (pre ++ blk B c te :: r) :=
  RW.load_facts (cs := [v0]) hx hd rfl hN (fun w hw => by
    have h := ((CellsAt.of_blk hw.blk).drop O).take 1
    rw [hv] at h
    simpa using h) k
theorem RW.load_part2 [T : Ty P t d z 2 by_] (pre : List HP) {r : List HP} {B O : Nat} {c tl : List Value} {v0 v1 : Value} {te : TypeId} (hx : ev G x = some (.pointer (some ⟨B, O, none⟩))) (hv : c.drop O = v0 :: v1 :: tl) (hd : isAggD d = true) (hN : Nat.blt dst E.N = true)
    (k : RW P E ops Q rest ((dst, .agg #[v0, v1]) :: G) (pre ++ blk B c te :: r)) : RW P E ops Q (⟨some dst, .load t x, ty, pos, af, none⟩ :: rest) G (pre ++ blk B c te :: r) :=
  RW.load_facts (cs := [v0, v1]) hx hd rfl hN (fun w hw => by
    have h := ((CellsAt.of_blk hw.blk).drop O).take 2
    rw [hv] at h
    simpa using h) k
theorem RW.load_part3 [T : Ty P t d z 3 by_] (pre : List HP) {r : List HP} {B O : Nat} {c tl : List Value} {v0 v1 v2 : Value} {te : TypeId} (hx : ev G x = some (.pointer (some ⟨B, O, none⟩))) (hv : c.drop O = v0 :: v1 :: v2 :: tl) (hd : isAggD d = true) (hN : Nat.blt dst E.N = true)
    (k : RW P E ops Q rest ((dst, .agg #[v0, v1, v2]) :: G) (pre ++ blk B c te :: r)) : RW P E ops Q (⟨some dst, .load t x, ty, pos, af, none⟩ :: rest) G (pre ++ blk B c te :: r) :=
  RW.load_facts (cs := [v0, v1, v2]) hx hd rfl hN (fun w hw => by
    have h := ((CellsAt.of_blk hw.blk).drop O).take 3
    rw [hv] at h
    simpa using h) k
theorem RW.load_part4 [T : Ty P t d z 4 by_] (pre : List HP) {r : List HP} {B O : Nat} {c tl : List Value} {v0 v1 v2 v3 : Value} {te : TypeId} (hx : ev G x = some (.pointer (some ⟨B, O, none⟩))) (hv : c.drop O = v0 :: v1 :: v2 :: v3 :: tl) (hd : isAggD d = true) (hN : Nat.blt dst E.N = true)
    (k : RW P E ops Q rest ((dst, .agg #[v0, v1, v2, v3]) :: G) (pre ++ blk B c te :: r)) : RW P E ops Q (⟨some dst, .load t x, ty, pos, af, none⟩ :: rest) G (pre ++ blk B c te :: r) :=
  RW.load_facts (cs := [v0, v1, v2, v3]) hx hd rfl hN (fun w hw => by
    have h := ((CellsAt.of_blk hw.blk).drop O).take 4
    rw [hv] at h
    simpa using h) k
theorem RW.load_part5 [T : Ty P t d z 5 by_] (pre : List HP) {r : List HP} {B O : Nat} {c tl : List Value} {v0 v1 v2 v3 v4 : Value} {te : TypeId} (hx : ev G x = some (.pointer (some ⟨B, O, none⟩))) (hv : c.drop O = v0 :: v1 :: v2 :: v3 :: v4 :: tl) (hd : isAggD d = true) (hN : Nat.blt dst E.N = true)
    (k : RW P E ops Q rest ((dst, .agg #[v0, v1, v2, v3, v4]) :: G) (pre ++ blk B c te :: r)) : RW P E ops Q (⟨some dst, .load t x, ty, pos, af, none⟩ :: rest) G (pre ++ blk B c te :: r) :=
  RW.load_facts (cs := [v0, v1, v2, v3, v4]) hx hd rfl hN (fun w hw => by
    have h := ((CellsAt.of_blk hw.blk).drop O).take 5
    rw [hv] at h
    simpa using h) k
theorem RW.load_part6 [T : Ty P t d z 6 by_] (pre : List HP) {r : List HP} {B O : Nat} {c tl : List Value} {v0 v1 v2 v3 v4 v5 : Value} {te : TypeId} (hx : ev G x = some (.pointer (some ⟨B, O, none⟩))) (hv : c.drop O = v0 :: v1 :: v2 :: v3 :: v4 :: v5 :: tl) (hd : isAggD d = true) (hN : Nat.blt dst E.N = true)
    (k : RW P E ops Q rest ((dst, .agg #[v0, v1, v2, v3, v4, v5]) :: G) (pre ++ blk B c te :: r)) : RW P E ops Q (⟨some dst, .load t x, ty, pos, af, none⟩ :: rest) G (pre ++ blk B c te :: r) :=
  RW.load_facts (cs := [v0, v1, v2, v3, v4, v5]) hx hd rfl hN (fun w hw => by
    have h := ((CellsAt.of_blk hw.blk).drop O).take 6
    rw [hv] at h
    simpa using h) k
theorem RW.load_part7 [T : Ty P t d z 7 by_] (pre : List HP) {r : List HP} {B O : Nat} {c tl : List Value} {v0 v1 v2 v3 v4 v5 v6 : Value} {te : TypeId} (hx : ev G x = some (.pointer (some ⟨B, O, none⟩))) (hv : c.drop O = v0 :: v1 :: v2 :: v3 :: v4 :: v5 :: v6 :: tl) (hd : isAggD d = true) (hN : Nat.blt dst E.N = true)
    (k : RW P E ops Q rest ((dst, .agg #[v0, v1, v2, v3, v4, v5, v6]) :: G) (pre ++ blk B c te :: r)) : RW P E ops Q (⟨some dst, .load t x, ty, pos, af, none⟩ :: rest) G (pre ++ blk B c te :: r) :=
  RW.load_facts (cs := [v0, v1, v2, v3, v4, v5, v6]) hx hd rfl hN (fun w hw => by
    have h := ((CellsAt.of_blk hw.blk).drop O).take 7
    rw [hv] at h
    simpa using h) k
theorem RW.load_part8 [T : Ty P t d z 8 by_] (pre : List HP) {r : List HP} {B O : Nat} {c tl : List Value} {v0 v1 v2 v3 v4 v5 v6 v7 : Value} {te : TypeId} (hx : ev G x = some (.pointer (some ⟨B, O, none⟩))) (hv : c.drop O = v0 :: v1 :: v2 :: v3 :: v4 :: v5 :: v6 :: v7 :: tl) (hd : isAggD d = true) (hN : Nat.blt dst E.N = true)
    (k : RW P E ops Q rest ((dst, .agg #[v0, v1, v2, v3, v4, v5, v6, v7]) :: G) (pre ++ blk B c te :: r)) : RW P E ops Q (⟨some dst, .load t x, ty, pos, af, none⟩ :: rest) G (pre ++ blk B c te :: r) :=
  RW.load_facts (cs := [v0, v1, v2, v3, v4, v5, v6, v7]) hx hd rfl hN (fun w hw => by
    have h := ((CellsAt.of_blk hw.blk).drop O).take 8
    rw [hv] at h
    simpa using h) k
theorem RW.load_part9 [T : Ty P t d z 9 by_] (pre : List HP) {r : List HP} {B O : Nat} {c tl : List Value} {v0 v1 v2 v3 v4 v5 v6 v7 v8 : Value} {te : TypeId} (hx : ev G x = some (.pointer (some ⟨B, O, none⟩))) (hv : c.drop O = v0 :: v1 :: v2 :: v3 :: v4 :: v5 :: v6 :: v7 :: v8 :: tl) (hd : isAggD d = true) (hN : Nat.blt dst E.N = true)
    (k : RW P E ops Q rest ((dst, .agg #[v0, v1, v2, v3, v4, v5, v6, v7, v8]) :: G) (pre ++ blk B c te :: r)) : RW P E ops Q (⟨some dst, .load t x, ty, pos, af, none⟩ :: rest) G (pre ++ blk B c te :: r) :=
  RW.load_facts (cs := [v0, v1, v2, v3, v4, v5, v6, v7, v8]) hx hd rfl hN (fun w hw => by
    have h := ((CellsAt.of_blk hw.blk).drop O).take 9
    rw [hv] at h
    simpa using h) k

theorem run_storeCells_blk {P : Program} : ∀ (vs : List Value) (i : Nat) (w : World) (c : List Value) (B O : Nat) (te : TypeId), w.heap[B]? = some (.cells c.toArray te (0, 0)) → (∀ v ∈ vs, v.oneCell' = true) → O + i + vs.length ≤ c.length →
    ∃ w', (storeCells ⟨B, O, none⟩ vs i).run P w = .ok () w' ∧ ∀ {w0 : World} {S : Nat → Prop} {pre r : List HP}, St w0 S (pre ++ blk B c te :: r) w → St w0 S (pre ++ blk B (c.take (O + i) ++ vs ++ c.drop (O + i + vs.length)) te :: r) w' := by
  intro vs
  induction vs with
  | nil => intro i w c B O te _ _ _; exact ⟨w, by simp [storeCells], fun h => by simpa using h⟩
  | cons v vs ih =>
    intro i w c B O te hb hv hl
    have hlt : O + i < c.length := by simp at hl; omega
    have hcell : w.cell? ⟨B, O + i, none⟩ = some c[O + i] := cell_of_blk hb (by simp [hlt])
    have hst : (store ⟨B, O + i, none⟩ v).run P w = .ok () (w.setCell ⟨B, O + i, none⟩ v) := by
      rw [run_store _ _ _ _ _ (hv v (by simp))]
      simp [stored, hcell, unfrozen_of_blk hb]
    have hb' : (w.setCell ⟨B, O + i, none⟩ v).heap[B]? = some (.cells (c.set (O + i) v).toArray te (0, 0)) := by
      simp [World.setCell, Array.getElem?_modify, hb]
    obtain ⟨w', hw', hk⟩ := ih (i + 1) (w.setCell ⟨B, O + i, none⟩ v) (c.set (O + i) v) B O te hb' (fun u hu => hv u (by simp [hu])) (by simp at hl ⊢; omega)
    refine ⟨w', ?_, fun h => ?_⟩
    · unfold storeCells
      rw [add_at]
      simp only [Sem.run_bind, hst, Result.andThen]
      exact hw'
    · have := hk (h.store (O + i) v)
      rw [show c.take (O + i) ++ v :: vs ++ c.drop (O + i + (v :: vs).length) = (c.set (O + i) v).take (O + (i + 1)) ++ vs ++ (c.set (O + i) v).drop (O + (i + 1) + vs.length) from ?_]
      · exact this
      · rw [List.drop_set_of_lt (by omega), List.take_set, show O + (i + 1) = O + i + 1 from by omega, List.take_succ_eq_append_getElem hlt]
        rw [List.set_append_right _ _ (by simp; omega)]
        simp [Nat.min_eq_left (Nat.le_of_lt hlt), Nat.add_assoc, Nat.add_comm 1]
/-- A store of one cell into a block known whole. -/
theorem RW.store_blk [T : Ty P t d z 1 by_] (pre : List HP) {r : List HP} {B O : Nat} {c : List Value} {te : TypeId} {dst : Option Nat} (hdst : dst = none) (hx : ev G x = some (.pointer (some ⟨B, O, none⟩))) (hy : ev G y = some v) (hv : v.cells = #[v]) (h1 : v.oneCell' = true) (hl : O < c.length)
    (k : RW P E ops Q rest G (pre ++ blk B (c.set O v) te :: r)) : RW P E ops Q (⟨dst, .store t x y, ty, pos, af, none⟩ :: rest) G (pre ++ blk B c te :: r) := by
  subst hdst
  exact RW.step rfl (fun a w hf hw => by
    have hb := hw.blk
    have hcell : w.cell? ⟨B, O, none⟩ = some c[O] := cell_of_blk hb (by simp [hl])
    have hst : (store ⟨B, O, none⟩ v).run P w = .ok () (w.setCell ⟨B, O, none⟩ v) := by
      rw [run_store _ _ _ _ _ h1]
      simp [stored, hcell, unfrozen_of_blk hb]
    have hrun : (execOp a.eval ⟨none, .store t x y, ty, pos, af, none⟩).run P w = .ok .skip (w.setCell ⟨B, O, none⟩ v) := by
      simp [execOp, Instr.storeAt, Instr.sureAddr, hf.eval hx, hf.eval hy, storeVar, hv, T.runSize, storeCells, Addr.add, hst]
    rw [hrun]
    exact k _ _ (hf.skip _) (hw.store O v))
/-- A store of several. -/
theorem RW.store_part [T : Ty P t d z sz by_] (pre : List HP) {r : List HP} {B O : Nat} {c vs : List Value} {te : TypeId} {dst : Option Nat} (hdst : dst = none) (hx : ev G x = some (.pointer (some ⟨B, O, none⟩))) (hy : ev G y = some (.agg vs.toArray)) (hs : vs.length = sz) (h1 : ∀ v ∈ vs, v.oneCell' = true) (hl : O + vs.length ≤ c.length)
    (k : RW P E ops Q rest G (pre ++ blk B (c.take O ++ vs ++ c.drop (O + vs.length)) te :: r)) : RW P E ops Q (⟨dst, .store t x y, ty, pos, af, none⟩ :: rest) G (pre ++ blk B c te :: r) := by
  subst hdst
  exact RW.step rfl (fun a w hf hw => by
    obtain ⟨w', hw', hk⟩ := run_storeCells_blk (P := P) vs 0 w c B O te hw.blk h1 (by simpa using hl)
    have hrun : (execOp a.eval ⟨none, .store t x y, ty, pos, af, none⟩).run P w = .ok .skip w' := by
      simp [execOp, Instr.storeAt, Instr.sureAddr, hf.eval hx, hf.eval hy, storeVar, Value.cells, T.runSize, hs, hw']
    rw [hrun]
    exact k _ _ (hf.skip _) (by simpa using hk hw))
/-- A whole block. -/
theorem RW.store_whole [T : Ty P t d z sz by_] (pre : List HP) {r : List HP} {B : Nat} {c vs : List Value} {te : TypeId} {dst : Option Nat} (hdst : dst = none) (hx : ev G x = some (.pointer (some ⟨B, 0, none⟩))) (hy : ev G y = some (.agg vs.toArray)) (hs : vs.length = sz) (hl : vs.length = c.length) (h1 : ∀ v ∈ vs, v.oneCell' = true)
    (k : RW P E ops Q rest G (pre ++ blk B vs te :: r)) : RW P E ops Q (⟨dst, .store t x y, ty, pos, af, none⟩ :: rest) G (pre ++ blk B c te :: r) :=
  RW.store_part pre hdst hx hy hs h1 (by omega) (by
    have : c.take 0 ++ vs ++ c.drop (0 + vs.length) = vs := by simp [hl]
    rw [this]; exact k)

end
end
end Go.Proofs.YtkfmlekomfnleaaGreat
/- The calculus, third part: arithmetic, fields, indexes, calls, guards. Conditions: none; everything holds over any program. -/
set_option linter.unusedVariables false
set_option linter.unusedSimpArgs false
namespace Go.Proofs.YtkfmlekomfnleaaGreat
open Go Go.RowKit

theorem w64 {n : Int} (h1 : -9223372036854775808 ≤ n) (h2 : n ≤ 9223372036854775807) : IntKind.i64.wrap n = n := by
  have := IntWalk.i64_in n ⟨h1, h2⟩
  exact this
theorem run_eqGuard_int {P : Program} (op : BinOp) (t : TypeId) (x y : Operand) (k k' : IntKind) (a b : Int) (w : World) : (eqGuard op t x y (.int k a) (.int k' b)).run P w = .ok () w := by
  unfold eqGuard; split <;> rfl
theorem run_eqGuard_bool {P : Program} (op : BinOp) (t : TypeId) (x y : Operand) (a b : Bool) (w : World) : (eqGuard op t x y (.bool a) (.bool b)).run P w = .ok () w := by
  unfold eqGuard; split <;> rfl
theorem run_eqGuard_string {P : Program} (op : BinOp) (t : TypeId) (x y : Operand) (a b : ByteArray) (w : World) : (eqGuard op t x y (.string a) (.string b)).run P w = .ok () w := by
  unfold eqGuard; split <;> rfl
theorem run_eqGuard_slice {P : Program} (op : BinOp) (t : TypeId) (x y : Operand) (a b : Option Addr) (n m c d : Nat) (w : World) : (eqGuard op t x y (.slice a n c) (.slice b m d)).run P w = .ok () w := by
  unfold eqGuard; split <;> rfl
theorem beqI (a b : Int) : (a == b) = decide (a = b) := by rw [Bool.eq_iff_iff]; simp
theorem beqL (a b : ByteArray) : (a.toList == b.toList) = decide (a = b) := by
  rw [Bool.eq_iff_iff]
  simp [ByteArray.toList_eq, ByteArray.ext_iff, Array.toList_inj]
theorem beqB (a b : Bool) : (a == b) = decide (a = b) := by cases a <;> cases b <;> rfl

section
variable {P : Program} {E : Env} {ops : Array Oper} {Q : Pst} {rest : List Oper} {G : List (Nat × Value)} {H : List HP}
variable {dst : Nat} {ty : TypeId} {pos : String} {af : Array Edge} {t tx ty' : TypeId} {d d' : TypeDesc} {z z' : Value} {sz sz' by_ by' : Nat} {x y : Operand} {u v : Value} {a b c : Int} {k kk : IntKind} {p q : Bool} {s1 s2 : ByteArray}

/-! ### numbers -/
theorem RW.add (hx : ev G x = some (.int k a)) (hy : ev G y = some (.int k b)) (hw : k.wrap (a + b) = c) (hN : Nat.blt dst E.N = true) (kk : RW P E ops Q rest ((dst, .int k c) :: G) H) :
    RW P E ops Q (⟨some dst, .binOp .add t x y ty', ty, pos, af, none⟩ :: rest) G H :=
  RW.val hN (fun f w hf _ => by simp [execOp, hf.eval hx, hf.eval hy, run_eqGuard_int, binOp, Op.intArith, hw]) kk
theorem RW.sub (hx : ev G x = some (.int k a)) (hy : ev G y = some (.int k b)) (hw : k.wrap (a - b) = c) (hN : Nat.blt dst E.N = true) (kk : RW P E ops Q rest ((dst, .int k c) :: G) H) :
    RW P E ops Q (⟨some dst, .binOp .sub t x y ty', ty, pos, af, none⟩ :: rest) G H :=
  RW.val hN (fun f w hf _ => by simp [execOp, hf.eval hx, hf.eval hy, run_eqGuard_int, binOp, Op.intArith, hw]) kk
theorem RW.mul (hx : ev G x = some (.int k a)) (hy : ev G y = some (.int k b)) (hw : k.wrap (a * b) = c) (hN : Nat.blt dst E.N = true) (kk : RW P E ops Q rest ((dst, .int k c) :: G) H) :
    RW P E ops Q (⟨some dst, .binOp .mul t x y ty', ty, pos, af, none⟩ :: rest) G H :=
  RW.val hN (fun f w hf _ => by simp [execOp, hf.eval hx, hf.eval hy, run_eqGuard_int, binOp, Op.intArith, hw]) kk
theorem RW.eql (hx : ev G x = some (.int k a)) (hy : ev G y = some (.int k b)) (hN : Nat.blt dst E.N = true) (kk : RW P E ops Q rest ((dst, .bool (decide (a = b))) :: G) H) :
    RW P E ops Q (⟨some dst, .binOp .eql t x y ty', ty, pos, af, none⟩ :: rest) G H :=
  RW.val hN (fun f w hf _ => by simp [execOp, hf.eval hx, hf.eval hy, run_eqGuard_int, binOp, Op.intCmp, beqI]) kk
theorem RW.neq (hx : ev G x = some (.int k a)) (hy : ev G y = some (.int k b)) (hN : Nat.blt dst E.N = true) (kk : RW P E ops Q rest ((dst, .bool (decide (¬ a = b))) :: G) H) :
    RW P E ops Q (⟨some dst, .binOp .neq t x y ty', ty, pos, af, none⟩ :: rest) G H :=
  RW.val hN (fun f w hf _ => by simp [execOp, hf.eval hx, hf.eval hy, run_eqGuard_int, binOp, Op.intCmp, bne, beqI]) kk
theorem RW.lss (hx : ev G x = some (.int k a)) (hy : ev G y = some (.int k b)) (hN : Nat.blt dst E.N = true) (kk : RW P E ops Q rest ((dst, .bool (decide (a < b))) :: G) H) :
    RW P E ops Q (⟨some dst, .binOp .lss t x y ty', ty, pos, af, none⟩ :: rest) G H :=
  RW.val hN (fun f w hf _ => by simp [execOp, hf.eval hx, hf.eval hy, run_eqGuard_int, binOp, Op.intCmp]) kk
theorem RW.leq (hx : ev G x = some (.int k a)) (hy : ev G y = some (.int k b)) (hN : Nat.blt dst E.N = true) (kk : RW P E ops Q rest ((dst, .bool (decide (a ≤ b))) :: G) H) :
    RW P E ops Q (⟨some dst, .binOp .leq t x y ty', ty, pos, af, none⟩ :: rest) G H :=
  RW.val hN (fun f w hf _ => by simp [execOp, hf.eval hx, hf.eval hy, run_eqGuard_int, binOp, Op.intCmp]) kk
theorem RW.gtr (hx : ev G x = some (.int k a)) (hy : ev G y = some (.int k b)) (hN : Nat.blt dst E.N = true) (kk : RW P E ops Q rest ((dst, .bool (decide (b < a))) :: G) H) :
    RW P E ops Q (⟨some dst, .binOp .gtr t x y ty', ty, pos, af, none⟩ :: rest) G H :=
  RW.val hN (fun f w hf _ => by simp [execOp, hf.eval hx, hf.eval hy, run_eqGuard_int, binOp, Op.intCmp]) kk
theorem RW.geq (hx : ev G x = some (.int k a)) (hy : ev G y = some (.int k b)) (hN : Nat.blt dst E.N = true) (kk : RW P E ops Q rest ((dst, .bool (decide (b ≤ a))) :: G) H) :
    RW P E ops Q (⟨some dst, .binOp .geq t x y ty', ty, pos, af, none⟩ :: rest) G H :=
  RW.val hN (fun f w hf _ => by simp [execOp, hf.eval hx, hf.eval hy, run_eqGuard_int, binOp, Op.intCmp]) kk
theorem RW.eqlS [T : Ty P t .string z sz by_] (hx : ev G x = some (.string s1)) (hy : ev G y = some (.string s2)) (hN : Nat.blt dst E.N = true) (kk : RW P E ops Q rest ((dst, .bool (decide (s1 = s2))) :: G) H) :
    RW P E ops Q (⟨some dst, .binOp .eql t x y ty', ty, pos, af, none⟩ :: rest) G H :=
  RW.val hN (fun f w hf _ => by simp [execOp, hf.eval hx, hf.eval hy, run_eqGuard_string, binOp, Op.stringOp, beqL]) kk
theorem RW.neqS [T : Ty P t .string z sz by_] (hx : ev G x = some (.string s1)) (hy : ev G y = some (.string s2)) (hN : Nat.blt dst E.N = true) (kk : RW P E ops Q rest ((dst, .bool (decide (¬ s1 = s2))) :: G) H) :
    RW P E ops Q (⟨some dst, .binOp .neq t x y ty', ty, pos, af, none⟩ :: rest) G H :=
  RW.val hN (fun f w hf _ => by simp [execOp, hf.eval hx, hf.eval hy, run_eqGuard_string, binOp, Op.stringOp, beqL]) kk
theorem run_equalIn_bool {P : Program} {t : TypeId} {z : Value} {sz by_ : Nat} [T : Ty P t .bool z sz by_] (n : Nat) (p q : Bool) (w : World) : (Op.equalIn (n + 1) t (.bool p) (.bool q)).run P w = .ok (p == q) w := by
  simp [Op.equalIn, T.runUnd]
theorem run_equal_bool {P : Program} {t : TypeId} {z : Value} {sz by_ : Nat} [T : Ty P t .bool z sz by_] (p q : Bool) (w : World) : (Op.equal t (.bool p) (.bool q)).run P w = .ok (p == q) w :=
  run_equalIn_bool 9999 p q w
theorem RW.eqlB [T : Ty P t .bool z sz by_] (hx : ev G x = some (.bool p)) (hy : ev G y = some (.bool q)) (hN : Nat.blt dst E.N = true) (kk : RW P E ops Q rest ((dst, .bool (decide (p = q))) :: G) H) :
    RW P E ops Q (⟨some dst, .binOp .eql t x y ty', ty, pos, af, none⟩ :: rest) G H :=
  RW.val hN (fun f w hf _ => by simp [execOp, hf.eval hx, hf.eval hy, run_eqGuard_bool, binOp, run_equal_bool, beqB]) kk
theorem RW.neqB [T : Ty P t .bool z sz by_] (hx : ev G x = some (.bool p)) (hy : ev G y = some (.bool q)) (hN : Nat.blt dst E.N = true) (kk : RW P E ops Q rest ((dst, .bool (decide (¬ p = q))) :: G) H) :
    RW P E ops Q (⟨some dst, .binOp .neq t x y ty', ty, pos, af, none⟩ :: rest) G H :=
  RW.val hN (fun f w hf _ => by simp [execOp, hf.eval hx, hf.eval hy, run_eqGuard_bool, binOp, run_equal_bool, beqB]) kk
theorem RW.not (hx : ev G x = some (.bool p)) (hN : Nat.blt dst E.N = true) (kk : RW P E ops Q rest ((dst, .bool (!p)) :: G) H) :
    RW P E ops Q (⟨some dst, .unOp .not t x, ty, pos, af, none⟩ :: rest) G H :=
  RW.val hN (fun f w hf _ => by simp [execOp, hf.eval hx, Op.unary]) kk
theorem RW.neg (hx : ev G x = some (.int k a)) (hw : k.wrap (0 - a) = c) (hN : Nat.blt dst E.N = true) (kk : RW P E ops Q rest ((dst, .int k c) :: G) H) :
    RW P E ops Q (⟨some dst, .unOp .neg t x, ty, pos, af, none⟩ :: rest) G H :=
  RW.val hN (fun f w hf _ => by simp only [execOp, hf.eval hx, Op.unary, Op.intArith, hw]; rfl) kk
theorem RW.conv [S : Ty P t d z sz by_] [T : Ty P tx (.int kk) z' sz' by'] (hx : ev G x = some (.int k a)) (hw : kk.wrap a = c) (hN : Nat.blt dst E.N = true) (kk : RW P E ops Q rest ((dst, .int kk c) :: G) H) :
    RW P E ops Q (⟨some dst, .convert t tx x, ty, pos, af, none⟩ :: rest) G H :=
  RW.val hN (fun f w hf _ => by simp [execOp, hf.eval hx, convert, S.runUnd, T.runUnd, Conv.intToInt, hw]) kk
theorem RW.iface [T : Ty P t d z sz by_] (hx : ev G x = some v) (hd : ∀ ms, d ≠ .interface ms) (hN : Nat.blt dst E.N = true) (kk : RW P E ops Q rest ((dst, .iface t v) :: G) H) :
    RW P E ops Q (⟨some dst, .makeInterface t x, ty, pos, af, none⟩ :: rest) G H :=
  RW.val hN (fun f w hf _ => by
    have : (Instr.makeInterface t v).run P w = .ok (.iface t v) w := by
      unfold Instr.makeInterface
      rw [Sem.run_bind, T.runUnd]
      cases d <;> first | rfl | exact absurd rfl (hd _)
    simp [execOp, hf.eval hx, this]) kk
theorem RW.extract {vs : List Value} {i : Nat} (hx : ev G x = some (.tuple vs.toArray)) (hi : vs[i]? = some v) (hN : Nat.blt dst E.N = true) (kk : RW P E ops Q rest ((dst, v) :: G) H) :
    RW P E ops Q (⟨some dst, .extract x i, ty, pos, af, none⟩ :: rest) G H :=
  RW.val hN (fun f w hf _ => by simp [execOp, hf.eval hx, Instr.extract, hi]) kk
theorem RW.nilCheck {A : Addr} (hx : ev G x = some (.pointer (some A))) (hN : Nat.blt dst E.N = true) (kk : RW P E ops Q rest ((dst, .pointer (some A)) :: G) H) :
    RW P E ops Q (⟨some dst, .nilCheck x, ty, pos, af, none⟩ :: rest) G H :=
  RW.val hN (fun f w hf _ => by simp [execOp, hf.eval hx]) kk
theorem RW.nilCheckF {g : FuncId} {l1 l2 : Array Value} (hx : ev G x = some (.func (.func g) l1 l2)) (hN : Nat.blt dst E.N = true) (kk : RW P E ops Q rest ((dst, .func (.func g) l1 l2) :: G) H) :
    RW P E ops Q (⟨some dst, .nilCheck x, ty, pos, af, none⟩ :: rest) G H :=
  RW.val hN (fun f w hf _ => by simp [execOp, hf.eval hx]) kk
def evs (G : List (Nat × Value)) : List Operand → Option (List Value)
  | [] => some []
  | x :: r => match ev G x with
    | some v => match evs G r with
      | some vs => some (v :: vs)
      | none => none
    | none => none
theorem Fr.evals {N : Nat} {ds : List Deferred} {a : Act} {G : List (Nat × Value)} (h : Fr N ds a G) : ∀ {l : List Operand} {vs : List Value}, evs G l = some vs → l.map a.eval = vs := by
  intro l
  induction l with
  | nil => intro vs hv; simp [evs] at hv; simp [hv]
  | cons x r ih =>
    intro vs hv
    unfold evs at hv
    cases hx : ev G x with
    | none => rw [hx] at hv; cases hv
    | some v =>
      rw [hx] at hv
      cases hr : evs G r with
      | none => rw [hr] at hv; cases hv
      | some us =>
        rw [hr] at hv
        simp only [Option.some.injEq] at hv
        subst hv
        rw [List.map_cons, h.eval hx, ih hr]
theorem RW.makeFunc {f : Fn} {l1 l2 : List Operand} {v1 v2 : List Value} (h1 : evs G l1 = some v1) (h2 : evs G l2 = some v2) (hN : Nat.blt dst E.N = true) (kk : RW P E ops Q rest ((dst, .func f v1.toArray v2.toArray) :: G) H) :
    RW P E ops Q (⟨some dst, .makeFunc f l1.toArray l2.toArray, ty, pos, af, none⟩ :: rest) G H :=
  RW.val hN (fun a w hf _ => by simp [execOp, Instr.makeFunc, hf.evals h1, hf.evals h2]) kk

/-! ### fields -/
class FA (P : Program) (s : TypeId) (i : Nat) (off : outParam Nat) : Prop where
  run : ∀ B O w, (Instr.fieldAt s (.pointer (some ⟨B, O, none⟩)) i).run P w = .ok (.pointer (some ⟨B, O + off, none⟩)) w
theorem FA.of {s ft : TypeId} {i off : Nat} {fs : Array Field} (T : Ty P s (.struct fs) z sz by_) (T2 : Ty P ft d z' sz' by') (hf : (fs[i]?).map (fun f => (f.type, f.offset)) = some (ft, off)) (h0 : Nat.beq sz' 0 = false) : FA P s i off :=
  ⟨fun B O w => by
    cases hf' : fs[i]? with
    | none => rw [hf'] at hf; cases hf
    | some f =>
    rw [hf'] at hf
    simp only [Option.map_some, Option.some.injEq, Prod.mk.injEq] at hf
    obtain ⟨rfl, rfl⟩ := hf
    replace h0 : sz' ≠ 0 := Nat.ne_of_beq_eq_false h0
    unfold Instr.fieldAt
    simp only [Sem.run_bind, T.runUnd, Result.andThen, hf', Instr.sureAddr, fieldPlace, T2.runSize, h0, if_false, Sem.run_pure, add_at]⟩
theorem RW.fieldAddr {s : TypeId} {i off B O : Nat} [F : FA P s i off] (hx : ev G x = some (.pointer (some ⟨B, O, none⟩))) (hN : Nat.blt dst E.N = true) (kk : RW P E ops Q rest ((dst, .pointer (some ⟨B, O + off, none⟩)) :: G) H) :
    RW P E ops Q (⟨some dst, .fieldAddr s x i, ty, pos, af, none⟩ :: rest) G H :=
  RW.val hN (fun f w hf _ => by simp [execOp, hf.eval hx, F.run]) kk
class FV (P : Program) (s : TypeId) (i : Nat) (off n : outParam Nat) (ag : outParam Bool) : Prop where
  run1 : ag = false → ∀ (l : List Value) v w, l[off]? = some v → (Instr.field s (.agg l.toArray) i).run P w = .ok v w
  run2 : ag = true → ∀ (l : List Value) w, (Instr.field s (.agg l.toArray) i).run P w = .ok (.agg ((l.drop off).take n).toArray) w
theorem FV.of {s ft : TypeId} {i off : Nat} {ag : Bool} {fs : Array Field} (T : Ty P s (.struct fs) z sz by_) (T2 : Ty P ft d z' sz' by') (hf : (fs[i]?).map (fun f => (f.type, f.offset)) = some (ft, off)) (hag : isAggD d = ag) : FV P s i off sz' ag := by
  cases hf' : fs[i]? with
  | none => rw [hf'] at hf; cases hf
  | some f =>
  rw [hf'] at hf
  simp only [Option.map_some, Option.some.injEq, Prod.mk.injEq] at hf
  obtain ⟨rfl, rfl⟩ := hf
  subst hag
  exact ⟨fun ha l v w hv => by simp [Instr.field, T.runUnd, hf', part, T2.runAgg, ha, asAgg, hv],
   fun ha l w => by simp [Instr.field, T.runUnd, hf', part, T2.runAgg, ha, asAgg, T2.runSize, List.extract_eq_take_drop]⟩
theorem RW.field_one {s : TypeId} {i off n : Nat} {l : List Value} [F : FV P s i off n false] (hx : ev G x = some (.agg l.toArray)) (hv : l[off]? = some v) (hN : Nat.blt dst E.N = true) (kk : RW P E ops Q rest ((dst, v) :: G) H) :
    RW P E ops Q (⟨some dst, .field s x i, ty, pos, af, none⟩ :: rest) G H :=
  RW.val hN (fun f w hf _ => by simp [execOp, hf.eval hx, F.run1 rfl l v w hv]) kk
theorem RW.field_agg {s : TypeId} {i off n : Nat} {l l' : List Value} [F : FV P s i off n true] (hx : ev G x = some (.agg l.toArray)) (hv : (l.drop off).take n = l') (hN : Nat.blt dst E.N = true) (kk : RW P E ops Q rest ((dst, .agg l'.toArray) :: G) H) :
    RW P E ops Q (⟨some dst, .field s x i, ty, pos, af, none⟩ :: rest) G H :=
  RW.val hN (fun f w hf _ => by subst hv; simp only [execOp, hf.eval hx, Sem.run_bind, F.run2 rfl l w, Result.andThen]; rfl) kk

/-! ### slices -/
theorem RW.indexAddr {e : TypeId} {B O n cp : Nat} [T : Ty P t (.slice e) z sz by_] [T2 : Ty P e d z' sz' by'] (hx : ev G x = some (.slice (some ⟨B, O, none⟩) n cp)) (hy : ev G y = some (.int k a)) (h0 : 0 ≤ a) (h1 : a < n) (hN : Nat.blt dst E.N = true)
    (kk : RW P E ops Q rest ((dst, .pointer (some ⟨B, O + a.toNat * sz', none⟩)) :: G) H) : RW P E ops Q (⟨some dst, .indexAddr t x y, ty, pos, af, none⟩ :: rest) G H :=
  RW.val hN (fun f w hf _ => by simp [execOp, hf.eval hx, hf.eval hy, Instr.indexAt, asIntOf, T.runUnd, h0, h1, T2.runSize, add_at]) kk
theorem RW.len {e : TypeId} {A : Option Addr} {n cp : Nat} [T : Ty P t (.slice e) z sz by_] (hx : ev G x = some (.slice A n cp)) (hN : Nat.blt dst E.N = true) (kk : RW P E ops Q rest ((dst, .int .i64 n) :: G) H) :
    RW P E ops Q (⟨some dst, .call ⟨.builtin .len, #[x], #[t]⟩, ty, pos, af, none⟩ :: rest) G H :=
  RW.val hN (fun f w hf _ => by simp [execOp, resolve, invoke, builtin, Builtin.len_, hf.eval hx, T.runUnd, goInt]) kk
theorem RW.lenS [T : Ty P t .string z sz by_] (hx : ev G x = some (.string s1)) (hN : Nat.blt dst E.N = true) (kk : RW P E ops Q rest ((dst, .int .i64 s1.size) :: G) H) :
    RW P E ops Q (⟨some dst, .call ⟨.builtin .len, #[x], #[t]⟩, ty, pos, af, none⟩ :: rest) G H :=
  RW.val hN (fun f w hf _ => by simp [execOp, resolve, invoke, builtin, Builtin.len_, hf.eval hx, T.runUnd, goInt]) kk
theorem RW.cap {e : TypeId} {A : Option Addr} {n cp : Nat} [T : Ty P t (.slice e) z sz by_] (hx : ev G x = some (.slice A n cp)) (hN : Nat.blt dst E.N = true) (kk : RW P E ops Q rest ((dst, .int .i64 cp) :: G) H) :
    RW P E ops Q (⟨some dst, .call ⟨.builtin .cap, #[x], #[t]⟩, ty, pos, af, none⟩ :: rest) G H :=
  RW.val hN (fun f w hf _ => by simp [execOp, resolve, invoke, builtin, Builtin.cap_, hf.eval hx, T.runUnd, goInt]) kk
/-- x[lo:hi] of a slice: where the capacity's end is the low end the address stays. -/
def cutA (A : Option Addr) (l sz cp : Nat) : Option Addr := if cp = l then A else A.map (·.add (l * sz))
theorem run_sliceBound_ok {P : Program} {w : World} {k : IntKind} {i : Int} {n : Nat} {cd : BoundsCode} (h0 : 0 ≤ i) (h1 : i ≤ n) : (Instr.sliceBound (.int k i) n cd).run P w = .ok i.toNat w := by
  simp [Instr.sliceBound, asIntOf, h0, h1]
theorem RW.slice_lh {e : TypeId} {A : Option Addr} {n cp : Nat} {lo hi : Operand} {k1 k2 : IntKind} [T : Ty P t (.slice e) z sz by_] [T2 : Ty P e d z' sz' by'] (hx : ev G x = some (.slice A n cp)) (hl : ev G lo = some (.int k1 a)) (hh : ev G hi = some (.int k2 b)) (h0 : 0 ≤ a) (h1 : a ≤ b) (h2 : b ≤ cp) (hN : Nat.blt dst E.N = true)
    (kk : RW P E ops Q rest ((dst, .slice (cutA A a.toNat sz' cp) (b.toNat - a.toNat) (cp - a.toNat)) :: G) H) : RW P E ops Q (⟨some dst, .slice t x (some lo) (some hi) none, ty, pos, af, none⟩ :: rest) G H :=
  RW.val hN (fun f w hf _ => by
    have e1 : (Instr.sliceBound (.int k2 b) cp .sliceAcap).run P w = .ok b.toNat w := run_sliceBound_ok (by omega) h2
    have e2 : (Instr.sliceBound (.int k1 a) b.toNat .sliceB).run P w = .ok a.toNat w := run_sliceBound_ok h0 (by omega)
    simp [execOp, hf.eval hx, hf.eval hl, hf.eval hh, Instr.sliceAt, T.runUnd, Instr.slice, Instr.sliceBounds, e1, e2, T2.runSize, cutA]) kk
theorem RW.slice_l {e : TypeId} {A : Option Addr} {n cp : Nat} {lo : Operand} {k1 : IntKind} [T : Ty P t (.slice e) z sz by_] [T2 : Ty P e d z' sz' by'] (hx : ev G x = some (.slice A n cp)) (hl : ev G lo = some (.int k1 a)) (h0 : 0 ≤ a) (h1 : a ≤ n) (hN : Nat.blt dst E.N = true)
    (kk : RW P E ops Q rest ((dst, .slice (cutA A a.toNat sz' cp) (n - a.toNat) (cp - a.toNat)) :: G) H) : RW P E ops Q (⟨some dst, .slice t x (some lo) none none, ty, pos, af, none⟩ :: rest) G H :=
  RW.val hN (fun f w hf _ => by
    have e2 : (Instr.sliceBound (.int k1 a) n .sliceB).run P w = .ok a.toNat w := run_sliceBound_ok h0 h1
    simp [execOp, hf.eval hx, hf.eval hl, Instr.sliceAt, T.runUnd, Instr.slice, Instr.sliceBounds, e2, T2.runSize, cutA]) kk
theorem RW.slice_h {e : TypeId} {A : Option Addr} {n cp : Nat} {hi : Operand} {k2 : IntKind} [T : Ty P t (.slice e) z sz by_] [T2 : Ty P e d z' sz' by'] (hx : ev G x = some (.slice A n cp)) (hh : ev G hi = some (.int k2 b)) (h0 : 0 ≤ b) (h2 : b ≤ cp) (hN : Nat.blt dst E.N = true)
    (kk : RW P E ops Q rest ((dst, .slice A b.toNat cp) :: G) H) : RW P E ops Q (⟨some dst, .slice t x none (some hi) none, ty, pos, af, none⟩ :: rest) G H :=
  RW.val hN (fun f w hf _ => by
    have e1 : (Instr.sliceBound (.int k2 b) cp .sliceAcap).run P w = .ok b.toNat w := run_sliceBound_ok h0 h2
    have e3 : (if cp = 0 then A else A.map (·.add (0 * sz'))) = A := by
      split
      · rfl
      · cases A <;> simp [Addr.add]
    simp only [execOp, hf.eval hx, hf.eval hh, Instr.sliceAt, T.runUnd, Instr.slice, Instr.sliceBounds, e1, T2.runSize, Sem.run_bind, Result.andThen, Option.map_none, Option.map_some, Sem.run_pure, e3, Nat.sub_zero, if_true]) kk
theorem run_equalIn_slice_nil' [T : Ty P t (.slice tx) z sz by_] (i : Nat) (A : Option Addr) (n c : Nat) (w : World) : (Op.equalIn (i + 1) t (.slice A n c) (.slice none 0 0)).run P w = .ok A.isNone w := by
  cases A <;> simp [Op.equalIn, T.runUnd]
theorem run_equal_slice_nil' [T : Ty P t (.slice tx) z sz by_] (A : Option Addr) (n c : Nat) (w : World) : (Op.equal t (.slice A n c) (.slice none 0 0)).run P w = .ok A.isNone w :=
  run_equalIn_slice_nil' (tx := tx) 9999 A n c w
theorem RW.eql_nil {e : TypeId} {A : Option Addr} {n cp : Nat} [T : Ty P t (.slice e) z sz by_] (hx : ev G x = some (.slice A n cp)) (hy : ev G y = some (.slice none 0 0)) (hN : Nat.blt dst E.N = true) (kk : RW P E ops Q rest ((dst, .bool A.isNone) :: G) H) :
    RW P E ops Q (⟨some dst, .binOp .eql t x y ty', ty, pos, af, none⟩ :: rest) G H :=
  RW.val hN (fun f w hf _ => by simp [execOp, hf.eval hx, hf.eval hy, run_eqGuard_slice, binOp, run_equal_slice_nil' (tx := e)]) kk
theorem RW.neq_nil {e : TypeId} {A : Option Addr} {n cp : Nat} [T : Ty P t (.slice e) z sz by_] (hx : ev G x = some (.slice A n cp)) (hy : ev G y = some (.slice none 0 0)) (hN : Nat.blt dst E.N = true) (kk : RW P E ops Q rest ((dst, .bool (!A.isNone)) :: G) H) :
    RW P E ops Q (⟨some dst, .binOp .neq t x y ty', ty, pos, af, none⟩ :: rest) G H :=
  RW.val hN (fun f w hf _ => by simp [execOp, hf.eval hx, hf.eval hy, run_eqGuard_slice, binOp, run_equal_slice_nil' (tx := e)]) kk
theorem RW.indexS [T : Ty P t .string z sz by_] {i : Nat} {c : UInt8} (hx : ev G x = some (.string s1)) (hy : ev G y = some (.int k a)) (hi : a = i) (hc : s1[i]? = some c) (hN : Nat.blt dst E.N = true) (kk : RW P E ops Q rest ((dst, .int .u8 c.toNat) :: G) H) :
    RW P E ops Q (⟨some dst, .index t x y, ty, pos, af, none⟩ :: rest) G H :=
  RW.val hN (fun f w hf _ => by subst hi; simp [execOp, hf.eval hx, hf.eval hy, Instr.index, asIntOf, T.runUnd, hc]) kk

/-! ### guards -/
theorem RW.split (j : Nat) {b : Bool} (hl : look G j = some (.bool b)) (ht : b = true → RW P E ops Q rest ((j, .bool true) :: G) H) (hf : b = false → RW P E ops Q rest ((j, .bool false) :: G) H) : RW P E ops Q rest G H := by
  have key : ∀ c, b = c → RW P E ops Q rest ((j, .bool c) :: G) H → RW P E ops Q rest G H := fun c hc h a w hfr hw => by
    subst hc
    refine h a w ⟨hfr.size, hfr.defers, fun i v hi => ?_⟩ hw
    unfold look at hi
    cases hb : Nat.beq j i with
    | true =>
      rw [hb] at hi
      have : j = i := Nat.eq_of_beq_eq_true hb
      subst this
      simp only [Option.some.injEq] at hi
      subst hi
      exact hfr.at_ _ _ hl
    | false => rw [hb] at hi; exact hfr.at_ i v hi
  cases b with
  | true => exact key true rfl (ht rfl)
  | false => exact key false rfl (hf rfl)
theorem RW.splitD (j : Nat) {p : Prop} [Decidable p] (hl : look G j = some (.bool (decide p))) (ht : p → RW P E ops Q rest ((j, .bool true) :: G) H) (hf : ¬ p → RW P E ops Q rest ((j, .bool false) :: G) H) : RW P E ops Q rest G H :=
  RW.split j hl (fun h => ht (of_decide_eq_true h)) (fun h => hf (of_decide_eq_false h))
def gd (ops : Array Oper) (G : List (Nat × Value)) (j : Nat) (want : Bool) : Option Bool :=
  match (ops[j]?).bind (·.dst) with
  | some d => match look G d with
    | some (.bool b) => some (b == want)
    | some (.tuple _) => some false
    | _ => none
  | none => none
theorem gd_wanted {N : Nat} {ds : List Deferred} {a : Act} (h : Fr N ds a G) {j : Nat} {want g : Bool} {o : Oper} (ho : o.guard = some (j, want)) (hg : gd ops G j want = some g) : Region.wanted o (yielded ops a.tmps) = g := by
  unfold gd at hg
  simp only [Region.wanted, ho, yielded]
  cases hd : (ops[j]?).bind (·.dst) with
  | none => rw [hd] at hg; cases hg
  | some d =>
    rw [hd] at hg
    simp only at hg
    cases hl : look G d with
    | none => rw [hl] at hg; cases hg
    | some v =>
      rw [hl] at hg
      cases v with
      | bool b =>
        simp only [Option.some.injEq] at hg
        subst hg
        rw [Option.bind_some, h.at_ _ _ hl]
        simp
      | tuple l =>
        simp only [Option.some.injEq] at hg
        subst hg
        rw [Option.bind_some, h.at_ _ _ hl]
        simp
      | _ => cases hg
theorem RW.yes {dst : Option Nat} {op : Op} {j : Nat} {want : Bool} (hg : gd ops G j want = some true) (kk : RW P E ops Q (⟨dst, op, ty, pos, af, none⟩ :: rest) G H) : RW P E ops Q (⟨dst, op, ty, pos, af, some (j, want)⟩ :: rest) G H := by
  intro a w hf hw
  have h := kk a w hf hw
  unfold wpList at h ⊢
  rw [if_pos (by simp [Region.wanted])] at h
  rw [if_pos (by rw [gd_wanted hf rfl hg])]
  exact h
theorem RW.no {op : Op} {j : Nat} {want : Bool} (hg : gd ops G j want = some false) (hN : Nat.blt dst E.N = true) (kk : RW P E ops Q rest ((dst, undef) :: G) H) : RW P E ops Q (⟨some dst, op, ty, pos, af, some (j, want)⟩ :: rest) G H := by
  intro a w hf hw
  unfold wpList
  rw [if_neg (by rw [gd_wanted hf rfl hg]; simp)]
  exact kk _ _ (hf.put hN _) hw
theorem RW.no0 {op : Op} {j : Nat} {want : Bool} (hg : gd ops G j want = some false) (kk : RW P E ops Q rest G H) : RW P E ops Q (⟨none, op, ty, pos, af, some (j, want)⟩ :: rest) G H := by
  intro a w hf hw
  unfold wpList
  rw [if_neg (by rw [gd_wanted hf rfl hg]; simp)]
  exact kk _ _ (hf.skip _) hw

/-! ### calls -/
/-- The call hands back v; nothing that lay there has turned. -/
def Ret (P : Program) (f : FuncId) (args : List Value) (w : World) (v : Value) : Prop := Calls P f args.toArray w (fun e w' => e = .returned v ∧ Keeps No w w')
/-- .. and what it hands back lies in new memory: c. -/
def RetF (P : Program) (f : FuncId) (args : List Value) (w : World) {α : Type} (V : α → Value) (c : α → HP) : Prop :=
  Calls P f args.toArray w (fun e w' => ∃ x, e = .returned (V x) ∧ Keeps No w w' ∧ (c x).p w' (fun b => w.heap.size ≤ b ∧ b < w'.heap.size))
/-- A call that turns what lies in F. -/
def RetM (P : Program) (f : FuncId) (args : List Value) (w : World) (F : Nat → Prop) {α : Type} (V : α → Value) (c : α → List HP) : Prop :=
  Calls P f args.toArray w (fun e w' => ∃ x, e = .returned (V x) ∧ St w F (c x) w')
theorem RW.call_gen {dst : Option Nat} {l : List Operand} {vs : List Value} {at_ : Array TypeId} {f : FuncId} (hcall : ∀ args w, (callFunc f args).run P w = .ok (.enter f args) w) (hl : evs G l = some vs)
    (hc : ∀ a w, Fr E.N E.ds a G → St E.w0 E.S H w → Calls P f vs.toArray w fun
      | .returned v, w'' => wpList P ops Q.fn rest (a.put dst v) w''
      | .panicked chain, w'' => Q.pan chain a w''
      | .outgrown, _ => LetsOut Q.fn) : RW P E ops Q (⟨dst, .call ⟨.value (.func f), l.toArray, at_⟩, ty, pos, af, none⟩ :: rest) G H :=
  RW.step rfl (fun a w hf hw => by
    have hrun : (execOp a.eval ⟨dst, .call ⟨.value (.func f), l.toArray, at_⟩, ty, pos, af, none⟩).run P w = .ok (.enter f vs.toArray) w := by
      simp [execOp, resolve, Act.eval, Deferred.ofValue, invoke, hf.evals hl, hcall]
    rw [hrun]
    exact hc a w hf hw)
/-- .. of a function value: the captured variables behind the arguments. -/
theorem RW.callv_gen {dst : Option Nat} {fv : Operand} {l : List Operand} {vs caps : List Value} {at_ : Array TypeId} {f : FuncId} (hcall : ∀ args w, (callFunc f args).run P w = .ok (.enter f args) w) (hfv : ev G fv = some (.func (.func f) #[] caps.toArray)) (hl : evs G l = some vs)
    (hc : ∀ a w, Fr E.N E.ds a G → St E.w0 E.S H w → Calls P f (vs ++ caps).toArray w fun
      | .returned v, w'' => wpList P ops Q.fn rest (a.put dst v) w''
      | .panicked chain, w'' => Q.pan chain a w''
      | .outgrown, _ => LetsOut Q.fn) : RW P E ops Q (⟨dst, .call ⟨.value fv, l.toArray, at_⟩, ty, pos, af, none⟩ :: rest) G H :=
  RW.step rfl (fun a w hf hw => by
    have hrun : (execOp a.eval ⟨dst, .call ⟨.value fv, l.toArray, at_⟩, ty, pos, af, none⟩).run P w = .ok (.enter f (vs ++ caps).toArray) w := by
      simp [execOp, resolve, hf.eval hfv, Deferred.ofValue, invoke, hf.evals hl, hcall]
    rw [hrun]
    exact hc a w hf hw)
section
variable {l : List Operand} {vs caps : List Value} {at_ : Array TypeId} {f : FuncId} {fv : Operand}
theorem RW.call (hcall : ∀ args w, (callFunc f args).run P w = .ok (.enter f args) w) (hl : evs G l = some vs) (hc : ∀ w, St E.w0 E.S H w → Ret P f vs w v) (hN : Nat.blt dst E.N = true) (kk : RW P E ops Q rest ((dst, v) :: G) H) :
    RW P E ops Q (⟨some dst, .call ⟨.value (.func f), l.toArray, at_⟩, ty, pos, af, none⟩ :: rest) G H :=
  RW.call_gen hcall hl (fun a w hf hw => (hc w hw).mono (by rintro e w' ⟨rfl, hk⟩; exact kk _ _ (hf.put hN v) (hw.quiet hk)))
theorem RW.callv (hcall : ∀ args w, (callFunc f args).run P w = .ok (.enter f args) w) (hfv : ev G fv = some (.func (.func f) #[] caps.toArray)) (hl : evs G l = some vs) (hc : ∀ w, St E.w0 E.S H w → Ret P f (vs ++ caps) w v) (hN : Nat.blt dst E.N = true) (kk : RW P E ops Q rest ((dst, v) :: G) H) :
    RW P E ops Q (⟨some dst, .call ⟨.value fv, l.toArray, at_⟩, ty, pos, af, none⟩ :: rest) G H :=
  RW.callv_gen hcall hfv hl (fun a w hf hw => (hc w hw).mono (by rintro e w' ⟨rfl, hk⟩; exact kk _ _ (hf.put hN v) (hw.quiet hk)))
theorem RW.callF {α : Type} {V : α → Value} {c : α → HP} (hcall : ∀ args w, (callFunc f args).run P w = .ok (.enter f args) w) (hl : evs G l = some vs) (hc : ∀ w, St E.w0 E.S H w → RetF P f vs w V c) (hN : Nat.blt dst E.N = true)
    (kk : ∀ x, RW P E ops Q rest ((dst, V x) :: G) (c x :: H)) : RW P E ops Q (⟨some dst, .call ⟨.value (.func f), l.toArray, at_⟩, ty, pos, af, none⟩ :: rest) G H :=
  RW.call_gen hcall hl (fun a w hf hw => (hc w hw).mono (by rintro e w' ⟨x, rfl, hk, hx⟩; exact kk x _ _ (hf.put hN _) (hw.fresh hk hx)))
/-- A call that turns one chunk. -/
theorem RW.callM {α : Type} {V : α → Value} {c : α → List HP} (pre : List HP) {r : List HP} {h0 : HP} (hcall : ∀ args w, (callFunc f args).run P w = .ok (.enter f args) w) (hl : evs G l = some vs)
    (hc : ∀ w F, St E.w0 E.S (pre ++ h0 :: r) w → h0.p w F → (∀ b, F b → (E.S b ∨ E.w0.heap.size ≤ b) ∧ b < w.heap.size) → RetM P f vs w F V c) (hN : Nat.blt dst E.N = true)
    (kk : ∀ x, RW P E ops Q rest ((dst, V x) :: G) (c x ++ (pre ++ r))) : RW P E ops Q (⟨some dst, .call ⟨.value (.func f), l.toArray, at_⟩, ty, pos, af, none⟩ :: rest) G (pre ++ h0 :: r) :=
  RW.call_gen hcall hl (fun a w hf hw => by
    obtain ⟨F, hp, hF, hr⟩ : ∃ F : Nat → Prop, h0.p w F ∧ (∀ b, F b → (E.S b ∨ E.w0.heap.size ≤ b) ∧ b < w.heap.size) ∧ Sep (pre ++ r) w (fun b => (E.S b ∨ E.w0.heap.size ≤ b) ∧ ¬ F b) := by
      obtain ⟨F, hF, hc, hr⟩ := Sep.pull hw.sep
      exact ⟨F, hc, hF, hr⟩
    refine (hc w F hw hp hF).mono ?_
    rintro e w' ⟨x, rfl, hx⟩
    exact kk x _ _ (hf.put hN _) (St.turnF hw.kp hF hr hx))
end
end
end Go.Proofs.YtkfmlekomfnleaaGreat
/- The calculus, fourth part: how values read as data, chunks of data, entering and leaving a function. Conditions: none; everything holds over any program. -/
set_option linter.unusedVariables false
set_option linter.unusedSimpArgs false
namespace Go.Proofs.YtkfmlekomfnleaaGreat
open Go Go.RowKit

/-! ### kinds of data -/
inductive K where
  | int (k : IntKind)
  | bool
  | str
  | sl (by_ : Nat) (t : K)
  | pr (a b : K)
@[reducible] def K.V : K → Type
  | .int _ => Int
  | .bool => Bool
  | .str => ByteArray
  | .sl _ t => List t.V
  | .pr a b => a.V × b.V
def K.sz : K → Nat
  | .pr a b => a.sz + b.sz
  | _ => 1
/-- What is known of memory: block, place, value. -/
abbrev Mem := Nat → Nat → Value → Prop
def Mem.le (M M' : Mem) : Prop := ∀ B O v, M B O v → M' B O v
def mem (w : World) (ok : Nat → Prop) : Mem := fun B O v => (ok B ∧ w.frozen? ⟨B, O, none⟩ = false) ∧ w.cell? ⟨B, O, none⟩ = some v
theorem frozen_same {w w' : World} {B : Nat} (h : w'.heap[B]? = w.heap[B]?) (O : Nat) : w'.frozen? ⟨B, O, none⟩ = w.frozen? ⟨B, O, none⟩ := by simp [World.frozen?, h]
def Mem.or (M M' : Mem) : Mem := fun B O v => M B O v ∨ M' B O v
def Mem.none : Mem := fun _ _ _ => False
theorem Mem.le_refl (M : Mem) : Mem.le M M := fun _ _ _ h => h
theorem Mem.le_trans {M M' M'' : Mem} (h : Mem.le M M') (k : Mem.le M' M'') : Mem.le M M'' := fun _ _ _ x => k _ _ _ (h _ _ _ x)
theorem Mem.le_left (M M' : Mem) : Mem.le M (M.or M') := fun _ _ _ h => .inl h
theorem Mem.le_right (M M' : Mem) : Mem.le M' (M.or M') := fun _ _ _ h => .inr h
theorem Mem.or_le {M M' N : Mem} (h : Mem.le M N) (k : Mem.le M' N) : Mem.le (M.or M') N := fun _ _ _ x => x.elim (h _ _ _) (k _ _ _)
theorem Mem.none_le (M : Mem) : Mem.le Mem.none M := fun _ _ _ h => h.elim
theorem mem_up {w : World} {F F' : Nat → Prop} (h : ∀ b, F b → F' b) : Mem.le (mem w F) (mem w F') := fun _ _ _ x => ⟨⟨h _ x.1.1, x.1.2⟩, x.2⟩
theorem mem_keeps {w w' : World} {S : Nat → Prop} (k : Keeps S w w') : Mem.le (mem w (fun b => ¬ S b)) (mem w' (fun b => ¬ S b)) := fun _ _ _ x => ⟨⟨x.1.1, (frozen_same (k.block _ (World.block_lt_of_cell? w _ x.2) x.1.1) _).trans x.1.2⟩, cell_keeps x.2 k x.1.1⟩
theorem mem_same {w w' : World} {F : Nat → Prop} (h : ∀ b, F b → b < w.heap.size → w'.heap[b]? = w.heap[b]?) : Mem.le (mem w F) (mem w' F) := fun B O v x => by
  have hl := World.block_lt_of_cell? w _ x.2
  have := h B x.1.1 hl
  refine ⟨⟨x.1.1, (frozen_same this _).trans x.1.2⟩, ?_⟩
  simpa [World.cell?, this] using x.2
/-- What a function may read for good: what it does not own. -/
def Env.ro (E : Env) : Mem := mem E.w0 (fun b => ¬ E.S b)
theorem ro_le {E : Env} {H : List HP} {w : World} (h : St E.w0 E.S H w) : Mem.le E.ro (mem w (fun b => ¬ E.S b)) := mem_keeps h.kp
theorem ro_le' {E : Env} {H : List HP} {w : World} (h : St E.w0 E.S H w) : Mem.le E.ro (mem w Any) := Mem.le_trans (mem_keeps h.kp) (mem_up (fun _ _ => trivial))

def inR (k : IntKind) (x : Int) : Prop := (Lit.int k x).wf = true
def maxN : Nat := 9223372036854775807
def reach : Nat := 140737488351232
def RowAt {α : Type} (sz : Nat) (R : List Value → α → Prop) (M : Mem) (A : Option Addr) (xs : List α) : Prop :=
  xs ≠ [] → ∃ B O, A = some ⟨B, O, none⟩ ∧ ∀ (j : Nat) (x : α), xs[j]? = some x → ∃ cs : List Value, cs.length = sz ∧ R cs x ∧ ∀ (i : Nat) (v : Value), cs[i]? = some v → M B (O + j * sz + i) v
def Rd : (t : K) → Mem → List Value → t.V → Prop
  | .int k, _, cs, x => cs = [.int k x] ∧ inR k x
  | .bool, _, cs, x => cs = [.bool x]
  | .str, _, cs, x => cs = [.string x] ∧ x.size ≤ reach
  | .sl by_ t, M, cs, x => ∃ A c, cs = [.slice A (List.length (α := t.V) x) c] ∧ List.length (α := t.V) x ≤ c ∧ c ≤ maxN ∧ List.length (α := t.V) x * by_ ≤ reach ∧ RowAt t.sz (fun cs y => Rd t M cs y) M A (show List t.V from x)
  | .pr a b, M, cs, x => ∃ c1 c2, cs = c1 ++ c2 ∧ Rd a M c1 x.1 ∧ Rd b M c2 x.2
theorem RowAt.mono {α : Type} {sz : Nat} {R R' : List Value → α → Prop} {M M' : Mem} {A : Option Addr} {xs : List α} (hM : Mem.le M M') (hR : ∀ cs x, R cs x → R' cs x) (h : RowAt sz R M A xs) : RowAt sz R' M' A xs := fun hn => by
  obtain ⟨B, O, hA, hj⟩ := h hn
  refine ⟨B, O, hA, fun j x hx => ?_⟩
  obtain ⟨cs, h1, h2, h3⟩ := hj j x hx
  exact ⟨cs, h1, hR _ _ h2, fun i v hv => hM _ _ _ (h3 i v hv)⟩
theorem Rd.mono : ∀ {t : K} {M M' : Mem} {cs : List Value} {x : t.V}, Mem.le M M' → Rd t M cs x → Rd t M' cs x := by
  intro t
  induction t with
  | int k => intro _ _ _ _ _ h; exact h
  | bool => intro _ _ _ _ _ h; exact h
  | str => intro _ _ _ _ _ h; exact h
  | sl e t ih =>
    intro M M' cs x hM h
    obtain ⟨A, c, h1, h2, h3, h4, h5⟩ := h
    exact ⟨A, c, h1, h2, h3, h4, h5.mono hM (fun cs y hy => ih hM hy)⟩
  | pr a b iha ihb =>
    intro M M' cs x hM h
    obtain ⟨c1, c2, h1, h2, h3⟩ := h
    exact ⟨c1, c2, h1, iha hM h2, ihb hM h3⟩
theorem Rd.len : ∀ {t : K} {M : Mem} {cs : List Value} {x : t.V}, Rd t M cs x → cs.length = t.sz := by
  intro t
  induction t with
  | int k => intro _ _ _ h; rw [h.1]; rfl
  | bool => intro _ _ _ h; rw [show _ = _ from h]; rfl
  | str => intro _ _ _ h; rw [h.1]; rfl
  | sl e t ih => intro _ _ _ h; obtain ⟨A, c, h1, _⟩ := h; rw [h1]; rfl
  | pr a b iha ihb => intro _ _ _ h; obtain ⟨c1, c2, h1, h2, h3⟩ := h; rw [h1, List.length_append, iha h2, ihb h3]; rfl
theorem Rd.one : ∀ {t : K} {M : Mem} {cs : List Value} {x : t.V}, Rd t M cs x → ∀ v ∈ cs, v.oneCell' = true := by
  intro t
  induction t with
  | int k => intro _ _ _ h v hv; rw [h.1] at hv; simp at hv; subst hv; rfl
  | bool => intro _ _ _ h v hv; rw [show _ = _ from h] at hv; simp at hv; subst hv; rfl
  | str => intro _ _ _ h v hv; rw [h.1] at hv; simp at hv; subst hv; rfl
  | sl e t ih => intro _ _ _ h v hv; obtain ⟨A, c, h1, _⟩ := h; rw [h1] at hv; simp at hv; subst hv; rfl
  | pr a b iha ihb =>
    intro _ _ _ h v hv
    obtain ⟨c1, c2, h1, h2, h3⟩ := h
    rw [h1, List.mem_append] at hv
    exact hv.elim (iha h2 v) (ihb h3 v)
theorem RowAt.nil {α : Type} {sz : Nat} {R : List Value → α → Prop} {M : Mem} {A : Option Addr} : RowAt sz R M A ([] : List α) := fun h => absurd rfl h
/-- Element i of a slice that reads as xs. -/
theorem RowAt.get {α : Type} {sz : Nat} {R : List Value → α → Prop} {M : Mem} {A : Option Addr} {xs : List α} (h : RowAt sz R M A xs) {i : Nat} {x : α} (hi : xs[i]? = some x) :
    ∃ B O cs, A = some ⟨B, O, none⟩ ∧ cs.length = sz ∧ R cs x ∧ ∀ (j : Nat) (v : Value), cs[j]? = some v → M B (O + i * sz + j) v := by
  obtain ⟨B, O, hA, hj⟩ := h (by intro he; subst he; simp at hi)
  obtain ⟨cs, h1, h2, h3⟩ := hj i x hi
  exact ⟨B, O, cs, hA, h1, h2, h3⟩

/-! ### chunks of data -/
/-- Cells that read as data, in memory of their own and in M. -/
def rdHP (M : Mem) (t : K) (cs : List Value) (x : t.V) : HP where
  p w F := Rd t (M.or (mem w F)) cs x
  st := fun h _ k => k.mono (Mem.or_le (Mem.le_left _ _) (Mem.le_trans (mem_same h) (Mem.le_right _ _)))
  up := fun h k => k.mono (Mem.or_le (Mem.le_left _ _) (Mem.le_trans (mem_up h) (Mem.le_right _ _)))
def All2 {α β : Type} (R : α → β → Prop) (xs : List α) (ys : List β) : Prop := xs.length = ys.length ∧ ∀ (i : Nat) (x : α) (y : β), xs[i]? = some x → ys[i]? = some y → R x y
theorem All2.imp {α β : Type} {R R' : α → β → Prop} {xs : List α} {ys : List β} (h : ∀ x y, R x y → R' x y) (k : All2 R xs ys) : All2 R' xs ys := ⟨k.1, fun i x y hx hy => h _ _ (k.2 i x y hx hy)⟩
/-- Several of a kind. -/
def rdsHP (M : Mem) (t : K) (es : List (List Value)) (xs : List t.V) : HP where
  p w F := All2 (fun cs x => Rd t (M.or (mem w F)) cs x) es xs
  st := fun h _ k => k.imp (fun _ _ k => k.mono (Mem.or_le (Mem.le_left _ _) (Mem.le_trans (mem_same h) (Mem.le_right _ _))))
  up := fun h k => k.imp (fun _ _ k => k.mono (Mem.or_le (Mem.le_left _ _) (Mem.le_trans (mem_up h) (Mem.le_right _ _))))
/-- A slice of the function's own: its elements' cells; behind them whatever. -/
def ownHP (e : TypeId) (sz : Nat) (v : Value) (es : List (List Value)) : HP where
  p w F := (v = .slice none 0 0 ∧ es = []) ∨ ∃ B c tl, v = .slice (some ⟨B, 0, none⟩) es.length c ∧ F B ∧ w.heap[B]? = some (.cells (es.flatten ++ tl).toArray e (0, 0)) ∧ (∀ x ∈ es, x.length = sz) ∧ es.flatten.length + tl.length = c * sz ∧ es.length ≤ c ∧ c ≤ maxN
  st := fun h _ k => k.imp id (fun ⟨B, c, tl, h1, h2, h3, h4⟩ => ⟨B, c, tl, h1, h2, (h B h2 (Array.getElem?_eq_some_iff.1 h3).1).trans h3, h4⟩)
  up := fun h k => k.imp id (fun ⟨B, c, tl, h1, h2, h4⟩ => ⟨B, c, tl, h1, h B h2, h4⟩)
def exHP {ι : Type} (c : ι → HP) : HP where
  p w F := ∃ i, (c i).p w F
  st := fun h hs ⟨i, k⟩ => ⟨i, (c i).st h hs k⟩
  up := fun h ⟨i, k⟩ => ⟨i, (c i).up h k⟩
def starHP (c d : HP) : HP where
  p w F := ∃ G : Nat → Prop, (∀ b, G b → F b) ∧ c.p w G ∧ d.p w (fun b => F b ∧ ¬ G b)
  st := fun h hs ⟨G, hG, hc, hd⟩ => ⟨G, hG, c.st (fun b hb => h b (hG b hb)) hs hc, d.st (fun b hb => h b hb.1) hs hd⟩
  up := fun h ⟨G, hG, hc, hd⟩ => ⟨G, fun b hb => h b (hG b hb), hc, d.up (fun b hb => ⟨h b hb.1, hb.2⟩) hd⟩
theorem Sep.split {H1 r : List HP} {w : World} : ∀ {A : Nat → Prop}, Sep (H1 ++ r) w A → ∃ F : Nat → Prop, (∀ b, F b → A b ∧ b < w.heap.size) ∧ Sep H1 w F ∧ Sep r w (fun b => A b ∧ ¬ F b) := by
  induction H1 with
  | nil => intro A h; exact ⟨No, fun b hb => hb.elim, trivial, Sep.up (fun b hb => ⟨hb, fun h => h.elim⟩) h⟩
  | cons c H1 ih =>
    intro A ⟨F, hF, hc, hr⟩
    obtain ⟨F', hF', h1, h2⟩ := ih hr
    refine ⟨fun b => F b ∨ F' b, fun b hb => hb.elim (hF b) (fun k => ⟨(hF' b k).1.1, (hF' b k).2⟩), ⟨F, fun b hb => ⟨.inl hb, (hF b hb).2⟩, hc, Sep.up (fun b hb => ⟨.inr hb, (hF' b hb).1.2⟩) h1⟩, Sep.up (fun b hb => ⟨hb.1.1, fun k => k.elim hb.1.2 hb.2⟩) h2⟩
/-- Footprints inside the heap. -/
theorem Sep.inside {H : List HP} {w : World} {A : Nat → Prop} (h : Sep H w A) : Sep H w (fun b => A b ∧ b < w.heap.size) := by
  have : Sep (H ++ []) w A := by rw [List.append_nil]; exact h
  obtain ⟨F, hF, h1, _⟩ := Sep.split this
  exact Sep.up (fun b hb => hF b hb) h1

section
variable {P : Program} {E : Env} {ops : Array Oper} {Q : Pst} {K : Act → World → Prop} {rest : List Oper} {G : List (Nat × Value)} {H : List HP}
/-- What a chunk leaves open is fixed. -/
theorem PW.open_ {ι : Type} (pre : List HP) {r : List HP} {c : HP} (c' : ι → HP) (hc : ∀ w F, c.p w F → ∃ i, (c' i).p w F) (k : ∀ i, PW E K G (pre ++ c' i :: r)) : PW E K G (pre ++ c :: r) := fun a w hf hw => by
  obtain ⟨F, hF, hp, hr⟩ := Sep.pull hw.sep
  obtain ⟨i, hi⟩ := hc w F hp
  exact k i a w hf ⟨hw.kp, Sep.push ⟨F, hF, hi, hr⟩⟩
theorem PW.change (pre : List HP) {r : List HP} {c : HP} (c' : HP) (hc : ∀ w F, c.p w F → c'.p w F) (k : PW E K G (pre ++ c' :: r)) : PW E K G (pre ++ c :: r) := fun a w hf hw => k a w hf (hw.change (hc w))
theorem PW.openEx {ι : Type} (pre : List HP) {r : List HP} {c : ι → HP} (k : ∀ i, PW E K G (pre ++ c i :: r)) : PW E K G (pre ++ exHP c :: r) := PW.open_ pre c (fun _ _ h => h) k
theorem PW.unstar (pre : List HP) {r : List HP} {c d : HP} (k : PW E K G (pre ++ c :: d :: r)) : PW E K G (pre ++ starHP c d :: r) := fun a w hf hw => by
  obtain ⟨F, hF, ⟨G', hG, hc, hd⟩, hr⟩ := Sep.pull hw.sep
  refine k a w hf ⟨hw.kp, ?_⟩
  have h2 : Sep (c :: d :: (pre ++ r)) w (fun b => E.S b ∨ E.w0.heap.size ≤ b) :=
    ⟨G', fun b hb => ⟨(hF b (hG b hb)).1, (hF b (hG b hb)).2⟩, hc, fun b => F b ∧ ¬ G' b, fun b hb => ⟨⟨(hF b hb.1).1, hb.2⟩, (hF b hb.1).2⟩, hd, Sep.up (fun b hb => ⟨⟨hb.1, fun hg => hb.2 (hG b hg)⟩, fun hg => hb.2 hg.1⟩) hr⟩
  refine Sep.perm ?_ h2
  refine List.Perm.trans ?_ (List.perm_middle (l₁ := pre)).symm
  exact List.Perm.cons _ (List.perm_middle).symm
theorem PW.purely (pre : List HP) {r : List HP} {φ : Prop} (k : φ → PW E K G (pre ++ r)) : PW E K G (pre ++ pureHP φ :: r) := fun a w hf hw => by
  obtain ⟨F, hF, hp, hr⟩ := Sep.pull hw.sep
  exact k hp a w hf ⟨hw.kp, Sep.up (fun b hb => hb.1) hr⟩
/-- A fact that the heap gives. -/
theorem PW.have_ {φ : Prop} (h : ∀ w, St E.w0 E.S H w → φ) (k : φ → PW E K G H) : PW E K G H := fun a w hf hw => k (h w hw) a w hf hw

/-- A cell of what may be read for good. -/
theorem RW.load_ro {dst : Nat} {ty t : TypeId} {pos : String} {af : Array Edge} {x : Operand} {d : TypeDesc} {z v : Value} {sz by_ B O : Nat} {M : Mem} [T : Ty P t d z sz by_] (hx : ev G x = some (.pointer (some ⟨B, O, none⟩))) (hM : Mem.le M E.ro) (hc : M B O v) (hd : isAggD d = false) (hN : Nat.blt dst E.N = true)
    (k : RW P E ops Q rest ((dst, v) :: G) H) : RW P E ops Q (⟨some dst, .load t x, ty, pos, af, none⟩ :: rest) G H :=
  RW.load_old hx (hM _ _ _ hc).2 (hM _ _ _ hc).1.1 hd hN k
theorem RW.load_ros {dst : Nat} {ty t : TypeId} {pos : String} {af : Array Edge} {x : Operand} {d : TypeDesc} {z : Value} {sz by_ B O : Nat} {cs : List Value} {M : Mem} [T : Ty P t d z sz by_] (hx : ev G x = some (.pointer (some ⟨B, O, none⟩))) (hM : Mem.le M E.ro) (hc : ∀ (i : Nat) (v : Value), cs[i]? = some v → M B (O + i) v) (hd : isAggD d = true) (hs : cs.length = sz) (hp : 0 < cs.length) (hN : Nat.blt dst E.N = true)
    (k : RW P E ops Q rest ((dst, .agg cs.toArray) :: G) H) : RW P E ops Q (⟨some dst, .load t x, ty, pos, af, none⟩ :: rest) G H :=
  RW.load_olds hx (fun i v hv => (hM _ _ _ (hc i v hv)).2) (hM _ _ _ (hc 0 _ (List.getElem?_eq_getElem hp))).1.1 hd hs hN k
theorem any_ro {N : Nat} {ds : List Deferred} {w : World} : Mem.le (mem w Any) (Env.ro ⟨N, ds, w, No⟩) := fun _ _ _ h => ⟨⟨fun k => k, h.1.2⟩, h.2⟩

/-! ### entering and leaving -/
def idx : Nat → List Value → List (Nat × Value)
  | _, [] => []
  | i, v :: r => (i, v) :: idx (i + 1) r
theorem look_idx : ∀ (l : List Value) (i j : Nat) (v : Value), look (idx i l) j = some v → i ≤ j ∧ l[j - i]? = some v := by
  intro l
  induction l with
  | nil => intro i j v h; cases h
  | cons u l ih =>
    intro i j v h
    simp only [idx, look] at h
    cases hb : Nat.beq i j with
    | true =>
      rw [hb] at h
      have : i = j := Nat.eq_of_beq_eq_true hb
      subst this
      simp only [Option.some.injEq] at h
      subst h
      simp
    | false =>
      rw [hb] at h
      have hne : i ≠ j := Nat.ne_of_beq_eq_false hb
      obtain ⟨h1, h2⟩ := ih (i + 1) j v h
      refine ⟨by omega, ?_⟩
      rw [show j - i = (j - (i + 1)) + 1 from by omega]
      simpa using h2
/-- What is asked at the end of a function. -/
structure RetP (P : Program) (fn : Func) (R : Ending → World → Prop) (a : Act) (w : World) : Prop where
  out : bodyPost P fn R .ret a w
structure PanP (P : Program) (fn : Func) (R : Ending → World → Prop) (c : List PanicEntry) (a : Act) (w : World) : Prop where
  out : bodyPost P fn R (.panic c) a w
@[reducible] def fin (P : Program) (fn : Func) (R : Ending → World → Prop) : Pst :=
  ⟨RetP P fn R, RetP P fn R, fun _ _ _ => False, fun _ _ _ => False, fun c => PanP P fn R c, bodyPost P fn R .outgrown⟩
theorem Calls.enter {f : FuncId} {fn : Func} {c : Code} {args : List Value} {w : World} {S : Nat → Prop} {R : Ending → World → Prop} (hf : P.funcs[f]? = some fn) (hb : fn.body = some c) (N : Nat) (hN : fn.ntmps = N) (hle : Nat.ble args.length N = true)
    (hst : Sep H w S) (k : CW P ⟨N, [], w, S⟩ c (fin P fn R) (idx 0 args) H) : Calls P f args.toArray w R := by
  refine calls_of_wp hf hb (wp_mono (k _ _ ⟨?_, rfl, fun i v hi => ?_⟩ (St.start hst)) (fun e a w h => by cases e <;> first | exact h.out | exact h | exact h.elim))
  · have : args.length ≤ N := by simpa [Nat.ble_eq] using hle
    simp [hN]; omega
  · obtain ⟨_, h2⟩ := look_idx _ _ _ _ hi
    have hlt : i < args.length := by
      have := (List.getElem?_eq_some_iff.1 h2).1
      omega
    rw [Array.getElem?_append_left (by simpa using hlt)]
    simpa using h2
def resV : List Value → Value
  | [v] => v
  | vs => .tuple vs.toArray
def resRun (tmps : Array Value) : ResultVar → Sem Value
  | .tmp t => pure (tmps.getD t undef)
  | .cell ad t => do loadVar t (← asAddr (tmps.getD ad undef))
def ResOK (P : Program) (E : Env) (G : List (Nat × Value)) (H : List HP) (rs : List ResultVar) (vs : List Value) : Prop :=
  ∀ a w, Fr E.N E.ds a G → St E.w0 E.S H w → rs.length = vs.length ∧ ∀ (i : Nat) (r : ResultVar) (v : Value), rs[i]? = some r → vs[i]? = some v → (resRun a.tmps r).run P w = .ok v w
theorem ResOK.nil : ResOK P E G H [] [] := fun a w _ _ => ⟨rfl, fun i r v h => by simp at h⟩
theorem ResOK.cons {rs : List ResultVar} {vs : List Value} {r : ResultVar} {v : Value} (h : ∀ a w, Fr E.N E.ds a G → St E.w0 E.S H w → (resRun a.tmps r).run P w = .ok v w) (k : ResOK P E G H rs vs) : ResOK P E G H (r :: rs) (v :: vs) := fun a w hf hw => by
  obtain ⟨k1, k2⟩ := k a w hf hw
  refine ⟨by simp [k1], fun i r' v' hr hv => ?_⟩
  cases i with
  | zero => simp at hr hv; subst hr; subst hv; exact h a w hf hw
  | succ i => exact k2 i r' v' (by simpa using hr) (by simpa using hv)
theorem ResOK.tmp {rs : List ResultVar} {vs : List Value} {t : Nat} {v : Value} (h : look G t = some v) (k : ResOK P E G H rs vs) : ResOK P E G H (.tmp t :: rs) (v :: vs) :=
  ResOK.cons (fun a w hf _ => by simp [resRun, Array.getD_eq_getD_getElem?, hf.at_ t v h]) k
theorem ResOK.cell {rs : List ResultVar} {vs : List Value} {t B : Nat} {ty te : TypeId} {d : TypeDesc} {z : Value} {sz by_ : Nat} [T : Ty P ty d z sz by_] (pre : List HP) {r : List HP} {c : List Value} (h : look G t = some (.pointer (some ⟨B, 0, none⟩))) (hd : isAggD d = true) (hs : c.length = sz)
    (k : ResOK P E G (pre ++ blk B c te :: r) rs vs) : ResOK P E G (pre ++ blk B c te :: r) (.cell t ty :: rs) (.agg c.toArray :: vs) :=
  ResOK.cons (fun a w hf hw => by simp [resRun, Array.getD_eq_getD_getElem?, hf.at_ t _ h, asAddr, run_loadVar_agg hd hs (CellsAt.of_blk hw.blk)]) k
theorem ResOK.cell1 {rs : List ResultVar} {vs : List Value} {t B : Nat} {ty te : TypeId} {d : TypeDesc} {z : Value} {sz by_ : Nat} [T : Ty P ty d z sz by_] (pre : List HP) {r : List HP} {v : Value} (h : look G t = some (.pointer (some ⟨B, 0, none⟩))) (hd : isAggD d = false)
    (k : ResOK P E G (pre ++ blk B [v] te :: r) rs vs) : ResOK P E G (pre ++ blk B [v] te :: r) (.cell t ty :: rs) (v :: vs) :=
  ResOK.cons (fun a w hf hw => by simp [resRun, Array.getD_eq_getD_getElem?, hf.at_ t _ h, asAddr, run_loadVar_one hd (cell_of_blk (o := 0) (v := v) hw.blk (by simp))]) k
theorem run_mapM_list {α β : Type} {P : Program} {w : World} (f : α → Sem β) : ∀ (l : List α) (vs : List β), l.length = vs.length → (∀ (i : Nat) (r : α) (v : β), l[i]? = some r → vs[i]? = some v → (f r).run P w = .ok v w) → (l.mapM f).run P w = .ok vs w := by
  intro l
  induction l with
  | nil => intro vs hl _; cases vs <;> simp_all
  | cons x l ih =>
    intro vs hl h
    cases vs with
    | nil => simp at hl
    | cons v vs =>
      rw [List.mapM_cons]
      simp only [Sem.run_bind, h 0 x v rfl rfl, Result.andThen, ih vs (by simpa using hl) (fun i r u hr hu => h (i + 1) r u (by simpa using hr) (by simpa using hu))]
      rfl
theorem run_results {fn : Func} {rs : List ResultVar} {vs : List Value} (hr : fn.results = rs.toArray) (h : ResOK P E G H rs vs) {a : Act} {w : World} (hf : Fr E.N E.ds a G) (hw : St E.w0 E.S H w) : (results fn a.tmps).run P w = .ok (resV vs) w := by
  obtain ⟨h1, h2⟩ := h a w hf hw
  have hm := run_mapM_list (P := P) (w := w) (resRun a.tmps) rs vs h1 h2
  unfold results
  rw [hr, List.mapM_toArray]
  change Sem.run P (do let vs ← List.toArray <$> List.mapM (resRun a.tmps) rs; pure (if h : vs.size = 1 then vs[0] else .tuple vs)) w = _
  simp only [Sem.run_bind, Sem.run_map, hm, Result.andThen]
  cases vs with
  | nil => rfl
  | cons v vs => cases vs with
    | nil => rfl
    | cons u vs => rfl
theorem PW.ret {fn : Func} {R : Ending → World → Prop} {rs : List ResultVar} {vs : List Value} (hr : fn.results = rs.toArray) (hd : E.ds = []) (h : ResOK P E G H rs vs) (k : ∀ w, St E.w0 E.S H w → R (.returned (resV vs)) w) :
    PW E (RetP P fn R) G H := fun a w hf hw => ⟨⟨hf.defers.trans hd, _, run_results hr h hf hw, k w hw⟩⟩
theorem PW.ret1 {fn : Func} {R : Ending → World → Prop} {t : Nat} {v : Value} (hr : fn.results = #[.tmp t]) (hd : E.ds = []) (h : look G t = some v) (k : ∀ w, St E.w0 E.S H w → R (.returned v) w) :
    PW E (RetP P fn R) G H := PW.ret (rs := [.tmp t]) (vs := [v]) hr hd (ResOK.tmp h ResOK.nil) k

/-! ### more on code -/
theorem CW.seqR {id : Nat} {l : List Oper} {y : Code} (h : RW P E l.toArray (Pst.then (y.wp P Q.fn) Q) l G H) : CW P E (.seq (.region id l.toArray false) y) Q G H := CW.seq (CW.region h)
theorem PW.code {c : Code} (h : CW P E c Q G H) : PW E (c.wp P Q.fn) G H := h
theorem CW.exit_to {id : Nat} {c : Code} {Q2 : Pst} (hK : Q.exi id = c.wp P Q2.fn) (h : CW P E c Q2 G H) : CW P E (.exit id) Q G H := CW.exit hK h
theorem CW.ret1 {fn : Func} {R : Ending → World → Prop} {t : Nat} {v : Value} (hK : Q.ret = RetP P fn R) (hr : fn.results = #[.tmp t]) (hd : E.ds = []) (h : look G t = some v) (k : ∀ w, St E.w0 E.S H w → R (.returned v) w) : CW P E .ret Q G H := CW.ret hK (PW.ret1 hr hd h k)
theorem CW.rets {fn : Func} {R : Ending → World → Prop} {rs : List ResultVar} {vs : List Value} (hK : Q.ret = RetP P fn R) (hr : fn.results = rs.toArray) (hd : E.ds = []) (h : ResOK P E G H rs vs) (k : ∀ w, St E.w0 E.S H w → R (.returned (resV vs)) w) : CW P E .ret Q G H := CW.ret hK (PW.ret hr hd h k)
theorem PW.again {ι : Type} {g : ι → List (Nat × Value)} {h : ι → List HP} {m : ι → Nat} {n : Nat} (j : ι) (hs : Sub (g j) G) (hh : ∀ {w}, St E.w0 E.S H w → St E.w0 E.S (h j) w) (hm : m j < n) :
    PW E (fun a w => ∃ j, Fr E.N E.ds a (g j) ∧ St E.w0 E.S (h j) w ∧ m j < n) G H := fun a w hf hw => ⟨j, hf.sub hs, hh hw, hm⟩
theorem PW.meet {ι : Type} {g : ι → List (Nat × Value)} {h : ι → List HP} (j : ι) (hs : Sub (g j) G) (hh : ∀ {w}, St E.w0 E.S H w → St E.w0 E.S (h j) w) :
    PW E (fun a w => ∃ j, Fr E.N E.ds a (g j) ∧ St E.w0 E.S (h j) w) G H := fun a w hf hw => ⟨j, hf.sub hs, hh hw⟩


/-! ### the same for code and for what is left of a region -/
theorem CW.drop {c0 : Code} {H' : List HP} (hs : List.Sublist H' H) (k : CW P E c0 Q G H') : CW P E c0 Q G H := PW.drop hs k
theorem CW.perm {c0 : Code} {H' : List HP} (H'' : List HP) (hs : H.Perm H'') (k : CW P E c0 Q G H'') : CW P E c0 Q G H := PW.perm hs k
theorem CW.open_ {c0 : Code} {ι : Type} (pre : List HP) {r : List HP} {c : HP} (c' : ι → HP) (hc : ∀ w F, c.p w F → ∃ i, (c' i).p w F) (k : ∀ i, CW P E c0 Q G (pre ++ c' i :: r)) : CW P E c0 Q G (pre ++ c :: r) := PW.open_ pre c' hc k
theorem CW.change {c0 : Code} (pre : List HP) {r : List HP} {c : HP} (c' : HP) (hc : ∀ w F, c.p w F → c'.p w F) (k : CW P E c0 Q G (pre ++ c' :: r)) : CW P E c0 Q G (pre ++ c :: r) := PW.change pre c' hc k
theorem CW.openEx {c0 : Code} {ι : Type} (pre : List HP) {r : List HP} {c : ι → HP} (k : ∀ i, CW P E c0 Q G (pre ++ c i :: r)) : CW P E c0 Q G (pre ++ exHP c :: r) := PW.openEx pre k
theorem CW.unstar {c0 : Code} (pre : List HP) {r : List HP} {c d : HP} (k : CW P E c0 Q G (pre ++ c :: d :: r)) : CW P E c0 Q G (pre ++ starHP c d :: r) := PW.unstar pre k
theorem CW.purely {c0 : Code} (pre : List HP) {r : List HP} {φ : Prop} (k : φ → CW P E c0 Q G (pre ++ r)) : CW P E c0 Q G (pre ++ pureHP φ :: r) := PW.purely pre k
theorem CW.have_ {c0 : Code} {φ : Prop} (h : ∀ w, St E.w0 E.S H w → φ) (k : φ → CW P E c0 Q G H) : CW P E c0 Q G H := PW.have_ h k
theorem RW.drop {H' : List HP} (hs : List.Sublist H' H) (k : RW P E ops Q rest G H') : RW P E ops Q rest G H := PW.drop hs k
theorem RW.perm {H' : List HP} (H'' : List HP) (hs : H.Perm H'') (k : RW P E ops Q rest G H'') : RW P E ops Q rest G H := PW.perm hs k
theorem RW.open_ {ι : Type} (pre : List HP) {r : List HP} {c : HP} (c' : ι → HP) (hc : ∀ w F, c.p w F → ∃ i, (c' i).p w F) (k : ∀ i, RW P E ops Q rest G (pre ++ c' i :: r)) : RW P E ops Q rest G (pre ++ c :: r) := PW.open_ pre c' hc k
theorem RW.change (pre : List HP) {r : List HP} {c : HP} (c' : HP) (hc : ∀ w F, c.p w F → c'.p w F) (k : RW P E ops Q rest G (pre ++ c' :: r)) : RW P E ops Q rest G (pre ++ c :: r) := PW.change pre c' hc k
theorem RW.openEx {ι : Type} (pre : List HP) {r : List HP} {c : ι → HP} (k : ∀ i, RW P E ops Q rest G (pre ++ c i :: r)) : RW P E ops Q rest G (pre ++ exHP c :: r) := PW.openEx pre k
theorem RW.unstar (pre : List HP) {r : List HP} {c d : HP} (k : RW P E ops Q rest G (pre ++ c :: d :: r)) : RW P E ops Q rest G (pre ++ starHP c d :: r) := PW.unstar pre k
theorem RW.purely (pre : List HP) {r : List HP} {φ : Prop} (k : φ → RW P E ops Q rest G (pre ++ r)) : RW P E ops Q rest G (pre ++ pureHP φ :: r) := PW.purely pre k
theorem RW.have_ {φ : Prop} (h : ∀ w, St E.w0 E.S H w → φ) (k : φ → RW P E ops Q rest G H) : RW P E ops Q rest G H := PW.have_ h k

/-! ### calls that turn some chunks -/
/-- A call that turns the chunks C: what it hands back, what becomes of them. -/
def RetC (P : Program) (f : FuncId) (args : List Value) (w : World) (F : Nat → Prop) {α : Type} (V : α → Value) (c : α → List HP) : Prop :=
  Calls P f args.toArray w (fun e w' => ∃ x, e = .returned (V x) ∧ St w F (c x) w')
section
variable {dst : Nat} {ty : TypeId} {pos : String} {af : Array Edge} {l : List Operand} {vs caps : List Value} {at_ : Array TypeId} {f : FuncId} {fv : Operand}
theorem RW.callC {α : Type} {V : α → Value} {c : α → List HP} (C : List HP) {r : List HP} (hcall : ∀ args w, (callFunc f args).run P w = .ok (.enter f args) w) (hl : evs G l = some vs)
    (hc : ∀ w F, Mem.le E.ro (mem w (fun b => ¬ F b)) → Sep C w F → St E.w0 E.S (C ++ r) w → RetC P f vs w F V c) (hN : Nat.blt dst E.N = true)
    (kk : ∀ x, RW P E ops Q rest ((dst, V x) :: G) (c x ++ r)) : RW P E ops Q (⟨some dst, .call ⟨.value (.func f), l.toArray, at_⟩, ty, pos, af, none⟩ :: rest) G (C ++ r) :=
  RW.call_gen hcall hl (fun a w hf hw => by
    obtain ⟨F, hF, h1, h2⟩ := Sep.split hw.sep
    refine (hc w F (fun B O v hv => ⟨⟨fun hb => ?_, (ro_le hw _ _ _ hv).1.2⟩, (ro_le hw _ _ _ hv).2⟩) h1 hw).mono ?_
    · rcases (hF B hb).1 with h | h
      · exact hv.1.1 h
      · have := World.block_lt_of_cell? E.w0 _ hv.2
        exact absurd this (Nat.not_lt.2 h)
    · rintro e w' ⟨x, rfl, hx⟩
      exact kk x _ _ (hf.put hN _) (St.turnF hw.kp hF h2 hx))
theorem RW.callC0 {α : Type} {V : α → Value} {c : α → List HP} (C : List HP) {r : List HP} (hcall : ∀ args w, (callFunc f args).run P w = .ok (.enter f args) w) (hl : evs G l = some vs)
    (hc : ∀ w F, Mem.le E.ro (mem w (fun b => ¬ F b)) → Sep C w F → St E.w0 E.S (C ++ r) w → RetC P f vs w F V c)
    (kk : ∀ x, RW P E ops Q rest G (c x ++ r)) : RW P E ops Q (⟨none, .call ⟨.value (.func f), l.toArray, at_⟩, ty, pos, af, none⟩ :: rest) G (C ++ r) :=
  RW.call_gen hcall hl (fun a w hf hw => by
    obtain ⟨F, hF, h1, h2⟩ := Sep.split hw.sep
    refine (hc w F (fun B O v hv => ⟨⟨fun hb => ?_, (ro_le hw _ _ _ hv).1.2⟩, (ro_le hw _ _ _ hv).2⟩) h1 hw).mono ?_
    · rcases (hF B hb).1 with h | h
      · exact hv.1.1 h
      · have := World.block_lt_of_cell? E.w0 _ hv.2
        exact absurd this (Nat.not_lt.2 h)
    · rintro e w' ⟨x, rfl, hx⟩
      exact kk x _ _ (hf.skip _) (St.turnF hw.kp hF h2 hx))
end
end
end Go.Proofs.YtkfmlekomfnleaaGreat
/- From what a row's reader trod to the calculus' reading of data. Conditions: none; everything holds over any program. -/
set_option linter.unusedVariables false
set_option linter.unusedSimpArgs false
namespace Go.Proofs.YtkfmlekomfnleaaGreat
open Go Go.RowKit Go.ChangeShapes Go.WideShapes Go.ChangeAt Go.Deep

theorem K.sz_pos : ∀ k : K, 0 < k.sz
  | .int _ => Nat.one_pos
  | .bool => Nat.one_pos
  | .str => Nat.one_pos
  | .sl _ _ => Nat.one_pos
  | .pr a b => by
    have := K.sz_pos a
    show 0 < a.sz + b.sz
    omega
mutual
/-- A type's values read as this kind. -/
inductive TyK (P : Program) : TypeId → K → Prop
  | int {t : TypeId} {k : IntKind} : P.underlying t = some (.int k) → TyK P t (.int k)
  | bool {t : TypeId} : P.underlying t = some .bool → TyK P t .bool
  | str {t : TypeId} : P.underlying t = some .string → TyK P t .str
  | sl {t e : TypeId} {by_ : Nat} {k : K} : P.underlying t = some (.slice e) → P.bytesOf e = by_ → P.cellsOf e = k.sz → TyK P e k → TyK P t (.sl by_ k)
  | st {t : TypeId} {fs : Array Field} {k : K} : P.underlying t = some (.struct fs) → P.cellsOf t = k.sz → Flds P 0 fs.toList k → TyK P t k
inductive Flds (P : Program) : Nat → List Field → K → Prop
  | one {f : Field} {off : Nat} {k : K} : f.offset = off → P.cellsOf f.type = k.sz → TyK P f.type k → Flds P off [f] k
  | cons {f : Field} {fs : List Field} {off : Nat} {a b : K} : f.offset = off → P.cellsOf f.type = a.sz → TyK P f.type a → Flds P (off + a.sz) fs b → Flds P off (f :: fs) (.pr a b)
end
theorem addr_add {a : Addr} {n : Nat} (h : a.spot = none) : a.add n = ⟨a.block, a.off + n, none⟩ := by
  obtain ⟨b, o, s⟩ := a
  cases h
  unfold Addr.add
  split <;> simp_all
theorem list_of {α : Type} {n : Nat} {p : Nat → α → Prop} (h : ∀ i, i < n → ∃ x, p i x) : ∃ xs : List α, xs.length = n ∧ ∀ (i : Nat) (x : α), xs[i]? = some x → p i x := by
  induction n with
  | zero => exact ⟨[], rfl, fun i x h => by simp at h⟩
  | succ len ihl =>
    obtain ⟨xs, h1, h2⟩ := ihl (fun i hi => h i (by omega))
    obtain ⟨x, h3⟩ := h len (by omega)
    refine ⟨xs ++ [x], by simp [h1], fun i y hy => ?_⟩
    rcases Nat.lt_or_ge i xs.length with hi | hi
    · rw [List.getElem?_append_left hi] at hy
      exact h2 i y hy
    · rw [List.getElem?_append_right hi] at hy
      have h0 : i - xs.length = 0 := by
        have := (List.getElem?_eq_some_iff.1 hy).1
        simp at this; omega
      rw [h0] at hy
      simp only [List.getElem?_cons_zero, Option.some.injEq] at hy
      subst hy
      rw [show i = len by omega]
      exact h3
section
variable {H : Type} {enc : TypeId × Value → H} {P : Program} {w : World} {base : Nat} {spare : Nat → Bool} {held : Bool}
theorem cell_spot {a : Addr} {v : Value} (h : w.cell? a = some v) : a.spot = none := by
  unfold World.cell? at h
  cases hs : a.spot with
  | none => rfl
  | some s =>
    split at h
    · simp [hs] at h
    · cases h
theorem add_zero_ (a : Addr) : a.add 0 = a := by unfold Addr.add; simp
theorem all_append {l l' : List Nat} (h : (l ++ l').all (· ≤ reachBytes) = true) : l.all (· ≤ reachBytes) = true ∧ l'.all (· ≤ reachBytes) = true := by
  rw [List.all_append, Bool.and_eq_true] at h; exact h
theorem weightsAll_mem {e : TypeId} : ∀ {l : List (DataW H)} (h : (DataW.weightsAll P e l).all (· ≤ reachBytes) = true) {d : DataW H}, d ∈ l → (d.weights P e).all (· ≤ reachBytes) = true := by
  intro l
  induction l with
  | nil => intro _ d hd; cases hd
  | cons y l ih =>
    intro h d hd
    rw [DataW.weightsAll] at h
    obtain ⟨h1, h2⟩ := all_append h
    rcases List.mem_cons.1 hd with rfl | hd
    · exact h1
    · exact ih h2 hd
def TrodOk (enc : TypeId × Value → H) (P : Program) (w : World) (base : Nat) (spare : Nat → Bool) (held : Bool) (t : TypeId) (k : K) : Prop :=
  ∀ (fuel : Nat) (cs : List Value) (d : DataW H) (p : List MemPlace), DataW.trod enc P w base spare held fuel t cs = some (d, p) → w.noneFrozen p → (d.weights P t).all (· ≤ reachBytes) = true → ∃ x : k.V, Rd k (mem w Any) cs x
def FldsOk (enc : TypeId × Value → H) (P : Program) (w : World) (base : Nat) (spare : Nat → Bool) (held : Bool) (off : Nat) (fs : List Field) (k : K) : Prop :=
  ∀ (fuel : Nat) (cs : List Value) (xs : List (DataW H × List MemPlace)), cs.length = off + k.sz → (∀ (i : Nat) (f : Field), fs[i]? = some f → DataW.trod enc P w base spare held fuel f.type ((cs.drop f.offset).take (P.cellsOf f.type)) = xs[i]?) → xs.length = fs.length → (∀ x ∈ xs, w.noneFrozen x.2) →
    (DataW.weightsEach P (fs.map (·.type)) (xs.map (·.1))).all (· ≤ reachBytes) = true → ∃ x : k.V, Rd k (mem w Any) (cs.drop off) x
theorem trod_rd {t : TypeId} {k : K} (h : TyK P t k) : TrodOk enc P w base spare held t k := by
  refine TyK.rec (motive_1 := fun t k _ => TrodOk enc P w base spare held t k) (motive_2 := fun off fs k _ => FldsOk enc P w base spare held off fs k) ?_ ?_ ?_ ?_ ?_ ?_ ?_ h
  · intro t k ht fuel cs d p hd _ _
    obtain ⟨n, rfl, _, hw⟩ := DataW.trod_int ht hd
    exact ⟨n, rfl, hw⟩
  · intro t ht fuel cs d p hd _ _
    obtain ⟨n, rfl, _⟩ := DataW.trod_bool ht hd
    exact ⟨n, rfl⟩
  · intro t ht fuel cs d p hd _ hw
    obtain ⟨n, rfl, hx, _⟩ := DataW.trod_string ht hd
    cases hx
    rw [DataW.weights] at hw
    refine ⟨n, rfl, ?_⟩
    rw [List.all_cons, Bool.and_eq_true, decide_eq_true_eq, Array.length_toList] at hw
    exact hw.1
  · intro t e by_ k ht hb hc _ ih fuel cs d p hd hfz hw
    rcases open_slice ht hd with ⟨rfl, _⟩ | ⟨a, len, cap, m, n, D, Pl, rfl, _, hl, hm, hmm, hx, hel⟩
    · exact ⟨[], none, 0, rfl, Nat.le_refl _, Nat.zero_le _, by show 0 * _ ≤ _; omega, RowAt.nil⟩
    · cases hx
      rw [DataW.weights, ht] at hw
      simp only [List.all_cons, Bool.and_eq_true, decide_eq_true_eq, List.length_map, List.length_range] at hw
      obtain ⟨hw1, hw2⟩ := hw
      obtain ⟨hw2, hw3⟩ := all_append hw2
      have hlm : len ≤ m := by rw [hmm]; split <;> omega
      have hone : ∀ i, i < len → ∃ (x : k.V) (cs : List Value), cs.length = k.sz ∧ Rd k (mem w Any) cs x ∧ ∀ (j : Nat) (v : Value), cs[j]? = some v → w.cell? ((a.add (i * k.sz)).add j) = some v := by
        intro i hi
        obtain ⟨cs, h1, h2⟩ := hel i (by omega)
        obtain ⟨_, h3, h4⟩ := World.cells?_some h1
        rw [hc] at h3 h4
        obtain ⟨x, hx⟩ := ih n cs (D i) (Pl i) h2 (fun b o hbo => hfz b o (List.mem_append.2 (.inr (List.mem_flatMap.2 ⟨i, List.mem_range.2 (by omega), hbo⟩)))) (weightsAll_mem hw2 (List.mem_map.2 ⟨i, List.mem_range.2 hi, rfl⟩))
        refine ⟨x, cs, h3, hx, fun j v hv => ?_⟩
        have hj : j < k.sz := by rw [← h3]; exact (List.getElem?_eq_some_iff.1 hv).1
        rw [h4 j hj, hv]
      have hsome : ∃ xs : List k.V, xs.length = len ∧ ∀ (i : Nat) (x : k.V), xs[i]? = some x → ∃ cs : List Value, cs.length = k.sz ∧ Rd k (mem w Any) cs x ∧ ∀ (j : Nat) (v : Value), cs[j]? = some v → w.cell? ((a.add (i * k.sz)).add j) = some v := by
        exact list_of hone
      obtain ⟨xs, hxl, hxs⟩ := hsome
      refine ⟨xs, some a, cap, by rw [hxl], by rw [hxl]; exact hl, by unfold maxN; unfold maxLen at hm; omega, ?_, fun hne => ?_⟩
      · rw [hxl, ← hb]
        have h5 : len * P.bytesOf e ≤ (len + (m - len)) * P.bytesOf e := Nat.mul_le_mul_right _ (by omega)
        unfold reach
        unfold reachBytes at hw1
        omega
      · obtain ⟨y, hy⟩ : ∃ y, xs[0]? = some y := by
          cases xs with
          | nil => exact absurd rfl hne
          | cons y _ => exact ⟨y, rfl⟩
        have hspot : a.spot = none := by
          obtain ⟨cs, h1, _, h2⟩ := hxs 0 y hy
          have hz := K.sz_pos k
          have := cell_spot (h2 0 _ (List.getElem?_eq_getElem (by omega)))
          rwa [Nat.zero_mul, add_zero_, add_zero_] at this
        refine ⟨a.block, a.off, by rw [← hspot], fun j x hj => ?_⟩
        obtain ⟨cs, h1, h2, h3⟩ := hxs j x hj
        refine ⟨cs, h1, h2, fun i v hv => ?_⟩
        have hil : i < k.sz := by rw [← h1]; exact (List.getElem?_eq_some_iff.1 hv).1
        refine ⟨⟨trivial, hfz _ _ (List.mem_append.2 (.inl (List.mem_map.2 ⟨j * k.sz + i, List.mem_range.2 ?_, by rw [Nat.add_assoc]⟩)))⟩, ?_⟩
        · have hjl : j < len := by rw [← hxl]; exact (List.getElem?_eq_some_iff.1 hj).1
          rw [hc]
          exact Nat.lt_of_lt_of_le (Nat.add_lt_add_left hil _) (Nat.le_trans (Nat.le_of_eq (Nat.succ_mul j k.sz).symm) (Nat.mul_le_mul_right _ (by omega)))
        have := h3 i v hv
        rwa [addr_add hspot, addr_add rfl] at this
  · intro t fs k ht hc _ ih fuel cs d p hd hfz hw
    obtain ⟨xs, n, _, hx, hl, hlen, hf⟩ := DataW.trod_struct ht hd
    cases hx
    rw [DataW.weights, ht] at hw
    exact ih n cs xs (by rw [hl, hc]; omega) (fun i f hi => hf i f (by rw [← Array.getElem?_toList]; exact hi)) (by rw [hlen]; rfl) (fun x hx b o hbo => hfz b o (List.mem_flatMap.2 ⟨x, hx, hbo⟩)) hw
  · intro f off k ho hc _ ih fuel cs xs hl hf hlen hfz hw
    subst ho
    match xs, hlen with
    | [(d, p)], _ =>
      have h1 := hf 0 f rfl
      rw [List.take_of_length_le (by rw [List.length_drop, hc]; omega)] at h1
      exact ih fuel _ d p h1 (hfz _ (List.mem_cons_self ..)) (by simpa [DataW.weightsEach] using hw)
  · intro f fs off a b ho hc _ _ iha ihb fuel cs xs hl hf hlen hfz hw
    subst ho
    have hl' : cs.length = f.offset + (a.sz + b.sz) := hl
    match xs, hlen with
    | (d, p) :: xs, hlen =>
      have h1 := hf 0 f rfl
      have hw' : (d.weights P f.type ++ DataW.weightsEach P (fs.map (·.type)) (xs.map (·.1))).all (· ≤ reachBytes) = true := hw
      obtain ⟨hw1, hw2⟩ := all_append hw'
      obtain ⟨x, hx⟩ := iha fuel _ d p h1 (hfz _ (List.mem_cons_self ..)) hw1
      obtain ⟨y, hy⟩ := ihb fuel cs xs (by omega) (fun i g hg => hf (i + 1) g hg) (by simpa using hlen) (fun x hx => hfz x (List.mem_cons_of_mem _ hx)) hw2
      refine ⟨(x, y), _, _, ?_, hx, hy⟩
      rw [hc, ← List.drop_drop, List.take_append_drop]
end
end Go.Proofs.YtkfmlekomfnleaaGreat
