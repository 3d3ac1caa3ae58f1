/- The calculus of this family, first part: frames as association lists, heaps as lists of separated chunks, one rule a form of code. Conditions: none; everything holds over any program. -/
import Derived.WalkKit
import Derived.Carry
import Derived.Orders
import Derived.Deep.LoopGhost
set_option linter.unusedVariables false
set_option linter.unusedSimpArgs false
namespace Go.Proofs.YtbcdgcodnkgdoaaGreat
open Go Go.RowKit

/-! ### worlds -/
structure Keeps (S : Nat → Prop) (w w' : World) : Prop where
  os : w'.os = w.os
  tape : w'.tape = w.tape
  output : w'.output = w.output
  size : w.heap.size ≤ w'.heap.size
  block : ∀ i, i < w.heap.size → ¬ S i → w'.heap[i]? = w.heap[i]?

def No : Nat → Prop := fun _ => False
def Any : Nat → Prop := fun _ => True

theorem Keeps.refl (S : Nat → Prop) (w : World) : Keeps S w w := ⟨rfl, rfl, rfl, Nat.le_refl _, fun _ _ _ => rfl⟩
theorem Keeps.trans {S S2 : Nat → Prop} {w w1 w2 : World} (h : Keeps S w w1) (k : Keeps S2 w1 w2) (hs : ∀ b, S2 b → S b ∨ w.heap.size ≤ b) : Keeps S w w2 :=
  ⟨k.os.trans h.os, k.tape.trans h.tape, k.output.trans h.output, Nat.le_trans h.size k.size, fun i hi hn =>
    (k.block i (Nat.lt_of_lt_of_le hi h.size) (fun h2 => (hs i h2).elim hn (fun h3 => absurd hi (by omega)))).trans (h.block i hi hn)⟩
theorem Keeps.mono {S S2 : Nat → Prop} {w w1 : World} (h : Keeps S w w1) (hs : ∀ b, S b → S2 b) : Keeps S2 w w1 :=
  ⟨h.os, h.tape, h.output, h.size, fun i hi hn => h.block i hi (fun k => hn (hs i k))⟩
theorem Keeps.below {w w1 : World} (h : Keeps No w w1) : Below w.heap.size w w1 := ⟨h.os, h.tape, h.output, h.size, fun i hi => h.block i hi (fun k => k.elim)⟩
theorem Keeps.of_below {S : Nat → Prop} {w w1 : World} (h : Below w.heap.size w w1) : Keeps S w w1 := ⟨h.os, h.tape, h.output, h.size, fun i hi _ => h.block i hi⟩
theorem Keeps.alloc (S : Nat → Prop) (w : World) (o : Obj) : Keeps S w (w.alloc o) :=
  ⟨rfl, rfl, rfl, by show _ ≤ (w.heap.push o).size; simp, fun i hi _ => by show (w.heap.push o)[i]? = _; rw [Array.getElem?_push]; simp [Nat.ne_of_lt hi]⟩
theorem Keeps.drew (S : Nat → Prop) (w : World) : Keeps S w w.drew := ⟨rfl, rfl, rfl, Nat.le_refl _, fun _ _ _ => rfl⟩
theorem heap_set_ne (w : World) (p : Addr) (v : Value) (i : Nat) (h : i ≠ p.block) : (w.setCell p v).heap[i]? = w.heap[i]? := by
  simp [World.setCell, Array.getElem?_modify, Ne.symm h]
theorem heap_set_size (w : World) (p : Addr) (v : Value) : (w.setCell p v).heap.size = w.heap.size := by simp [World.setCell]
theorem Keeps.set {S : Nat → Prop} (w : World) (p : Addr) (v : Value) (h : S p.block) : Keeps S w (w.setCell p v) :=
  ⟨rfl, rfl, rfl, by rw [heap_set_size]; exact Nat.le_refl _, fun i _ hn => heap_set_ne w p v i (fun e => hn (e ▸ h))⟩

/-! ### chunks -/
structure HP where
  p : World → (Nat → Prop) → Prop
  st : ∀ {w w' : World} {F : Nat → Prop}, (∀ b, F b → b < w.heap.size → w'.heap[b]? = w.heap[b]?) → w.heap.size ≤ w'.heap.size → p w F → p w' F
  up : ∀ {w : World} {F F' : Nat → Prop}, (∀ b, F b → F' b) → p w F → p w F'

def Sep : List HP → World → (Nat → Prop) → Prop
  | [], _, _ => True
  | c :: r, w, A => ∃ F : Nat → Prop, (∀ b, F b → A b ∧ b < w.heap.size) ∧ c.p w F ∧ Sep r w (fun b => A b ∧ ¬ F b)

theorem Sep.up {Γ : List HP} : ∀ {w : World} {A A' : Nat → Prop}, (∀ b, A b → A' b) → Sep Γ w A → Sep Γ w A' := by
  induction Γ with
  | nil => intro _ _ _ _ _; trivial
  | cons c r ih =>
    intro w A A' hA ⟨F, hF, hc, hr⟩
    exact ⟨F, fun b hb => ⟨hA b (hF b hb).1, (hF b hb).2⟩, hc, ih (fun b hb => ⟨hA b hb.1, hb.2⟩) hr⟩
theorem Sep.keep {Γ : List HP} : ∀ {w w' : World} {A : Nat → Prop}, (∀ b, A b → b < w.heap.size → w'.heap[b]? = w.heap[b]?) → w.heap.size ≤ w'.heap.size → Sep Γ w A → Sep Γ w' A := by
  induction Γ with
  | nil => intro _ _ _ _ _ _; trivial
  | cons c r ih =>
    intro w w' A hA hs ⟨F, hF, hc, hr⟩
    exact ⟨F, fun b hb => ⟨(hF b hb).1, Nat.lt_of_lt_of_le (hF b hb).2 hs⟩, c.st (fun b hb hl => hA b (hF b hb).1 hl) hs hc, ih (fun b hb hl => hA b hb.1 hl) hs hr⟩
theorem Sep.swap {c d : HP} {r : List HP} {w : World} {A : Nat → Prop} (h : Sep (c :: d :: r) w A) : Sep (d :: c :: r) w A := by
  obtain ⟨F, hF, hc, G, hG, hd, hr⟩ := h
  exact ⟨G, fun b hb => ⟨(hG b hb).1.1, (hG b hb).2⟩, hd, F, fun b hb => ⟨⟨(hF b hb).1, fun hg => (hG b hg).1.2 hb⟩, (hF b hb).2⟩, hc, Sep.up (fun b hb => ⟨⟨hb.1.1, hb.2⟩, hb.1.2⟩) hr⟩
theorem Sep.tail {c : HP} {r : List HP} {w : World} {A : Nat → Prop} (h : Sep (c :: r) w A) : Sep r w A := by
  obtain ⟨F, _, _, hr⟩ := h
  exact Sep.up (fun b hb => hb.1) hr
theorem Sep.cons_perm {c : HP} {r r' : List HP} {w : World} {A : Nat → Prop} (hp : ∀ A, Sep r w A → Sep r' w A) (h : Sep (c :: r) w A) : Sep (c :: r') w A := by
  obtain ⟨F, hF, hc, hr⟩ := h
  exact ⟨F, hF, hc, hp _ hr⟩
theorem Sep.perm {Γ Δ : List HP} (hp : Γ.Perm Δ) : ∀ {w : World} {A : Nat → Prop}, Sep Γ w A → Sep Δ w A := by
  induction hp with
  | nil => intro _ _ h; exact h
  | cons c _ ih => intro _ _ h; exact Sep.cons_perm (fun _ => ih) h
  | swap c d r => intro _ _ h; exact Sep.swap h
  | trans _ _ ih1 ih2 => intro _ _ h; exact ih2 (ih1 h)
theorem Sep.pull {pre r : List HP} {c : HP} {w : World} {A : Nat → Prop} (h : Sep (pre ++ c :: r) w A) : Sep (c :: (pre ++ r)) w A := Sep.perm List.perm_middle h
theorem Sep.push {pre r : List HP} {c : HP} {w : World} {A : Nat → Prop} (h : Sep (c :: (pre ++ r)) w A) : Sep (pre ++ c :: r) w A := Sep.perm List.perm_middle.symm h
/-- Some of the chunks. -/
theorem Sep.sub {Γ Δ : List HP} (hs : List.Sublist Δ Γ) : ∀ {w : World} {A : Nat → Prop}, Sep Γ w A → Sep Δ w A := by
  induction hs with
  | slnil => intro _ _ h; exact h
  | cons c _ ih => intro _ _ h; exact ih (Sep.tail h)
  | cons_cons c _ ih => intro _ _ h; exact Sep.cons_perm (fun _ => ih) h
theorem Sep.nil {w : World} {A : Nat → Prop} : Sep [] w A := trivial
theorem Sep.new {c : HP} {Γ : List HP} {w w' : World} {A : Nat → Prop} (hA : ∀ b, A b → b < w.heap.size → w'.heap[b]? = w.heap[b]?) (hs : w.heap.size ≤ w'.heap.size)
    (hn : ∀ b, w.heap.size ≤ b → A b) (hc : c.p w' (fun b => w.heap.size ≤ b ∧ b < w'.heap.size)) (h : Sep Γ w A) : Sep (c :: Γ) w' A := by
  refine ⟨_, fun b hb => ⟨hn b hb.1, hb.2⟩, hc, ?_⟩
  have key : ∀ (Γ : List HP) (A A' : Nat → Prop), (∀ b, A b → b < w.heap.size → A' b) → (∀ b, A b → b < w.heap.size → w'.heap[b]? = w.heap[b]?) → Sep Γ w A → Sep Γ w' A' := by
    intro Γ
    induction Γ with
    | nil => intro _ _ _ _ _; trivial
    | cons d r ih =>
      intro A A' hAA hA ⟨F, hF, hd, hr⟩
      exact ⟨F, fun b hb => ⟨hAA b (hF b hb).1 (hF b hb).2, Nat.lt_of_lt_of_le (hF b hb).2 hs⟩, d.st (fun b hb hl => hA b (hF b hb).1 hl) hs hd, ih _ _ (fun b hb hl => ⟨hAA b hb.1 hl, hb.2⟩) (fun b hb hl => hA b hb.1 hl) hr⟩
  exact key Γ A _ (fun b hb hl => ⟨hb, fun hk => absurd hk.1 (by omega)⟩) hA h

/-- A block known to the last cell. -/
def blk (b : Nat) (c : List Value) (t : TypeId) : HP where
  p w F := F b ∧ w.heap[b]? = some (.cells c.toArray t (0, 0))
  st := fun h hs ⟨hb, hw⟩ => ⟨hb, (h b hb (Array.getElem?_eq_some_iff.1 hw).1).trans hw⟩
  up := fun h ⟨hb, hw⟩ => ⟨h b hb, hw⟩
/-- A plain fact on no memory. -/
def pureHP (φ : Prop) : HP where
  p _ _ := φ
  st := fun _ _ h => h
  up := fun _ h => h

structure St (w0 : World) (S : Nat → Prop) (H : List HP) (w : World) : Prop where
  kp : Keeps S w0 w
  sep : Sep H w (fun b => S b ∨ w0.heap.size ≤ b)

theorem St.start {w : World} {S : Nat → Prop} {H : List HP} (h : Sep H w S) : St w S H w := ⟨Keeps.refl _ _, Sep.up (fun _ hb => .inl hb) h⟩
theorem St.nil (w : World) (S : Nat → Prop) : St w S [] w := ⟨Keeps.refl _ _, trivial⟩
/-- A world in which all that lay in w lies unturned. -/
theorem St.quiet {w0 w w' : World} {S : Nat → Prop} {H : List HP} (h : St w0 S H w) (k : Keeps No w w') : St w0 S H w' :=
  ⟨h.kp.trans k (fun _ hb => hb.elim), Sep.keep (fun b _ hl => k.block b hl (fun hb => hb.elim)) k.size h.sep⟩
theorem St.drew {w0 w : World} {S : Nat → Prop} {H : List HP} (h : St w0 S H w) : St w0 S H w.drew := h.quiet (Keeps.drew _ _)
theorem St.sub {w0 w : World} {S : Nat → Prop} {H H' : List HP} (h : St w0 S H w) (hs : List.Sublist H' H) : St w0 S H' w := ⟨h.kp, Sep.sub hs h.sep⟩
theorem St.perm {w0 w : World} {S : Nat → Prop} {H H' : List HP} (h : St w0 S H w) (hp : H.Perm H') : St w0 S H' w := ⟨h.kp, Sep.perm hp h.sep⟩
/-- A call, or an allocation, from w on: all old blocks stand, a new chunk lies in what is new. -/
theorem St.fresh {w0 w w' : World} {S : Nat → Prop} {H : List HP} {c : HP} (h : St w0 S H w) (k : Keeps No w w') (hc : c.p w' (fun b => w.heap.size ≤ b ∧ b < w'.heap.size)) : St w0 S (c :: H) w' :=
  ⟨h.kp.trans k (fun _ hb => hb.elim), Sep.new (fun b _ hl => k.block b hl (fun hb => hb.elim)) k.size (fun b hb => .inr (Nat.le_trans h.kp.size hb)) hc h.sep⟩
/-- A call that turns what lies in F into some chunks. -/
theorem St.turnF {w0 w w' : World} {S F : Nat → Prop} {r new : List HP} (hkp : Keeps S w0 w) (hF : ∀ b, F b → (S b ∨ w0.heap.size ≤ b) ∧ b < w.heap.size) (hr : Sep r w (fun b => (S b ∨ w0.heap.size ≤ b) ∧ ¬ F b))
    (hk : St w F new w') : St w0 S (new ++ r) w' := by
  refine ⟨hkp.trans hk.kp (fun b hb => (hF b hb).1), ?_⟩
  have key : ∀ (new : List HP) (A B : Nat → Prop), (∀ b, A b → B b) → (∀ Γ : List HP, Sep Γ w (fun b => (S b ∨ w0.heap.size ≤ b) ∧ ¬ F b) → Sep Γ w' (fun b => B b ∧ ¬ A b)) →
      Sep new w' A → ∀ Γ, Sep Γ w (fun b => (S b ∨ w0.heap.size ≤ b) ∧ ¬ F b) → Sep (new ++ Γ) w' B := by
    intro new
    induction new with
    | nil => intro A B hAB hG _ Γ hΓ; exact Sep.up (fun b hb => hb.1) (hG Γ hΓ)
    | cons d new ih =>
      intro A B hAB hG ⟨G, hGG, hd, hn⟩ Γ hΓ
      refine ⟨G, fun b hb => ⟨hAB b (hGG b hb).1, (hGG b hb).2⟩, hd, ih (fun b => A b ∧ ¬ G b) _ (fun b hb => ⟨hAB b hb.1, hb.2⟩) (fun Γ hΓ => ?_) hn Γ hΓ⟩
      exact Sep.up (fun b hb => ⟨⟨hb.1, fun hg => hb.2 (hGG b hg).1⟩, fun ha => hb.2 ha.1⟩) (hG Γ hΓ)
  refine key new (fun b => F b ∨ w.heap.size ≤ b) _ (fun b hb => ?_) (fun Γ hΓ => ?_) hk.sep _ hr
  · rcases hb with hb | hb
    · exact (hF b hb).1
    · exact .inr (Nat.le_trans hkp.size hb)
  · have key2 : ∀ (Γ : List HP) (A A' : Nat → Prop), (∀ b, A b → ¬ F b) → (∀ b, A b → b < w.heap.size → A' b) → Sep Γ w A → Sep Γ w' A' := by
      intro Γ
      induction Γ with
      | nil => intro _ _ _ _ _; trivial
      | cons d r ih =>
        intro A A' hnF hAA ⟨G, hG, hd, hr⟩
        exact ⟨G, fun b hb => ⟨hAA b (hG b hb).1 (hG b hb).2, Nat.lt_of_lt_of_le (hG b hb).2 hk.kp.size⟩, d.st (fun b hb hl => hk.kp.block b hl (hnF b (hG b hb).1)) hk.kp.size hd, ih _ _ (fun b hb => hnF b hb.1) (fun b hb hl => ⟨hAA b hb.1 hl, hb.2⟩) hr⟩
    exact key2 Γ _ _ (fun b hb => hb.2) (fun b hb hl => ⟨hb.1, fun hk => hk.elim hb.2 (fun h2 => absurd h2 (by omega))⟩) hΓ
/-- What a chunk says now. -/
theorem St.get {w0 w : World} {S : Nat → Prop} {pre r : List HP} {c : HP} (h : St w0 S (pre ++ c :: r) w) : ∃ F : Nat → Prop, c.p w F ∧ (∀ b, F b → (S b ∨ w0.heap.size ≤ b) ∧ b < w.heap.size) := by
  obtain ⟨F, hF, hc, _⟩ := Sep.pull h.sep
  exact ⟨F, hc, hF⟩
theorem St.blk {w0 w : World} {S : Nat → Prop} {pre r : List HP} {b : Nat} {c : List Value} {t : TypeId} (h : St w0 S (pre ++ blk b c t :: r) w) : w.heap[b]? = some (.cells c.toArray t (0, 0)) := by
  obtain ⟨F, hc, _⟩ := h.get
  exact hc.2
/-- The chunk at its place is exchanged for another over the same world. -/
theorem St.change {w0 w : World} {S : Nat → Prop} {pre r : List HP} {c d : HP} (h : St w0 S (pre ++ c :: r) w) (k : ∀ F, c.p w F → d.p w F) : St w0 S (pre ++ d :: r) w := by
  obtain ⟨F, hF, hc, hr⟩ := Sep.pull h.sep
  exact ⟨h.kp, Sep.push ⟨F, hF, k F hc, hr⟩⟩
theorem St.store {w0 w : World} {S : Nat → Prop} {pre r : List HP} {b : Nat} {c : List Value} {t : TypeId} (h : St w0 S (pre ++ Go.Proofs.YtbcdgcodnkgdoaaGreat.blk b c t :: r) w) (o : Nat) (v : Value) :
    St w0 S (pre ++ Go.Proofs.YtbcdgcodnkgdoaaGreat.blk b (c.set o v) t :: r) (w.setCell ⟨b, o, none⟩ v) := by
  obtain ⟨F, hF, ⟨hb, hc⟩, hr⟩ := Sep.pull h.sep
  refine ⟨h.kp.trans (S2 := fun i => i = b) (Keeps.set w _ v rfl) (fun i hi => hi ▸ (hF b hb).1), Sep.push ⟨F, fun i hi => ⟨(hF i hi).1, by rw [heap_set_size]; exact (hF i hi).2⟩, ⟨hb, ?_⟩, ?_⟩⟩
  · simp [World.setCell, Array.getElem?_modify, hc]
  · exact Sep.keep (fun i hi _ => heap_set_ne w _ v i (fun e => hi.2 (e ▸ hb))) (by rw [heap_set_size]; exact Nat.le_refl _) hr

/-! ### frames -/
def look : List (Nat × Value) → Nat → Option Value
  | [], _ => none
  | (i, v) :: r, j => match Nat.beq i j with
    | true => some v
    | false => look r j
structure Fr (N : Nat) (ds : List Deferred) (a : Act) (G : List (Nat × Value)) : Prop where
  size : a.tmps.size = N
  defers : a.defers = ds
  at_ : ∀ i v, look G i = some v → a.tmps[i]? = some v
def ev (G : List (Nat × Value)) : Operand → Option Value
  | .tmp t => look G t
  | .const v => some v
  | .global g => some (.pointer (some ⟨g, 0, none⟩))
  | .func f => some (.func (.func f) #[] #[])
theorem Fr.eval {N : Nat} {ds : List Deferred} {a : Act} {G : List (Nat × Value)} (h : Fr N ds a G) {x : Operand} {v : Value} (hv : ev G x = some v) : a.eval x = v := by
  cases x with
  | tmp t => simp [Act.eval, Array.getD_eq_getD_getElem?, h.at_ t v hv]
  | const c => simpa [ev, Act.eval] using hv
  | global g => simpa [ev, Act.eval] using hv
  | func f => simpa [ev, Act.eval] using hv
theorem Fr.put {N : Nat} {ds : List Deferred} {a : Act} {G : List (Nat × Value)} (h : Fr N ds a G) {d : Nat} (hd : Nat.blt d N = true) (v : Value) : Fr N ds (a.put (some d) v) ((d, v) :: G) := by
  refine ⟨by simp [Act.put, h.size], h.defers, fun i u hi => ?_⟩
  have hd' : d < N := by simpa [Nat.blt_eq] using hd
  unfold look at hi
  cases hb : Nat.beq d i with
  | true =>
    rw [hb] at hi
    have : d = i := Nat.eq_of_beq_eq_true hb
    subst this
    simp only [Option.some.injEq] at hi
    subst hi
    simp [Act.put, h.size, hd']
  | false =>
    rw [hb] at hi
    have : d ≠ i := Nat.ne_of_beq_eq_false hb
    simp only [Act.put]
    rw [Array.getElem?_setIfInBounds_ne this]
    exact h.at_ i u hi
theorem Fr.skip {N : Nat} {ds : List Deferred} {a : Act} {G : List (Nat × Value)} (h : Fr N ds a G) (v : Value) : Fr N ds (a.put none v) G := h
/-- What is asked of some slots. -/
def Sub : List (Nat × Value) → List (Nat × Value) → Prop
  | [], _ => True
  | (i, v) :: r, G => look G i = some v ∧ Sub r G
theorem Sub.look {G' G : List (Nat × Value)} (h : Sub G' G) : ∀ i v, look G' i = some v → Go.Proofs.YtbcdgcodnkgdoaaGreat.look G i = some v := by
  induction G' with
  | nil => intro i v hi; cases hi
  | cons p r ih =>
    intro i v hi
    obtain ⟨j, u⟩ := p
    obtain ⟨h1, h2⟩ := h
    unfold Go.Proofs.YtbcdgcodnkgdoaaGreat.look at hi
    cases hb : Nat.beq j i with
    | true =>
      rw [hb] at hi
      have : j = i := Nat.eq_of_beq_eq_true hb
      subst this
      simp only [Option.some.injEq] at hi
      subst hi
      exact h1
    | false => rw [hb] at hi; exact ih h2 i v hi
theorem Fr.sub {N : Nat} {ds : List Deferred} {a : Act} {G G' : List (Nat × Value)} (h : Fr N ds a G) (hs : Sub G' G) : Fr N ds a G' := ⟨h.size, h.defers, fun i v hi => h.at_ i v (hs.look i v hi)⟩

/-! ### judgements -/
/-- What is asked at each way out of a piece of code. -/
structure Pst where
  nrm : Act → World → Prop
  ret : Act → World → Prop
  exi : Nat → Act → World → Prop
  gto : Nat → Act → World → Prop
  pan : List PanicEntry → Act → World → Prop
  out : Act → World → Prop
def Pst.fn (Q : Pst) : Exit → Act → World → Prop
  | .normal => Q.nrm
  | .ret => Q.ret
  | .exit i => Q.exi i
  | .goto l => Q.gto l
  | .panic c => Q.pan c
  | .outgrown => Q.out
@[reducible] def Pst.then (K : Act → World → Prop) (Q : Pst) : Pst := ⟨K, Q.ret, Q.exi, Q.gto, Q.pan, Q.out⟩
@[reducible] def Pst.inBlock (id : Nat) (Q : Pst) : Pst := ⟨Q.nrm, Q.ret, fun j => if j = id then Q.nrm else Q.exi j, Q.gto, Q.pan, Q.out⟩
structure Env where
  N : Nat
  ds : List Deferred
  w0 : World
  S : Nat → Prop
/-- From every frame and world of that kind. -/
def PW (E : Env) (K : Act → World → Prop) (G : List (Nat × Value)) (H : List HP) : Prop := ∀ a w, Fr E.N E.ds a G → St E.w0 E.S H w → K a w
def RW (P : Program) (E : Env) (ops : Array Oper) (Q : Pst) (rest : List Oper) (G : List (Nat × Value)) (H : List HP) : Prop := PW E (wpList P ops Q.fn rest) G H
def CW (P : Program) (E : Env) (c : Code) (Q : Pst) (G : List (Nat × Value)) (H : List HP) : Prop := PW E (c.wp P Q.fn) G H

section
variable {P : Program} {E : Env} {ops : Array Oper} {Q : Pst} {K : Act → World → Prop} {rest : List Oper} {G G' : List (Nat × Value)} {H H' : List HP}
theorem PW.keep (hs : Sub G' G) (k : PW E K G' H) : PW E K G H := fun a w hf hw => k a w (hf.sub hs) hw
theorem PW.drop (hs : List.Sublist H' H) (k : PW E K G H') : PW E K G H := fun a w hf hw => k a w hf (hw.sub hs)
theorem PW.perm (hs : H.Perm H') (k : PW E K G H') : PW E K G H := fun a w hf hw => k a w hf (hw.perm hs)
theorem CW.keep (G' : List (Nat × Value)) {c : Code} (hs : Sub G' G) (k : CW P E c Q G' H) : CW P E c Q G H := PW.keep hs k
theorem CW.keepH (H' : List HP) {c : Code} (hs : List.Sublist H' H) (k : CW P E c Q G H') : CW P E c Q G H := PW.drop hs k
theorem RW.keep (G' : List (Nat × Value)) (hs : Sub G' G) (k : RW P E ops Q rest G' H) : RW P E ops Q rest G H := PW.keep hs k

/-! ### code -/
theorem fn_then (K : Act → World → Prop) (Q : Pst) : (Pst.then K Q).fn = Exit.then K Q.fn := by funext e; cases e <;> rfl
theorem fn_inBlock (id : Nat) (Q : Pst) : (Pst.inBlock id Q).fn = Exit.inBlock id Q.fn := by
  funext e a w
  cases e <;> try rfl
  simp only [Pst.fn, Pst.inBlock, Exit.inBlock]
  split <;> rfl
theorem CW.seq {x y : Code} (h : CW P E x (Pst.then (y.wp P Q.fn) Q) G H) : CW P E (.seq x y) Q G H := fun a w hf hw => wp_seq (fn_then _ _ ▸ h a w hf hw)
theorem CW.region {id : Nat} {l : List Oper} (h : RW P E l.toArray Q l G H) : CW P E (.region id l.toArray false) Q G H := fun a w hf hw => wp_region_list (by simpa using h a w hf hw)
theorem RW.nil (h : PW E Q.nrm G H) : RW P E ops Q [] G H := h
/-- Behind a region that is the first of two: the second. -/
theorem RW.next {y : Code} {Q2 : Pst} (h : CW P E y Q2 G H) : RW P E ops (Pst.then (y.wp P Q2.fn) Q2) [] G H := h
theorem CW.skip (h : PW E Q.nrm G H) : CW P E .skip Q G H := fun a w hf hw => wp_skip (h a w hf hw)
theorem CW.skip_next {y : Code} {Q2 : Pst} (h : CW P E y Q2 G H) : CW P E .skip (Pst.then (y.wp P Q2.fn) Q2) G H := fun a w hf hw => wp_skip (h a w hf hw)
theorem CW.block {id : Nat} {c : Code} (h : CW P E c (Pst.inBlock id Q) G H) : CW P E (.block id c) Q G H := fun a w hf hw => wp_block (fn_inBlock _ _ ▸ h a w hf hw)
theorem CW.exit {id : Nat} {K : Act → World → Prop} (hK : Q.exi id = K) (h : PW E K G H) : CW P E (.exit id) Q G H := fun a w hf hw => wp_exit (by subst hK; exact h a w hf hw)
theorem CW.ret {K : Act → World → Prop} (hK : Q.ret = K) (h : PW E K G H) : CW P E .ret Q G H := fun a w hf hw => wp_ret (by subst hK; exact h a w hf hw)
theorem CW.cond {c : Operand} {x y : Code} {b : Bool} (hc : ev G c = some (.bool b)) (ht : b = true → CW P E x Q G H) (hf : b = false → CW P E y Q G H) : CW P E (.cond c x y) Q G H :=
  fun a w hfr hw => wp_cond_split (hfr.eval hc) (fun hb => ht hb a w hfr hw) (fun hb => hf hb a w hfr hw)
/-- The same, a proposition decided. -/
theorem CW.ite {c : Operand} {x y : Code} {p : Prop} [Decidable p] (hc : ev G c = some (.bool (decide p))) (ht : p → CW P E x Q G H) (hf : ¬ p → CW P E y Q G H) : CW P E (.cond c x y) Q G H :=
  CW.cond hc (fun h => ht (of_decide_eq_true h)) (fun h => hf (of_decide_eq_false h))
theorem CW.iteN {c : Operand} {x y : Code} {p : Prop} [Decidable p] (hc : ev G c = some (.bool (!decide p))) (ht : ¬ p → CW P E x Q G H) (hf : p → CW P E y Q G H) : CW P E (.cond c x y) Q G H :=
  CW.cond hc (fun h => ht (by simpa using h)) (fun h => hf (by simpa using h))
theorem CW.ct {c : Operand} {x y : Code} (hc : ev G c = some (.bool true)) (k : CW P E x Q G H) : CW P E (.cond c x y) Q G H := CW.cond hc (fun _ => k) (fun h => by cases h)
theorem CW.cf {c : Operand} {x y : Code} (hc : ev G c = some (.bool false)) (k : CW P E y Q G H) : CW P E (.cond c x y) Q G H := CW.cond hc (fun h => by cases h) (fun _ => k)
/-- The ways through the first of two meet again. -/
theorem CW.cut {ι : Type} (g : ι → List (Nat × Value)) (h : ι → List HP) {x y : Code} (hx : CW P E x (Pst.then (fun a w => ∃ i, Fr E.N E.ds a (g i) ∧ St E.w0 E.S (h i) w) Q) G H)
    (hy : ∀ i, CW P E y Q (g i) (h i)) : CW P E (.seq x y) Q G H := fun a w hf hw => by
  refine wp_seq (wp_mono (hx a w hf hw) (fun e a w hq => ?_))
  cases e with
  | normal => obtain ⟨i, hf, hw⟩ := hq; exact hy i a w hf hw
  | _ => exact hq
/-- A loop: a state i, smaller round by round. -/
theorem CW.loop {ι : Type} (g : ι → List (Nat × Value)) (h : ι → List HP) (m : ι → Nat) (i0 : ι) {c : Code} (h0 : Sub (g i0) G) (hh : ∀ {w}, St E.w0 E.S H w → St E.w0 E.S (h i0) w)
    (round : ∀ i, CW P E c (Pst.then (fun a w => ∃ j, Fr E.N E.ds a (g j) ∧ St E.w0 E.S (h j) w ∧ m j < m i) Q) (g i) (h i)) : CW P E (.loop c) Q G H := fun a w hf hw => by
  refine wp_loop_ghost (fun n a w => ∃ j, m j = n ∧ Fr E.N E.ds a (g j) ∧ St E.w0 E.S (h j) w) (m i0) ⟨i0, rfl, hf.sub h0, hh hw⟩ ?_
  intro n a w ⟨j, hn, hfj, hwj⟩
  refine wp_mono (round j a w hfj hwj) (fun e a' w' hq => ?_)
  cases e with
  | normal => obtain ⟨k, hfk, hwk, hlt⟩ := hq; exact ⟨m k, hn ▸ hlt, k, rfl, hfk, hwk⟩
  | _ => exact hq
end
end Go.Proofs.YtbcdgcodnkgdoaaGreat
