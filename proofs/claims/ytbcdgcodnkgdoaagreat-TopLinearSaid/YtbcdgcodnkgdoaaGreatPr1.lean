/- Parts of the proof: The calculus of this family, first part: frames as association lists, heaps as lists of separated chunks, one rule a form of code. · The calculus, second part: one rule an operation. · The calculus, third part: arithmetic, fields, indexes, calls, guards. · The calculus, fourth part: how values read as data, chunks of data, entering and leaving a function. · From what a row's reader trod to the calculus' reading of data. · The calculus: the plain rules under short names, their side conditions filled in. · lemmas · The calculus, sixth part: slices of one's own: literals, make, append, copy, loads and stores. Conditions: none. -/
import Derived.WalkKit
import Derived.Carry
import Derived.Orders
import Derived.Deep.LoopGhost
import Derived.ChangeKeysEq
import Derived.Deep.Slices
import Derived.ProofKit
import Derived.Test.YtbcdgcodnkgdoaaGreatProg
import Derived.KernelRfl
/- The calculus of this family, first part: frames as association lists, heaps as lists of separated chunks, one rule a form of code. Conditions: none; everything holds over any program. -/
set_option linter.unusedVariables false
set_option linter.unusedSimpArgs false
namespace Go.Proofs.YtbcdgcodnkgdoaaGreat
open Go Go.RowKit
section
/-! ### worlds -/
structure cL (S:Nat→Prop) (w w':World):Prop where
 os:w'.os=w.os
 tape:w'.tape=w.tape
 output:w'.output=w.output
 size:w.heap.size≤w'.heap.size
 block:∀ i,i < w.heap.size→¬ S i→w'.heap[i]?=w.heap[i]?
def No:Nat→Prop:=fun _=>False
def Any:Nat→Prop:=fun _=>True
theorem cL.refl (S:Nat→Prop) (w:World):cL S w w:=⟨rfl,rfl,rfl,Nat.le_refl _,fun _ _ _=>rfl⟩
theorem cL.trans {S S2:Nat→Prop} {w w1 w2:World} (h:cL S w w1) (k:cL S2 w1 w2) (hs:∀ b,S2 b→S b∨w.heap.size≤b):cL S w w2:=
 ⟨k.os.trans h.os,k.tape.trans h.tape,k.output.trans h.output,Nat.le_trans h.size k.size,fun i hi hn=>
  (k.block i (Nat.lt_of_lt_of_le hi h.size) (fun h2=>(hs i h2).elim hn (fun h3=>absurd hi (by omega)))).trans (h.block i hi hn)⟩
theorem cL.below {w w1:World} (h:cL No w w1):Below w.heap.size w w1:=⟨h.os,h.tape,h.output,h.size,fun i hi=>h.block i hi (fun k=>k.elim)⟩
theorem cL.alloc (S:Nat→Prop) (w:World) (o:Obj):cL S w (w.alloc o):=
 ⟨rfl,rfl,rfl,by show _≤(w.heap.push o).size;simp,fun i hi _=>by show (w.heap.push o)[i]?=_;rw [Array.getElem?_push];simp [Nat.ne_of_lt hi]⟩
theorem cL.drew (S:Nat→Prop) (w:World):cL S w w.drew:=⟨rfl,rfl,rfl,Nat.le_refl _,fun _ _ _=>rfl⟩
theorem jg (w:World) (p:Addr) (v:Value) (i:Nat) (h:i≠p.block):(w.setCell p v).heap[i]?=w.heap[i]?:=by
 simp [World.setCell,Array.getElem?_modify,Ne.symm h]
theorem eZ (w:World) (p:Addr) (v:Value):(w.setCell p v).heap.size=w.heap.size:=by simp [World.setCell]
theorem cL.set {S:Nat→Prop} (w:World) (p:Addr) (v:Value) (h:S p.block):cL S w (w.setCell p v):=
 ⟨rfl,rfl,rfl,by rw [eZ];exact Nat.le_refl _,fun i _ hn=>jg w p v i (fun e=>hn (e ▸ h))⟩
/-! ### chunks -/
structure HP where
 p:World→(Nat→Prop)→Prop
 st:∀ {w w':World} {F:Nat→Prop},(∀ b,F b→b < w.heap.size→w'.heap[b]?=w.heap[b]?)→w.heap.size≤w'.heap.size→p w F→p w' F
 up:∀ {w:World} {F F':Nat→Prop},(∀ b,F b→F' b)→p w F→p w F'
def Sep:List HP→World→(Nat→Prop)→Prop
 | [],_,_=>True
 | c::r,w,A=>∃ F:Nat→Prop,(∀ b,F b→A b∧b < w.heap.size)∧c.p w F∧Sep r w (fun b=>A b∧¬ F b)
theorem Sep.up {Γ:List HP}:∀ {w:World} {A A':Nat→Prop},(∀ b,A b→A' b)→Sep Γ w A→Sep Γ w A':=by
 induction Γ with
 | nil=>intro _ _ _ _ _;trivial
 | cons c r ih=>
  intro w A A' hA ⟨F,hF,hc,hr⟩;exact ⟨F,fun b hb=>⟨hA b (hF b hb).1,(hF b hb).2⟩,hc,ih (fun b hb=>⟨hA b hb.1,hb.2⟩) hr⟩
theorem Sep.keep {Γ:List HP}:∀ {w w':World} {A:Nat→Prop},(∀ b,A b→b < w.heap.size→w'.heap[b]?=w.heap[b]?)→w.heap.size≤w'.heap.size→Sep Γ w A→Sep Γ w' A:=by
 induction Γ with
 | nil=>intro _ _ _ _ _ _;trivial
 | cons c r ih=>
  intro w w' A hA hs ⟨F,hF,hc,hr⟩;exact ⟨F,fun b hb=>⟨(hF b hb).1,Nat.lt_of_lt_of_le (hF b hb).2 hs⟩,c.st (fun b hb hl=>hA b (hF b hb).1 hl) hs hc,ih (fun b hb hl=>hA b hb.1 hl) hs hr⟩
theorem Sep.swap {c d:HP} {r:List HP} {w:World} {A:Nat→Prop} (h:Sep (c::d::r) w A):Sep (d::c::r) w A:=by
 obtain ⟨F,hF,hc,G,hG,hd,hr⟩:=h;exact ⟨G,fun b hb=>⟨(hG b hb).1.1,(hG b hb).2⟩,hd,F,fun b hb=>⟨⟨(hF b hb).1,fun hg=>(hG b hg).1.2 hb⟩,(hF b hb).2⟩,hc,Sep.up (fun b hb=>⟨⟨hb.1.1,hb.2⟩,hb.1.2⟩) hr⟩
theorem lF {c:HP} {r:List HP} {w:World} {A:Nat→Prop} (h:Sep (c::r) w A):Sep r w A:=by
 obtain ⟨F,_,_,hr⟩:=h;exact Sep.up (fun b hb=>hb.1) hr
theorem cG {c:HP} {r r':List HP} {w:World} {A:Nat→Prop} (hp:∀ A,Sep r w A→Sep r' w A) (h:Sep (c::r) w A):Sep (c::r') w A:=by
 obtain ⟨F,hF,hc,hr⟩:=h;exact ⟨F,hF,hc,hp _ hr⟩
theorem Sep.perm {Γ Δ:List HP} (hp:Γ.Perm Δ):∀ {w:World} {A:Nat→Prop},Sep Γ w A→Sep Δ w A:=by
 induction hp with
 | nil=>intro _ _ h;exact h
 | cons c _ ih=>intro _ _ h;exact cG (fun _=>ih) h
 | swap c d r=>intro _ _ h;exact Sep.swap h
 | trans _ _ ih1 ih2=>intro _ _ h;exact ih2 (ih1 h)
theorem fh {pre r:List HP} {c:HP} {w:World} {A:Nat→Prop} (h:Sep (pre++c::r) w A):Sep (c::(pre++r)) w A:=Sep.perm List.perm_middle h
theorem Sep.push {pre r:List HP} {c:HP} {w:World} {A:Nat→Prop} (h:Sep (c::(pre++r)) w A):Sep (pre++c::r) w A:=Sep.perm List.perm_middle.symm h
theorem Sep.sub {Γ Δ:List HP} (hs:List.Sublist Δ Γ):∀ {w:World} {A:Nat→Prop},Sep Γ w A→Sep Δ w A:=by
 induction hs with
 | slnil=>intro _ _ h;exact h
 | cons c _ ih=>intro _ _ h;exact ih (lF h)
 | cons_cons c _ ih=>intro _ _ h;exact cG (fun _=>ih) h
theorem Sep.new {c:HP} {Γ:List HP} {w w':World} {A:Nat→Prop} (hA:∀ b,A b→b < w.heap.size→w'.heap[b]?=w.heap[b]?) (hs:w.heap.size≤w'.heap.size)
 (hn:∀ b,w.heap.size≤b→A b) (hc:c.p w' (fun b=>w.heap.size≤b∧b < w'.heap.size)) (h:Sep Γ w A):Sep (c::Γ) w' A:=by
 refine ⟨_,fun b hb=>⟨hn b hb.1,hb.2⟩,hc,?_⟩
 have key:∀ (Γ:List HP) (A A':Nat→Prop),(∀ b,A b→b < w.heap.size→A' b)→(∀ b,A b→b < w.heap.size→w'.heap[b]?=w.heap[b]?)→Sep Γ w A→Sep Γ w' A':=by
  intro Γ;induction Γ with
  | nil=>intro _ _ _ _ _;trivial
  | cons d r ih=>
   intro A A' hAA hA ⟨F,hF,hd,hr⟩;exact ⟨F,fun b hb=>⟨hAA b (hF b hb).1 (hF b hb).2,Nat.lt_of_lt_of_le (hF b hb).2 hs⟩,d.st (fun b hb hl=>hA b (hF b hb).1 hl) hs hd,ih _ _ (fun b hb hl=>⟨hAA b hb.1 hl,hb.2⟩) (fun b hb hl=>hA b hb.1 hl) hr⟩
 exact key Γ A _ (fun b hb hl=>⟨hb,fun hk=>absurd hk.1 (by omega)⟩) hA h
def blk (b:Nat) (c:List Value) (t:TypeId):HP where
 p w F:=F b∧w.heap[b]?=some (.cells c.toArray t (0,0))
 st:=fun h hs ⟨hb,hw⟩=>⟨hb,(h b hb (Array.getElem?_eq_some_iff.1 hw).1).trans hw⟩
 up:=fun h ⟨hb,hw⟩=>⟨h b hb,hw⟩
def s9 (φ:Prop):HP where
 p _ _:=φ
 st:=fun _ _ h=>h
 up:=fun _ h=>h
structure St (w0:World) (S:Nat→Prop) (H:List HP) (w:World):Prop where
 kp:cL S w0 w
 sep:Sep H w (fun b=>S b∨w0.heap.size≤b)
theorem pm {w:World} {S:Nat→Prop} {H:List HP} (h:Sep H w S):St w S H w:=⟨cL.refl _ _,Sep.up (fun _ hb=>.inl hb) h⟩
theorem St.quiet {w0 w w':World} {S:Nat→Prop} {H:List HP} (h:St w0 S H w) (k:cL No w w'):St w0 S H w':=
 ⟨h.kp.trans k (fun _ hb=>hb.elim),Sep.keep (fun b _ hl=>k.block b hl (fun hb=>hb.elim)) k.size h.sep⟩
theorem St.drew {w0 w:World} {S:Nat→Prop} {H:List HP} (h:St w0 S H w):St w0 S H w.drew:=h.quiet (cL.drew _ _)
theorem St.sub {w0 w:World} {S:Nat→Prop} {H H':List HP} (h:St w0 S H w) (hs:List.Sublist H' H):St w0 S H' w:=⟨h.kp,Sep.sub hs h.sep⟩
theorem St.perm {w0 w:World} {S:Nat→Prop} {H H':List HP} (h:St w0 S H w) (hp:H.Perm H'):St w0 S H' w:=⟨h.kp,Sep.perm hp h.sep⟩
theorem St.fresh {w0 w w':World} {S:Nat→Prop} {H:List HP} {c:HP} (h:St w0 S H w) (k:cL No w w') (hc:c.p w' (fun b=>w.heap.size≤b∧b < w'.heap.size)):St w0 S (c::H) w':=
 ⟨h.kp.trans k (fun _ hb=>hb.elim),Sep.new (fun b _ hl=>k.block b hl (fun hb=>hb.elim)) k.size (fun b hb=>.inr (Nat.le_trans h.kp.size hb)) hc h.sep⟩
theorem j7 {w0 w w':World} {S F:Nat→Prop} {r new:List HP} (hkp:cL S w0 w) (hF:∀ b,F b→(S b∨w0.heap.size≤b)∧b < w.heap.size) (hr:Sep r w (fun b=>(S b∨w0.heap.size≤b)∧¬ F b))
 (hk:St w F new w'):St w0 S (new++r) w':=by
 refine ⟨hkp.trans hk.kp (fun b hb=>(hF b hb).1),?_⟩
 have key:∀ (new:List HP) (A B:Nat→Prop),(∀ b,A b→B b)→(∀ Γ:List HP,Sep Γ w (fun b=>(S b∨w0.heap.size≤b)∧¬ F b)→Sep Γ w' (fun b=>B b∧¬ A b))→
  Sep new w' A→∀ Γ,Sep Γ w (fun b=>(S b∨w0.heap.size≤b)∧¬ F b)→Sep (new++Γ) w' B:=by
  intro new;induction new with
  | nil=>intro A B hAB hG _ Γ hΓ;exact Sep.up (fun b hb=>hb.1) (hG Γ hΓ)
  | cons d new ih=>
   intro A B hAB hG ⟨G,hGG,hd,hn⟩ Γ hΓ;refine ⟨G,fun b hb=>⟨hAB b (hGG b hb).1,(hGG b hb).2⟩,hd,ih (fun b=>A b∧¬ G b) _ (fun b hb=>⟨hAB b hb.1,hb.2⟩) (fun Γ hΓ=>?_) hn Γ hΓ⟩;exact Sep.up (fun b hb=>⟨⟨hb.1,fun hg=>hb.2 (hGG b hg).1⟩,fun ha=>hb.2 ha.1⟩) (hG Γ hΓ)
 refine key new (fun b=>F b∨w.heap.size≤b) _ (fun b hb=>?_) (fun Γ hΓ=>?_) hk.sep _ hr
 ·rcases hb with hb | hb
  ·exact (hF b hb).1
  ·exact .inr (Nat.le_trans hkp.size hb)
 ·have key2:∀ (Γ:List HP) (A A':Nat→Prop),(∀ b,A b→¬ F b)→(∀ b,A b→b < w.heap.size→A' b)→Sep Γ w A→Sep Γ w' A':=by
   intro Γ;induction Γ with
   | nil=>intro _ _ _ _ _;trivial
   | cons d r ih=>
    intro A A' hnF hAA ⟨G,hG,hd,hr⟩;exact ⟨G,fun b hb=>⟨hAA b (hG b hb).1 (hG b hb).2,Nat.lt_of_lt_of_le (hG b hb).2 hk.kp.size⟩,d.st (fun b hb hl=>hk.kp.block b hl (hnF b (hG b hb).1)) hk.kp.size hd,ih _ _ (fun b hb=>hnF b hb.1) (fun b hb hl=>⟨hAA b hb.1 hl,hb.2⟩) hr⟩
  exact key2 Γ _ _ (fun b hb=>hb.2) (fun b hb hl=>⟨hb.1,fun hk=>hk.elim hb.2 (fun h2=>absurd h2 (by omega))⟩) hΓ
theorem St.get {w0 w:World} {S:Nat→Prop} {pre r:List HP} {c:HP} (h:St w0 S (pre++c::r) w):∃ F:Nat→Prop,c.p w F∧(∀ b,F b→(S b∨w0.heap.size≤b)∧b < w.heap.size):=by
 obtain ⟨F,hF,hc,_⟩:=fh h.sep;exact ⟨F,hc,hF⟩
theorem St.blk {w0 w:World} {S:Nat→Prop} {pre r:List HP} {b:Nat} {c:List Value} {t:TypeId} (h:St w0 S (pre++blk b c t::r) w):w.heap[b]?=some (.cells c.toArray t (0,0)):=by
 obtain ⟨F,hc,_⟩:=h.get;exact hc.2
theorem St.change {w0 w:World} {S:Nat→Prop} {pre r:List HP} {c d:HP} (h:St w0 S (pre++c::r) w) (k:∀ F,c.p w F→d.p w F):St w0 S (pre++d::r) w:=by
 obtain ⟨F,hF,hc,hr⟩:=fh h.sep;exact ⟨h.kp,Sep.push ⟨F,hF,k F hc,hr⟩⟩
theorem St.store {w0 w:World} {S:Nat→Prop} {pre r:List HP} {b:Nat} {c:List Value} {t:TypeId} (h:St w0 S (pre++Go.Proofs.YtbcdgcodnkgdoaaGreat.blk b c t::r) w) (o:Nat) (v:Value):
 St w0 S (pre++Go.Proofs.YtbcdgcodnkgdoaaGreat.blk b (c.set o v) t::r) (w.setCell ⟨b,o,none⟩ v):=by
 obtain ⟨F,hF,⟨hb,hc⟩,hr⟩:=fh h.sep;refine ⟨h.kp.trans (S2:=fun i=>i=b) (cL.set w _ v rfl) (fun i hi=>hi ▸ (hF b hb).1),Sep.push ⟨F,fun i hi=>⟨(hF i hi).1,by rw [eZ];exact (hF i hi).2⟩,⟨hb,?_⟩,?_⟩⟩
 ·simp [World.setCell,Array.getElem?_modify,hc]
 ·exact Sep.keep (fun i hi _=>jg w _ v i (fun e=>hi.2 (e ▸ hb))) (by rw [eZ];exact Nat.le_refl _) hr
/-! ### frames -/
def look:List (Nat × Value)→Nat→Option Value
 | [],_=>none
 | (i,v)::r,j=>match Nat.beq i j with
  | true=>some v
  | false=>look r j
structure Fr (N:Nat) (ds:List Deferred) (a:Act) (G:List (Nat × Value)):Prop where
 size:a.tmps.size=N
 defers:a.defers=ds
 at_:∀ i v,look G i=some v→a.tmps[i]?=some v
def ev (G:List (Nat × Value)):Operand→Option Value
 | .tmp t=>look G t
 | .const v=>some v
 | .global g=>some (.pointer (some ⟨g,0,none⟩))
 | .func f=>some (.func (.func f) #[] #[])
theorem Fr.eval {N:Nat} {ds:List Deferred} {a:Act} {G:List (Nat × Value)} (h:Fr N ds a G) {x:Operand} {v:Value} (hv:ev G x=some v):a.eval x=v:=by
 cases x with
 | tmp t=>simp [Act.eval,Array.getD_eq_getD_getElem?,h.at_ t v hv]
 | const c=>simpa [ev,Act.eval] using hv
 | global g=>simpa [ev,Act.eval] using hv
 | func f=>simpa [ev,Act.eval] using hv
theorem Fr.put {N:Nat} {ds:List Deferred} {a:Act} {G:List (Nat × Value)} (h:Fr N ds a G) {d:Nat} (hd:Nat.blt d N=true) (v:Value):Fr N ds (a.put (some d) v) ((d,v)::G):=by
 refine ⟨by simp [Act.put,h.size],h.defers,fun i u hi=>?_⟩;have hd':d < N:=by simpa [Nat.blt_eq] using hd
 unfold look at hi;cases hb:Nat.beq d i with
 | true=>
  rw [hb] at hi;have:d=i:=Nat.eq_of_beq_eq_true hb;subst this;simp only [Option.some.injEq] at hi;subst hi;simp [Act.put,h.size,hd']
 | false=>
  rw [hb] at hi;have:d≠i:=Nat.ne_of_beq_eq_false hb;simp only [Act.put];rw [Array.getElem?_setIfInBounds_ne this];exact h.at_ i u hi
theorem Fr.skip {N:Nat} {ds:List Deferred} {a:Act} {G:List (Nat × Value)} (h:Fr N ds a G) (v:Value):Fr N ds (a.put none v) G:=h
def Sub:List (Nat × Value)→List (Nat × Value)→Prop
 | [],_=>True
 | (i,v)::r,G=>look G i=some v∧Sub r G
theorem Sub.look {G' G:List (Nat × Value)} (h:Sub G' G):∀ i v,look G' i=some v→Go.Proofs.YtbcdgcodnkgdoaaGreat.look G i=some v:=by
 induction G' with
 | nil=>intro i v hi;cases hi
 | cons p r ih=>
  intro i v hi;obtain ⟨j,u⟩:=p;obtain ⟨h1,h2⟩:=h;unfold Go.Proofs.YtbcdgcodnkgdoaaGreat.look at hi;cases hb:Nat.beq j i with
  | true=>
   rw [hb] at hi;have:j=i:=Nat.eq_of_beq_eq_true hb;subst this;simp only [Option.some.injEq] at hi;subst hi;exact h1
  | false=>rw [hb] at hi;exact ih h2 i v hi
theorem Fr.sub {N:Nat} {ds:List Deferred} {a:Act} {G G':List (Nat × Value)} (h:Fr N ds a G) (hs:Sub G' G):Fr N ds a G':=⟨h.size,h.defers,fun i v hi=>h.at_ i v (hs.look i v hi)⟩
/-! ### judgements -/
structure Pst where
 nrm:Act→World→Prop
 ret:Act→World→Prop
 exi:Nat→Act→World→Prop
 gto:Nat→Act→World→Prop
 pan:List PanicEntry→Act→World→Prop
 out:Act→World→Prop
def Pst.fn (Q:Pst):Exit→Act→World→Prop
 | .normal=>Q.nrm
 | .ret=>Q.ret
 | .exit i=>Q.exi i
 | .goto l=>Q.gto l
 | .panic c=>Q.pan c
 | .outgrown=>Q.out
@[reducible] def Pst.then (K:Act→World→Prop) (Q:Pst):Pst:=⟨K,Q.ret,Q.exi,Q.gto,Q.pan,Q.out⟩
@[reducible] def Pst.inBlock (id:Nat) (Q:Pst):Pst:=⟨Q.nrm,Q.ret,fun j=>if j=id then Q.nrm else Q.exi j,Q.gto,Q.pan,Q.out⟩
structure Env where
 N:Nat
 ds:List Deferred
 w0:World
 S:Nat→Prop
def PW (E:Env) (K:Act→World→Prop) (G:List (Nat × Value)) (H:List HP):Prop:=∀ a w,Fr E.N E.ds a G→St E.w0 E.S H w→K a w
def RW (P:Program) (E:Env) (ops:Array Oper) (Q:Pst) (rest:List Oper) (G:List (Nat × Value)) (H:List HP):Prop:=PW E (wpList P ops Q.fn rest) G H
def CW (P:Program) (E:Env) (c:Code) (Q:Pst) (G:List (Nat × Value)) (H:List HP):Prop:=PW E (c.wp P Q.fn) G H
section
variable {P:Program} {E:Env} {ops:Array Oper} {Q:Pst} {K:Act→World→Prop} {rest:List Oper} {G G':List (Nat × Value)} {H H':List HP}
theorem DE (hs:Sub G' G) (k:PW E K G' H):PW E K G H:=fun a w hf hw=>k a w (hf.sub hs) hw
theorem dt (G':List (Nat × Value)) {c:Code} (hs:Sub G' G) (k:CW P E c Q G' H):CW P E c Q G H:=DE hs k
/-! ### code -/
theorem si (K:Act→World→Prop) (Q:Pst):(Pst.then K Q).fn=Exit.then K Q.fn:=by funext e;cases e <;> rfl
theorem oq (id:Nat) (Q:Pst):(Pst.inBlock id Q).fn=Exit.inBlock id Q.fn:=by
 funext e a w
 cases e <;> try rfl
 simp only [Pst.fn,Pst.inBlock,Exit.inBlock];split <;> rfl
theorem ar {x y:Code} (h:CW P E x (Pst.then (y.wp P Q.fn) Q) G H):CW P E (.seq x y) Q G H:=fun a w hf hw=>wp_seq (si _ _ ▸ h a w hf hw)
theorem aj {id:Nat} {l:List Oper} (h:RW P E l.toArray Q l G H):CW P E (.region id l.toArray false) Q G H:=fun a w hf hw=>wp_region_list (by simpa using h a w hf hw)
theorem aq (h:PW E Q.nrm G H):RW P E ops Q [] G H:=h
theorem Dy {y:Code} {Q2:Pst} (h:CW P E y Q2 G H):RW P E ops (Pst.then (y.wp P Q2.fn) Q2) [] G H:=h
theorem al (h:PW E Q.nrm G H):CW P E .skip Q G H:=fun a w hf hw=>wp_skip (h a w hf hw)
theorem rr {y:Code} {Q2:Pst} (h:CW P E y Q2 G H):CW P E .skip (Pst.then (y.wp P Q2.fn) Q2) G H:=fun a w hf hw=>wp_skip (h a w hf hw)
theorem ak {id:Nat} {c:Code} (h:CW P E c (Pst.inBlock id Q) G H):CW P E (.block id c) Q G H:=fun a w hf hw=>wp_block (oq _ _ ▸ h a w hf hw)
theorem aG {id:Nat} {K:Act→World→Prop} (hK:Q.exi id=K) (h:PW E K G H):CW P E (.exit id) Q G H:=fun a w hf hw=>wp_exit (by subst hK;exact h a w hf hw)
theorem y7 {K:Act→World→Prop} (hK:Q.ret=K) (h:PW E K G H):CW P E .ret Q G H:=fun a w hf hw=>wp_ret (by subst hK;exact h a w hf hw)
theorem ce {c:Operand} {x y:Code} {b:Bool} (hc:ev G c=some (.bool b)) (ht:b=true→CW P E x Q G H) (hf:b=false→CW P E y Q G H):CW P E (.cond c x y) Q G H:=
 fun a w hfr hw=>wp_cond_split (hfr.eval hc) (fun hb=>ht hb a w hfr hw) (fun hb=>hf hb a w hfr hw)
theorem ay {c:Operand} {x y:Code} {p:Prop} [Decidable p] (hc:ev G c=some (.bool (decide p))) (ht:p→CW P E x Q G H) (hf:¬ p→CW P E y Q G H):CW P E (.cond c x y) Q G H:=
 ce hc (fun h=>ht (of_decide_eq_true h)) (fun h=>hf (of_decide_eq_false h))
theorem DK {c:Operand} {x y:Code} {p:Prop} [Decidable p] (hc:ev G c=some (.bool (!decide p))) (ht:¬ p→CW P E x Q G H) (hf:p→CW P E y Q G H):CW P E (.cond c x y) Q G H:=
 ce hc (fun h=>ht (by simpa using h)) (fun h=>hf (by simpa using h))
theorem cn {c:Operand} {x y:Code} (hc:ev G c=some (.bool true)) (k:CW P E x Q G H):CW P E (.cond c x y) Q G H:=ce hc (fun _=>k) (fun h=>by cases h)
theorem ch {c:Operand} {x y:Code} (hc:ev G c=some (.bool false)) (k:CW P E y Q G H):CW P E (.cond c x y) Q G H:=ce hc (fun h=>by cases h) (fun _=>k)
theorem bf {ι:Type} (g:ι→List (Nat × Value)) (h:ι→List HP) {x y:Code} (hx:CW P E x (Pst.then (fun a w=>∃ i,Fr E.N E.ds a (g i)∧St E.w0 E.S (h i) w) Q) G H)
 (hy:∀ i,CW P E y Q (g i) (h i)):CW P E (.seq x y) Q G H:=fun a w hf hw=>by
 refine wp_seq (wp_mono (hx a w hf hw) (fun e a w hq=>?_));cases e with
 | normal=>obtain ⟨i,hf,hw⟩:=hq;exact hy i a w hf hw
 | _=>exact hq
theorem aI {ι:Type} (g:ι→List (Nat × Value)) (h:ι→List HP) (m:ι→Nat) (i0:ι) {c:Code} (h0:Sub (g i0) G) (hh:∀ {w},St E.w0 E.S H w→St E.w0 E.S (h i0) w)
 (round:∀ i,CW P E c (Pst.then (fun a w=>∃ j,Fr E.N E.ds a (g j)∧St E.w0 E.S (h j) w∧m j < m i) Q) (g i) (h i)):CW P E (.loop c) Q G H:=fun a w hf hw=>by
 refine wp_loop_ghost (fun n a w=>∃ j,m j=n∧Fr E.N E.ds a (g j)∧St E.w0 E.S (h j) w) (m i0) ⟨i0,rfl,hf.sub h0,hh hw⟩ ?_;intro n a w ⟨j,hn,hfj,hwj⟩;refine wp_mono (round j a w hfj hwj) (fun e a' w' hq=>?_);cases e with
 | normal=>obtain ⟨k,hfk,hwk,hlt⟩:=hq;exact ⟨m k,hn ▸ hlt,k,rfl,hfk,hwk⟩
 | _=>exact hq
end
end
section
/-! ### types -/
class Ty (P:Program) (t:TypeId) (d:outParam TypeDesc) (z:outParam Value) (sz by_:outParam Nat):Prop where
 und:P.underlying t=some d
 inf:(P.info? t).map (fun i=>(i.zero,i.size,i.bytes))=some (some z,sz,by_)
def bH:TypeDesc→Bool
 | .struct _ | .array _ _=>true
 | _=>false
section
variable {P:Program} {t:TypeId} {d:TypeDesc} {z:Value} {sz by_:Nat}
theorem Ty.info (T:Ty P t d z sz by_):∃ i,P.info? t=some i∧i.zero=some z∧i.size=sz∧i.bytes=by_:=by
 have h:=T.inf;cases hi:P.info? t with
 | none=>rw [hi] at h;cases h
 | some i=>
  rw [hi] at h;simp only [Option.map_some,Option.some.injEq,Prod.mk.injEq] at h;exact ⟨i,rfl,h.1,h.2.1,h.2.2⟩
theorem Ty.runUnd (T:Ty P t d z sz by_) (w:World):(underlying t).run P w=.ok d w:=by
 simp [underlying,T.und]
theorem Ty.runSize (T:Ty P t d z sz by_) (w:World):(sizeOf t).run P w=.ok sz w:=by
 obtain ⟨i,hi,_,hs,_⟩:=T.info;simp [sizeOf,typeInfo,hi,hs]
theorem Ty.runZero (T:Ty P t d z sz by_) (w:World):(zeroValue t).run P w=.ok z w:=by
 obtain ⟨i,hi,hz,_⟩:=T.info;simp [zeroValue,typeInfo,hi,hz]
theorem Ty.runAgg (T:Ty P t d z sz by_) (w:World):(isAgg t).run P w=.ok (bH d) w:=by
 cases d <;> simp [isAgg,T.runUnd,bH]
end
def bj (w:World) (b o:Nat) (cs:List Value):Prop:=∀ i v,cs[i]?=some v→w.cell? ⟨b,o + i,none⟩=some v
theorem bj.drop {w:World} {b o:Nat} {cs:List Value} (h:bj w b o cs) (k:Nat):bj w b (o + k) (cs.drop k):=fun i v hv=>by
 rw [List.getElem?_drop] at hv;have:=h _ _ hv
 rwa [← Nat.add_assoc] at this
theorem bj.take {w:World} {b o:Nat} {cs:List Value} (h:bj w b o cs) (k:Nat):bj w b o (cs.take k):=fun i v hv=>by
 rw [List.getElem?_take] at hv;split at hv
 ·exact h _ _ hv
 ·cases hv
theorem ja (b o n:Nat):(⟨b,o,none⟩:Addr).add n=⟨b,o + n,none⟩:=by
 unfold Addr.add;split
 ·rename_i h;simp [h]
 ·rfl
theorem kB {P:Program} {w:World} {b o:Nat}:∀ (cs:List Value) (i:Nat) (acc:Array Value),(∀ j v,cs[j]?=some v→w.cell? ⟨b,o + (i + j),none⟩=some v)→
 (loadCellsFrom ⟨b,o,none⟩ i cs.length acc).run P w=.ok (acc++cs.toArray) w:=by
 intro cs;induction cs with
 | nil=>intro i acc _;simp [loadCellsFrom]
 | cons c cs ih=>
  intro i acc h;have h0:=h 0 c (by simp);simp only [Nat.add_zero] at h0;rw [List.length_cons];unfold loadCellsFrom;rw [ja];simp only [Sem.run_bind,run_load,h0,Result.andThen];rw [ih (i + 1) (acc.push c) (fun j v hj=>by have:=h (j + 1) v (by simpa using hj);rwa [show o + (i + (j + 1))=o + (i + 1 + j) from by omega] at this)];simp
theorem ju {P:Program} {w:World} {b o:Nat} {cs:List Value} (h:bj w b o cs):(loadCells ⟨b,o,none⟩ cs.length).run P w=.ok cs.toArray w:=by
 unfold loadCells;rw [kB cs 0 #[] (fun j v hj=>by simpa using h j v hj)];simp
theorem lX {P:Program} {t:TypeId} {d:TypeDesc} {z:Value} {sz by_:Nat} [T:Ty P t d z sz by_] (hd:bH d=false) {w:World} {a:Addr} {v:Value} (h:w.cell? a=some v):
 (loadVar t a).run P w=.ok v w:=by
 simp [loadVar,T.runAgg,hd,h]
theorem ip {P:Program} {t:TypeId} {d:TypeDesc} {z:Value} {sz by_:Nat} [T:Ty P t d z sz by_] (hd:bH d=true) {w:World} {b o:Nat} {cs:List Value} (hs:cs.length=sz) (h:bj w b o cs):
 (loadVar t ⟨b,o,none⟩).run P w=.ok (.agg cs.toArray) w:=by
 subst hs;simp only [loadVar,Sem.run_bind,T.runAgg,hd,Result.andThen,if_true,T.runSize,ju h]
 rfl
theorem a9 {w:World} {b:Nat} {c:List Value} {t:TypeId} (h:w.heap[b]?=some (.cells c.toArray t (0,0))):bj w b 0 c:=fun i v hv=>by
 simp [World.cell?,h,hv]
theorem gZ {w:World} {b:Nat} {c:List Value} {t:TypeId} (h:w.heap[b]?=some (.cells c.toArray t (0,0))) {o:Nat} {v:Value} (hv:c[o]?=some v):w.cell? ⟨b,o,none⟩=some v:=by
 simp [World.cell?,h,hv]
theorem dy {w:World} {b:Nat} {c:List Value} {t:TypeId} (h:w.heap[b]?=some (.cells c.toArray t (0,0))) (o:Nat):w.frozen? ⟨b,o,none⟩=false:=by
 simp [World.frozen?,h]
/-! ### steps -/
section
variable {P:Program} {E:Env} {ops:Array Oper} {Q:Pst} {rest:List Oper} {G:List (Nat × Value)} {H:List HP}
theorem eW {op:Oper} (hg:op.guard=none) (h:∀ a w,Fr E.N E.ds a G→St E.w0 E.S H w→op.upon P a (wpList P ops Q.fn rest) Q.fn ((execOp a.eval op).run P w)):RW P E ops Q (op::rest) G H:=by
 intro a w hf hw;refine wpList_plain hg (fun K hK=>?_);exact Go.Oper.wp_mono hK (h a w hf hw)
theorem b8 {dst:Nat} {op:Op} {ty:TypeId} {pos:String} {af:Array Edge} {v:Value} (hN:Nat.blt dst E.N=true)
 (hr:∀ a w,Fr E.N E.ds a G→St E.w0 E.S H w→(execOp a.eval ⟨some dst,op,ty,pos,af,none⟩).run P w=.ok (.value v) w)
 (k:RW P E ops Q rest ((dst,v)::G) H):RW P E ops Q (⟨some dst,op,ty,pos,af,none⟩::rest) G H:=
 eW rfl (fun a w hf hw=>by rw [hr a w hf hw];exact k _ _ (hf.put hN v) hw)
theorem j9 {dst:Nat} {op:Op} {ty:TypeId} {pos:String} {af:Array Edge} {V:Nat→Value} {c:List Value} {t:TypeId} (hN:Nat.blt dst E.N=true)
 (hr:∀ a w,Fr E.N E.ds a G→St E.w0 E.S H w→(execOp a.eval ⟨some dst,op,ty,pos,af,none⟩).run P w=.ok (.value (V w.heap.size)) (w.alloc (.cells c.toArray t)))
 (k:∀ b,E.w0.heap.size≤b→RW P E ops Q rest ((dst,V b)::G) (blk b c t::H)):RW P E ops Q (⟨some dst,op,ty,pos,af,none⟩::rest) G H:=
 eW rfl (fun a w hf hw=>by
  rw [hr a w hf hw];refine k w.heap.size hw.kp.size _ _ (hf.put hN _) (hw.fresh (cL.alloc _ _ _) ⟨⟨Nat.le_refl _,?_⟩,?_⟩)
  ·show _ < (w.heap.push _).size;simp
  ·show (w.heap.push _)[_]?=_;simp)
section
variable {dst:Nat} {ty:TypeId} {pos:String} {af:Array Edge} {t tx ty':TypeId} {d:TypeDesc} {z:Value} {sz by_:Nat} {x y:Operand} {u v:Value} {a b:Int} {k kk:IntKind} {p q:Bool} {s1 s2:ByteArray}
theorem Dz (hx:ev G x=some v) (hN:Nat.blt dst E.N=true) (k:RW P E ops Q rest ((dst,v)::G) H):RW P E ops Q (⟨some dst,.move x,ty,pos,af,none⟩::rest) G H:=
 b8 hN (fun a w hf _=>by simp [execOp,hf.eval hx]) k
theorem rk (hx:ev G x=some v) (hN:Nat.blt dst E.N=true) (k:RW P E ops Q rest ((dst,v)::G) H):RW P E ops Q (⟨some dst,.assign x,ty,pos,af,none⟩::rest) G H:=
 b8 hN (fun a w hf _=>by simp [execOp,hf.eval hx]) k
theorem yN {c:Operand} (hc:ev G c=some (.bool true)) (hx:ev G x=some v) (hN:Nat.blt dst E.N=true) (k:RW P E ops Q rest ((dst,v)::G) H):RW P E ops Q (⟨some dst,.pick c x y,ty,pos,af,none⟩::rest) G H:=
 b8 hN (fun a w hf _=>by simp [execOp,hf.eval hc,hf.eval hx,asBool]) k
theorem yO {c:Operand} (hc:ev G c=some (.bool false)) (hy:ev G y=some v) (hN:Nat.blt dst E.N=true) (k:RW P E ops Q rest ((dst,v)::G) H):RW P E ops Q (⟨some dst,.pick c x y,ty,pos,af,none⟩::rest) G H:=
 b8 hN (fun a w hf _=>by simp [execOp,hf.eval hc,hf.eval hy,asBool]) k
theorem cH [T:Ty P t d z sz by_] {c:List Value} (hc:z.cells=c.toArray) (hN:Nat.blt dst E.N=true) (k:∀ b,E.w0.heap.size≤b→RW P E ops Q rest ((dst,.pointer (some ⟨b,0,none⟩))::G) (blk b c t::H)):
 RW P E ops Q (⟨some dst,.alloc t,ty,pos,af,none⟩::rest) G H:=
 j9 (V:=fun b=>.pointer (some ⟨b,0,none⟩)) hN (fun a w _ _=>by simp [execOp,Instr.alloc,T.runZero,newVar,newRow,hc]) k
theorem aS {l:List Value} (hx:ev G x=some (.agg l.toArray)) (hN:Nat.blt dst E.N=true) (k:∀ b,E.w0.heap.size≤b→RW P E ops Q rest ((dst,.pointer (some ⟨b,0,none⟩))::G) (blk b l t::H)):
 RW P E ops Q (⟨some dst,.box t x,ty,pos,af,none⟩::rest) G H:=
 j9 (V:=fun b=>.pointer (some ⟨b,0,none⟩)) hN (fun a w hf _=>by simp [execOp,Instr.box,newVar,newRow,hf.eval hx,Value.cells]) k
theorem vD (hx:ev G x=some v) (hv:v.cells=#[v]) (hN:Nat.blt dst E.N=true) (k:∀ b,E.w0.heap.size≤b→RW P E ops Q rest ((dst,.pointer (some ⟨b,0,none⟩))::G) (blk b [v] t::H)):
 RW P E ops Q (⟨some dst,.box t x,ty,pos,af,none⟩::rest) G H:=
 j9 (V:=fun b=>.pointer (some ⟨b,0,none⟩)) hN (fun a w hf _=>by simp [execOp,Instr.box,newVar,newRow,hf.eval hx,hv]) k
theorem iH [T:Ty P t d z sz by_] {A:Addr} (hx:ev G x=some (.pointer (some A))) (hd:bH d=false) (hN:Nat.blt dst E.N=true) (hc:∀ w,St E.w0 E.S H w→w.cell? A=some v)
 (k:RW P E ops Q rest ((dst,v)::G) H):RW P E ops Q (⟨some dst,.load t x,ty,pos,af,none⟩::rest) G H:=
 b8 hN (fun a w hf hw=>by simp [execOp,Instr.loadAt,Instr.sureAddr,hf.eval hx,lX hd (hc w hw)]) k
theorem fj [T:Ty P t d z sz by_] {B O:Nat} {cs:List Value} (hx:ev G x=some (.pointer (some ⟨B,O,none⟩))) (hd:bH d=true) (hs:cs.length=sz) (hN:Nat.blt dst E.N=true) (hc:∀ w,St E.w0 E.S H w→bj w B O cs)
 (k:RW P E ops Q rest ((dst,.agg cs.toArray)::G) H):RW P E ops Q (⟨some dst,.load t x,ty,pos,af,none⟩::rest) G H:=
 b8 hN (fun a w hf hw=>by simp [execOp,Instr.loadAt,Instr.sureAddr,hf.eval hx,ip hd hs (hc w hw)]) k
theorem sO [T:Ty P t d z sz by_] {B O:Nat} (hx:ev G x=some (.pointer (some ⟨B,O,none⟩))) (hc:E.w0.cell? ⟨B,O,none⟩=some v) (hS:¬ E.S B) (hd:bH d=false) (hN:Nat.blt dst E.N=true)
 (k:RW P E ops Q rest ((dst,v)::G) H):RW P E ops Q (⟨some dst,.load t x,ty,pos,af,none⟩::rest) G H:=
 iH hx hd hN (fun w hw=>by
  have hl:=World.block_lt_of_cell? E.w0 _ hc;have:=hw.kp.block B hl hS
  simpa [World.cell?,this] using hc) k
theorem bj.keeps {w w':World} {S:Nat→Prop} {B O:Nat} {cs:List Value} (h:bj w B O cs) (k:cL S w w') (hS:¬ S B):bj w' B O cs:=fun i v hv=>by
 have hc:=h i v hv;have hl:=World.block_lt_of_cell? w _ hc;have:=k.block B hl hS
 simpa [World.cell?,this] using hc
theorem vo {w w':World} {S:Nat→Prop} {B O:Nat} {v:Value} (h:w.cell? ⟨B,O,none⟩=some v) (k:cL S w w') (hS:¬ S B):w'.cell? ⟨B,O,none⟩=some v:=by
 have hl:=World.block_lt_of_cell? w _ h;have:=k.block B hl hS
 simpa [World.cell?,this] using h
theorem rf [T:Ty P t d z sz by_] {B O:Nat} {cs:List Value} (hx:ev G x=some (.pointer (some ⟨B,O,none⟩))) (hc:bj E.w0 B O cs) (hS:¬ E.S B) (hd:bH d=true) (hs:cs.length=sz) (hN:Nat.blt dst E.N=true)
 (k:RW P E ops Q rest ((dst,.agg cs.toArray)::G) H):RW P E ops Q (⟨some dst,.load t x,ty,pos,af,none⟩::rest) G H:=
 fj hx hd hs hN (fun w hw=>hc.keeps hw.kp hS) k
theorem dG [T:Ty P t d z sz by_] (pre:List HP) {r:List HP} {B O:Nat} {c:List Value} {te:TypeId} (hx:ev G x=some (.pointer (some ⟨B,O,none⟩))) (hv:c[O]?=some v) (hd:bH d=false) (hN:Nat.blt dst E.N=true)
 (k:RW P E ops Q rest ((dst,v)::G) (pre++blk B c te::r)):RW P E ops Q (⟨some dst,.load t x,ty,pos,af,none⟩::rest) G (pre++blk B c te::r):=
 iH hx hd hN (fun w hw=>gZ hw.blk hv) k
theorem hZ [T:Ty P t d z sz by_] (pre:List HP) {r:List HP} {B:Nat} {c:List Value} {te:TypeId} (hx:ev G x=some (.pointer (some ⟨B,0,none⟩))) (hs:c.length=sz) (hd:bH d=true) (hN:Nat.blt dst E.N=true)
 (k:RW P E ops Q rest ((dst,.agg c.toArray)::G) (pre++blk B c te::r)):RW P E ops Q (⟨some dst,.load t x,ty,pos,af,none⟩::rest) G (pre++blk B c te::r):=
 fj hx hd hs hN (fun w hw=>a9 hw.blk) k
theorem pp [T:Ty P t d z 2 by_] (pre:List HP) {r:List HP} {B O:Nat} {c tl:List Value} {v0 v1:Value} {te:TypeId} (hx:ev G x=some (.pointer (some ⟨B,O,none⟩))) (hv:c.drop O=v0::v1::tl) (hd:bH d=true) (hN:Nat.blt dst E.N=true)
 (k:RW P E ops Q rest ((dst,.agg #[v0,v1])::G) (pre++blk B c te::r)):RW P E ops Q (⟨some dst,.load t x,ty,pos,af,none⟩::rest) G (pre++blk B c te::r):=
 fj (cs:=[v0,v1]) hx hd rfl hN (fun w hw=>by
  have h:=((a9 hw.blk).drop O).take 2;rw [hv] at h
  simpa using h) k
theorem jt {P:Program}:∀ (vs:List Value) (i:Nat) (w:World) (c:List Value) (B O:Nat) (te:TypeId),w.heap[B]?=some (.cells c.toArray te (0,0))→(∀ v∈vs,v.oneCell'=true)→O + i + vs.length≤c.length→
 ∃ w',(storeCells ⟨B,O,none⟩ vs i).run P w=.ok () w'∧∀ {w0:World} {S:Nat→Prop} {pre r:List HP},St w0 S (pre++blk B c te::r) w→St w0 S (pre++blk B (c.take (O + i)++vs++c.drop (O + i + vs.length)) te::r) w':=by
 intro vs;induction vs with
 | nil=>intro i w c B O te _ _ _;exact ⟨w,by simp [storeCells],fun h=>by simpa using h⟩
 | cons v vs ih=>
  intro i w c B O te hb hv hl;have hlt:O + i < c.length:=by simp at hl;omega
  have hcell:w.cell? ⟨B,O + i,none⟩=some c[O + i]:=gZ hb (by simp [hlt])
  have hst:(store ⟨B,O + i,none⟩ v).run P w=.ok () (w.setCell ⟨B,O + i,none⟩ v):=by
   rw [run_store _ _ _ _ _ (hv v (by simp))];simp [stored,hcell,dy hb]
  have hb':(w.setCell ⟨B,O + i,none⟩ v).heap[B]?=some (.cells (c.set (O + i) v).toArray te (0,0)):=by
   simp [World.setCell,Array.getElem?_modify,hb]
  obtain ⟨w',hw',hk⟩:=ih (i + 1) (w.setCell ⟨B,O + i,none⟩ v) (c.set (O + i) v) B O te hb' (fun u hu=>hv u (by simp [hu])) (by simp at hl ⊢;omega);refine ⟨w',?_,fun h=>?_⟩
  ·unfold storeCells
   rw [ja];simp only [Sem.run_bind,hst,Result.andThen];exact hw'
  ·have:=hk (h.store (O + i) v)
   rw [show c.take (O + i)++v::vs++c.drop (O + i + (v::vs).length)=(c.set (O + i) v).take (O + (i + 1))++vs++(c.set (O + i) v).drop (O + (i + 1) + vs.length) from ?_]
   ·exact this
   ·rw [List.drop_set_of_lt (by omega),List.take_set,show O + (i + 1)=O + i + 1 from by omega,List.take_succ_eq_append_getElem hlt]
    rw [List.set_append_right _ _ (by simp;omega)];simp [Nat.min_eq_left (Nat.le_of_lt hlt),Nat.add_assoc,Nat.add_comm 1]
theorem bQ [T:Ty P t d z 1 by_] (pre:List HP) {r:List HP} {B O:Nat} {c:List Value} {te:TypeId} {dst:Option Nat} (hdst:dst=none) (hx:ev G x=some (.pointer (some ⟨B,O,none⟩))) (hy:ev G y=some v) (hv:v.cells=#[v]) (h1:v.oneCell'=true) (hl:O < c.length)
 (k:RW P E ops Q rest G (pre++blk B (c.set O v) te::r)):RW P E ops Q (⟨dst,.store t x y,ty,pos,af,none⟩::rest) G (pre++blk B c te::r):=by
 subst hdst
 exact eW rfl (fun a w hf hw=>by
  have hb:=hw.blk;have hcell:w.cell? ⟨B,O,none⟩=some c[O]:=gZ hb (by simp [hl])
  have hst:(store ⟨B,O,none⟩ v).run P w=.ok () (w.setCell ⟨B,O,none⟩ v):=by
   rw [run_store _ _ _ _ _ h1];simp [stored,hcell,dy hb]
  have hrun:(execOp a.eval ⟨none,.store t x y,ty,pos,af,none⟩).run P w=.ok .skip (w.setCell ⟨B,O,none⟩ v):=by
   simp [execOp,Instr.storeAt,Instr.sureAddr,hf.eval hx,hf.eval hy,storeVar,hv,T.runSize,storeCells,Addr.add,hst]
  rw [hrun];exact k _ _ (hf.skip _) (hw.store O v))
theorem po [T:Ty P t d z sz by_] (pre:List HP) {r:List HP} {B O:Nat} {c vs:List Value} {te:TypeId} {dst:Option Nat} (hdst:dst=none) (hx:ev G x=some (.pointer (some ⟨B,O,none⟩))) (hy:ev G y=some (.agg vs.toArray)) (hs:vs.length=sz) (h1:∀ v∈vs,v.oneCell'=true) (hl:O + vs.length≤c.length)
 (k:RW P E ops Q rest G (pre++blk B (c.take O++vs++c.drop (O + vs.length)) te::r)):RW P E ops Q (⟨dst,.store t x y,ty,pos,af,none⟩::rest) G (pre++blk B c te::r):=by
 subst hdst
 exact eW rfl (fun a w hf hw=>by
  obtain ⟨w',hw',hk⟩:=jt (P:=P) vs 0 w c B O te hw.blk h1 (by simpa using hl)
  have hrun:(execOp a.eval ⟨none,.store t x y,ty,pos,af,none⟩).run P w=.ok .skip w':=by
   simp [execOp,Instr.storeAt,Instr.sureAddr,hf.eval hx,hf.eval hy,storeVar,Value.cells,T.runSize,hs,hw']
  rw [hrun];exact k _ _ (hf.skip _) (by simpa using hk hw))
theorem aX [T:Ty P t d z sz by_] (pre:List HP) {r:List HP} {B:Nat} {c vs:List Value} {te:TypeId} {dst:Option Nat} (hdst:dst=none) (hx:ev G x=some (.pointer (some ⟨B,0,none⟩))) (hy:ev G y=some (.agg vs.toArray)) (hs:vs.length=sz) (hl:vs.length=c.length) (h1:∀ v∈vs,v.oneCell'=true)
 (k:RW P E ops Q rest G (pre++blk B vs te::r)):RW P E ops Q (⟨dst,.store t x y,ty,pos,af,none⟩::rest) G (pre++blk B c te::r):=
 po pre hdst hx hy hs h1 (by omega) (by
  have:c.take 0++vs++c.drop (0 + vs.length)=vs:=by simp [hl]
  rw [this];exact k)
end
end
end
section
theorem w64 {n:Int} (h1:-9223372036854775808≤n) (h2:n≤9223372036854775807):IntKind.i64.wrap n=n:=by
 have:=IntWalk.i64_in n ⟨h1,h2⟩;exact this
theorem aW {P:Program} (op:BinOp) (t:TypeId) (x y:Operand) (k k':IntKind) (a b:Int) (w:World):(eqGuard op t x y (.int k a) (.int k' b)).run P w=.ok () w:=by
 unfold eqGuard;split <;> rfl
theorem DU (a b:Int):(a == b)=decide (a=b):=by rw [Bool.eq_iff_iff];simp
section
variable {P:Program} {E:Env} {ops:Array Oper} {Q:Pst} {rest:List Oper} {G:List (Nat × Value)} {H:List HP}
variable {dst:Nat} {ty:TypeId} {pos:String} {af:Array Edge} {t tx ty':TypeId} {d d':TypeDesc} {z z':Value} {sz sz' by_ by':Nat} {x y:Operand} {u v:Value} {a b c:Int} {k kk:IntKind} {p q:Bool} {s1 s2:ByteArray}
/-! ### numbers -/
theorem cY (hx:ev G x=some (.int k a)) (hy:ev G y=some (.int k b)) (hw:k.wrap (a + b)=c) (hN:Nat.blt dst E.N=true) (kk:RW P E ops Q rest ((dst,.int k c)::G) H):
 RW P E ops Q (⟨some dst,.binOp .add t x y ty',ty,pos,af,none⟩::rest) G H:=
 b8 hN (fun f w hf _=>by simp [execOp,hf.eval hx,hf.eval hy,aW,binOp,Op.intArith,hw]) kk
theorem Ka {P:Program} {E:Env} {ops:Array Oper} {Q:Pst} {rest:List Oper} {G:List (Nat × Value)} {H:List HP} {dst:Nat} {ty t ty':TypeId} {pos:String} {af:Array Edge} {x y:Operand} {a b:Int} (k0:RW P E ops Q rest ((dst,.int .i64 (a + b))::G) H) (hx:ev G x=some (.int .i64 a):=by exact rfl) (hy:ev G y=some (.int .i64 b):=by exact rfl) (h0:-9223372036854775808≤a + b:=by omega) (h1:a + b≤9223372036854775807:=by omega) (hN:Nat.blt dst E.N=true:=by exact rfl):RW P E ops Q (⟨some dst,.binOp .add t x y ty',ty,pos,af,none⟩::rest) G H:=cY hx hy (w64 h0 h1) hN k0
theorem eG (hx:ev G x=some (.int k a)) (hy:ev G y=some (.int k b)) (hw:k.wrap (a - b)=c) (hN:Nat.blt dst E.N=true) (kk:RW P E ops Q rest ((dst,.int k c)::G) H):
 RW P E ops Q (⟨some dst,.binOp .sub t x y ty',ty,pos,af,none⟩::rest) G H:=
 b8 hN (fun f w hf _=>by simp [execOp,hf.eval hx,hf.eval hy,aW,binOp,Op.intArith,hw]) kk
theorem yP (hx:ev G x=some (.int k a)) (hy:ev G y=some (.int k b)) (hw:k.wrap (a * b)=c) (hN:Nat.blt dst E.N=true) (kk:RW P E ops Q rest ((dst,.int k c)::G) H):
 RW P E ops Q (⟨some dst,.binOp .mul t x y ty',ty,pos,af,none⟩::rest) G H:=
 b8 hN (fun f w hf _=>by simp [execOp,hf.eval hx,hf.eval hy,aW,binOp,Op.intArith,hw]) kk
theorem B8 (hx:ev G x=some (.int k a)) (hy:ev G y=some (.int k b)) (hN:Nat.blt dst E.N=true) (kk:RW P E ops Q rest ((dst,.bool (decide (a=b)))::G) H):
 RW P E ops Q (⟨some dst,.binOp .eql t x y ty',ty,pos,af,none⟩::rest) G H:=
 b8 hN (fun f w hf _=>by simp [execOp,hf.eval hx,hf.eval hy,aW,binOp,Op.intCmp,DU]) kk
theorem EZ (hx:ev G x=some (.int k a)) (hy:ev G y=some (.int k b)) (hN:Nat.blt dst E.N=true) (kk:RW P E ops Q rest ((dst,.bool (decide (¬ a=b)))::G) H):
 RW P E ops Q (⟨some dst,.binOp .neq t x y ty',ty,pos,af,none⟩::rest) G H:=
 b8 hN (fun f w hf _=>by simp [execOp,hf.eval hx,hf.eval hy,aW,binOp,Op.intCmp,bne,DU]) kk
theorem E1 (hx:ev G x=some (.int k a)) (hy:ev G y=some (.int k b)) (hN:Nat.blt dst E.N=true) (kk:RW P E ops Q rest ((dst,.bool (decide (a < b)))::G) H):
 RW P E ops Q (⟨some dst,.binOp .lss t x y ty',ty,pos,af,none⟩::rest) G H:=
 b8 hN (fun f w hf _=>by simp [execOp,hf.eval hx,hf.eval hy,aW,binOp,Op.intCmp]) kk
theorem E2 (hx:ev G x=some (.int k a)) (hy:ev G y=some (.int k b)) (hN:Nat.blt dst E.N=true) (kk:RW P E ops Q rest ((dst,.bool (decide (a≤b)))::G) H):
 RW P E ops Q (⟨some dst,.binOp .leq t x y ty',ty,pos,af,none⟩::rest) G H:=
 b8 hN (fun f w hf _=>by simp [execOp,hf.eval hx,hf.eval hy,aW,binOp,Op.intCmp]) kk
theorem E4 (hx:ev G x=some (.int k a)) (hy:ev G y=some (.int k b)) (hN:Nat.blt dst E.N=true) (kk:RW P E ops Q rest ((dst,.bool (decide (b < a)))::G) H):
 RW P E ops Q (⟨some dst,.binOp .gtr t x y ty',ty,pos,af,none⟩::rest) G H:=
 b8 hN (fun f w hf _=>by simp [execOp,hf.eval hx,hf.eval hy,aW,binOp,Op.intCmp]) kk
theorem E5 (hx:ev G x=some (.int k a)) (hy:ev G y=some (.int k b)) (hN:Nat.blt dst E.N=true) (kk:RW P E ops Q rest ((dst,.bool (decide (b≤a)))::G) H):
 RW P E ops Q (⟨some dst,.binOp .geq t x y ty',ty,pos,af,none⟩::rest) G H:=
 b8 hN (fun f w hf _=>by simp [execOp,hf.eval hx,hf.eval hy,aW,binOp,Op.intCmp]) kk
theorem EY (hx:ev G x=some (.bool p)) (hN:Nat.blt dst E.N=true) (kk:RW P E ops Q rest ((dst,.bool (!p))::G) H):
 RW P E ops Q (⟨some dst,.unOp .not t x,ty,pos,af,none⟩::rest) G H:=
 b8 hN (fun f w hf _=>by simp [execOp,hf.eval hx,Op.unary]) kk
theorem sQ [S:Ty P t d z sz by_] [T:Ty P tx (.int kk) z' sz' by'] (hx:ev G x=some (.int k a)) (hw:kk.wrap a=c) (hN:Nat.blt dst E.N=true) (kk:RW P E ops Q rest ((dst,.int kk c)::G) H):
 RW P E ops Q (⟨some dst,.convert t tx x,ty,pos,af,none⟩::rest) G H:=
 b8 hN (fun f w hf _=>by simp [execOp,hf.eval hx,convert,S.runUnd,T.runUnd,Conv.intToInt,hw]) kk
theorem vC {vs:List Value} {i:Nat} (hx:ev G x=some (.tuple vs.toArray)) (hi:vs[i]?=some v) (hN:Nat.blt dst E.N=true) (kk:RW P E ops Q rest ((dst,v)::G) H):
 RW P E ops Q (⟨some dst,.extract x i,ty,pos,af,none⟩::rest) G H:=
 b8 hN (fun f w hf _=>by simp [execOp,hf.eval hx,Instr.extract,hi]) kk
theorem jn {A:Addr} (hx:ev G x=some (.pointer (some A))) (hN:Nat.blt dst E.N=true) (kk:RW P E ops Q rest ((dst,.pointer (some A))::G) H):
 RW P E ops Q (⟨some dst,.nilCheck x,ty,pos,af,none⟩::rest) G H:=
 b8 hN (fun f w hf _=>by simp [execOp,hf.eval hx]) kk
def evs (G:List (Nat × Value)):List Operand→Option (List Value)
 | []=>some []
 | x::r=>match ev G x with
  | some v=>match evs G r with
   | some vs=>some (v::vs)
   | none=>none
  | none=>none
theorem Fr.evals {N:Nat} {ds:List Deferred} {a:Act} {G:List (Nat × Value)} (h:Fr N ds a G):∀ {l:List Operand} {vs:List Value},evs G l=some vs→l.map a.eval=vs:=by
 intro l;induction l with
 | nil=>intro vs hv;simp [evs] at hv;simp [hv]
 | cons x r ih=>
  intro vs hv;unfold evs at hv;cases hx:ev G x with
  | none=>rw [hx] at hv;cases hv
  | some v=>
   rw [hx] at hv;cases hr:evs G r with
   | none=>rw [hr] at hv;cases hv
   | some us=>
    rw [hr] at hv;simp only [Option.some.injEq] at hv;subst hv;rw [List.map_cons,h.eval hx,ih hr]
theorem sN {f:Fn} {l1 l2:List Operand} {v1 v2:List Value} (h1:evs G l1=some v1) (h2:evs G l2=some v2) (hN:Nat.blt dst E.N=true) (kk:RW P E ops Q rest ((dst,.func f v1.toArray v2.toArray)::G) H):
 RW P E ops Q (⟨some dst,.makeFunc f l1.toArray l2.toArray,ty,pos,af,none⟩::rest) G H:=
 b8 hN (fun a w hf _=>by simp [execOp,Instr.makeFunc,hf.evals h1,hf.evals h2]) kk
/-! ### fields -/
class FA (P:Program) (s:TypeId) (i:Nat) (off:outParam Nat):Prop where
 run:∀ B O w,(Instr.fieldAt s (.pointer (some ⟨B,O,none⟩)) i).run P w=.ok (.pointer (some ⟨B,O + off,none⟩)) w
theorem FA.of {s ft:TypeId} {i off:Nat} {fs:Array Field} (T:Ty P s (.struct fs) z sz by_) (T2:Ty P ft d z' sz' by') (hf:(fs[i]?).map (fun f=>(f.type,f.offset))=some (ft,off)) (h0:Nat.beq sz' 0=false):FA P s i off:=
 ⟨fun B O w=>by
  cases hf':fs[i]? with
  | none=>rw [hf'] at hf;cases hf
  | some f=>
  rw [hf'] at hf;simp only [Option.map_some,Option.some.injEq,Prod.mk.injEq] at hf;obtain ⟨rfl,rfl⟩:=hf
  replace h0:sz'≠0:=Nat.ne_of_beq_eq_false h0
  unfold Instr.fieldAt;simp only [Sem.run_bind,T.runUnd,Result.andThen,hf',Instr.sureAddr,fieldPlace,T2.runSize,h0,if_false,Sem.run_pure,ja]⟩
theorem iI {s:TypeId} {i off B O:Nat} [F:FA P s i off] (hx:ev G x=some (.pointer (some ⟨B,O,none⟩))) (hN:Nat.blt dst E.N=true) (kk:RW P E ops Q rest ((dst,.pointer (some ⟨B,O + off,none⟩))::G) H):
 RW P E ops Q (⟨some dst,.fieldAddr s x i,ty,pos,af,none⟩::rest) G H:=
 b8 hN (fun f w hf _=>by simp [execOp,hf.eval hx,F.run]) kk
class FV (P:Program) (s:TypeId) (i:Nat) (off n:outParam Nat) (ag:outParam Bool):Prop where
 run1:ag=false→∀ (l:List Value) v w,l[off]?=some v→(Instr.field s (.agg l.toArray) i).run P w=.ok v w
 run2:ag=true→∀ (l:List Value) w,(Instr.field s (.agg l.toArray) i).run P w=.ok (.agg ((l.drop off).take n).toArray) w
/-! ### slices -/
theorem av {e:TypeId} {B O n cp:Nat} [T:Ty P t (.slice e) z sz by_] [T2:Ty P e d z' sz' by'] (hx:ev G x=some (.slice (some ⟨B,O,none⟩) n cp)) (hy:ev G y=some (.int k a)) (h0:0≤a) (h1:a < n) (hN:Nat.blt dst E.N=true)
 (kk:RW P E ops Q rest ((dst,.pointer (some ⟨B,O + a.toNat * sz',none⟩))::G) H):RW P E ops Q (⟨some dst,.indexAddr t x y,ty,pos,af,none⟩::rest) G H:=
 b8 hN (fun f w hf _=>by simp [execOp,hf.eval hx,hf.eval hy,Instr.indexAt,asIntOf,T.runUnd,h0,h1,T2.runSize,ja]) kk
theorem E3 {e:TypeId} {A:Option Addr} {n cp:Nat} [T:Ty P t (.slice e) z sz by_] (hx:ev G x=some (.slice A n cp)) (hN:Nat.blt dst E.N=true) (kk:RW P E ops Q rest ((dst,.int .i64 n)::G) H):
 RW P E ops Q (⟨some dst,.call ⟨.builtin .len,#[x],#[t]⟩,ty,pos,af,none⟩::rest) G H:=
 b8 hN (fun f w hf _=>by simp [execOp,resolve,invoke,builtin,Builtin.len_,hf.eval hx,T.runUnd,goInt]) kk
theorem kA {P:Program} {w:World} {k:IntKind} {i:Int} {n:Nat} {cd:BoundsCode} (h0:0≤i) (h1:i≤n):(Instr.sliceBound (.int k i) n cd).run P w=.ok i.toNat w:=by
 simp [Instr.sliceBound,asIntOf,h0,h1]
theorem oD {e:TypeId} {A:Option Addr} {n cp:Nat} {hi:Operand} {k2:IntKind} [T:Ty P t (.slice e) z sz by_] [T2:Ty P e d z' sz' by'] (hx:ev G x=some (.slice A n cp)) (hh:ev G hi=some (.int k2 b)) (h0:0≤b) (h2:b≤cp) (hN:Nat.blt dst E.N=true)
 (kk:RW P E ops Q rest ((dst,.slice A b.toNat cp)::G) H):RW P E ops Q (⟨some dst,.slice t x none (some hi) none,ty,pos,af,none⟩::rest) G H:=
 b8 hN (fun f w hf _=>by
  have e1:(Instr.sliceBound (.int k2 b) cp .sliceAcap).run P w=.ok b.toNat w:=kA h0 h2
  have e3:(if cp=0 then A else A.map (·.add (0 * sz')))=A:=by
   split
   ·rfl
   ·cases A <;> simp [Addr.add]
  simp only [execOp,hf.eval hx,hf.eval hh,Instr.sliceAt,T.runUnd,Instr.slice,Instr.sliceBounds,e1,T2.runSize,Sem.run_bind,Result.andThen,Option.map_none,Option.map_some,Sem.run_pure,e3,Nat.sub_zero,if_true]) kk
/-! ### guards -/
theorem j8 (j:Nat) {b:Bool} (hl:look G j=some (.bool b)) (ht:b=true→RW P E ops Q rest ((j,.bool true)::G) H) (hf:b=false→RW P E ops Q rest ((j,.bool false)::G) H):RW P E ops Q rest G H:=by
 have key:∀ c,b=c→RW P E ops Q rest ((j,.bool c)::G) H→RW P E ops Q rest G H:=fun c hc h a w hfr hw=>by
  subst hc;refine h a w ⟨hfr.size,hfr.defers,fun i v hi=>?_⟩ hw;unfold look at hi;cases hb:Nat.beq j i with
  | true=>
   rw [hb] at hi;have:j=i:=Nat.eq_of_beq_eq_true hb;subst this;simp only [Option.some.injEq] at hi;subst hi;exact hfr.at_ _ _ hl
  | false=>rw [hb] at hi;exact hfr.at_ i v hi
 cases b with
 | true=>exact key true rfl (ht rfl)
 | false=>exact key false rfl (hf rfl)
theorem aY (j:Nat) {p:Prop} [Decidable p] (hl:look G j=some (.bool (decide p))) (ht:p→RW P E ops Q rest ((j,.bool true)::G) H) (hf:¬ p→RW P E ops Q rest ((j,.bool false)::G) H):RW P E ops Q rest G H:=
 j8 j hl (fun h=>ht (of_decide_eq_true h)) (fun h=>hf (of_decide_eq_false h))
def gd (ops:Array Oper) (G:List (Nat × Value)) (j:Nat) (want:Bool):Option Bool:=
 match (ops[j]?).bind (·.dst) with
 | some d=>match look G d with
  | some (.bool b)=>some (b == want)
  | some (.tuple _)=>some false
  | _=>none
 | none=>none
theorem qH {N:Nat} {ds:List Deferred} {a:Act} (h:Fr N ds a G) {j:Nat} {want g:Bool} {o:Oper} (ho:o.guard=some (j,want)) (hg:gd ops G j want=some g):Region.wanted o (yielded ops a.tmps)=g:=by
 unfold gd at hg;simp only [Region.wanted,ho,yielded];cases hd:(ops[j]?).bind (·.dst) with
 | none=>rw [hd] at hg;cases hg
 | some d=>
  rw [hd] at hg;simp only at hg;cases hl:look G d with
  | none=>rw [hl] at hg;cases hg
  | some v=>
   rw [hl] at hg;cases v with
   | bool b=>
    simp only [Option.some.injEq] at hg;subst hg;rw [Option.bind_some,h.at_ _ _ hl];simp
   | tuple l=>
    simp only [Option.some.injEq] at hg;subst hg;rw [Option.bind_some,h.at_ _ _ hl];simp
   | _=>cases hg
theorem aJ {dst:Option Nat} {op:Op} {j:Nat} {want:Bool} (hg:gd ops G j want=some true) (kk:RW P E ops Q (⟨dst,op,ty,pos,af,none⟩::rest) G H):RW P E ops Q (⟨dst,op,ty,pos,af,some (j,want)⟩::rest) G H:=by
 intro a w hf hw;have h:=kk a w hf hw;unfold wpList at h ⊢;rw [if_pos (by simp [Region.wanted])] at h;rw [if_pos (by rw [qH hf rfl hg])];exact h
theorem Gp {op:Op} {j:Nat} {want:Bool} (hg:gd ops G j want=some false) (hN:Nat.blt dst E.N=true) (kk:RW P E ops Q rest ((dst,undef)::G) H):RW P E ops Q (⟨some dst,op,ty,pos,af,some (j,want)⟩::rest) G H:=by
 intro a w hf hw;unfold wpList;rw [if_neg (by rw [qH hf rfl hg];simp)];exact kk _ _ (hf.put hN _) hw
/-! ### calls -/
def Ret (P:Program) (f:FuncId) (args:List Value) (w:World) (v:Value):Prop:=Calls P f args.toArray w (fun e w'=>e=.returned v∧cL No w w')
theorem jo {dst:Option Nat} {l:List Operand} {vs:List Value} {at_:Array TypeId} {f:FuncId} (hcall:∀ args w,(callFunc f args).run P w=.ok (.enter f args) w) (hl:evs G l=some vs)
 (hc:∀ a w,Fr E.N E.ds a G→St E.w0 E.S H w→Calls P f vs.toArray w fun
  | .returned v,w''=>wpList P ops Q.fn rest (a.put dst v) w''
  | .panicked chain,w''=>Q.pan chain a w''
  | .outgrown,_=>LetsOut Q.fn):RW P E ops Q (⟨dst,.call ⟨.value (.func f),l.toArray,at_⟩,ty,pos,af,none⟩::rest) G H:=
 eW rfl (fun a w hf hw=>by
  have hrun:(execOp a.eval ⟨dst,.call ⟨.value (.func f),l.toArray,at_⟩,ty,pos,af,none⟩).run P w=.ok (.enter f vs.toArray) w:=by
   simp [execOp,resolve,Act.eval,Deferred.ofValue,invoke,hf.evals hl,hcall]
  rw [hrun];exact hc a w hf hw)
theorem rj {dst:Option Nat} {fv:Operand} {l:List Operand} {vs caps:List Value} {at_:Array TypeId} {f:FuncId} (hcall:∀ args w,(callFunc f args).run P w=.ok (.enter f args) w) (hfv:ev G fv=some (.func (.func f) #[] caps.toArray)) (hl:evs G l=some vs)
 (hc:∀ a w,Fr E.N E.ds a G→St E.w0 E.S H w→Calls P f (vs++caps).toArray w fun
  | .returned v,w''=>wpList P ops Q.fn rest (a.put dst v) w''
  | .panicked chain,w''=>Q.pan chain a w''
  | .outgrown,_=>LetsOut Q.fn):RW P E ops Q (⟨dst,.call ⟨.value fv,l.toArray,at_⟩,ty,pos,af,none⟩::rest) G H:=
 eW rfl (fun a w hf hw=>by
  have hrun:(execOp a.eval ⟨dst,.call ⟨.value fv,l.toArray,at_⟩,ty,pos,af,none⟩).run P w=.ok (.enter f (vs++caps).toArray) w:=by
   simp [execOp,resolve,hf.eval hfv,Deferred.ofValue,invoke,hf.evals hl,hcall]
  rw [hrun];exact hc a w hf hw)
section
variable {l:List Operand} {vs caps:List Value} {at_:Array TypeId} {f:FuncId} {fv:Operand}
theorem aD (hcall:∀ args w,(callFunc f args).run P w=.ok (.enter f args) w) (hl:evs G l=some vs) (hc:∀ w,St E.w0 E.S H w→Ret P f vs w v) (hN:Nat.blt dst E.N=true) (kk:RW P E ops Q rest ((dst,v)::G) H):
 RW P E ops Q (⟨some dst,.call ⟨.value (.func f),l.toArray,at_⟩,ty,pos,af,none⟩::rest) G H:=
 jo hcall hl (fun a w hf hw=>(hc w hw).mono (by rintro e w' ⟨rfl,hk⟩;exact kk _ _ (hf.put hN v) (hw.quiet hk)))
theorem uk (hcall:∀ args w,(callFunc f args).run P w=.ok (.enter f args) w) (hfv:ev G fv=some (.func (.func f) #[] caps.toArray)) (hl:evs G l=some vs) (hc:∀ w,St E.w0 E.S H w→Ret P f (vs++caps) w v) (hN:Nat.blt dst E.N=true) (kk:RW P E ops Q rest ((dst,v)::G) H):
 RW P E ops Q (⟨some dst,.call ⟨.value fv,l.toArray,at_⟩,ty,pos,af,none⟩::rest) G H:=
 rj hcall hfv hl (fun a w hf hw=>(hc w hw).mono (by rintro e w' ⟨rfl,hk⟩;exact kk _ _ (hf.put hN v) (hw.quiet hk)))
end
end
end
section
/-! ### kinds of data -/
inductive K where
 | int (k:IntKind)
 | bool
 | str
 | sl (by_:Nat) (t:K)
 | pr (a b:K)
@[reducible] def K.V:K→Type
 | .int _=>Int
 | .bool=>Bool
 | .str=>ByteArray
 | .sl _ t=>List t.V
 | .pr a b=>a.V × b.V
def K.sz:K→Nat
 | .pr a b=>a.sz + b.sz
 | _=>1
abbrev Mem:=Nat→Nat→Value→Prop
def Mem.le (M M':Mem):Prop:=∀ B O v,M B O v→M' B O v
def mem (w:World) (ok:Nat→Prop):Mem:=fun B O v=>(ok B∧w.frozen? ⟨B,O,none⟩=false)∧w.cell? ⟨B,O,none⟩=some v
theorem mz {w w':World} {B:Nat} (h:w'.heap[B]?=w.heap[B]?) (O:Nat):w'.frozen? ⟨B,O,none⟩=w.frozen? ⟨B,O,none⟩:=by simp [World.frozen?,h]
theorem Mem.le_refl (M:Mem):Mem.le M M:=fun _ _ _ h=>h
theorem n6 {w:World} {F F':Nat→Prop} (h:∀ b,F b→F' b):Mem.le (mem w F) (mem w F'):=fun _ _ _ x=>⟨⟨h _ x.1.1,x.1.2⟩,x.2⟩
theorem xi {w w':World} {S:Nat→Prop} (k:cL S w w'):Mem.le (mem w (fun b=>¬ S b)) (mem w' (fun b=>¬ S b)):=fun _ _ _ x=>⟨⟨x.1.1,(mz (k.block _ (World.block_lt_of_cell? w _ x.2) x.1.1) _).trans x.1.2⟩,vo x.2 k x.1.1⟩
def Env.ro (E:Env):Mem:=mem E.w0 (fun b=>¬ E.S b)
theorem pV {E:Env} {H:List HP} {w:World} (h:St E.w0 E.S H w):Mem.le E.ro (mem w (fun b=>¬ E.S b)):=xi h.kp
def inR (k:IntKind) (x:Int):Prop:=(Lit.int k x).wf=true
def dK:Nat:=9223372036854775807
def br:Nat:=140737488351232
def nv {α:Type} (sz:Nat) (R:List Value→α→Prop) (M:Mem) (A:Option Addr) (xs:List α):Prop:=
 xs≠[]→∃ B O,A=some ⟨B,O,none⟩∧∀ (j:Nat) (x:α),xs[j]?=some x→∃ cs:List Value,cs.length=sz∧R cs x∧∀ (i:Nat) (v:Value),cs[i]?=some v→M B (O + j * sz + i) v
def Rd:(t:K)→Mem→List Value→t.V→Prop
 | .int k,_,cs,x=>cs=[.int k x]∧inR k x
 | .bool,_,cs,x=>cs=[.bool x]
 | .str,_,cs,x=>cs=[.string x]∧x.size≤br
 | .sl by_ t,M,cs,x=>∃ A c,cs=[.slice A (List.length (α:=t.V) x) c]∧List.length (α:=t.V) x≤c∧c≤dK∧List.length (α:=t.V) x * by_≤br∧nv t.sz (fun cs y=>Rd t M cs y) M A (show List t.V from x)
 | .pr a b,M,cs,x=>∃ c1 c2,cs=c1++c2∧Rd a M c1 x.1∧Rd b M c2 x.2
theorem nv.mono {α:Type} {sz:Nat} {R R':List Value→α→Prop} {M M':Mem} {A:Option Addr} {xs:List α} (hM:Mem.le M M') (hR:∀ cs x,R cs x→R' cs x) (h:nv sz R M A xs):nv sz R' M' A xs:=fun hn=>by
 obtain ⟨B,O,hA,hj⟩:=h hn;refine ⟨B,O,hA,fun j x hx=>?_⟩;obtain ⟨cs,h1,h2,h3⟩:=hj j x hx;exact ⟨cs,h1,hR _ _ h2,fun i v hv=>hM _ _ _ (h3 i v hv)⟩
theorem Rd.mono:∀ {t:K} {M M':Mem} {cs:List Value} {x:t.V},Mem.le M M'→Rd t M cs x→Rd t M' cs x:=by
 intro t;induction t with
 | int k=>intro _ _ _ _ _ h;exact h
 | bool=>intro _ _ _ _ _ h;exact h
 | str=>intro _ _ _ _ _ h;exact h
 | sl e t ih=>
  intro M M' cs x hM h;obtain ⟨A,c,h1,h2,h3,h4,h5⟩:=h;exact ⟨A,c,h1,h2,h3,h4,h5.mono hM (fun cs y hy=>ih hM hy)⟩
 | pr a b iha ihb=>
  intro M M' cs x hM h;obtain ⟨c1,c2,h1,h2,h3⟩:=h;exact ⟨c1,c2,h1,iha hM h2,ihb hM h3⟩
theorem Rd.len:∀ {t:K} {M:Mem} {cs:List Value} {x:t.V},Rd t M cs x→cs.length=t.sz:=by
 intro t;induction t with
 | int k=>intro _ _ _ h;rw [h.1];rfl
 | bool=>intro _ _ _ h;rw [show _=_ from h];rfl
 | str=>intro _ _ _ h;rw [h.1];rfl
 | sl e t ih=>intro _ _ _ h;obtain ⟨A,c,h1,_⟩:=h;rw [h1];rfl
 | pr a b iha ihb=>intro _ _ _ h;obtain ⟨c1,c2,h1,h2,h3⟩:=h;rw [h1,List.length_append,iha h2,ihb h3];rfl
theorem nv.nil {α:Type} {sz:Nat} {R:List Value→α→Prop} {M:Mem} {A:Option Addr}:nv sz R M A ([]:List α):=fun h=>absurd rfl h
theorem nv.get {α:Type} {sz:Nat} {R:List Value→α→Prop} {M:Mem} {A:Option Addr} {xs:List α} (h:nv sz R M A xs) {i:Nat} {x:α} (hi:xs[i]?=some x):
 ∃ B O cs,A=some ⟨B,O,none⟩∧cs.length=sz∧R cs x∧∀ (j:Nat) (v:Value),cs[j]?=some v→M B (O + i * sz + j) v:=by
 obtain ⟨B,O,hA,hj⟩:=h (by intro he;subst he;simp at hi);obtain ⟨cs,h1,h2,h3⟩:=hj i x hi;exact ⟨B,O,cs,hA,h1,h2,h3⟩
/-! ### chunks of data -/
def G7 {α β:Type} (R:α→β→Prop) (xs:List α) (ys:List β):Prop:=xs.length=ys.length∧∀ (i:Nat) (x:α) (y:β),xs[i]?=some x→ys[i]?=some y→R x y
def ax (e:TypeId) (sz:Nat) (v:Value) (es:List (List Value)):HP where
 p w F:=(v=.slice none 0 0∧es=[])∨∃ B c tl,v=.slice (some ⟨B,0,none⟩) es.length c∧F B∧w.heap[B]?=some (.cells (es.flatten++tl).toArray e (0,0))∧(∀ x∈es,x.length=sz)∧es.flatten.length + tl.length=c * sz∧es.length≤c∧c≤dK
 st:=fun h _ k=>k.imp id (fun ⟨B,c,tl,h1,h2,h3,h4⟩=>⟨B,c,tl,h1,h2,(h B h2 (Array.getElem?_eq_some_iff.1 h3).1).trans h3,h4⟩)
 up:=fun h k=>k.imp id (fun ⟨B,c,tl,h1,h2,h4⟩=>⟨B,c,tl,h1,h B h2,h4⟩)
def G3 {ι:Type} (c:ι→HP):HP where
 p w F:=∃ i,(c i).p w F
 st:=fun h hs ⟨i,k⟩=>⟨i,(c i).st h hs k⟩
 up:=fun h ⟨i,k⟩=>⟨i,(c i).up h k⟩
def s5 (c d:HP):HP where
 p w F:=∃ G:Nat→Prop,(∀ b,G b→F b)∧c.p w G∧d.p w (fun b=>F b∧¬ G b)
 st:=fun h hs ⟨G,hG,hc,hd⟩=>⟨G,hG,c.st (fun b hb=>h b (hG b hb)) hs hc,d.st (fun b hb=>h b hb.1) hs hd⟩
 up:=fun h ⟨G,hG,hc,hd⟩=>⟨G,fun b hb=>h b (hG b hb),hc,d.up (fun b hb=>⟨h b hb.1,hb.2⟩) hd⟩
theorem Sep.split {H1 r:List HP} {w:World}:∀ {A:Nat→Prop},Sep (H1++r) w A→∃ F:Nat→Prop,(∀ b,F b→A b∧b < w.heap.size)∧Sep H1 w F∧Sep r w (fun b=>A b∧¬ F b):=by
 induction H1 with
 | nil=>intro A h;exact ⟨No,fun b hb=>hb.elim,trivial,Sep.up (fun b hb=>⟨hb,fun h=>h.elim⟩) h⟩
 | cons c H1 ih=>
  intro A ⟨F,hF,hc,hr⟩;obtain ⟨F',hF',h1,h2⟩:=ih hr;refine ⟨fun b=>F b∨F' b,fun b hb=>hb.elim (hF b) (fun k=>⟨(hF' b k).1.1,(hF' b k).2⟩),⟨F,fun b hb=>⟨.inl hb,(hF b hb).2⟩,hc,Sep.up (fun b hb=>⟨.inr hb,(hF' b hb).1.2⟩) h1⟩,Sep.up (fun b hb=>⟨hb.1.1,fun k=>k.elim hb.1.2 hb.2⟩) h2⟩
section
variable {P:Program} {E:Env} {ops:Array Oper} {Q:Pst} {K:Act→World→Prop} {rest:List Oper} {G:List (Nat × Value)} {H:List HP}
theorem A0 {ι:Type} (pre:List HP) {r:List HP} {c:HP} (c':ι→HP) (hc:∀ w F,c.p w F→∃ i,(c' i).p w F) (k:∀ i,PW E K G (pre++c' i::r)):PW E K G (pre++c::r):=fun a w hf hw=>by
 obtain ⟨F,hF,hp,hr⟩:=fh hw.sep;obtain ⟨i,hi⟩:=hc w F hp;exact k i a w hf ⟨hw.kp,Sep.push ⟨F,hF,hi,hr⟩⟩
theorem yX (pre:List HP) {r:List HP} {c:HP} (c':HP) (hc:∀ w F,c.p w F→c'.p w F) (k:PW E K G (pre++c'::r)):PW E K G (pre++c::r):=fun a w hf hw=>k a w hf (hw.change (hc w))
theorem yU (pre:List HP) {r:List HP} {c d:HP} (k:PW E K G (pre++c::d::r)):PW E K G (pre++s5 c d::r):=fun a w hf hw=>by
 obtain ⟨F,hF,⟨G',hG,hc,hd⟩,hr⟩:=fh hw.sep;refine k a w hf ⟨hw.kp,?_⟩
 have h2:Sep (c::d::(pre++r)) w (fun b=>E.S b∨E.w0.heap.size≤b):=
  ⟨G',fun b hb=>⟨(hF b (hG b hb)).1,(hF b (hG b hb)).2⟩,hc,fun b=>F b∧¬ G' b,fun b hb=>⟨⟨(hF b hb.1).1,hb.2⟩,(hF b hb.1).2⟩,hd,Sep.up (fun b hb=>⟨⟨hb.1,fun hg=>hb.2 (hG b hg)⟩,fun hg=>hb.2 hg.1⟩) hr⟩
 refine Sep.perm ?_ h2;refine List.Perm.trans ?_ (List.perm_middle (l₁:=pre)).symm;exact List.Perm.cons _ (List.perm_middle).symm
theorem yW (pre:List HP) {r:List HP} {φ:Prop} (k:φ→PW E K G (pre++r)):PW E K G (pre++s9 φ::r):=fun a w hf hw=>by
 obtain ⟨F,hF,hp,hr⟩:=fh hw.sep;exact k hp a w hf ⟨hw.kp,Sep.up (fun b hb=>hb.1) hr⟩
theorem um {φ:Prop} (h:∀ w,St E.w0 E.S H w→φ) (k:φ→PW E K G H):PW E K G H:=fun a w hf hw=>k (h w hw) a w hf hw
theorem ac {dst:Nat} {ty t:TypeId} {pos:String} {af:Array Edge} {x:Operand} {d:TypeDesc} {z v:Value} {sz by_ B O:Nat} {M:Mem} [T:Ty P t d z sz by_] (hx:ev G x=some (.pointer (some ⟨B,O,none⟩))) (hM:Mem.le M E.ro) (hc:M B O v) (hd:bH d=false) (hN:Nat.blt dst E.N=true)
 (k:RW P E ops Q rest ((dst,v)::G) H):RW P E ops Q (⟨some dst,.load t x,ty,pos,af,none⟩::rest) G H:=
 sO hx (hM _ _ _ hc).2 (hM _ _ _ hc).1.1 hd hN k
theorem dF {dst:Nat} {ty t:TypeId} {pos:String} {af:Array Edge} {x:Operand} {d:TypeDesc} {z:Value} {sz by_ B O:Nat} {cs:List Value} {M:Mem} [T:Ty P t d z sz by_] (hx:ev G x=some (.pointer (some ⟨B,O,none⟩))) (hM:Mem.le M E.ro) (hc:∀ (i:Nat) (v:Value),cs[i]?=some v→M B (O + i) v) (hd:bH d=true) (hs:cs.length=sz) (hp:0 < cs.length) (hN:Nat.blt dst E.N=true)
 (k:RW P E ops Q rest ((dst,.agg cs.toArray)::G) H):RW P E ops Q (⟨some dst,.load t x,ty,pos,af,none⟩::rest) G H:=
 rf hx (fun i v hv=>(hM _ _ _ (hc i v hv)).2) (hM _ _ _ (hc 0 _ (List.getElem?_eq_getElem hp))).1.1 hd hs hN k
/-! ### entering and leaving -/
def idx:Nat→List Value→List (Nat × Value)
 | _,[]=>[]
 | i,v::r=>(i,v)::idx (i + 1) r
theorem jD:∀ (l:List Value) (i j:Nat) (v:Value),look (idx i l) j=some v→i≤j∧l[j - i]?=some v:=by
 intro l;induction l with
 | nil=>intro i j v h;cases h
 | cons u l ih=>
  intro i j v h;simp only [idx,look] at h;cases hb:Nat.beq i j with
  | true=>
   rw [hb] at h;have:i=j:=Nat.eq_of_beq_eq_true hb;subst this;simp only [Option.some.injEq] at h;subst h;simp
  | false=>
   rw [hb] at h;have hne:i≠j:=Nat.ne_of_beq_eq_false hb;obtain ⟨h1,h2⟩:=ih (i + 1) j v h;refine ⟨by omega,?_⟩;rw [show j - i=(j - (i + 1)) + 1 from by omega]
   simpa using h2
structure Du (P:Program) (fn:Func) (R:Ending→World→Prop) (a:Act) (w:World):Prop where
 out:bodyPost P fn R .ret a w
structure E6 (P:Program) (fn:Func) (R:Ending→World→Prop) (c:List PanicEntry) (a:Act) (w:World):Prop where
 out:bodyPost P fn R (.panic c) a w
@[reducible] def fin (P:Program) (fn:Func) (R:Ending→World→Prop):Pst:=
 ⟨Du P fn R,Du P fn R,fun _ _ _=>False,fun _ _ _=>False,fun c=>E6 P fn R c,bodyPost P fn R .outgrown⟩
theorem Calls.enter {f:FuncId} {fn:Func} {c:Code} {args:List Value} {w:World} {S:Nat→Prop} {R:Ending→World→Prop} (hf:P.funcs[f]?=some fn) (hb:fn.body=some c) (N:Nat) (hN:fn.ntmps=N) (hle:Nat.ble args.length N=true)
 (hst:Sep H w S) (k:CW P ⟨N,[],w,S⟩ c (fin P fn R) (idx 0 args) H):Calls P f args.toArray w R:=by
 refine calls_of_wp hf hb (wp_mono (k _ _ ⟨?_,rfl,fun i v hi=>?_⟩ (pm hst)) (fun e a w h=>by cases e <;> first | exact h.out | exact h | exact h.elim))
 ·have:args.length≤N:=by simpa [Nat.ble_eq] using hle
  simp [hN];omega
 ·obtain ⟨_,h2⟩:=jD _ _ _ _ hi
  have hlt:i < args.length:=by
   have:=(List.getElem?_eq_some_iff.1 h2).1;omega
  rw [Array.getElem?_append_left (by simpa using hlt)]
  simpa using h2
def s7:List Value→Value
 | [v]=>v
 | vs=>.tuple vs.toArray
def nM (tmps:Array Value):ResultVar→Sem Value
 | .tmp t=>pure (tmps.getD t undef)
 | .cell ad t=>do loadVar t (← asAddr (tmps.getD ad undef))
def aL (P:Program) (E:Env) (G:List (Nat × Value)) (H:List HP) (rs:List ResultVar) (vs:List Value):Prop:=
 ∀ a w,Fr E.N E.ds a G→St E.w0 E.S H w→rs.length=vs.length∧∀ (i:Nat) (r:ResultVar) (v:Value),rs[i]?=some r→vs[i]?=some v→(nM a.tmps r).run P w=.ok v w
theorem aL.nil:aL P E G H [] []:=fun a w _ _=>⟨rfl,fun i r v h=>by simp at h⟩
theorem aL.cons {rs:List ResultVar} {vs:List Value} {r:ResultVar} {v:Value} (h:∀ a w,Fr E.N E.ds a G→St E.w0 E.S H w→(nM a.tmps r).run P w=.ok v w) (k:aL P E G H rs vs):aL P E G H (r::rs) (v::vs):=fun a w hf hw=>by
 obtain ⟨k1,k2⟩:=k a w hf hw;refine ⟨by simp [k1],fun i r' v' hr hv=>?_⟩;cases i with
 | zero=>simp at hr hv;subst hr;subst hv;exact h a w hf hw
 | succ i=>exact k2 i r' v' (by simpa using hr) (by simpa using hv)
theorem aL.tmp {rs:List ResultVar} {vs:List Value} {t:Nat} {v:Value} (h:look G t=some v) (k:aL P E G H rs vs):aL P E G H (.tmp t::rs) (v::vs):=
 aL.cons (fun a w hf _=>by simp [nM,Array.getD_eq_getD_getElem?,hf.at_ t v h]) k
theorem aL.cell {rs:List ResultVar} {vs:List Value} {t B:Nat} {ty te:TypeId} {d:TypeDesc} {z:Value} {sz by_:Nat} [T:Ty P ty d z sz by_] (pre:List HP) {r:List HP} {c:List Value} (h:look G t=some (.pointer (some ⟨B,0,none⟩))) (hd:bH d=true) (hs:c.length=sz)
 (k:aL P E G (pre++blk B c te::r) rs vs):aL P E G (pre++blk B c te::r) (.cell t ty::rs) (.agg c.toArray::vs):=
 aL.cons (fun a w hf hw=>by simp [nM,Array.getD_eq_getD_getElem?,hf.at_ t _ h,asAddr,ip hd hs (a9 hw.blk)]) k
theorem oK {α β:Type} {P:Program} {w:World} (f:α→Sem β):∀ (l:List α) (vs:List β),l.length=vs.length→(∀ (i:Nat) (r:α) (v:β),l[i]?=some r→vs[i]?=some v→(f r).run P w=.ok v w)→(l.mapM f).run P w=.ok vs w:=by
 intro l;induction l with
 | nil=>intro vs hl _;cases vs <;> simp_all
 | cons x l ih=>
  intro vs hl h;cases vs with
  | nil=>simp at hl
  | cons v vs=>
   rw [List.mapM_cons];simp only [Sem.run_bind,h 0 x v rfl rfl,Result.andThen,ih vs (by simpa using hl) (fun i r u hr hu=>h (i + 1) r u (by simpa using hr) (by simpa using hu))]
   rfl
theorem lW {fn:Func} {rs:List ResultVar} {vs:List Value} (hr:fn.results=rs.toArray) (h:aL P E G H rs vs) {a:Act} {w:World} (hf:Fr E.N E.ds a G) (hw:St E.w0 E.S H w):(results fn a.tmps).run P w=.ok (s7 vs) w:=by
 obtain ⟨h1,h2⟩:=h a w hf hw;have hm:=oK (P:=P) (w:=w) (nM a.tmps) rs vs h1 h2;unfold results;rw [hr,List.mapM_toArray];change Sem.run P (do let vs ← List.toArray <$> List.mapM (nM a.tmps) rs;pure (if h:vs.size=1 then vs[0] else .tuple vs)) w=_;simp only [Sem.run_bind,Sem.run_map,hm,Result.andThen];cases vs with
 | nil=>rfl
 | cons v vs=>cases vs with
  | nil=>rfl
  | cons u vs=>rfl
theorem eC {fn:Func} {R:Ending→World→Prop} {rs:List ResultVar} {vs:List Value} (hr:fn.results=rs.toArray) (hd:E.ds=[]) (h:aL P E G H rs vs) (k:∀ w,St E.w0 E.S H w→R (.returned (s7 vs)) w):
 PW E (Du P fn R) G H:=fun a w hf hw=>⟨⟨hf.defers.trans hd,_,lW hr h hf hw,k w hw⟩⟩
theorem DD {fn:Func} {R:Ending→World→Prop} {t:Nat} {v:Value} (hr:fn.results=#[.tmp t]) (hd:E.ds=[]) (h:look G t=some v) (k:∀ w,St E.w0 E.S H w→R (.returned v) w):
 PW E (Du P fn R) G H:=eC (rs:=[.tmp t]) (vs:=[v]) hr hd (aL.tmp h aL.nil) k
/-! ### more on code -/
theorem bZ {id:Nat} {l:List Oper} {y:Code} (h:RW P E l.toArray (Pst.then (y.wp P Q.fn) Q) l G H):CW P E (.seq (.region id l.toArray false) y) Q G H:=ar (aj h)
theorem ah {c:Code} (h:CW P E c Q G H):PW E (c.wp P Q.fn) G H:=h
theorem aw {fn:Func} {R:Ending→World→Prop} {t:Nat} {v:Value} (hK:Q.ret=Du P fn R) (hr:fn.results=#[.tmp t]) (hd:E.ds=[]) (h:look G t=some v) (k:∀ w,St E.w0 E.S H w→R (.returned v) w):CW P E .ret Q G H:=y7 hK (DD hr hd h k)
theorem aZ {fn:Func} {R:Ending→World→Prop} {rs:List ResultVar} {vs:List Value} (hK:Q.ret=Du P fn R) (hr:fn.results=rs.toArray) (hd:E.ds=[]) (h:aL P E G H rs vs) (k:∀ w,St E.w0 E.S H w→R (.returned (s7 vs)) w):CW P E .ret Q G H:=y7 hK (eC hr hd h k)
theorem bp {ι:Type} {g:ι→List (Nat × Value)} {h:ι→List HP} {m:ι→Nat} {n:Nat} (j:ι) (hs:Sub (g j) G) (hh:∀ {w},St E.w0 E.S H w→St E.w0 E.S (h j) w) (hm:m j < n):
 PW E (fun a w=>∃ j,Fr E.N E.ds a (g j)∧St E.w0 E.S (h j) w∧m j < n) G H:=fun a w hf hw=>⟨j,hf.sub hs,hh hw,hm⟩
theorem Pa {E:Env} {G:List (Nat × Value)} {H:List HP} {ι:Type} {g:ι→List (Nat × Value)} {h:ι→List HP} {m:ι→Nat} {n:Nat} (j:ι) (hs:Sub (g j) G:=by repeat' (first|exact trivial|refine ⟨rfl,?_⟩)) (hh:∀ {w},St E.w0 E.S H w→St E.w0 E.S (h j) w:=by exact fun h=>h) (hm:m j < n:=by dsimp only;omega):PW E (fun a w=>∃ j,Fr E.N E.ds a (g j)∧St E.w0 E.S (h j) w∧m j < n) G H:=bp j hs hh hm
theorem aC {ι:Type} {g:ι→List (Nat × Value)} {h:ι→List HP} (j:ι) (hs:Sub (g j) G) (hh:∀ {w},St E.w0 E.S H w→St E.w0 E.S (h j) w):
 PW E (fun a w=>∃ j,Fr E.N E.ds a (g j)∧St E.w0 E.S (h j) w) G H:=fun a w hf hw=>⟨j,hf.sub hs,hh hw⟩
/-! ### the same for code and for what is left of a region -/
theorem fk {c0:Code} {φ:Prop} (h:∀ w,St E.w0 E.S H w→φ) (k:φ→CW P E c0 Q G H):CW P E c0 Q G H:=um h k
theorem AX {ι:Type} (pre:List HP) {r:List HP} {c:HP} (c':ι→HP) (hc:∀ w F,c.p w F→∃ i,(c' i).p w F) (k:∀ i,RW P E ops Q rest G (pre++c' i::r)):RW P E ops Q rest G (pre++c::r):=A0 pre c' hc k
theorem mQ (pre:List HP) {r:List HP} {c:HP} (c':HP) (hc:∀ w F,c.p w F→c'.p w F) (k:RW P E ops Q rest G (pre++c'::r)):RW P E ops Q rest G (pre++c::r):=yX pre c' hc k
theorem yK (pre:List HP) {r:List HP} {c d:HP} (k:RW P E ops Q rest G (pre++c::d::r)):RW P E ops Q rest G (pre++s5 c d::r):=yU pre k
theorem yM (pre:List HP) {r:List HP} {φ:Prop} (k:φ→RW P E ops Q rest G (pre++r)):RW P E ops Q rest G (pre++s9 φ::r):=yW pre k
theorem fY {φ:Prop} (h:∀ w,St E.w0 E.S H w→φ) (k:φ→RW P E ops Q rest G H):RW P E ops Q rest G H:=um h k
/-! ### calls that turn some chunks -/
def iT (P:Program) (f:FuncId) (args:List Value) (w:World) (F:Nat→Prop) {α:Type} (V:α→Value) (c:α→List HP):Prop:=
 Calls P f args.toArray w (fun e w'=>∃ x,e=.returned (V x)∧St w F (c x) w')
section
variable {dst:Nat} {ty:TypeId} {pos:String} {af:Array Edge} {l:List Operand} {vs caps:List Value} {at_:Array TypeId} {f:FuncId} {fv:Operand}
end
end
end
end Go.Proofs.YtbcdgcodnkgdoaaGreat
namespace Go.Proofs.YtbcdgcodnkgdoaaGreat
open Go Go.RowKit Go.ChangeShapes Go.WideShapes Go.ChangeAt Go.Deep
theorem uq:∀ k:K,0 < k.sz
 | .int _=>Nat.one_pos
 | .bool=>Nat.one_pos
 | .str=>Nat.one_pos
 | .sl _ _=>Nat.one_pos
 | .pr a b=>by
  have:=uq a;show 0 < a.sz + b.sz;omega
mutual
inductive TyK (P:Program):TypeId→K→Prop
 | int {t:TypeId} {k:IntKind}:P.underlying t=some (.int k)→TyK P t (.int k)
 | bool {t:TypeId}:P.underlying t=some .bool→TyK P t .bool
 | str {t:TypeId}:P.underlying t=some .string→TyK P t .str
 | sl {t e:TypeId} {by_:Nat} {k:K}:P.underlying t=some (.slice e)→P.bytesOf e=by_→P.cellsOf e=k.sz→TyK P e k→TyK P t (.sl by_ k)
 | st {t:TypeId} {fs:Array Field} {k:K}:P.underlying t=some (.struct fs)→P.cellsOf t=k.sz→Fx P 0 fs.toList k→TyK P t k
inductive Fx (P:Program):Nat→List Field→K→Prop
 | one {f:Field} {off:Nat} {k:K}:f.offset=off→P.cellsOf f.type=k.sz→TyK P f.type k→Fx P off [f] k
 | cons {f:Field} {fs:List Field} {off:Nat} {a b:K}:f.offset=off→P.cellsOf f.type=a.sz→TyK P f.type a→Fx P (off + a.sz) fs b→Fx P off (f::fs) (.pr a b)
end
theorem ui {a:Addr} {n:Nat} (h:a.spot=none):a.add n=⟨a.block,a.off + n,none⟩:=by
 obtain ⟨b,o,s⟩:=a;cases h
 unfold Addr.add;split <;> simp_all
theorem CT {α:Type} {n:Nat} {p:Nat→α→Prop} (h:∀ i,i < n→∃ x,p i x):∃ xs:List α,xs.length=n∧∀ (i:Nat) (x:α),xs[i]?=some x→p i x:=by
 induction n with
 | zero=>exact ⟨[],rfl,fun i x h=>by simp at h⟩
 | succ len ihl=>
  obtain ⟨xs,h1,h2⟩:=ihl (fun i hi=>h i (by omega));obtain ⟨x,h3⟩:=h len (by omega);refine ⟨xs++[x],by simp [h1],fun i y hy=>?_⟩;rcases Nat.lt_or_ge i xs.length with hi | hi
  ·rw [List.getElem?_append_left hi] at hy
   exact h2 i y hy
  ·rw [List.getElem?_append_right hi] at hy
   have h0:i - xs.length=0:=by
    have:=(List.getElem?_eq_some_iff.1 hy).1;simp at this;omega
   rw [h0] at hy;simp only [List.getElem?_cons_zero,Option.some.injEq] at hy;subst hy;rw [show i=len by omega];exact h3
section
variable {H:Type} {enc:TypeId × Value→H} {P:Program} {w:World} {base:Nat} {spare:Nat→Bool} {held:Bool}
theorem ym {a:Addr} {v:Value} (h:w.cell? a=some v):a.spot=none:=by
 unfold World.cell? at h;cases hs:a.spot with
 | none=>rfl
 | some s=>
  split at h
  ·simp [hs] at h
  ·cases h
theorem q9 (a:Addr):a.add 0=a:=by unfold Addr.add;simp
theorem all_append {l l':List Nat} (h:(l++l').all (·≤reachBytes)=true):l.all (·≤reachBytes)=true∧l'.all (·≤reachBytes)=true:=by
 rw [List.all_append,Bool.and_eq_true] at h;exact h
theorem mY {e:TypeId}:∀ {l:List (DataW H)} (h:(DataW.weightsAll P e l).all (·≤reachBytes)=true) {d:DataW H},d∈l→(d.weights P e).all (·≤reachBytes)=true:=by
 intro l;induction l with
 | nil=>intro _ d hd;cases hd
 | cons y l ih=>
  intro h d hd;rw [DataW.weightsAll] at h;obtain ⟨h1,h2⟩:=all_append h;rcases List.mem_cons.1 hd with rfl | hd
  ·exact h1
  ·exact ih h2 hd
def BW (enc:TypeId × Value→H) (P:Program) (w:World) (base:Nat) (spare:Nat→Bool) (held:Bool) (t:TypeId) (k:K):Prop:=
 ∀ (fuel:Nat) (cs:List Value) (d:DataW H) (p:List MemPlace),DataW.trod enc P w base spare held fuel t cs=some (d,p)→w.noneFrozen p→(d.weights P t).all (·≤reachBytes)=true→∃ x:k.V,Rd k (mem w Any) cs x
def Fa (enc:TypeId × Value→H) (P:Program) (w:World) (base:Nat) (spare:Nat→Bool) (held:Bool) (off:Nat) (fs:List Field) (k:K):Prop:=
 ∀ (fuel:Nat) (cs:List Value) (xs:List (DataW H × List MemPlace)),cs.length=off + k.sz→(∀ (i:Nat) (f:Field),fs[i]?=some f→DataW.trod enc P w base spare held fuel f.type ((cs.drop f.offset).take (P.cellsOf f.type))=xs[i]?)→xs.length=fs.length→(∀ x∈xs,w.noneFrozen x.2)→
  (DataW.weightsEach P (fs.map (·.type)) (xs.map (·.1))).all (·≤reachBytes)=true→∃ x:k.V,Rd k (mem w Any) (cs.drop off) x
theorem v5 {t:TypeId} {k:K} (h:TyK P t k):BW enc P w base spare held t k:=by
 refine TyK.rec (motive_1:=fun t k _=>BW enc P w base spare held t k) (motive_2:=fun off fs k _=>Fa enc P w base spare held off fs k) ?_ ?_ ?_ ?_ ?_ ?_ ?_ h
 ·intro t k ht fuel cs d p hd _ _
  obtain ⟨n,rfl,_,hw⟩:=DataW.trod_int ht hd;exact ⟨n,rfl,hw⟩
 ·intro t ht fuel cs d p hd _ _
  obtain ⟨n,rfl,_⟩:=DataW.trod_bool ht hd;exact ⟨n,rfl⟩
 ·intro t ht fuel cs d p hd _ hw
  obtain ⟨n,rfl,hx,_⟩:=DataW.trod_string ht hd;cases hx
  rw [DataW.weights] at hw;refine ⟨n,rfl,?_⟩;rw [List.all_cons,Bool.and_eq_true,decide_eq_true_eq,Array.length_toList] at hw;exact hw.1
 ·intro t e by_ k ht hb hc _ ih fuel cs d p hd hfz hw
  rcases open_slice ht hd with ⟨rfl,_⟩ | ⟨a,len,cap,m,n,D,Pl,rfl,_,hl,hm,hmm,hx,hel⟩
  ·exact ⟨[],none,0,rfl,Nat.le_refl _,Nat.zero_le _,by show 0 * _≤_;omega,nv.nil⟩
  ·cases hx
   rw [DataW.weights,ht] at hw;simp only [List.all_cons,Bool.and_eq_true,decide_eq_true_eq,List.length_map,List.length_range] at hw;obtain ⟨hw1,hw2⟩:=hw;obtain ⟨hw2,hw3⟩:=all_append hw2;have hlm:len≤m:=by rw [hmm];split <;> omega
   have hone:∀ i,i < len→∃ (x:k.V) (cs:List Value),cs.length=k.sz∧Rd k (mem w Any) cs x∧∀ (j:Nat) (v:Value),cs[j]?=some v→w.cell? ((a.add (i * k.sz)).add j)=some v:=by
    intro i hi;obtain ⟨cs,h1,h2⟩:=hel i (by omega);obtain ⟨_,h3,h4⟩:=World.cells?_some h1;rw [hc] at h3 h4;obtain ⟨x,hx⟩:=ih n cs (D i) (Pl i) h2 (fun b o hbo=>hfz b o (List.mem_append.2 (.inr (List.mem_flatMap.2 ⟨i,List.mem_range.2 (by omega),hbo⟩)))) (mY hw2 (List.mem_map.2 ⟨i,List.mem_range.2 hi,rfl⟩));refine ⟨x,cs,h3,hx,fun j v hv=>?_⟩;have hj:j < k.sz:=by rw [← h3];exact (List.getElem?_eq_some_iff.1 hv).1
    rw [h4 j hj,hv]
   have hsome:∃ xs:List k.V,xs.length=len∧∀ (i:Nat) (x:k.V),xs[i]?=some x→∃ cs:List Value,cs.length=k.sz∧Rd k (mem w Any) cs x∧∀ (j:Nat) (v:Value),cs[j]?=some v→w.cell? ((a.add (i * k.sz)).add j)=some v:=by
    exact CT hone
   obtain ⟨xs,hxl,hxs⟩:=hsome;refine ⟨xs,some a,cap,by rw [hxl],by rw [hxl];exact hl,by unfold dK;unfold maxLen at hm;omega,?_,fun hne=>?_⟩
   ·rw [hxl,← hb]
    have h5:len * P.bytesOf e≤(len + (m - len)) * P.bytesOf e:=Nat.mul_le_mul_right _ (by omega);unfold br;unfold reachBytes at hw1;omega
   ·obtain ⟨y,hy⟩:∃ y,xs[0]?=some y:=by
     cases xs with
     | nil=>exact absurd rfl hne
     | cons y _=>exact ⟨y,rfl⟩
    have hspot:a.spot=none:=by
     obtain ⟨cs,h1,_,h2⟩:=hxs 0 y hy;have hz:=uq k;have:=ym (h2 0 _ (List.getElem?_eq_getElem (by omega)))
     rwa [Nat.zero_mul,q9,q9] at this
    refine ⟨a.block,a.off,by rw [← hspot],fun j x hj=>?_⟩;obtain ⟨cs,h1,h2,h3⟩:=hxs j x hj;refine ⟨cs,h1,h2,fun i v hv=>?_⟩;have hil:i < k.sz:=by rw [← h1];exact (List.getElem?_eq_some_iff.1 hv).1
    refine ⟨⟨trivial,hfz _ _ (List.mem_append.2 (.inl (List.mem_map.2 ⟨j * k.sz + i,List.mem_range.2 ?_,by rw [Nat.add_assoc]⟩)))⟩,?_⟩
    ·have hjl:j < len:=by rw [← hxl];exact (List.getElem?_eq_some_iff.1 hj).1
     rw [hc];exact Nat.lt_of_lt_of_le (Nat.add_lt_add_left hil _) (Nat.le_trans (Nat.le_of_eq (Nat.succ_mul j k.sz).symm) (Nat.mul_le_mul_right _ (by omega)))
    have:=h3 i v hv
    rwa [ui hspot,ui rfl] at this
 ·intro t fs k ht hc _ ih fuel cs d p hd hfz hw
  obtain ⟨xs,n,_,hx,hl,hlen,hf⟩:=DataW.trod_struct ht hd;cases hx
  rw [DataW.weights,ht] at hw;exact ih n cs xs (by rw [hl,hc];omega) (fun i f hi=>hf i f (by rw [← Array.getElem?_toList];exact hi)) (by rw [hlen];rfl) (fun x hx b o hbo=>hfz b o (List.mem_flatMap.2 ⟨x,hx,hbo⟩)) hw
 ·intro f off k ho hc _ ih fuel cs xs hl hf hlen hfz hw
  subst ho
  match xs,hlen with
  | [(d,p)],_=>
   have h1:=hf 0 f rfl;rw [List.take_of_length_le (by rw [List.length_drop,hc];omega)] at h1;exact ih fuel _ d p h1 (hfz _ (List.mem_cons_self ..)) (by simpa [DataW.weightsEach] using hw)
 ·intro f fs off a b ho hc _ _ iha ihb fuel cs xs hl hf hlen hfz hw
  subst ho;have hl':cs.length=f.offset + (a.sz + b.sz):=hl
  match xs,hlen with
  | (d,p)::xs,hlen=>
   have h1:=hf 0 f rfl;have hw':(d.weights P f.type++DataW.weightsEach P (fs.map (·.type)) (xs.map (·.1))).all (·≤reachBytes)=true:=hw;obtain ⟨hw1,hw2⟩:=all_append hw';obtain ⟨x,hx⟩:=iha fuel _ d p h1 (hfz _ (List.mem_cons_self ..)) hw1;obtain ⟨y,hy⟩:=ihb fuel cs xs (by omega) (fun i g hg=>hf (i + 1) g hg) (by simpa using hlen) (fun x hx=>hfz x (List.mem_cons_of_mem _ hx)) hw2;refine ⟨(x,y),_,_,?_,hx,hy⟩;rw [hc,← List.drop_drop,List.take_append_drop]
end
end Go.Proofs.YtbcdgcodnkgdoaaGreat
namespace Go.Proofs.YtbcdgcodnkgdoaaGreat
open Go Go.RowKit
section
section
variable {P:Program} {E:Env} {ops:Array Oper} {Q:Pst} {rest:List Oper} {G:List (Nat × Value)} {H:List HP}
variable {dst:Nat} {ty:TypeId} {pos:String} {af:Array Edge} {t tx ty':TypeId} {d d':TypeDesc} {z z':Value} {sz sz' by_ by':Nat} {x y:Operand} {u v:Value} {a b c:Int} {k kk:IntKind} {p q:Bool} {s1 s2:ByteArray}
theorem Ja {id:Nat} {l:List Oper} {y:Code} (k0:RW P E l.toArray (Pst.then (y.wp P Q.fn) Q) l G H):CW P E (.seq (.region id l.toArray false) y) Q G H:=bZ k0
theorem Jb {y:Code} {Q2:Pst} (k0:CW P E y Q2 G H):RW P E ops (Pst.then (y.wp P Q2.fn) Q2) [] G H:=Dy k0
theorem Jc (k0:RW P E ops Q rest ((dst,v)::G) H) (hx:ev G x=some v:=by exact rfl) (hN:Nat.blt dst E.N=true:=by exact rfl):RW P E ops Q (⟨some dst,.move x,ty,pos,af,none⟩::rest) G H:=Dz hx hN k0
theorem Jd (k0:RW P E ops Q rest ((dst,v)::G) H) (hx:ev G x=some v:=by exact rfl) (hN:Nat.blt dst E.N=true:=by exact rfl):RW P E ops Q (⟨some dst,.assign x,ty,pos,af,none⟩::rest) G H:=rk hx hN k0
theorem Je {s:TypeId} {i off B O:Nat} [F:FA P s i off] (k0:RW P E ops Q rest ((dst,.pointer (some ⟨B,O + off,none⟩))::G) H) (hx:ev G x=some (.pointer (some ⟨B,O,none⟩)):=by exact rfl) (hN:Nat.blt dst E.N=true:=by exact rfl):RW P E ops Q (⟨some dst,.fieldAddr s x i,ty,pos,af,none⟩::rest) G H:=iI hx hN k0
theorem Jf {A:Addr} (k0:RW P E ops Q rest ((dst,.pointer (some A))::G) H) (hx:ev G x=some (.pointer (some A)):=by exact rfl) (hN:Nat.blt dst E.N=true:=by exact rfl):RW P E ops Q (⟨some dst,.nilCheck x,ty,pos,af,none⟩::rest) G H:=jn hx hN k0
theorem Jg {e:TypeId} {A:Option Addr} {n cp:Nat} [T:Ty P t (.slice e) z sz by_] (k0:RW P E ops Q rest ((dst,.int .i64 n)::G) H) (hx:ev G x=some (.slice A n cp):=by exact rfl) (hN:Nat.blt dst E.N=true:=by exact rfl):RW P E ops Q (⟨some dst,.call ⟨.builtin .len,#[x],#[t]⟩,ty,pos,af,none⟩::rest) G H:=E3 hx hN k0
theorem Ji (k0:RW P E ops Q rest ((dst,.bool (decide (a=b)))::G) H) (hx:ev G x=some (.int k a):=by exact rfl) (hy:ev G y=some (.int k b):=by exact rfl) (hN:Nat.blt dst E.N=true:=by exact rfl):RW P E ops Q (⟨some dst,.binOp .eql t x y ty',ty,pos,af,none⟩::rest) G H:=B8 hx hy hN k0
theorem Jj (k0:RW P E ops Q rest ((dst,.bool (decide (¬ a=b)))::G) H) (hx:ev G x=some (.int k a):=by exact rfl) (hy:ev G y=some (.int k b):=by exact rfl) (hN:Nat.blt dst E.N=true:=by exact rfl):RW P E ops Q (⟨some dst,.binOp .neq t x y ty',ty,pos,af,none⟩::rest) G H:=EZ hx hy hN k0
theorem Jk (k0:RW P E ops Q rest ((dst,.bool (decide (a < b)))::G) H) (hx:ev G x=some (.int k a):=by exact rfl) (hy:ev G y=some (.int k b):=by exact rfl) (hN:Nat.blt dst E.N=true:=by exact rfl):RW P E ops Q (⟨some dst,.binOp .lss t x y ty',ty,pos,af,none⟩::rest) G H:=E1 hx hy hN k0
theorem Jl (k0:RW P E ops Q rest ((dst,.bool (decide (a≤b)))::G) H) (hx:ev G x=some (.int k a):=by exact rfl) (hy:ev G y=some (.int k b):=by exact rfl) (hN:Nat.blt dst E.N=true:=by exact rfl):RW P E ops Q (⟨some dst,.binOp .leq t x y ty',ty,pos,af,none⟩::rest) G H:=E2 hx hy hN k0
theorem Jm (k0:RW P E ops Q rest ((dst,.bool (decide (b < a)))::G) H) (hx:ev G x=some (.int k a):=by exact rfl) (hy:ev G y=some (.int k b):=by exact rfl) (hN:Nat.blt dst E.N=true:=by exact rfl):RW P E ops Q (⟨some dst,.binOp .gtr t x y ty',ty,pos,af,none⟩::rest) G H:=E4 hx hy hN k0
theorem Jn (k0:RW P E ops Q rest ((dst,.bool (decide (b≤a)))::G) H) (hx:ev G x=some (.int k a):=by exact rfl) (hy:ev G y=some (.int k b):=by exact rfl) (hN:Nat.blt dst E.N=true:=by exact rfl):RW P E ops Q (⟨some dst,.binOp .geq t x y ty',ty,pos,af,none⟩::rest) G H:=E5 hx hy hN k0
theorem Js (k0:RW P E ops Q rest ((dst,.bool (!p))::G) H) (hx:ev G x=some (.bool p):=by exact rfl) (hN:Nat.blt dst E.N=true:=by exact rfl):RW P E ops Q (⟨some dst,.unOp .not t x,ty,pos,af,none⟩::rest) G H:=EY hx hN k0
theorem Jt {vs:List Value} {i:Nat} (k0:RW P E ops Q rest ((dst,v)::G) H) (hx:ev G x=some (.tuple vs.toArray):=by exact rfl) (hi:vs[i]?=some v:=by exact rfl) (hN:Nat.blt dst E.N=true:=by exact rfl):RW P E ops Q (⟨some dst,.extract x i,ty,pos,af,none⟩::rest) G H:=vC hx hi hN k0
theorem Jv {c:Operand} (k0:RW P E ops Q rest ((dst,v)::G) H) (hc:ev G c=some (.bool true):=by exact rfl) (hx:ev G x=some v:=by exact rfl) (hN:Nat.blt dst E.N=true:=by exact rfl):RW P E ops Q (⟨some dst,.pick c x y,ty,pos,af,none⟩::rest) G H:=yN hc hx hN k0
theorem Jw {c:Operand} (k0:RW P E ops Q rest ((dst,v)::G) H) (hc:ev G c=some (.bool false):=by exact rfl) (hy:ev G y=some v:=by exact rfl) (hN:Nat.blt dst E.N=true:=by exact rfl):RW P E ops Q (⟨some dst,.pick c x y,ty,pos,af,none⟩::rest) G H:=yO hc hy hN k0
theorem Jx {f:Fn} {l1 l2:List Operand} {v1 v2:List Value} (k0:RW P E ops Q rest ((dst,.func f v1.toArray v2.toArray)::G) H) (h1:evs G l1=some v1:=by exact rfl) (h2:evs G l2=some v2:=by exact rfl) (hN:Nat.blt dst E.N=true:=by exact rfl):RW P E ops Q (⟨some dst,.makeFunc f l1.toArray l2.toArray,ty,pos,af,none⟩::rest) G H:=sN h1 h2 hN k0
theorem Jy {dst:Option Nat} {op:Op} {j:Nat} {want:Bool} (k0:RW P E ops Q (⟨dst,op,ty,pos,af,none⟩::rest) G H) (hg:gd ops G j want=some true:=by exact rfl):RW P E ops Q (⟨dst,op,ty,pos,af,some (j,want)⟩::rest) G H:=aJ hg k0
theorem Jz {op:Op} {j:Nat} {want:Bool} (k0:RW P E ops Q rest ((dst,undef)::G) H) (hg:gd ops G j want=some false:=by exact rfl) (hN:Nat.blt dst E.N=true:=by exact rfl):RW P E ops Q (⟨some dst,op,ty,pos,af,some (j,want)⟩::rest) G H:=Gp hg hN k0
theorem JA [T:Ty P t d z sz by_] {r:List HP} {B O:Nat} {c:List Value} {te:TypeId} (k0:RW P E ops Q rest ((dst,v)::G) ([]++blk B c te::r)) (hx:ev G x=some (.pointer (some ⟨B,O,none⟩)):=by exact rfl) (hv:c[O]?=some v:=by exact rfl) (hd:bH d=false:=by exact rfl) (hN:Nat.blt dst E.N=true:=by exact rfl):RW P E ops Q (⟨some dst,.load t x,ty,pos,af,none⟩::rest) G ([]++blk B c te::r):=dG [] hx hv hd hN k0
theorem JB {h0_:HP} [T:Ty P t d z sz by_] {r:List HP} {B O:Nat} {c:List Value} {te:TypeId} (k0:RW P E ops Q rest ((dst,v)::G) ([h0_]++blk B c te::r)) (hx:ev G x=some (.pointer (some ⟨B,O,none⟩)):=by exact rfl) (hv:c[O]?=some v:=by exact rfl) (hd:bH d=false:=by exact rfl) (hN:Nat.blt dst E.N=true:=by exact rfl):RW P E ops Q (⟨some dst,.load t x,ty,pos,af,none⟩::rest) G ([h0_]++blk B c te::r):=dG [h0_] hx hv hd hN k0
theorem JC {h0_ h1_:HP} [T:Ty P t d z sz by_] {r:List HP} {B O:Nat} {c:List Value} {te:TypeId} (k0:RW P E ops Q rest ((dst,v)::G) ([h0_,h1_]++blk B c te::r)) (hx:ev G x=some (.pointer (some ⟨B,O,none⟩)):=by exact rfl) (hv:c[O]?=some v:=by exact rfl) (hd:bH d=false:=by exact rfl) (hN:Nat.blt dst E.N=true:=by exact rfl):RW P E ops Q (⟨some dst,.load t x,ty,pos,af,none⟩::rest) G ([h0_,h1_]++blk B c te::r):=dG [h0_,h1_] hx hv hd hN k0
theorem JD {h0_ h1_ h2_:HP} [T:Ty P t d z sz by_] {r:List HP} {B O:Nat} {c:List Value} {te:TypeId} (k0:RW P E ops Q rest ((dst,v)::G) ([h0_,h1_,h2_]++blk B c te::r)) (hx:ev G x=some (.pointer (some ⟨B,O,none⟩)):=by exact rfl) (hv:c[O]?=some v:=by exact rfl) (hd:bH d=false:=by exact rfl) (hN:Nat.blt dst E.N=true:=by exact rfl):RW P E ops Q (⟨some dst,.load t x,ty,pos,af,none⟩::rest) G ([h0_,h1_,h2_]++blk B c te::r):=dG [h0_,h1_,h2_] hx hv hd hN k0
theorem JE [T:Ty P t d z sz by_] {r:List HP} {B:Nat} {c:List Value} {te:TypeId} (k0:RW P E ops Q rest ((dst,.agg c.toArray)::G) ([]++blk B c te::r)) (hx:ev G x=some (.pointer (some ⟨B,0,none⟩)):=by exact rfl) (hs:c.length=sz:=by exact rfl) (hd:bH d=true:=by exact rfl) (hN:Nat.blt dst E.N=true:=by exact rfl):RW P E ops Q (⟨some dst,.load t x,ty,pos,af,none⟩::rest) G ([]++blk B c te::r):=hZ [] hx hs hd hN k0
theorem JF {h0_:HP} [T:Ty P t d z sz by_] {r:List HP} {B:Nat} {c:List Value} {te:TypeId} (k0:RW P E ops Q rest ((dst,.agg c.toArray)::G) ([h0_]++blk B c te::r)) (hx:ev G x=some (.pointer (some ⟨B,0,none⟩)):=by exact rfl) (hs:c.length=sz:=by exact rfl) (hd:bH d=true:=by exact rfl) (hN:Nat.blt dst E.N=true:=by exact rfl):RW P E ops Q (⟨some dst,.load t x,ty,pos,af,none⟩::rest) G ([h0_]++blk B c te::r):=hZ [h0_] hx hs hd hN k0
theorem JG {h0_ h1_:HP} [T:Ty P t d z sz by_] {r:List HP} {B:Nat} {c:List Value} {te:TypeId} (k0:RW P E ops Q rest ((dst,.agg c.toArray)::G) ([h0_,h1_]++blk B c te::r)) (hx:ev G x=some (.pointer (some ⟨B,0,none⟩)):=by exact rfl) (hs:c.length=sz:=by exact rfl) (hd:bH d=true:=by exact rfl) (hN:Nat.blt dst E.N=true:=by exact rfl):RW P E ops Q (⟨some dst,.load t x,ty,pos,af,none⟩::rest) G ([h0_,h1_]++blk B c te::r):=hZ [h0_,h1_] hx hs hd hN k0
theorem JM {y:Code} {Q2:Pst} (k0:CW P E y Q2 G H):CW P E .skip (Pst.then (y.wp P Q2.fn) Q2) G H:=rr k0
end
end
section
instance ty3:Ty Tryz.prog 3 (.int .i64) (.int .i64 0) 1 8:=⟨Tryz.underlying3,by kernel_rfl⟩
instance ty4:Ty Tryz.prog 4 (.bool) (.bool false) 1 1:=⟨Tryz.underlying4,by kernel_rfl⟩
instance DP:Ty Tryz.prog 22 (.slice 26) (.slice none 0 0) 1 24:=⟨Tryz.underlying22,by kernel_rfl⟩
instance GM:Ty Tryz.prog 23 (.slice 51) (.slice none 0 0) 1 24:=⟨Tryz.underlying23,by kernel_rfl⟩
instance DO : Ty Tryz.prog 25 (.struct #[{ name := "Lits", type := 3, offset := 0, embedded := false, tag := "", pkgPath := "", byteOffset := 0 }, { name := "Foes", type := 22, offset := 1, embedded := false, tag := "", pkgPath := "", byteOffset := 8 }, { name := "Rules", type := 23, offset := 2, embedded := false, tag := "", pkgPath := "", byteOffset := 32 }, { name := "Beats", type := 22, offset := 3, embedded := false, tag := "", pkgPath := "", byteOffset := 56 }]) (.agg #[.int .i64 0, .slice none 0 0, .slice none 0 0, .slice none 0 0]) 4 80 := ⟨Tryz.underlying25, by kernel_rfl⟩
instance vJ:Ty Tryz.prog 26 (.slice 3) (.slice none 0 0) 1 24:=⟨Tryz.underlying26,by kernel_rfl⟩
instance GL:Ty Tryz.prog 33 (.slice 45) (.slice none 0 0) 1 24:=⟨Tryz.underlying33,by kernel_rfl⟩
instance FD : Ty Tryz.prog 41 (.struct #[{ name := "Queued", type := 3, offset := 0, embedded := false, tag := "", pkgPath := "", byteOffset := 0 }, { name := "Updates", type := 3, offset := 1, embedded := false, tag := "", pkgPath := "", byteOffset := 8 }]) (.agg #[.int .i64 0, .int .i64 0]) 2 16 := ⟨Tryz.underlying41, by kernel_rfl⟩
instance Ha:Ty Tryz.prog 45 (.int .u8) (.int .u8 0) 1 1:=⟨Tryz.underlying45,by kernel_rfl⟩
instance GK:Ty Tryz.prog 49 (.int .i64) (.int .i64 0) 1 8:=⟨Tryz.underlying49,by kernel_rfl⟩
instance FC : Ty Tryz.prog 51 (.struct #[{ name := "Kind", type := 49, offset := 0, embedded := false, tag := "", pkgPath := "", byteOffset := 0 }, { name := "Head", type := 3, offset := 1, embedded := false, tag := "", pkgPath := "", byteOffset := 8 }, { name := "Body", type := 26, offset := 2, embedded := false, tag := "", pkgPath := "", byteOffset := 16 }]) (.agg #[.int .i64 0, .int .i64 0, .slice none 0 0]) 3 40 := ⟨Tryz.underlying51, by kernel_rfl⟩
instance G9:Ty Tryz.prog 67 (.pointer 73) (.pointer none) 1 8:=⟨Tryz.underlying67,by kernel_rfl⟩
instance GJ:Ty Tryz.prog 69 (.slice 111) (.slice none 0 0) 1 24:=⟨Tryz.underlying69,by kernel_rfl⟩
instance DN:Ty Tryz.prog 70 (.slice 4) (.slice none 0 0) 1 24:=⟨Tryz.underlying70,by kernel_rfl⟩
instance GI:Ty Tryz.prog 71 (.slice 148) (.slice none 0 0) 1 24:=⟨Tryz.underlying71,by kernel_rfl⟩
instance nD : Ty Tryz.prog 73 (.struct #[{ name := "t", type := 25, offset := 0, embedded := false, tag := "", pkgPath := "lexprior/fast", byteOffset := 0 }, { name := "marks", type := 33, offset := 4, embedded := false, tag := "", pkgPath := "lexprior/fast", byteOffset := 80 }, { name := "told", type := 69, offset := 5, embedded := false, tag := "", pkgPath := "lexprior/fast", byteOffset := 104 }, { name := "first", type := 3, offset := 6, embedded := false, tag := "", pkgPath := "lexprior/fast", byteOffset := 128 }, { name := "count", type := 41, offset := 7, embedded := false, tag := "", pkgPath := "lexprior/fast", byteOffset := 136 }, { name := "in", type := 22, offset := 9, embedded := false, tag := "", pkgPath := "lexprior/fast", byteOffset := 152 }, { name := "needD", type := 26, offset := 10, embedded := false, tag := "", pkgPath := "lexprior/fast", byteOffset := 176 }, { name := "need", type := 26, offset := 11, embedded := false, tag := "", pkgPath := "lexprior/fast", byteOffset := 200 }, { name := "deadD", type := 70, offset := 12, embedded := false, tag := "", pkgPath := "lexprior/fast", byteOffset := 224 }, { name := "dead", type := 70, offset := 13, embedded := false, tag := "", pkgPath := "lexprior/fast", byteOffset := 248 }, { name := "strict", type := 26, offset := 14, embedded := false, tag := "", pkgPath := "lexprior/fast", byteOffset := 272 }, { name := "backs", type := 26, offset := 15, embedded := false, tag := "", pkgPath := "lexprior/fast", byteOffset := 296 }, { name := "backed", type := 70, offset := 16, embedded := false, tag := "", pkgPath := "lexprior/fast", byteOffset := 320 }, { name := "open", type := 26, offset := 17, embedded := false, tag := "", pkgPath := "lexprior/fast", byteOffset := 344 }, { name := "clash", type := 70, offset := 18, embedded := false, tag := "", pkgPath := "lexprior/fast", byteOffset := 368 }, { name := "attacks", type := 26, offset := 19, embedded := false, tag := "", pkgPath := "lexprior/fast", byteOffset := 392 }, { name := "standing", type := 70, offset := 20, embedded := false, tag := "", pkgPath := "lexprior/fast", byteOffset := 416 }, { name := "pairs", type := 71, offset := 21, embedded := false, tag := "", pkgPath := "lexprior/fast", byteOffset := 440 }, { name := "of", type := 22, offset := 22, embedded := false, tag := "", pkgPath := "lexprior/fast", byteOffset := 464 }, { name := "beats", type := 22, offset := 23, embedded := false, tag := "", pkgPath := "lexprior/fast", byteOffset := 488 }]) (.agg #[.int .i64 0, .slice none 0 0, .slice none 0 0, .slice none 0 0, .slice none 0 0, .slice none 0 0, .int .i64 0, .int .i64 0, .int .i64 0, .slice none 0 0, .slice none 0 0, .slice none 0 0, .slice none 0 0, .slice none 0 0, .slice none 0 0, .slice none 0 0, .slice none 0 0, .slice none 0 0, .slice none 0 0, .slice none 0 0, .slice none 0 0, .slice none 0 0, .slice none 0 0, .slice none 0 0]) 24 512 := ⟨Tryz.underlying73, by kernel_rfl⟩
instance G8:Ty Tryz.prog 92 (.func #[3] #[] false) (.nilFunc) 1 8:=⟨Tryz.underlying92,by kernel_rfl⟩
instance GQ:Ty Tryz.prog 106 (.array 5 92) (.agg #[.nilFunc,.nilFunc,.nilFunc,.nilFunc,.nilFunc]) 5 40:=⟨Tryz.underlying106,by kernel_rfl⟩
instance DX : Ty Tryz.prog 111 (.struct #[{ name := "A", type := 3, offset := 0, embedded := false, tag := "", pkgPath := "", byteOffset := 0 }, { name := "B", type := 3, offset := 1, embedded := false, tag := "", pkgPath := "", byteOffset := 8 }]) (.agg #[.int .i64 0, .int .i64 0]) 2 16 := ⟨Tryz.underlying111, by kernel_rfl⟩
instance GP:Ty Tryz.prog 135 (.int .u64) (.int .u64 0) 1 8:=⟨Tryz.underlying135,by kernel_rfl⟩
instance Ch : Ty Tryz.prog 138 (.struct #[{ name := "T", type := 25, offset := 0, embedded := false, tag := "", pkgPath := "", byteOffset := 0 }, { name := "Facts", type := 26, offset := 4, embedded := false, tag := "", pkgPath := "", byteOffset := 80 }, { name := "For", type := 22, offset := 5, embedded := false, tag := "", pkgPath := "", byteOffset := 104 }]) (.agg #[.int .i64 0, .slice none 0 0, .slice none 0 0, .slice none 0 0, .slice none 0 0, .slice none 0 0]) 6 128 := ⟨Tryz.underlying138, by kernel_rfl⟩
instance zl : Ty Tryz.prog 148 (.struct #[{ name := "q", type := 3, offset := 0, embedded := false, tag := "", pkgPath := "lexprior/fast", byteOffset := 0 }, { name := "s", type := 3, offset := 1, embedded := false, tag := "", pkgPath := "lexprior/fast", byteOffset := 8 }, { name := "settled", type := 4, offset := 2, embedded := false, tag := "", pkgPath := "lexprior/fast", byteOffset := 16 }, { name := "left", type := 3, offset := 3, embedded := false, tag := "", pkgPath := "lexprior/fast", byteOffset := 24 }]) (.agg #[.int .i64 0, .int .i64 0, .bool false, .int .i64 0]) 4 32 := ⟨Tryz.underlying148, by kernel_rfl⟩
instance FE:Ty Tryz.prog 188 (.func #[3] #[26] false) (.nilFunc) 1 8:=⟨Tryz.underlying188,by kernel_rfl⟩
instance pG : Ty Tryz.prog 190 (.struct #[{ name := "next", type := 188, offset := 0, embedded := false, tag := "", pkgPath := "lexprior/theory", byteOffset := 0 }, { name := "index", type := 26, offset := 1, embedded := false, tag := "", pkgPath := "lexprior/theory", byteOffset := 8 }, { name := "low", type := 26, offset := 2, embedded := false, tag := "", pkgPath := "lexprior/theory", byteOffset := 32 }, { name := "on", type := 70, offset := 3, embedded := false, tag := "", pkgPath := "lexprior/theory", byteOffset := 56 }, { name := "stack", type := 26, offset := 4, embedded := false, tag := "", pkgPath := "lexprior/theory", byteOffset := 80 }, { name := "of", type := 26, offset := 5, embedded := false, tag := "", pkgPath := "lexprior/theory", byteOffset := 104 }, { name := "count", type := 3, offset := 6, embedded := false, tag := "", pkgPath := "lexprior/theory", byteOffset := 128 }, { name := "knots", type := 3, offset := 7, embedded := false, tag := "", pkgPath := "lexprior/theory", byteOffset := 136 }]) (.agg #[.nilFunc, .slice none 0 0, .slice none 0 0, .slice none 0 0, .slice none 0 0, .slice none 0 0, .int .i64 0, .int .i64 0]) 8 144 := ⟨Tryz.underlying190, by kernel_rfl⟩
instance GO:Ty Tryz.prog 192 (.slice 193) (.slice none 0 0) 1 24:=⟨Tryz.underlying192,by kernel_rfl⟩
instance GN:Ty Tryz.prog 193 (.map 3 3) (.map none) 1 8:=⟨Tryz.underlying193,by kernel_rfl⟩
instance:FA Tryz.prog 25 0 0:=FA.of DO ty3 rfl rfl
instance:FA Tryz.prog 25 1 1:=FA.of DO DP rfl rfl
instance:FA Tryz.prog 25 2 2:=FA.of DO GM rfl rfl
instance:FA Tryz.prog 25 3 3:=FA.of DO DP rfl rfl
instance:FA Tryz.prog 41 0 0:=FA.of FD ty3 rfl rfl
instance:FA Tryz.prog 41 1 1:=FA.of FD ty3 rfl rfl
instance:FA Tryz.prog 51 0 0:=FA.of FC GK rfl rfl
instance:FA Tryz.prog 51 1 1:=FA.of FC ty3 rfl rfl
instance:FA Tryz.prog 51 2 2:=FA.of FC vJ rfl rfl
instance:FA Tryz.prog 73 0 0:=FA.of nD DO rfl rfl
instance:FA Tryz.prog 73 1 4:=FA.of nD GL rfl rfl
instance:FA Tryz.prog 73 2 5:=FA.of nD GJ rfl rfl
instance:FA Tryz.prog 73 3 6:=FA.of nD ty3 rfl rfl
instance:FA Tryz.prog 73 4 7:=FA.of nD FD rfl rfl
instance:FA Tryz.prog 73 5 9:=FA.of nD DP rfl rfl
instance:FA Tryz.prog 73 6 10:=FA.of nD vJ rfl rfl
instance:FA Tryz.prog 73 7 11:=FA.of nD vJ rfl rfl
instance:FA Tryz.prog 73 8 12:=FA.of nD DN rfl rfl
instance:FA Tryz.prog 73 9 13:=FA.of nD DN rfl rfl
instance:FA Tryz.prog 73 10 14:=FA.of nD vJ rfl rfl
instance:FA Tryz.prog 73 11 15:=FA.of nD vJ rfl rfl
instance:FA Tryz.prog 73 12 16:=FA.of nD DN rfl rfl
instance:FA Tryz.prog 73 13 17:=FA.of nD vJ rfl rfl
instance:FA Tryz.prog 73 14 18:=FA.of nD DN rfl rfl
instance:FA Tryz.prog 73 15 19:=FA.of nD vJ rfl rfl
instance:FA Tryz.prog 73 16 20:=FA.of nD DN rfl rfl
instance:FA Tryz.prog 73 17 21:=FA.of nD GI rfl rfl
instance:FA Tryz.prog 73 18 22:=FA.of nD DP rfl rfl
instance:FA Tryz.prog 73 19 23:=FA.of nD DP rfl rfl
instance:FA Tryz.prog 111 0 0:=FA.of DX ty3 rfl rfl
instance:FA Tryz.prog 111 1 1:=FA.of DX ty3 rfl rfl
instance:FA Tryz.prog 138 0 0:=FA.of Ch DO rfl rfl
instance:FA Tryz.prog 138 1 4:=FA.of Ch vJ rfl rfl
instance:FA Tryz.prog 138 2 5:=FA.of Ch DP rfl rfl
instance:FA Tryz.prog 148 0 0:=FA.of zl ty3 rfl rfl
instance:FA Tryz.prog 148 1 1:=FA.of zl ty3 rfl rfl
instance:FA Tryz.prog 148 2 2:=FA.of zl ty4 rfl rfl
instance:FA Tryz.prog 148 3 3:=FA.of zl ty3 rfl rfl
instance:FA Tryz.prog 190 0 0:=FA.of pG FE rfl rfl
instance:FA Tryz.prog 190 1 1:=FA.of pG vJ rfl rfl
instance:FA Tryz.prog 190 2 2:=FA.of pG vJ rfl rfl
instance:FA Tryz.prog 190 3 3:=FA.of pG DN rfl rfl
instance:FA Tryz.prog 190 4 4:=FA.of pG vJ rfl rfl
instance:FA Tryz.prog 190 5 5:=FA.of pG vJ rfl rfl
instance:FA Tryz.prog 190 6 6:=FA.of pG ty3 rfl rfl
instance:FA Tryz.prog 190 7 7:=FA.of pG ty3 rfl rfl
end
section
theorem St.setrow {w0 w:World} {S:Nat→Prop} {pre r:List HP} {c d:HP} (h:St w0 S (pre++c::r) w) {B:Nat} {cells:Array Value} (hB:∀ F,c.p w F→F B) (hsz:B < w.heap.size)
 (hd:∀ F,c.p w F→(∀ b,F b→b < w.heap.size)→d.p (w.setRow B cells) F):St w0 S (pre++d::r) (w.setRow B cells):=by
 obtain ⟨F,hF,hc,hr⟩:=fh h.sep;have hs:(w.setRow B cells).heap.size=w.heap.size:=by simp [World.setRow]
 have hne:∀ i,i≠B→(w.setRow B cells).heap[i]?=w.heap[i]?:=fun i hi=>by simp [World.setRow,Array.getElem?_modify,Ne.symm hi]
 refine ⟨h.kp.trans (S2:=fun i=>i=B) ⟨rfl,rfl,rfl,by rw [hs];exact Nat.le_refl _,fun i _ hn=>hne i hn⟩ (fun i hi=>hi ▸ (hF B (hB F hc)).1),Sep.push ⟨F,fun b hb=>⟨(hF b hb).1,by rw [hs];exact (hF b hb).2⟩,hd F hc (fun b hb=>(hF b hb).2),?_⟩⟩;exact Sep.keep (fun i hi _=>hne i (fun e=>hi.2 (e ▸ hB F hc))) (by rw [hs];exact Nat.le_refl _) hr
theorem wj {w:World} {B:Nat} {cells cells':Array Value} {e:TypeId} {fr:Nat × Nat} (h:w.heap[B]?=some (.cells cells e fr)):(w.setRow B cells').heap[B]?=some (.cells cells' e fr):=by
 simp [World.setRow,Array.getElem?_modify,h]
theorem eL {es:List (List Value)} {sz:Nat} (h:∀ x∈es,x.length=sz):es.flatten.length=es.length * sz:=by
 induction es with
 | nil=>simp
 | cons x es ih=>rw [List.flatten_cons,List.length_append,ih (fun y hy=>h y (by simp [hy])),h x (by simp),List.length_cons,Nat.add_mul];omega
theorem iP {es:List (List Value)} {sz:Nat} (h:∀ x∈es,x.length=sz) {i:Nat} {x:List Value} (hx:es[i]?=some x) {j:Nat} {v:Value} (hv:x[j]?=some v):es.flatten[i * sz + j]?=some v:=by
 induction es generalizing i with
 | nil=>simp at hx
 | cons y es ih=>
  have hy:y.length=sz:=h y (by simp);rw [List.flatten_cons];cases i with
  | zero=>
   simp at hx;subst hx;have:=(List.getElem?_eq_some_iff.1 hv).1;rw [Nat.zero_mul,Nat.zero_add,List.getElem?_append_left (by omega)];exact hv
  | succ i=>
   rw [List.getElem?_append_right (by rw [hy,Nat.add_mul];omega),hy,show (i + 1) * sz + j - sz=i * sz + j from by rw [Nat.add_mul];omega];exact ih (fun z hz=>h z (by simp [hz])) (by simpa using hx)
theorem iN {w0 w:World} {S:Nat→Prop} {pre r:List HP} {e:TypeId} {sz:Nat} {v:Value} {es:List (List Value)} (h:St w0 S (pre++ax e sz v es::r) w):
 (v=.slice none 0 0∧es=[])∨∃ B c,v=.slice (some ⟨B,0,none⟩) es.length c∧es.length≤c∧c≤dK∧(S B∨w0.heap.size≤B)∧(∀ x∈es,x.length=sz):=by
 obtain ⟨F,hp,hF⟩:=h.get;rcases hp with hp | ⟨B,c,tl,h1,h2,h3,h4,h5,h6,h7⟩
 ·exact .inl hp
 ·exact .inr ⟨B,c,h1,h6,h7,(hF B h2).1,h4⟩
theorem wP {w0 w:World} {S:Nat→Prop} {pre r:List HP} {e:TypeId} {sz B n c:Nat} {es:List (List Value)} (h:St w0 S (pre++ax e sz (.slice (some ⟨B,0,none⟩) n c) es::r) w):bj w B 0 es.flatten:=by
 obtain ⟨F,hp,hF⟩:=h.get;rcases hp with ⟨hp,_⟩ | ⟨B',c',tl,h1,h2,h3,h4⟩
 ·cases hp
 ·simp only [Value.slice.injEq,Option.some.injEq,Addr.mk.injEq] at h1
  obtain ⟨⟨rfl,_⟩,_,_⟩:=h1;intro i v hv;have:=a9 h3 i v (by rw [List.getElem?_append_left (List.getElem?_eq_some_iff.1 hv).1];exact hv);exact this
section
variable {P:Program} {E:Env} {ops:Array Oper} {Q:Pst} {rest:List Oper} {G:List (Nat × Value)} {H:List HP}
variable {dst:Nat} {ty:TypeId} {pos:String} {af:Array Edge} {t tx ty' e:TypeId} {d d':TypeDesc} {z z':Value} {sz sz' by_ by':Nat} {x y:Operand} {u v:Value} {a b c:Int} {k kk:IntKind}
/-! ### literals -/
def evp (G:List (Nat × Value)):List (Nat × Operand)→Option (List (Nat × Value))
 | []=>some []
 | (i,x)::r=>match ev G x with
  | some v=>match evp G r with
   | some vs=>some ((i,v)::vs)
   | none=>none
  | none=>none
theorem Fr.evalp {N:Nat} {ds:List Deferred} {a:Act} {G:List (Nat × Value)} (h:Fr N ds a G):∀ {l:List (Nat × Operand)} {vs:List (Nat × Value)},evp G l=some vs→l.map (fun p=>(p.1,a.eval p.2))=vs:=by
 intro l;induction l with
 | nil=>intro vs hv;simp [evp] at hv;simp [hv]
 | cons p r ih=>
  intro vs hv;obtain ⟨i,x⟩:=p;unfold evp at hv;cases hx:ev G x with
  | none=>rw [hx] at hv;cases hv
  | some v=>
   rw [hx] at hv;cases hr:evp G r with
   | none=>rw [hr] at hv;cases hv
   | some us=>
    rw [hr] at hv;simp only [Option.some.injEq] at hv;subst hv;rw [List.map_cons,h.eval hx,ih hr]
theorem bW {n:Nat} {ps:List (Nat × Operand)} {vs:List (Nat × Value)} {c:List Value} (hp:evp G ps=some vs) (hrun:∀ w,(Instr.buildSlice t n vs.toArray).run P w=.ok (.slice (some ⟨w.heap.size,0,none⟩) n n) (w.alloc (.cells c.toArray e))) (hN:Nat.blt dst E.N=true)
 (kk:∀ b,E.w0.heap.size≤b→RW P E ops Q rest ((dst,.slice (some ⟨b,0,none⟩) n n)::G) (blk b c e::H)):RW P E ops Q (⟨some dst,.buildSlice t n ps.toArray,ty,pos,af,none⟩::rest) G H:=
 j9 (V:=fun b=>.slice (some ⟨b,0,none⟩) n n) hN (fun a w hf _=>by
  have h:=hf.evalp hp;have h2:ps.toArray.map (fun p=>(p.1,a.eval p.2))=vs.toArray:=by rw [← h];simp
  have h3:(execOp a.eval ⟨some dst,.buildSlice t n ps.toArray,ty,pos,af,none⟩)=(do pure (.value (← Instr.buildSlice t n vs.toArray))):=by
   simp only [execOp];rw [← h2]
  rw [h3];simp only [Sem.run_bind,hrun,Result.andThen]
  rfl) kk
theorem eQ {ps:List (Nat × Operand)} {vs:List (Nat × Value)} (hp:evp G ps=some vs) (hrun:∀ w,(Instr.build t vs.toArray).run P w=.ok v w) (hN:Nat.blt dst E.N=true)
 (kk:RW P E ops Q rest ((dst,v)::G) H):RW P E ops Q (⟨some dst,.build t ps.toArray,ty,pos,af,none⟩::rest) G H:=
 b8 hN (fun a w hf _=>by
  have h:=hf.evalp hp;have h2:ps.toArray.map (fun p=>(p.1,a.eval p.2))=vs.toArray:=by rw [← h];simp
  have h3:(execOp a.eval ⟨some dst,.build t ps.toArray,ty,pos,af,none⟩)=(do pure (.value (← Instr.build t vs.toArray))):=by
   simp only [execOp];rw [← h2]
  rw [h3];simp only [Sem.run_bind,hrun,Result.andThen]
  rfl) kk
/-! ### make -/
theorem ql (c:List Value) (n:Nat):(Array.range (n * c.length)).map (fun i=>c.toArray[i % c.length]!)=(List.replicate n c).flatten.toArray:=by
 apply Array.ext';rw [Array.toList_map,Array.toList_range];apply List.ext_getElem?;intro i;by_cases h0:c.length=0
 ·have:c=[]:=List.eq_nil_of_length_eq_zero h0
  subst this;have hf:(List.replicate n ([]:List Value)).flatten=[]:=by induction n <;> simp_all [List.replicate_succ]
  simp [hf]
 ·by_cases hi:i < n * c.length
  ·have hq:i / c.length < n:=by rw [Nat.div_lt_iff_lt_mul (by omega)];exact hi
   have hr:i % c.length < c.length:=Nat.mod_lt _ (by omega)
   have h1:(List.replicate n c).flatten[i]?=some c[i % c.length]:=by
    have:=iP (es:=List.replicate n c) (sz:=c.length) (by intro x hx;rw [List.eq_of_mem_replicate hx]) (i:=i / c.length) (x:=c) (by rw [List.getElem?_replicate,if_pos hq]) (j:=i % c.length) (v:=c[i % c.length]) (List.getElem?_eq_getElem hr)
    rwa [Nat.mul_comm,Nat.div_add_mod] at this
   rw [h1];simp [List.getElem?_map,List.getElem?_range hi,hr]
  ·rw [List.getElem?_eq_none (by simp;omega),List.getElem?_eq_none (by rw [eL (sz:=c.length) (by intro x hx;rw [List.eq_of_mem_replicate hx])];simp;omega)]
theorem bF {n:Nat} {zc:List Value} [T:Ty P t (.slice e) z' sz' by'] [T2:Ty P e d z sz by_] (hx:ev G x=some (.int k a)) (hy:ev G y=some (.int kk a)) (ha:a=n) (hz:z.cells=zc.toArray) (hs:zc.length=sz) (hn:n≤dK) (hb:n * by_≤281474976710656) (hN:Nat.blt dst E.N=true)
 (kk':∀ B,RW P E ops Q rest ((dst,.slice (some ⟨B,0,none⟩) n n)::G) (ax e sz (.slice (some ⟨B,0,none⟩) n n) (List.replicate n zc)::H)):RW P E ops Q (⟨some dst,.makeSlice t x y,ty,pos,af,none⟩::rest) G H:=
 eW rfl (fun f w hf hw=>by
  subst ha;obtain ⟨i,hi,hz',hs',hb'⟩:=T2.info;have hfl:(List.replicate n zc).flatten.length=n * sz:=by rw [eL (sz:=sz) (by intro x hx;rw [List.eq_of_mem_replicate hx];exact hs)];simp
  have hbi:(i.bytes:Int) * (n:Int)≤281474976710656:=by
   rw [hb',← Int.natCast_mul,Nat.mul_comm];omega
  have hn':(n:Int)≤9223372036854775807:=by unfold dK at hn;omega
  have hm:=run_make (P:=P) w t e i z T.und hi hz' k kk (n:Int) (n:Int) (by omega) (by omega) hbi hn'
  have hcells:madeCells z.cells ((n:Int).toNat * i.size)=(List.replicate n zc).flatten.toArray:=by
   rw [hs',hz,← hs,Int.toNat_natCast];unfold madeCells;by_cases h0:n * zc.length=0
   ·have:(List.replicate n zc).flatten=[]:=by
     apply List.eq_nil_of_length_eq_zero;rw [hfl,← hs];exact h0
    rw [this];simp [h0]
   ·simpa using ql zc n
  rw [hcells] at hm
  have hrun:(execOp f.eval ⟨some dst,.makeSlice t x y,ty,pos,af,none⟩).run P w=.ok (.value (.slice (some ⟨w.heap.size,0,none⟩) n n)) (w.alloc (.cells (List.replicate n zc).flatten.toArray e)):=by
   simp only [execOp,hf.eval hx,hf.eval hy,Sem.run_bind,hm,Result.andThen,Int.toNat_natCast]
   rfl
  rw [hrun];refine kk' w.heap.size _ _ (hf.put hN _) (hw.fresh (cL.alloc _ _ _) (.inr ⟨w.heap.size,n,[],by simp,⟨Nat.le_refl _,?_⟩,?_,?_,?_,by simp,hn⟩))
  ·show _ < (w.heap.push _).size;simp
  ·show (w.heap.push _)[_]?=_;simp
  ·intro x hx;rw [List.eq_of_mem_replicate hx];exact hs
  ·rw [hfl];simp)
/-! ### append -/
theorem lB {w:World} {B O:Nat} {cs:List Value} (h:bj w B O cs):∀ (j:Nat) (u:Value),cs[j]?=some u→w.cell? ((⟨B,O,none⟩:Addr).add j)=some u:=fun j u hu=>by rw [ja];exact h j u hu
theorem iq [T:Ty P t (.slice e) z' sz' by'] [T2:Ty P e d z sz by_] (A A':Option Addr) (n c cp:Nat) (h:n≤c) (w:World):(Builtin.append_ #[t,t] ty #[.slice A n c,.slice A' 0 cp]).run P w=.ok (.slice A n c) w:=by
 have h1:(Builtin.firstCells sz 0 (.slice A' 0 cp)).run P w=.ok #[] w:=by
  cases A' with
  | none=>rfl
  | some a=>simp [Builtin.firstCells,loadCells,loadCellsFrom]
 have h2:(Builtin.lenOf (.slice A' 0 cp)).run P w=.ok 0 w:=rfl;cases A with
 | none=>simp [Builtin.append_,T.runUnd,T2.runSize,h1,h2,h]
 | some a=>simp [Builtin.append_,T.runUnd,T2.runSize,h1,h2,h,storeCells]
theorem f7 {z:Value} {zc:List Value} (hz:z.cells=zc.toArray) (n:Nat):∃ tl:List Value,Builtin.zeroCells z.cells n=tl.toArray∧tl.length=n * zc.length:=by
 refine ⟨(Builtin.zeroCells z.cells n).toList,by simp,?_⟩;simp [Builtin.zeroCells,hz]
theorem eS (pre:List HP) {r:List HP} {es news:List (List Value)} {A:Option Addr} {m cp:Nat} {zc:List Value} [T:Ty P t (.slice e) z' sz' by'] [T2:Ty P e d z sz by_] (hx:ev G x=some v) (hy:ev G y=some (.slice A m cp))
 (hz:z.cells=zc.toArray) (hzs:zc.length=sz) (hm:news.length=m) (hns:∀ u∈news,u.length=sz) (h1:∀ u∈news,∀ v∈u,v.oneCell'=true)
 (hsrc:∀ w,St E.w0 E.S (pre++ax e sz v es::r) w→m≠0→∃ B O,A=some ⟨B,O,none⟩∧bj w B O news.flatten) (hb:(es.length + m) * by_≤140737488355328) (hmx:es.length + m≤dK) (hN:Nat.blt dst E.N=true)
 (kk:∀ v',RW P E ops Q rest ((dst,v')::G) (pre++ax e sz v' (es++news)::r)):RW P E ops Q (⟨some dst,.call ⟨.builtin .append,#[x,y],#[t,t]⟩,ty,pos,af,none⟩::rest) G (pre++ax e sz v es::r):=
 eW rfl (fun f w hf hw=>by
  have hexec:∀ v' w',(Builtin.append_ #[t,t] ty #[v,.slice A m cp]).run P w=.ok v' w'→(execOp f.eval ⟨some dst,.call ⟨.builtin .append,#[x,y],#[t,t]⟩,ty,pos,af,none⟩).run P w=.ok (.value v') w':=by
   intro v' w' h;simp [execOp,resolve,invoke,builtin,hf.eval hx,hf.eval hy,h]
  obtain ⟨i,hi,hz',hs',hb'⟩:=T2.info
  have hone:∀ u∈news.flatten,u.oneCell'=true:=fun u hu=>by
   obtain ⟨l,hl,hul⟩:=List.mem_flatten.1 hu;exact h1 l hl u hul
  have hnl:news.flatten.length=m * sz:=by rw [eL hns,hm]
  by_cases hm0:m=0
  ·subst hm0
   have hnews:news=[]:=List.eq_nil_of_length_eq_zero hm;subst hnews;rcases iN hw with ⟨rfl,rfl⟩ | ⟨B,c,rfl,hle,_,_,_⟩
   ·rw [hexec _ _ (iq (e:=e) (sz:=sz) none A 0 0 cp (Nat.le_refl _) w)]
    exact kk _ _ _ (hf.put hN _) (by simpa using hw)
   ·rw [hexec _ _ (iq (e:=e) (sz:=sz) _ A _ c cp hle w)]
    exact kk _ _ _ (hf.put hN _) (by simpa using hw)
  ·obtain ⟨B,O,rfl,hcs⟩:=hsrc w hw hm0
   have hcs':=lB hcs
   -- a new block: what it holds,and the state behind it
   have fresh:∀ (w1:World) (n' cap':Nat) (tl:List Value),cL No w w1→w1.heap.size=w.heap.size→n'=es.length + m→(∀ x∈es,x.length=sz)→n'≤cap'→cap'≤dK→(es.flatten++news.flatten).length + tl.length=cap' * sz→
    St E.w0 E.S (pre++ax e sz (.slice (some ⟨w.heap.size,0,none⟩) n' cap') (es++news)::r) (w1.alloc (.cells ((es++news).flatten++tl).toArray e)):=by
    intro w1 n' cap' tl hk hsz hn' hes hle hmx' hlen;have hw1:St E.w0 E.S (pre++ax e sz v es::r) w1:=hw.quiet hk;have hfr:=hw1.fresh (c:=ax e sz (.slice (some ⟨w.heap.size,0,none⟩) n' cap') (es++news)) (cL.alloc No w1 (.cells ((es++news).flatten++tl).toArray e)) (.inr ⟨w.heap.size,cap',tl,by simp [hn',hm],⟨by omega,by show _ < (w1.heap.push _).size;simp;omega⟩,by show (w1.heap.push _)[_]?=_;rw [← hsz];simp,?_,?_,by simp;omega,hmx'⟩)
    ·refine (hfr.sub (H':=ax e sz (.slice (some ⟨w.heap.size,0,none⟩) n' cap') (es++news)::(pre++r)) (List.Sublist.cons_cons _ (List.Sublist.append_left (List.sublist_cons_self _ _) _))).perm ?_
     exact List.perm_middle.symm
    ·intro u hu
     rcases List.mem_append.1 hu with hu | hu
     ·exact hes u hu
     ·exact hns u hu
    ·rw [List.flatten_append];exact hlen
   rcases iN hw with ⟨rfl,rfl⟩ | ⟨B0,c,rfl,hle,hcm,_,hes⟩
   ·have hr:=run_append_nil (P:=P) w t ty e i z T.und hi hz' ⟨B,O,none⟩ m cp news.flatten (by rw [hs'];exact hnl) hcs' (by omega) (by unfold dK at hmx;simp at hmx;omega) (by rw [hb'];simp at hb;omega)
    rw [hexec _ _ hr];obtain ⟨tl,htl,htll⟩:=f7 hz (grownCap w m 0 e - m);have hg:=grownCap_ge w m 0 e;have hg2:=grownCap_le_maxLen w m 0 e (by unfold dK at hmx;unfold maxLen;simp at hmx;omega);have hst:=fresh w.drew m (grownCap w m 0 e) tl (cL.drew _ _) rfl (by simp) (by simp) hg (by unfold maxLen at hg2;unfold dK;exact hg2) (by simp only [List.flatten_nil,List.nil_append,hnl,htll,hzs];rw [← Nat.add_mul];congr 1;omega);rw [htl];refine kk _ _ _ (hf.put hN _) ?_;have e1:news.flatten.toArray++tl.toArray=(([]++news:List (List Value)).flatten++tl).toArray:=by simp
    rw [e1];exact hst
   ·obtain ⟨F,hp,hF⟩:=hw.get
    rcases hp with ⟨hp,_⟩ | ⟨B',c',tl,h2,h3,h4,_,h6,h7,_⟩
    ·cases hp
    simp only [Value.slice.injEq,Option.some.injEq,Addr.mk.injEq] at h2;obtain ⟨⟨rfl,_⟩,_,rfl⟩:=h2;have hfl:es.flatten.length=es.length * sz:=eL hes;by_cases hroom:es.length + m≤c
    ·have hfit:es.length * i.size + news.flatten.length≤(es.flatten++tl).toArray.size:=by
      simp only [List.size_toArray,List.length_append,h6,hs',hnl];rw [← Nat.add_mul];exact Nat.mul_le_mul_right _ hroom
     have hr:=run_append_room (P:=P) w t ty e i T.und hi B0 es.length c _ h4 ⟨B,O,none⟩ m cp news.flatten (by rw [hs'];exact hnl) hcs' hone hroom hfit;rw [hexec _ _ hr];refine kk _ _ _ (hf.put hN _) ?_
     have e1:((es.flatten++tl).toArray.toList.take (es.length * i.size)++news.flatten++(es.flatten++tl).toArray.toList.drop (es.length * i.size + news.flatten.length))=(es++news).flatten++tl.drop (m * sz):=by
      simp only [hs',← hfl,hnl,List.flatten_append];rw [List.take_left,List.drop_append,List.drop_of_length_le (by omega),List.nil_append,Nat.add_sub_cancel_left]
     rw [e1];refine hw.setrow (fun F hp=>?_) (Array.getElem?_eq_some_iff.1 h4).1 (fun F hp hFl=>?_)
     ·rcases hp with ⟨hp,_⟩ | ⟨B',c',tl',g1,g2,_⟩
      ·cases hp
      ·simp only [Value.slice.injEq,Option.some.injEq,Addr.mk.injEq] at g1
       obtain ⟨⟨rfl,_⟩,_,_⟩:=g1;exact g2
     ·rcases hp with ⟨hp,_⟩ | ⟨B',c',tl',g1,g2,_⟩
      ·cases hp
      ·simp only [Value.slice.injEq,Option.some.injEq,Addr.mk.injEq] at g1
       obtain ⟨⟨rfl,_⟩,_,_⟩:=g1;refine .inr ⟨B0,c,tl.drop (m * sz),by simp [hm],g2,wj h4,fun u hu=>(List.mem_append.1 hu).elim (hes u) (hns u),?_,by simp;omega,hcm⟩;rw [List.flatten_append,List.length_append,hnl,List.length_drop,hfl]
       have:m * sz≤tl.length:=by
        have h8:(es.length + m) * sz≤c * sz:=Nat.mul_le_mul_right _ hroom;rw [Nat.add_mul] at h8;omega
       omega
    ·have hr:=run_append_grow (P:=P) w t ty e i z T.und hi hz' ⟨B0,0,none⟩ es.length c es.flatten (by rw [hs'];exact hfl) (lB (fun i v hv=>a9 h4 i v (by rw [List.getElem?_append_left (List.getElem?_eq_some_iff.1 hv).1];exact hv))) ⟨B,O,none⟩ m cp news.flatten (by rw [hs'];exact hnl) hcs' (by omega) (by unfold dK at hmx;omega) (by rw [hb'];exact growslice_fits (by omega) hb)
     rw [hexec _ _ hr];obtain ⟨tl',htl,htll⟩:=f7 hz (grownCap w (es.length + m) c e - (es.length + m));have hg:=grownCap_ge w (es.length + m) c e;have hg2:=grownCap_le_maxLen w (es.length + m) c e (by unfold dK at hmx;unfold maxLen;omega);have hst:=fresh w.drew (es.length + m) (grownCap w (es.length + m) c e) tl' (cL.drew _ _) rfl rfl hes hg (by unfold maxLen at hg2;unfold dK;exact hg2) (by rw [List.length_append,hfl,hnl,htll,hzs,← Nat.add_mul,← Nat.add_mul];congr 1;omega);rw [htl];refine kk _ _ _ (hf.put hN _) ?_;have e1:es.flatten.toArray++news.flatten.toArray++tl'.toArray=((es++news).flatten++tl').toArray:=by simp
     rw [e1];exact hst)
end
end
end Go.Proofs.YtbcdgcodnkgdoaaGreat
