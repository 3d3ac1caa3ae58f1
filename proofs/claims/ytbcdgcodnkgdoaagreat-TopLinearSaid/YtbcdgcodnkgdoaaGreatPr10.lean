/- Parts of the proof: A theory that passes the check may be run; its sizes. · A runner for cU calls: a program's function at cU arguments is run by the kernel, on names in place of blocks. This text: the runner itself. · The runner for cU calls: what its names and tables say of a world. · The runner for cU calls: what its tables say of the heap, and how that is kept. · The runner for cU calls: plain operations and those that read. · The runner for cU calls: plain operations and those that read: each answers as the model. · The runner for cU calls: numbers, comparisons, composite values, maps, parts of slices. · The runner for cU calls: composite values, maps, parts of slices; all plain operations together. · The runner for cU calls: maps, slices of slices; all plain operations together. · The runner for cU calls: all plain operations; those that lay a block; those that turn memory. · The runner for cU calls: operations that lay a block. Conditions: none. -/
import Derived.Test.YtbcdgcodnkgdoaaGreatProg
import Derived.KernelRfl
import Derived.Test.YtbcdgcodnkgdoaaGreatPr9
/- A theory that passes the check may be run; its sizes. Conditions: none. -/
set_option linter.unusedVariables false
set_option linter.unusedSimpArgs false
set_option maxRecDepth 10000
namespace Go.Proofs.YtbcdgcodnkgdoaaGreat
open Go Go.RowKit
section
theorem nL {n:Int}:∀ {l:List Int} {p:Int},du n p l=true→(l.length:Int)≤0∨(l.length:Int)≤n - 1 - p
 | [],p,_=>.inl (by simp)
 | y::l,p,h=>by
  unfold du at h;rw [Bool.and_eq_true,decide_eq_true_eq] at h;have:=nL (l:=l) h.2;rw [List.length_cons];omega
theorem ug {t:ThV} {q:Int}:∀ {l:List Int},gJ t q l=true→∀ f∈l,q∈cq t f
 | y::l,h,f,hf=>by
  unfold gJ at h;rw [Bool.and_eq_true,decide_eq_true_eq] at h;rcases List.mem_cons.1 hf with rfl | hf
  ·exact h.1
  ·exact ug h.2 f hf
section
variable {t:ThV} {n:Nat}
theorem oL {r:Int} (r0:0≤r) (r1:r < (ao t).length):ai t r∈ao t:=by
 have h2:r.toNat < (ao t).length:=by omega
 have e:ai t r=(ao t)[r.toNat]:=by unfold ai;rw [List.getElem?_eq_getElem h2];rfl
 rw [e];exact List.getElem_mem h2
theorem sh {q:Int} (q0:0≤q) (q1:q < (aH t).length):cq t q∈aH t:=by
 have h2:q.toNat < (aH t).length:=by omega
 have e:cq t q=(aH t)[q.toNat]:=by unfold cq;rw [List.getElem?_eq_getElem h2];rfl
 rw [e];exact List.getElem_mem h2
theorem sH (hk:j6 t) {r:Int} (r0:0≤r) (r1:r < (ao t).length):(ai t r).2.2.length≤16∧bg (ai t r).2.2 t.1=true:=by
 have h:=hk.rules _ (oL r0 r1);unfold eX at h;simp only [Bool.and_eq_true,decide_eq_true_eq] at h;exact ⟨by omega,h.2.2.2.2.2⟩
theorem pg (hk:j6 t) (lb:(aN t).length=(ao t).length) (hbt:¬ 0≤fU t) {r:Int} (r0:0≤r) (r1:r < (ao t).length):bg (aQ t r) (ao t).length=true∧∀ s∈aQ t r,(ai t s).2.1∈cq t (ai t r).2.1:=by
 have hb:cV t r (aQ t r)=false:=by
  refine Bool.eq_false_iff.2 fun h=>hbt ?_;have hlt:r.toNat < (aN t).length:=by omega
  exact q6 hlt (by rw [show ((r.toNat:Nat):Int)=r by omega];exact h)
 unfold cV at hb;rw [Bool.or_eq_false_iff,Bool.not_eq_false',Bool.not_eq_false'] at hb;refine ⟨hb.1,?_⟩;have hh:=cJ (hk.rules _ (oL r0 r1));have hfr:=(hk.foes _ (sh hh.1 (by rw [← hk.lits];exact hh.2))).2;rw [o6 hfr,List.all_eq_true] at hb;exact fun s hs=>of_decide_eq_true (hb.2 s hs)
theorem sJ (c:yZ t) {r:Int} (r0:0≤r) (r1:r < (ao t).length):bg (aQ t r) (ao t).length=true∧∀ s∈aQ t r,(ai t s).2.1∈cq t (ai t r).2.1:=pg c.ok c.lb c.beats r0 r1
theorem BF (hk:j6 t) (hf:¬ 0≤jN t) {q:Int} (q0:0≤q) (q1:q < t.1):eR t q (cq t q)=true:=by
 have hl:=hk.lits;cases h:eR t q (cq t q) with
 | true=>rfl
 | false=>
  refine absurd (tW (i:=q.toNat) (by omega) ?_) hf;rw [show ((q.toNat:Nat):Int)=q by omega];exact h
theorem xQ (t:ThV):vH t:=fun hk hf hl hb=>by
 have hl2:(aN t).length=(ao t).length:=by omega
 refine AI (fun v v0 v1 w hw=>?_) (fun v v0 v1 hv=>?_)
 ·have:=bU (pg hk hl2 hb v0 (by omega)).1 w hw
  omega
 ·have h1:=(pg hk hl2 hb v0 (by omega)).2 v hv
  have h2:=cJ (hk.rules _ (oL v0 (by omega)));have h3:=BF hk hf h2.1 h2.2;unfold eR at h3;rw [decide_eq_true h1] at h3;simp at h3
theorem Bh (c:yZ t) (hn:t.1=n):THk n (ao t).length t where
 tok:={
  lits:=hn
  foes:=by have:=c.ok.lits;omega
  rules:=rfl
  beats:=c.lb
  small:=⟨by have:=c.ok.most;omega,c.ok.count⟩
  foes2:=fun l hl=>⟨(c.ok.foes l hl).1,fun f hf=>by have:=bU (c.ok.foes l hl).2 f hf;omega⟩
  head:=fun r hr=>by
   have h:=c.ok.rules r hr;have h1:=cJ h;unfold eX at h;simp only [Bool.and_eq_true,decide_eq_true_eq] at h;exact ⟨by omega,by omega,fun b hb=>by have:=bU h.2.2.2.2.2 b hb;omega⟩
  beats2:=fun l hl=>by
   obtain ⟨i,hi,rfl⟩:=List.getElem_of_mem hl;have h:=(sJ c (r:=(i:Int)) (by omega) (by have:=c.lb;omega)).1;rw [sK hi] at h;refine ⟨?_,fun s hs=>bU h s hs⟩;have:=nL h;omega }
 body:=fun r r0 r1=>iB (sH c.ok r0 r1).2
 foes:=fun q q0 q1=>by
  rw [← jO];exact iB (c.ok.foes _ (sh q0 (by have:=c.ok.lits;omega))).2
 sym:=fun q q0 q1 f hf=>by
  rw [← jO] at hf ⊢;have h:eR t q (cq t q)=true:=BF c.ok c.foes q0 (by omega);unfold eR at h;rw [Bool.and_eq_true] at h;exact ug h.2 f hf
 beats:=fun r r0 r1=>by
  rw [← kQ];exact iB (sJ c r0 r1).1
 beatf:=fun r r0 r1 x hx=>by
  rw [← kQ] at hx;rw [← jO];exact (sJ c r0 r1).2 x hx
theorem yw:∀ (i:Nat),vt t i=sm i (fun r=>((bdT t r).length:Nat))
 | 0=>rfl
 | i + 1=>by
  show vt t i + _=sm i _ + _;rw [yw i]
theorem Ar {L:List Int} {u h:Int} (hL:L.length=n) (u0:0≤u) (u1:u < n) (h0:0≤h):aF (gH L u) h=aF L h + (if u=h then 1 else 0):=by
 have:=aV (v:=aF L u + 1) (d:=(0:Int)) hL u0 u1 h0;rw [List.getD_eq_getElem?_getD,List.getD_eq_getElem?_getD] at this;unfold gH;show ((L.set u.toNat (aF L u + 1))[h.toNat]?).getD 0=_;rw [this];by_cases e:h=u
 ·subst e;rw [if_pos rfl,if_pos rfl]
 ·rw [if_neg e,if_neg (fun k=>e k.symm)];show _=aF L h + 0;rw [Int.add_zero];rfl
theorem qD {h:Int} (h0:0≤h):∀ {l:List i3} {L:List Int},(∀ r∈l,0≤r.2.1∧r.2.1 < n)→L.length=n→aF (ep l L) h=aF L h + ((l.countP (fun r=>r.2.1 == h):Nat):Int)
 | [],L,_,_=>by simp [ep]
 | r::l,L,hl,hL=>by
  have h1:=hl r (List.mem_cons_self ..);show aF (ep l (gH L r.2.1)) h=_;rw [qD h0 (fun x hx=>hl x (List.mem_cons_of_mem _ hx)) (by unfold gH;rw [List.length_set];exact hL),Ar hL h1.1 h1.2 h0,List.countP_cons];by_cases e:r.2.1=h
  ·rw [if_pos e,if_pos (by simpa using e)];push_cast;omega
  ·rw [if_neg e,if_neg (by simpa using e)];push_cast;omega
theorem wq:ao t=(List.range (ao t).length).map (fun i:Nat=>ai t i):=by
 refine List.ext_getElem (by simp) fun i h1 h2=>?_;rw [List.getElem_map,List.getElem_range];unfold ai;rw [show ((i:Int)).toNat=i by omega,List.getElem?_eq_getElem h1];rfl
theorem tO (hk:j6 t) (hn:t.1=n) {h:Int} (h0:0≤h):aF (fR t) h=cN (ao t).length (fun r=>hdT t r == h):=by
 unfold fR;rw [qD (n:=n) h0 (fun r hr=>by have:=cJ (hk.rules r hr);omega) (by simp;omega)]
 have e:aF (List.replicate t.1.toNat 0) h=0:=by
  unfold aF;rw [List.getElem?_replicate];split <;> rfl
 rw [e,Int.zero_add];unfold cN
 congr 1
 have h2:(ao t).countP (fun r=>r.2.1 == h)=((List.range (ao t).length).map (fun i:Nat=>ai t i)).countP (fun r=>r.2.1 == h):=congrArg _ wq;rw [h2,List.countP_map]
 rfl
theorem nV {hd:List Int} {a:Int}:∀ {l:List Int} {k:Int},dz hd a l k=k + a * pw l (aF hd)
 | [],k=>by simp [dz,pw]
 | f::l,k=>by
  show dz hd a l (k + a * aF hd f)=k + a * (aF hd f + pw l (aF hd));rw [nV,Int.mul_add];omega
theorem mc {hd:List Int}:∀ {L1 L2:List (List Int)} {q k:Int},c7 hd (L1++L2) q k=c7 hd L2 (q + (L1.length:Nat)) (c7 hd L1 q k)
 | [],L2,q,k=>by simp [c7]
 | l::L1,L2,q,k=>by
  show c7 hd (L1++L2) (q + 1) _=c7 hd L2 _ (c7 hd L1 (q + 1) _);rw [mc,List.length_cons]
  congr 1
  push_cast
  omega
theorem nW {hd:List Int}:∀ (i:Nat),i≤(aH t).length→c7 hd ((aH t).take i) 0 0=sm i (fun q=>aF hd q * pw (foT t q) (aF hd))
 | 0,_=>rfl
 | i + 1,hi=>by
  have hi':i < (aH t).length:=by omega
  rw [List.take_add_one,List.getElem?_eq_getElem hi',Option.toList_some,mc,nW i (by omega)];show dz hd (aF hd _) _ _=sm i _ + _;rw [nV,List.length_take,Nat.min_eq_left (by omega),Int.zero_add];have e:foT t i=(aH t)[i]:=by rw [← jO,tX hi']
  show _=_ + aF hd i * pw (foT t i) (aF hd);rw [e]
theorem zN (hk:j6 t) (hn:t.1=n):gy t=sm n (fun q=>cN (ao t).length (fun r=>hdT t r == q) * pw (foT t q) (fun f=>cN (ao t).length (fun r=>hdT t r == f))):=by
 have hl:=hk.lits;unfold gy;have h:=nW (t:=t) (hd:=fR t) (aH t).length (Nat.le_refl _);rw [List.take_of_length_le (Nat.le_refl _)] at h;rw [h,show (aH t).length=n by omega];refine cP fun q q0 q1=>?_;rw [tO hk hn q0]
 congr 1
 have hf:∀ f∈foT t q,0≤f:=fun f hf=>by
  rw [← jO] at hf;exact (bU (hk.foes _ (sh q0 (by omega))).2 f hf).1
 generalize foT t q=l at *;induction l with
 | nil=>rfl
 | cons f l ih=>
  show aF (fR t) f + pw l _=_ + pw l _;rw [tO hk hn (hf f (List.mem_cons_self ..)),ih (fun g hg=>hf g (List.mem_cons_of_mem _ hg))]
theorem pR (c:yZ t):fw t=gy t:=by
 unfold fw;rw [if_neg (by have:=c.pairs;omega)]
theorem yh (c:yZ t) (hn:t.1=n) {facts:List Int} (hfr:∀ q∈facts,0≤q∧q < n):0≤(En.runD t n (ao t).length facts).up∧(En.runD t n (ao t).length facts).up≤4 * (t.1 + vt t (ao t).length + fw t):=by
 have h:=Ct (Bh c hn) hfr;rw [pR c,zN c.ok hn,yw,hn];exact h
end
end
end Go.Proofs.YtbcdgcodnkgdoaaGreat
namespace Go.Proofs.YtbcdgcodnkgdoaaGreat.Run
open Go
noncomputable abbrev PG:Program:=Tryz.prog
def et (t:TypeId):Bool:=Nat.beq t 111 || Nat.beq t 95
/-! ### tables by number -/
inductive T (α:Type) where
 | e
 | lf (v:α)
 | nd (l r:T α)
noncomputable def T.at {α:Type} (t:T α):Nat→Option α:=
 T.rec (motive:=fun _=>Nat→Option α) (fun _=>none) (fun v _=>some v) (fun _ _ gl gr k=>Bool.rec (motive:=fun _=>Option α) (gr (Nat.div k 2)) (gl (Nat.div k 2)) (Nat.beq (Nat.mod k 2) 0)) t
noncomputable def T.fst {α:Type} (t:T α):T α:=T.rec (motive:=fun _=>T α) .e (fun _=>.e) (fun l _ _ _=>l) t
noncomputable def T.snd {α:Type} (t:T α):T α:=T.rec (motive:=fun _=>T α) .e (fun _=>.e) (fun _ r _ _=>r) t
noncomputable def T.put {α:Type} (d:Nat):T α→Nat→T α→T α:=
 Nat.rec (motive:=fun _=>T α→Nat→T α→T α) (fun _ _ v=>v) (fun _ ih t k v=>
  Bool.rec (motive:=fun _=>T α) (.nd t.fst (ih t.snd (Nat.div k 2) v)) (.nd (ih t.fst (Nat.div k 2) v) t.snd) (Nat.beq (Nat.mod k 2) 0)) d
noncomputable def qB {α:Type} (b:Bool) (x y:α):α:=Bool.rec (motive:=fun _=>α) y x b
/-! ### answers -/
inductive R (α:Type) where
 | ok (x:α)
 | er (l:List Nat)
noncomputable def R.bind {α β:Type} (r:R α) (f:α→R β):R β:=R.rec (motive:=fun _=>R β) f (fun l=>.er l) r
noncomputable def R.of {α:Type} (k:Nat) (o:Option α):R α:=Option.rec (motive:=fun _=>R α) (.er [k]) (fun x=>.ok x) o
noncomputable def pu {α:Type} (k:Nat) (r:R α):R α:=R.rec (motive:=fun _=>R α) (fun x=>.ok x) (fun l=>.er (k::l)) r
noncomputable def cx {α:Type} (k:Nat) (b:Bool) (r:R α):R α:=Bool.rec (motive:=fun _=>R α) (.er [k]) r b
/-! ### values and objects -/
inductive V where
 | b (x:Bool)
 | i (k:IntKind) (n:Int)
 | s (x:ByteArray)
 | p0
 | p (m o:Nat)
 | l0
 | l (m off o n:Nat)
 | m0
 | m (m:Nat)
 | f0
 | f (g:FuncId) (pre caps:List V)
 | y (m:Nat)
 | i0
 | a (l:List V)
 | t (l:List V)
inductive B where
 | cells (c:List V) (t:TypeId)
 | buf (c:List V) (t:TypeId)
 | map (es:List (V × V))
 | loop (ready:Bool) (fr:T V) (N:Nat) (ps:List Nat) (asg body:Code) (fn:FuncId) (d:Nat)
 | dfr
structure Hp where
 t:T B
 n:Nat
inductive Df where
 | fn (g:FuncId) (caps args:List V)
 | mark (m:Nat)
structure X where
 fr:T V
 h:Hp
 ds:List Df
inductive Xt where
 | nrm
 | ret
 | exi (id:Nat)
structure A where
 v:V
 h:Hp
noncomputable def mC (N:Nat) (t:T V) (k:Nat):Option V:=qB (Nat.blt k N) (t.at k) none
noncomputable def BE (N:Nat) (t:T V) (k:Nat) (v:V):T V:=t.put (Nat.succ (Nat.log2 N)) k (.lf v)
noncomputable def Hp.get (h:Hp) (k:Nat):Option B:=Hp.rec (motive:=fun _=>Option B) (fun t _=>qB (Nat.blt k 4096) (t.at k) none) h
noncomputable def iZ (t:T B) (k:Nat) (b:T B):T B:=qB (Nat.blt k 4096) (t.put 12 k b) t
noncomputable def Hp.set (h:Hp) (k:Nat) (b:B):Hp:=Hp.rec (motive:=fun _=>Hp) (fun t n=>⟨iZ t k (.lf b),n⟩) h
noncomputable def Hp.del (h:Hp) (k:Nat):Hp:=Hp.rec (motive:=fun _=>Hp) (fun t n=>⟨iZ t k .e,n⟩) h
noncomputable def Hp.new (h:Hp) (b:B):Hp:=Hp.rec (motive:=fun _=>Hp) (fun t n=>⟨iZ t n (.lf b),Nat.succ n⟩) h
def Eg:Value→Option V
 | .bool b=>some (.b b)
 | .int k n=>some (.i k n)
 | .string s=>some (.s s)
 | .pointer none=>some .p0
 | .slice none 0 0=>some .l0
 | .map none=>some .m0
 | .nilFunc=>some .f0
 | .nilIface=>some .i0
 | _=>none
def zR:List Value→Option (List V)
 | []=>some []
 | v::r=>match Eg v with
  | some x=>match zR r with
   | some l=>some (x::l)
   | none=>none
  | none=>none
def ofV:Value→Option V
 | .agg cs=>match zR cs.toList with
  | some l=>some (.a l)
  | none=>none
 | .tuple cs=>match cs.toList with
  | []=>some (.t [])
  | _=>none
 | .func (.func g) pre caps=>match pre.toList,caps.toList with
  | [],[]=>some (.f g [] [])
  | _,_=>none
 | v=>Eg v
def V.flat:V→List V
 | .a c=>c
 | x=>[x]
def V.one:V→Bool
 | .a _=>false
 | .t _=>false
 | _=>true
noncomputable def xe (N:Nat) (fr:T V) (x:Operand):Option V:=Operand.rec (motive:=fun _=>Option V) (fun t=>mC N fr t) (fun v=>ofV v) (fun _=>none) (fun f=>some (.f f [] [])) x
noncomputable def xes (N:Nat) (fr:T V) (l:List Operand):Option (List V):=
 List.rec (motive:=fun _=>Option (List V)) (some []) (fun x _ ih=>Option.rec (motive:=fun _=>Option (List V)) none (fun v=>Option.rec (motive:=fun _=>Option (List V)) none (fun vs=>some (v::vs)) ih) (xe N fr x)) l
noncomputable def zcs (t:TypeId):Option (List V):=match PG.info? t with
 | some i=>match i.zero with
  | some z=>zR z.cells.toList
  | none=>none
 | none=>none
noncomputable def zvt (t:TypeId):Option V:=match PG.info? t with
 | some i=>match i.zero with
  | some z=>ofV z
  | none=>none
 | none=>none
noncomputable def szt (t:TypeId):Option Nat:=match PG.info? t with
 | some i=>match i.zero with
  | some _=>some i.size
  | none=>none
 | none=>none
noncomputable def byt (t:TypeId):Option Nat:=match PG.info? t with
 | some i=>some i.bytes
 | none=>none
noncomputable def rdt (t:TypeId):Option (Option Nat):=match PG.underlying t with
 | some d=>match bH d with
  | true=>match szt t with
   | some n=>some (some n)
   | none=>none
  | false=>some none
 | none=>none
/-! ### memory -/
noncomputable def Hp.row (h:Hp) (m:Nat):Option (List V):=Option.rec (motive:=fun _=>Option (List V)) none (fun b=>B.rec (motive:=fun _=>Option (List V)) (fun c _=>some c) (fun c _=>some c) (fun _=>none) (fun _ _ _ _ _ _ _ _=>none) none b) (h.get m)
noncomputable def Hp.setRow (h:Hp) (m:Nat) (c:List V):Hp:=match h.get m with
 | some (.cells _ t)=>h.set m (.cells c t)
 | some (.buf _ t)=>h.set m (.buf c t)
 | _=>h
noncomputable def rdC (q:Option (Option Nat)) (c:List V) (o:Nat):R V:=Option.rec (motive:=fun _=>R V) (.er [14]) (fun q=>Option.rec (motive:=fun _=>R V) (R.of 13 c[o]?)
 (fun sz=>cx 11 (Nat.ble (o + sz) c.length) (.ok (.a ((c.drop o).take sz)))) q) q
noncomputable def rd (h:Hp) (t:TypeId) (v:V):R V:=match v with
 | .p m o=>Option.rec (motive:=fun _=>R V) (.er [15,m]) (fun c=>rdC (rdt t) c o) (h.row m)
 | _=>.er [16]
def over (c:List V) (o:Nat) (vs:List V):List V:=match vs with
 | [v]=>c.set o v
 | vs=>c.take o++vs++c.drop (o + vs.length)
noncomputable def wr2 (h:Hp) (sz m o:Nat) (c:List V) (vs:List V):R Hp:=
 cx 20 (Nat.beq vs.length sz&&Nat.ble (o + sz) c.length&&vs.all V.one) (.ok (h.setRow m (over c o vs)))
noncomputable def wr (h:Hp) (t:TypeId) (a v:V):R Hp:=match a with
 | .p m o=>match h.row m,szt t with
  | some c,some sz=>wr2 h sz m o c v.flat
  | _,_=>.er [22,m]
 | _=>.er [23]
def so (place:Nat→Option (Nat × Nat)) (c:List V):List (Nat × V)→Option (List V)
 | []=>some c
 | (i,v)::r=>match place i with
  | some (off,sz)=>match Nat.beq v.flat.length sz&&Nat.ble (off + v.flat.length) c.length with
   | true=>so place (over c off v.flat) r
   | false=>none
  | none=>none
noncomputable def xps (N:Nat) (fr:T V):List (Nat × Operand)→Option (List (Nat × V))
 | []=>some []
 | (i,x)::r=>match xe N fr x with
  | some v=>match xps N fr r with
   | some vs=>some ((i,v)::vs)
   | none=>none
  | none=>none
noncomputable def Bj (n:Nat) (c:List V):List V:=Nat.rec (motive:=fun _=>List V) [] (fun _ l=>c++l) n
noncomputable def nT (fs:Array Field) (i:Nat):Option (Nat × Nat):=match fs[i]? with
 | some f=>match szt f.type with
  | some sz=>some (f.offset,sz)
  | none=>none
 | none=>none
/-! ### numbers -/
def yA (op:BinOp) (k:IntKind) (a b:Int):R V:=match op with
 | .add=>.ok (.i k (k.wrap (a + b)))
 | .sub=>.ok (.i k (k.wrap (a - b)))
 | .mul=>.ok (.i k (k.wrap (a * b)))
 | .quo=>match decide (b=0) with
  | true=>.er [30]
  | false=>.ok (.i k (k.wrap (a.tdiv b)))
 | .rem=>match decide (b=0) with
  | true=>.er [31]
  | false=>.ok (.i k (a.tmod b))
 | .and=>.ok (.i k (k.wrap (BitVec.ofInt k.bits a &&& BitVec.ofInt k.bits b).toNat))
 | .or=>.ok (.i k (k.wrap (BitVec.ofInt k.bits a ||| BitVec.ofInt k.bits b).toNat))
 | .xor=>.ok (.i k (k.wrap (BitVec.ofInt k.bits a ^^^ BitVec.ofInt k.bits b).toNat))
 | .eql=>.ok (.b (decide (a=b)))
 | .neq=>.ok (.b (!decide (a=b)))
 | .lss=>.ok (.b (decide (a < b)))
 | .leq=>.ok (.b (decide (a≤b)))
 | .gtr=>.ok (.b (decide (b < a)))
 | .geq=>.ok (.b (decide (b≤a)))
 | _=>.er [32]
def Gu (k:IntKind) (a b:Int):R V:=match decide (b < 0) with
 | true=>.er [33]
 | false=>.ok (.i k (k.wrap (a * 2 ^ (min b.toNat k.bits))))
def shr1 (k:IntKind) (a b:Int):R V:=match decide (b < 0) with
 | true=>.er [34]
 | false=>.ok (.i k (a.fdiv (2 ^ (min b.toNat k.bits))))
def la:List V→List V→Option Bool
 | [],[]=>some true
 | .i k a::r,.i k' b::q=>match decide (k=k') with
  | true=>match la r q with
   | some c=>some (decide (a=b)&&c)
   | none=>none
  | false=>none
 | _,_=>none
noncomputable def eqA (t:TypeId) (x y:List V):Option Bool:=match et t,szt t with
 | true,some sz=>match Nat.beq x.length sz&&Nat.beq y.length sz with
  | true=>la x y
  | false=>none
 | _,_=>none
noncomputable def eqV (t:TypeId) (u v:V):Option Bool:=match PG.underlying t,u,v with
 | some .bool,.b x,.b y=>some (x == y)
 | some (.pointer _),.p0,.p0=>some true
 | some (.pointer _),.p0,.p _ _=>some false
 | some (.pointer _),.p _ _,.p0=>some false
 | some (.slice _),.l0,.l0=>some true
 | some (.slice _),.l0,.l _ _ _ _=>some false
 | some (.slice _),.l _ _ _ _,.l0=>some false
 | some (.map _ _),.m0,.m0=>some true
 | some (.map _ _),.m0,.m _=>some false
 | some (.map _ _),.m _,.m0=>some false
 | some (.func _ _ _),.f0,.f0=>some true
 | some (.func _ _ _),.f0,.f _ _ _=>some false
 | some (.func _ _ _),.f _ _ _,.f0=>some false
 | some _,.a x,.a y=>eqA t x y
 | _,_,_=>none
def o3:Operand→Bool
 | .const .nilIface=>true
 | _=>false
noncomputable def Gb (t:TypeId):Bool:=match PG.underlying t with
 | some (.interface _)=>true
 | _=>false
def Gm (op:BinOp) (k k':IntKind) (a b:Int):R V:=match op with
 | .shl=>Gu k a b
 | .shr=>shr1 k a b
 | op=>match decide (k=k') with
  | true=>yA op k a b
  | false=>.er [35]
noncomputable def Gn (op:BinOp) (t:TypeId) (y:Operand) (u v:V):R V:=match u,v with
 | .i0,.i0=>match o3 y&&Gb t,op with
  | true,.eql=>.ok (.b true)
  | true,.neq=>.ok (.b false)
  | _,_=>.er [36]
 | u,v=>match op with
  | .eql=>match eqV t u v with
   | some c=>.ok (.b c)
   | none=>.er [37,t]
  | .neq=>match eqV t u v with
   | some c=>.ok (.b (!c))
   | none=>.er [38,t]
  | _=>.er [39]
noncomputable def bop (op:BinOp) (t:TypeId) (y:Operand) (u v:V):R V:=match u,v with
 | .i k a,.i k' b=>Gm op k k' a b
 | u,v=>Gn op t y u v
/-! ### maps: keys are numbers, or rows of numbers -/
noncomputable def eqK (kt:TypeId) (d:TypeDesc):V→V→Option Bool
 | .i k a,.i k' b=>match d,decide (k=k') with
  | .int _,true=>some (decide (a=b))
  | _,_=>none
 | .a x,.a y=>match d with
  | .struct _=>eqA kt x y
  | _=>none
 | _,_=>none
noncomputable def mB (kt:TypeId) (d:TypeDesc) (k:V):List (V × V)→Option (Option V)
 | []=>some none
 | e::r=>match eqK kt d k e.1 with
  | some true=>some (some e.2)
  | some false=>mB kt d k r
  | none=>none
noncomputable def Fj (kt:TypeId) (d:TypeDesc) (k v:V):List (V × V)→Option (List (V × V))
 | []=>some [(k,v)]
 | e::r=>match eqK kt d k e.1 with
  | some true=>some ((k,v)::r)
  | some false=>match Fj kt d k v r with
   | some l=>some (e::l)
   | none=>none
  | none=>none
noncomputable def Aj (kt:TypeId) (d:TypeDesc) (k:V):Bool:=match eqK kt d k k with
 | some true=>true
 | _=>false
/-! ### operations -/
noncomputable def Bv (h:Hp) (t:TypeId) (a b:V):R A:=match a,b with
 | .i _ a,.i _ b=>match PG.underlying t with
  | some (.slice e)=>match szt e,byt e,zcs e with
   | some sz,some by_,some z=>cx 40 (decide (0≤a)&&decide (a=b)&&decide (b≤1000000)&&Nat.ble by_ 1000&&Nat.beq z.length sz&&!(Nat.beq sz 0)) (.ok ⟨.l h.n 0 0 a.toNat,h.new (.buf (Bj a.toNat z) e)⟩)
   | _,_,_=>.er [41]
  | _=>.er [42]
 | _,_=>.er [43]
noncomputable def pU (h:Hp) (e sz m off o n:Nat):Bool:=match h.get m with
 | some (.buf c e')=>Nat.beq e e'&&Nat.beq off (o * sz)&&Nat.ble (off + n * sz) c.length&&Nat.blt 0 sz
 | some (.cells c _)=>Nat.beq sz 1&&Nat.beq off o&&Nat.ble (o + n) c.length
 | _=>false
noncomputable def pP (h:Hp) (t:TypeId) (x:V) (lo hi:Option V):R V:=match x with
 | .l m off o n=>match PG.underlying t with
  | some (.slice e)=>match szt e with
   | some sz=>match lo,hi with
    | none,some (.i _ b)=>cx 44 (decide (0≤b)&&Nat.ble b.toNat n&&pU h e sz m off o n) (.ok (.l m off o b.toNat))
    | some (.i _ a),none=>cx 45 (decide (0≤a)&&Nat.blt a.toNat n&&pU h e sz m off o n) (.ok (.l m (off + a.toNat * sz) (o + a.toNat) (n - a.toNat)))
    | _,_=>.er [46]
   | none=>.er [47]
  | _=>.er [48]
 | .l0=>match PG.underlying t with
  | some (.slice e)=>match lo,hi with
   | none,some (.i _ b)=>cx 49 (decide (b=0)&&(szt e).isSome) (.ok .l0)
   | _,_=>.er [50]
  | _=>.er [51]
 | .p m o=>match PG.underlying t with
  | some (.array n e)=>match szt e,lo,hi,h.get m with
   | some sz,none,none,some (.cells c _)=>cx 52 (Nat.beq o 0&&Nat.beq sz 1&&Nat.beq c.length n&&Nat.blt 0 n) (.ok (.l m 0 0 n))
   | _,_,_,_=>.er [53]
  | _=>.er [54]
 | _=>.er [55]
noncomputable def kx (h:Hp) (e:TypeId) (x:V):R (List V × Nat):=match x with
 | .l0=>.ok ([],0)
 | .l m off _ n=>match szt e,h.row m with
  | some sz,some c=>cx 56 (Nat.ble (off + n * sz) c.length) (.ok ((c.drop off).take (n * sz),n))
  | _,_=>.er [57,m]
 | _=>.er [58]
noncomputable def sM (h:Hp) (t t2:TypeId) (x y:V):R A:=match PG.underlying t,Nat.beq t t2 with
 | some (.slice e),true=>(kx h e y).bind fun q=>match szt e,byt e,zcs e with
  | some sz,some by_,some z=>match q.2 with
   | 0=>match x with
    | .l0=>.ok ⟨.l0,h⟩
    | .l m off o n=>cx 59 (pU h e sz m off o n) (.ok ⟨.l m off o n,h⟩)
    | _=>.er [59]
   | k + 1=>match x with
    | .l0=>cx 60 (Nat.ble by_ 1000&&Nat.beq z.length sz&&Nat.ble q.2 100000&&q.1.all V.one) (.ok ⟨.l h.n 0 0 q.2,h.new (.buf q.1 e)⟩)
    | .l m off o n=>match h.get m with
     | some (.buf c e')=>cx 61 (Nat.beq off 0&&Nat.beq o 0&&Nat.beq (n * sz) c.length&&Nat.beq e e'&&Nat.ble by_ 1000&&Nat.beq z.length sz&&Nat.ble (n + q.2) 100000&&q.1.all V.one) (.ok ⟨.l h.n 0 0 (n + q.2),(h.del m).new (.buf (c++q.1) e)⟩)
     | _=>.er [62,m]
    | _=>.er [63]
  | _,_,_=>.er [64]
 | _,_=>.er [65]
noncomputable def CS (h:Hp) (x:V):Option (List (V × V)):=match x with
 | .m0=>some []
 | .m m=>match h.get m with
  | some (.map es)=>some es
  | _=>none
 | _=>none
def F5 (ok:Bool) (z:V) (r:Option (Option V)):R V:=match r with
 | some (some v)=>.ok (match ok with | true=>.t [v,.b true] | false=>v)
 | some none=>.ok (match ok with | true=>.t [z,.b false] | false=>z)
 | none=>.er [72]
noncomputable def xo (h:Hp) (t:TypeId) (x k:V) (ok:Bool):R V:=match PG.underlying t with
 | some (.map kt e)=>match PG.underlying kt,zvt e,CS h x with
  | some d,some z,some es=>cx 70 (Aj kt d k) (F5 ok z (mB kt d k es))
  | _,_,_=>.er [74]
 | _=>.er [75]
noncomputable def vY (h:Hp) (t:TypeId) (x k v:V):R A:=match PG.underlying t,x with
 | some (.map kt _),.m m=>match PG.underlying kt,h.get m with
  | some d,some (.map es)=>cx 76 (Aj kt d k) (match Fj kt d k v es with
   | some es'=>.ok ⟨.t [],h.set m (.map es')⟩
   | none=>.er [77])
  | _,_=>.er [78]
 | _,_=>.er [79]
noncomputable def lK (h:Hp) (r:R V):R A:=r.bind fun v=>.ok ⟨v,h⟩
noncomputable def o1 (h:Hp) (k:Nat) (v:Option V):R A:=Option.rec (motive:=fun _=>R A) (.er [k]) (fun v=>.ok ⟨v,h⟩) v
noncomputable def wW (N:Nat) (fr:T V) (h:Hp) (c x y:Operand):R A:=match xe N fr c with
 | some (.b true)=>o1 h 82 (xe N fr x)
 | some (.b false)=>o1 h 83 (xe N fr y)
 | _=>.er [84]
noncomputable def w9 (h:Hp) (t:TypeId):R A:=match zcs t with
 | some z=>.ok ⟨.p h.n 0,h.new (.cells z t)⟩
 | none=>.er [85]
noncomputable def FY (h:Hp) (t:TypeId) (v:Option V):R A:=match v with
 | some v=>cx 86 (v.flat.all V.one) (.ok ⟨.p h.n 0,h.new (.cells v.flat t)⟩)
 | none=>.er [87]
noncomputable def rN (t:TypeId):Option (Nat→Option (Nat × Nat)):=match PG.underlying t with
 | some (.struct fs)=>match fs.toList.all (fun f=>(szt f.type).isSome) with
  | true=>some (nT fs)
  | false=>none
 | some (.array _ e)=>match szt e with
  | some sz=>some (fun i=>some (i * sz,sz))
  | none=>none
 | _=>none
noncomputable def qh (h:Hp) (t:TypeId) (ps:Option (List (Nat × V))):R A:=match rN t,zcs t,ps with
 | some pl,some z,some ps=>match so pl z ps with
  | some c=>.ok ⟨.a c,h⟩
  | none=>.er [88]
 | _,_,_=>.er [91]
noncomputable def qg (h:Hp) (e:TypeId) (n:Nat) (ps:List (Nat × V)):R A:=match szt e,zcs e with
 | some sz,some z=>match so (fun i=>some (i * sz,sz)) (Bj n z) ps with
  | some c=>cx 92 (Nat.beq z.length sz&&!(Nat.beq sz 0)&&Nat.ble (n * sz) 100000&&c.all V.one) (.ok ⟨.l h.n 0 0 n,h.new (.buf c e)⟩)
  | none=>.er [93]
 | _,_=>.er [94]
noncomputable def oT (h:Hp) (t:TypeId) (n:Nat) (ps:Option (List (Nat × V))):R A:=match PG.underlying t,ps with
 | some (.slice e),some ps=>qg h e n ps
 | _,_=>.er [95]
noncomputable def CL (h:Hp) (t:TypeId) (v:Option V):R A:=Option.rec (motive:=fun _=>R A) (.er [96]) (fun v=>lK h (rd h t v)) v
noncomputable def wV (h:Hp) (t:TypeId) (a v:Option V):R A:=match a,v with
 | some a,some v=>(wr h t a v).bind fun h'=>.ok ⟨.t [],h'⟩
 | _,_=>.er [97]
noncomputable def Ej (h:Hp) (v:Option V):R A:=match v with
 | some (.p m o)=>.ok ⟨.p m o,h⟩
 | some (.f g pre caps)=>.ok ⟨.f g pre caps,h⟩
 | _=>.er [98]
noncomputable def Ep (h:Hp) (op:BinOp) (t:TypeId) (y:Operand) (u v:Option V):R A:=match u,v with
 | some u,some v=>lK h (bop op t y u v)
 | _,_=>.er [99]
noncomputable def oUn (h:Hp) (op:UnOp) (v:Option V):R A:=match op,v with
 | .not,some (.b c)=>.ok ⟨.b (!c),h⟩
 | .neg,some (.i k a)=>.ok ⟨.i k (k.wrap (0 - a)),h⟩
 | .xor,some (.i k a)=>lK h (yA .xor k (if k.signed then -1 else k.max) a)
 | _,_=>.er [100]
noncomputable def rU (h:Hp) (src dst:TypeId) (v:Option V):R A:=match PG.underlying src,PG.underlying dst,v with
 | some _,some (.int k),some (.i _ a)=>.ok ⟨.i k (k.wrap a),h⟩
 | some (.slice _),some (.slice e),some (.l m off o n)=>match Nat.beq src dst,PG.underlying e with
  | true,some (.int .u8)=>cx 105 (h.row m).isSome (.ok ⟨.l m off o n,h⟩)
  | _,_=>.er [104]
 | _,_,_=>.er [103]
noncomputable def wZ (h:Hp) (f:Fn) (p c:Option (List V)):R A:=match f,p,c with
 | .func g,some p,some c=>.ok ⟨.f g p c,h⟩
 | _,_,_=>.er [104]
noncomputable def oS (h:Hp) (r:Option Operand):R A:=match r with
 | none=>.ok ⟨.m h.n,h.new (.map [])⟩
 | some _=>.er [135]
noncomputable def rT (h:Hp) (t:TypeId) (a b:Option V):R A:=match a,b with
 | some a,some b=>Bv h t a b
 | _,_=>.er [105]
noncomputable def qe (N:Nat) (fr:T V) (h:Hp) (t:TypeId) (v:Option V) (lo hi mx:Option Operand):R A:=match v,lo,hi,mx with
 | some v,none,none,none=>lK h (pP h t v none none)
 | some v,some l,none,none=>match xe N fr l with
  | some a=>lK h (pP h t v (some a) none)
  | none=>.er [106]
 | some v,none,some l,none=>match xe N fr l with
  | some a=>lK h (pP h t v none (some a))
  | none=>.er [107]
 | _,_,_,_=>.er [108]
noncomputable def ly (s:TypeId) (i:Nat):Option Nat:=match PG.underlying s with
 | some (.struct fs)=>match nT fs i with
  | some (off,_ + 1)=>some off
  | _=>none
 | _=>none
noncomputable def mf (h:Hp) (q:Option Nat) (v:Option V):R A:=match q,v with
 | some off,some (.p m o)=>.ok ⟨.p m (o + off),h⟩
 | _,_=>.er [112]
noncomputable def qf (h:Hp) (s:TypeId) (i:Nat) (v:Option V):R A:=match PG.underlying s,v with
 | some (.struct fs),some (.a c)=>match fs[i]? with
  | some f=>lK h (rdC (rdt f.type) c f.offset)
  | none=>.er [113]
 | _,_=>.er [114]
noncomputable def tC (h:Hp) (e:TypeId) (m off n:Nat) (a:Int):R A:=match szt e with
 | some sz=>cx 115 (decide (0≤a)&&Nat.blt a.toNat n) (.ok ⟨.p m (off + a.toNat * sz),h⟩)
 | none=>.er [116]
noncomputable def wY (h:Hp) (d:Option TypeDesc) (u v:Option V):R A:=match d,u,v with
 | some (.slice e),some (.l m off _ n),some (.i _ a)=>tC h e m off n a
 | some (.array n e),some (.p m o),some (.i _ a)=>tC h e m o n a
 | _,_,_=>.er [119]
noncomputable def Ek (h:Hp) (t:TypeId) (u v:Option V):R A:=match PG.underlying t,u,v with
 | some .string,some (.s s),some (.i _ a)=>cx 120 (decide (0≤a)) (match s.data.toList[a.toNat]? with
  | some c=>.ok ⟨.i .u8 c.toNat,h⟩
  | none=>.er [121])
 | some (.array n e),some (.a c),some (.i _ a)=>match szt e with
  | some sz=>cx 122 (decide (0≤a)&&Nat.blt a.toNat n) (lK h (rdC (rdt e) c (a.toNat * sz)))
  | none=>.er [123]
 | _,_,_=>.er [124]
noncomputable def wX (h:Hp) (t:TypeId) (m k:Option V) (ok:Bool):R A:=match m,k with
 | some m,some k=>lK h (xo h t m k ok)
 | _,_=>.er [125]
noncomputable def FX (h:Hp) (t:TypeId) (m k v:Option V):R A:=match m,k,v with
 | some m,some k,some v=>cx 126 v.one (vY h t m k v)
 | _,_,_=>.er [127]
noncomputable def Em (h:Hp) (i:Nat) (v:Option V):R A:=match v with
 | some (.t l)=>o1 h 128 l[i]?
 | _=>.er [129]
noncomputable def Fk (h:Hp) (t:TypeId) (v:V):R A:=match v,PG.underlying t with
 | .l _ _ _ n,some (.slice _)=>.ok ⟨.i .i64 n,h⟩
 | .l0,some (.slice _)=>.ok ⟨.i .i64 0,h⟩
 | .s s,some .string=>.ok ⟨.i .i64 s.data.toList.length,h⟩
 | _,_=>.er [130]
noncomputable def gT (h:Hp) (bt:Builtin) (vs:Option (List V)) (ats:List TypeId):R A:=match bt,vs,ats with
 | .len,some [v],t::_=>Fk h t v
 | .append,some [x,y],[t,t2]=>sM h t t2 x y
 | .min,some [.i k a,.i _ b],_=>.ok ⟨.i k (if b < a then b else a),h⟩
 | _,_,_=>.er [133]
noncomputable def Eo (N:Nat) (fr:T V) (h:Hp) (c:Call):R A:=match c with
 | ⟨.builtin bt,args,ats⟩=>gT h bt (xes N fr args.toList) ats.toList
 | _=>.er [136]
noncomputable def opL (N:Nat) (fr:T V) (h:Hp) (op:Op):R A:=Op.rec (motive:=fun _=>R A)
 (fun x=>o1 h 80 (xe N fr x))
 (fun x=>o1 h 81 (xe N fr x))
 (fun c x y=>wW N fr h c x y)
 (fun t=>w9 h t)
 (fun t x=>FY h t (xe N fr x))
 (fun t ps=>qh h t (xps N fr ps.toList))
 (fun t n ps=>oT h t n (xps N fr ps.toList))
 (fun _ _ _ _=>.er [201])
 (fun t x=>CL h t (xe N fr x))
 (fun t x y=>wV h t (xe N fr x) (xe N fr y))
 (fun _=>.er [202])
 (fun _=>.er [203])
 (fun x=>Ej h (xe N fr x))
 (fun op t x y _=>Ep h op t y (xe N fr x) (xe N fr y))
 (fun op _ x=>oUn h op (xe N fr x))
 (fun src dst x=>rU h src dst (xe N fr x))
 (fun _ _=>.er [204])
 (fun _ _=>.er [205])
 (fun f pre caps=>wZ h f (xes N fr pre.toList) (xes N fr caps.toList))
 (fun _ r=>oS h r)
 (fun _ _=>.er [206])
 (fun t l c=>rT h t (xe N fr l) (xe N fr c))
 (fun t x lo hi mx=>qe N fr h t (xe N fr x) lo hi mx)
 (fun s x i=>mf h (ly s i) (xe N fr x))
 (fun s x i=>qf h s i (xe N fr x))
 (fun t x y=>wY h (PG.underlying t) (xe N fr x) (xe N fr y))
 (fun t x y=>Ek h t (xe N fr x) (xe N fr y))
 (fun t x k ok=>wX h t (xe N fr x) (xe N fr k) ok)
 (fun t x k v=>FX h t (xe N fr x) (xe N fr k) (xe N fr v))
 (fun _ _ _=>.er [207])
 (fun _ _ _ _=>.er [208])
 (fun _ _=>.er [209])
 (fun _ _=>.er [210])
 (fun _=>.er [211])
 (fun _ _ _ _=>.er [212])
 (fun x i=>Em h i (xe N fr x))
 (fun c=>Eo N fr h c)
 (fun _=>.er [213])
 (fun _=>.er [214])
 (fun _=>.er [215])
 (fun _ _=>.er [216])
 (fun _ _ _=>.er [217])
 (fun _ _=>.er [218]) op
/-! ### calls, code -/
abbrev CF:=FuncId→List V→Hp→R A
abbrev RC:=Nat→Code→X→R (Xt × X)
noncomputable def putD (N:Nat) (fr:T V) (d:Option Nat) (v:V):R (T V):=Option.rec (motive:=fun _=>R (T V)) (.ok fr) (fun d=>cx 140 (Nat.blt d N) (.ok (BE N fr d v))) d
noncomputable def wD (N:Nat):List Nat→List V→T V→R (T V)
 | [],[],fr=>.ok fr
 | d::ds,v::vs,fr=>cx 141 (Nat.blt d N) (wD N ds vs (BE N fr d v))
 | _,_,_=>.er [142]
noncomputable def Bd (m:Nat) (q:Xt × X):R A:=match q.1,q.2.h.get m with
 | .nrm,some (.loop false fr N ps asg body fn d)=>.ok ⟨.b true,q.2.h.set m (.loop true fr N ps asg body fn d)⟩
 | _,_=>.er [143]
noncomputable def Be (rc:RC) (m:Nat) (N0:Nat) (body0:Code) (q:Xt × X):R A:=match q.1,q.2.h.get m with
 | .nrm,some (.loop true fr N ps asg body fn d)=>(rc N0 body0 ⟨q.2.fr,q.2.h.set m (.loop false fr N ps asg body fn d),q.2.ds⟩).bind (Bd m)
 | _,_=>.er [145]
noncomputable def Bc (rc:RC) (m:Nat) (vs:List V) (h:Hp):R A:=match h.get m with
 | some (.loop true fr N ps asg body fn d)=>(wD N ps vs fr).bind fun fr1=>(rc N asg ⟨fr1,h,[]⟩).bind (Be rc m N body)
 | _=>.er [147]
structure AD where
 v:V
 h:Hp
 ds:List Df
noncomputable def uw (ds:List Df) (r:R A):R AD:=r.bind fun q=>A.rec (motive:=fun _=>R AD) (fun v h=>.ok ⟨v,h,ds⟩) q
noncomputable def De (cf:CF) (rc:RC) (h:Hp) (f:Option V) (vs:Option (List V)):R A:=match f,vs with
 | some (.f g pre caps),some vs=>cf g (pre++vs++caps) h
 | some (.y m),some vs=>Bc rc m vs h
 | _,_=>.er [150]
noncomputable def Bq (cf:CF) (rc:RC) (N:Nat) (fr:T V) (h:Hp) (ds:List Df) (c:Call):R AD:=match c with
 | ⟨.value f,args,_⟩=>uw ds (De cf rc h (xe N fr f) (xes N fr args.toList))
 | c=>uw ds (Eo N fr h c)
noncomputable def Bp (rnd:Bool) (N:Nat) (fr:T V) (h:Hp) (ds:List Df) (c:Call):R AD:=match c with
 | ⟨.value f,args,_⟩=>match rnd,xe N fr f,xes N fr args.toList with
  | false,some (.f g [] caps),some vs=>.ok ⟨.t [],h,.fn g caps vs::ds⟩
  | _,_,_=>.er [151]
 | _=>.er [151]
def qA:Builtin→Nat
 | .append=>3
 | _=>0
def jI (c:Call):Nat:=match c.callee with
 | .value _=>4
 | .builtin b=>qA b
 | _=>0
def mp:Option TypeDesc→Nat
 | some (.int _)=>0
 | _=>3
noncomputable def bD:Op→Nat
 | .load _ _=>1
 | .lookup _ _ _ _=>1
 | .slice _ _ _ _ _=>1
 | .alloc _=>2
 | .box _ _=>2
 | .buildSlice _ _ _=>2
 | .convert src _ _=>mp (PG.underlying src)
 | .makeMap _ _=>2
 | .makeSlice _ _ _=>2
 | .store _ _ _=>3
 | .mapUpdate _ _ _ _=>3
 | .call c=>jI c
 | .defer _=>5
 | _=>0
noncomputable def opS (cf:CF) (rc:RC) (rnd:Bool) (N:Nat) (fr:T V) (h:Hp) (ds:List Df) (op:Op):R AD:=match op with
 | .call c=>Bq cf rc N fr h ds c
 | .defer c=>Bp rnd N fr h ds c
 | op=>uw ds (opL N fr h op)
structure Dg where
 o:Oper
 g:Option (Option Nat × Bool)
 k:Nat
 m:Nat
def n7 (acc:List Nat) (o:Oper):Nat:=o.after.toList.foldl (fun s e=>if Region.binds .any e then s ||| 2 ^ e.on ||| acc.getD e.on 0 else s) 0
def jh (ops:List Oper) (o:Oper):Option (Option Nat × Bool):=match o.guard with
 | none=>none
 | some (j,w)=>match ops[j]? with
  | some o'=>some (o'.dst,w)
  | none=>some (none,w)
noncomputable def dig (ops:List Oper):List Oper→List Nat→List Dg
 | [],_=>[]
 | o::r,acc=>⟨o,jh ops o,bD o.op,n7 acc o⟩::dig ops r (acc++[n7 acc o])
noncomputable def lL (N:Nat) (fr:T V) (g:Option (Option Nat × Bool)):Option Bool:=match g with
 | none=>some true
 | some (some d,w)=>match mC N fr d with
  | some (.b x)=>some (x == w)
  | some (.t _)=>some false
  | _=>none
 | some (none,_)=>none
structure VX where
 v:V
 x:X
noncomputable def rC (N:Nat) (fr:T V) (d:Option Nat) (r:R AD):R VX:=r.bind fun q=>AD.rec (motive:=fun _=>R VX) (fun v h ds=>(putD N fr d v).bind fun fr=>.ok ⟨v,⟨fr,h,ds⟩⟩) q
noncomputable def zt (cf:CF) (rc:RC) (rnd:Bool) (N:Nat) (g:Option (Option Nat × Bool)) (d:Option Nat) (op:Op) (x:X):R VX:=
 X.rec (motive:=fun _=>R VX) (fun fr h ds=>Option.rec (motive:=fun _=>R VX) (.er [152]) (fun b=>Bool.rec (motive:=fun _=>R VX) (rC N fr d (.ok ⟨.t [],h,ds⟩)) (rC N fr d (opS cf rc rnd N fr h ds op)) b) (lL N fr g)) x
noncomputable def exO (cf:CF) (rc:RC) (rnd:Bool) (N:Nat) (l:List Dg):X→R X:=
 List.rec (motive:=fun _=>X→R X) (fun x=>.ok x) (fun g _ ih x=>(pu (match g.o.dst with | some d=>1000 + d | none=>999) (zt cf rc rnd N g.g g.o.dst g.o.op x)).bind fun q=>VX.rec (motive:=fun _=>R X) (fun _ x=>ih x) q) l
/-! ### a statement in open order -/
def eq1:V→V→Bool
 | .b x,.b y=>x == y
 | .i k a,.i k' b=>decide (k=k')&&decide (a=b)
 | .s x,.s y=>x.data.toList == y.data.toList
 | .p0,.p0=>true
 | .p m o,.p m' o'=>Nat.beq m m'&&Nat.beq o o'
 | .l0,.l0=>true
 | .l m f o n,.l m' f' o' n'=>Nat.beq m m'&&Nat.beq f f'&&Nat.beq o o'&&Nat.beq n n'
 | .m0,.m0=>true
 | .m m,.m m'=>Nat.beq m m'
 | .f0,.f0=>true
 | .f g [] [],.f g' [] []=>Nat.beq g g'
 | .y m,.y m'=>Nat.beq m m'
 | .i0,.i0=>true
 | _,_=>false
def eqL:List V→List V→Bool
 | [],[]=>true
 | x::r,y::q=>eq1 x y&&eqL r q
 | _,_=>false
def eqW:V→V→Bool
 | .a l,.a l'=>eqL l l'
 | .t l,.t l'=>eqL l l'
 | x,y=>eq1 x y
structure Rs where
 i:Nat
 op:Op
 fr:T V
 v:V
structure An where
 i:Nat
 tm:Nat
 am:Nat
 ht:Hp
 th:List (Nat × Hp)
 rs:List Rs
 x:X
def nw (a b:Nat):Bool:=Nat.beq (a &&& b) a
noncomputable def same (N:Nat) (fr:T V) (h:Hp) (op:Op) (v:V):Bool:=R.rec (motive:=fun _=>Bool) (fun q=>A.rec (motive:=fun _=>Bool) (fun u _=>eqW u v) q) (fun _=>false) (opL N fr h op)
noncomputable def Cm (N:Nat) (m:Nat) (fr:T V) (op:Op) (v:V) (th:List (Nat × Hp)):Bool:=List.rec (motive:=fun _=>Bool) true (fun r _ ih=>qB (m.testBit r.1) ih (qB (same N fr r.2 op v) ih false)) th
noncomputable def Cv (N:Nat) (m:Nat) (h:Hp) (rs:List Rs):Bool:=List.rec (motive:=fun _=>Bool) true (fun r _ ih=>qB (m.testBit r.i) ih (qB (same N r.fr h r.op r.v) ih false)) rs
noncomputable def exP (N:Nat) (fr:T V) (d:Option Nat) (op:Op) (b:Bool) (ht:Hp):R VX:=(Bool.rec (motive:=fun _=>R A) (.ok ⟨.t [],ht⟩) (opL N fr ht op) b).bind fun q=>A.rec (motive:=fun _=>R VX) (fun v _=>(putD N fr d v).bind fun fr'=>.ok ⟨v,⟨fr',ht,[]⟩⟩) q
noncomputable def Gg (cf:CF) (rc:RC) (rnd:Bool) (N:Nat) (d:Option Nat) (op:Op) (b:Bool) (k m:Nat) (i tm am:Nat) (ht:Hp) (th:List (Nat × Hp)) (rs:List Rs) (fr:T V) (h:Hp) (ds:List Df):R An:=match k with
 | 0=>(exP N fr d op b ht).bind fun q=>.ok ⟨Nat.succ i,tm,am,ht,th,rs,⟨q.x.fr,h,ds⟩⟩
 | 1=>(exP N fr d op b ht).bind fun q=>cx 162 (Bool.rec (motive:=fun _=>Bool) true (Cm N m fr op q.v th) b) (.ok ⟨Nat.succ i,tm,am,ht,th,Bool.rec (motive:=fun _=>List Rs) rs (⟨i,op,fr,q.v⟩::rs) b,⟨q.x.fr,h,ds⟩⟩)
 | 2=>(rC N fr d (Bool.rec (motive:=fun _=>R AD) (.ok ⟨.t [],h,ds⟩) (uw ds (opL N fr h op)) b)).bind fun q=>cx 161 (nw tm m) (.ok ⟨Nat.succ i,tm,am ||| 2 ^ i,ht,th,rs,q.x⟩)
 | _=>(rC N fr d (Bool.rec (motive:=fun _=>R AD) (.ok ⟨.t [],h,ds⟩) (opS cf rc rnd N fr h ds op) b)).bind fun q=>cx 160 (nw (tm ||| am) m&&Cv N m q.x.h rs) (.ok ⟨Nat.succ i,tm ||| 2 ^ i,am,q.x.h,(i,ht)::th,rs,q.x⟩)
noncomputable def Fq (cf:CF) (rc:RC) (rnd:Bool) (N:Nat) (d:Option Nat) (op:Op) (g:Option (Option Nat × Bool)) (k m:Nat) (i tm am:Nat) (ht:Hp) (th:List (Nat × Hp)) (rs:List Rs) (x:X):R An:=
 X.rec (motive:=fun _=>R An) (fun fr h ds=>Option.rec (motive:=fun _=>R An) (.er [163]) (fun b=>pu (match d with | some d=>2000 + d | none=>1999) (Gg cf rc rnd N d op b k m i tm am ht th rs fr h ds)) (lL N fr g)) x
noncomputable def exA (cf:CF) (rc:RC) (rnd:Bool) (N:Nat) (l:List Dg):An→R An:=
 List.rec (motive:=fun _=>An→R An) (fun s=>.ok s) (fun g _ ih s=>(Dg.rec (motive:=fun _=>R An) (fun o g k m=>An.rec (motive:=fun _=>R An) (fun i tm am ht th rs x=>Fq cf rc rnd N o.dst o.op g k m i tm am ht th rs x) s) g).bind ih) l
def uz:List Operand→List Nat
 | []=>[]
 | .tmp t::r=>t::uz r
 | _::r=>uz r
def Dg.looks (g:Dg):List Nat:=(match g.g with
 | some (some d,_)=>[d]
 | _=>[])++uz g.o.op.operands.toList
def BD (l:List Nat) (d:Option Nat):Bool:=match d with
 | some d=>l.any fun t=>Nat.beq t d
 | none=>false
def tb (g:Dg) (lk:List Nat):List (Nat × Dg × List Nat)→Bool
 | []=>true
 | (j,p,lp)::r=>(g.m.testBit j || !(BD lk p.o.dst || BD lp g.o.dst || BD g.o.dst.toList p.o.dst))&&tb g lk r
def q8 (i:Nat):List Edge→Bool
 | []=>true
 | e::r=>(!Region.binds .any e || Nat.blt e.on i)&&q8 i r
def pI:List Dg→Nat→List (Nat × Dg × List Nat)→Bool
 | [],_,_=>true
 | g::r,i,acc=>q8 i g.o.after.toList&&tb g g.looks acc&&pI r (i + 1) ((i,g,g.looks)::acc)
abbrev EC:=Bool→Nat→FuncId→Code→X→R (Xt × X)
noncomputable def Fs (ih:EC) (rnd:Bool) (N:Nat) (fn:FuncId) (b:Code) (q:Xt × X):R (Xt × X):=
 Prod.rec (motive:=fun _=>R (Xt × X)) (fun e x=>Xt.rec (motive:=fun _=>R (Xt × X)) (ih rnd N fn b x) (.ok (.ret,x)) (fun j=>.ok (.exi j,x)) e) q
noncomputable def Dh (ih:EC) (rnd:Bool) (N:Nat) (fn:FuncId) (v:Option V) (a b:Code) (x:X):R (Xt × X):=match v with
 | some (.b true)=>ih rnd N fn a x
 | some (.b false)=>ih rnd N fn b x
 | _=>.er [171]
noncomputable def BP (id:Nat) (q:Xt × X):R (Xt × X):=
 Prod.rec (motive:=fun _=>R (Xt × X)) (fun e x=>Xt.rec (motive:=fun _=>R (Xt × X)) (.ok (.nrm,x)) (.ok (.ret,x)) (fun j=>.ok (qB (Nat.beq j id) .nrm (.exi j),x)) e) q
noncomputable def yo (k:Nat) (x:X) (q:A):R (Xt × X):=match q.h.get (Nat.succ k) with
 | some (.loop true _ _ _ _ _ _ _)=>.ok (.nrm,⟨x.fr,q.h.del (Nat.succ k),.mark k::x.ds⟩)
 | _=>.er [173]
noncomputable def ud (cf:CF) (rnd:Bool) (N:Nat) (fn:FuncId) (v:Option V) (ps:Array Tmp) (asg body:Code) (x:X):R (Xt × X):=match rnd,v with
 | false,some (.f g pre caps)=>(cf g (pre++[.y (Nat.succ x.h.n)]++caps) ((x.h.new .dfr).new (.loop true x.fr N ps.toList asg body fn x.h.n))).bind fun q=>yo x.h.n x q
 | _,_=>.er [174]
noncomputable def GB (cf:CF) (rc:RC) (rnd:Bool) (N:Nat) (l:List Dg) (dr:Bool) (x:X):R (Xt × X):=
 Bool.rec (motive:=fun _=>R (Xt × X)) ((exO cf rc rnd N l x).bind fun x=>.ok (.nrm,x)) (cx 164 (pI l 0 []) ((exA cf rc rnd N l ⟨0,0,0,x.h,[],[],x⟩).bind fun s=>.ok (.nrm,s.x))) dr
noncomputable def Gz (cf:CF) (ih:EC) (rnd:Bool) (N:Nat) (fn:FuncId) (c:Code) (x:X):R (Xt × X):=Code.casesOn (motive:=fun _=>R (Xt × X)) c
 (.ok (.nrm,x))
 (fun id ops dr=>pu (10000 + id) (GB cf (fun N c x=>ih true N fn c x) rnd N (dig ops.toList ops.toList []) dr x))
 (fun a b=>(ih rnd N fn a x).bind (Fs ih rnd N fn b))
 (fun c a b=>Dh ih rnd N fn (xe N x.fr c) a b x)
 (fun id c=>(ih rnd N fn c x).bind (BP id))
 (fun c=>(ih rnd N fn c x).bind (Fs ih rnd N fn (.loop c)))
 (fun f ps asg body=>ud cf rnd N fn (xe N x.fr f) ps asg body x)
 (fun id=>.ok (.exi id,x))
 (fun _=>.er [175])
 (fun _=>.ok (.nrm,x))
 (fun _=>.er [176])
 (.ok (.ret,x))
 (fun _=>.er [177])
noncomputable def exC (cf:CF) (fuel:Nat):EC:=
 Nat.rec (motive:=fun _=>EC) (fun _ _ _ _ _=>.er [170]) (fun _ ih=>Gz cf ih) fuel
noncomputable def s7 (N:Nat) (fr:T V) (h:Hp):List ResultVar→R (List V)
 | []=>.ok []
 | .tmp t::r=>match mC N fr t with
  | some v=>(s7 N fr h r).bind fun l=>.ok (v::l)
  | none=>.er [178]
 | .cell a t::r=>match mC N fr a with
  | some p=>(rd h t p).bind fun v=>(s7 N fr h r).bind fun l=>.ok (v::l)
  | none=>.er [179]
def DY:List V→V
 | [v]=>v
 | l=>.t l
noncomputable def yB (N:Nat):Nat→List V→T V→T V
 | _,[],t=>t
 | i,v::r,t=>yB N (Nat.succ i) r (BE N t i v)
noncomputable def Gf (q:Xt × X):R Hp:=match q.1,q.2.ds with
 | .nrm,[]=>.ok q.2.h
 | .ret,[]=>.ok q.2.h
 | _,_=>.er [181]
noncomputable def Gw (cf:CF) (fuel:Nat) (g N:Nat) (ops:List Oper) (y:Code) (args:List V) (h:Hp):R Hp:=match ops with
 | [⟨some d0,.call ⟨.builtin .recover,as0,_⟩,_,_,_,none⟩,⟨some d1,.assign (.tmp d2),_,_,_,none⟩]=>
  cx 180 (Nat.beq d0 d2&&Nat.blt d0 N&&Nat.blt d1 N&&Nat.ble args.length N&&(match as0.toList with | []=>true | _=>false)) ((exC cf fuel false N g y ⟨BE N (BE N (yB N 0 args .e) d0 .i0) d1 .i0,h,[]⟩).bind Gf)
 | _=>.er [182]
noncomputable def Gy (cf:CF) (fuel:Nat) (g N:Nat) (c:Option Code) (rs:List ResultVar) (args:List V) (h:Hp):R Hp:=match c,rs with
 | some (.seq (.region _ ops false) y),[]=>Gw cf fuel g N ops.toList y args h
 | _,_=>.er [183]
noncomputable def exD (cf:CF) (fuel:Nat) (g:FuncId) (args:List V) (h:Hp):R Hp:=match PG.funcs[g]? with
 | some fn => cx 184 (!(fn.name == "runtime.NumGoroutine")) (Gy cf fuel g fn.ntmps fn.body fn.results.toList args h)
 | none=>.er [184]
noncomputable def qp (cf:CF) (fuel:Nat):List Df→Hp→R Hp
 | [],h=>.ok h
 | .fn g caps args::ds,h=>(exD cf fuel g (args++caps) h).bind fun h'=>qp cf fuel ds h'
 | .mark m::ds,h=>match h.get m with
  | some .dfr=>qp cf fuel ds (h.del m)
  | _=>.er [185]
noncomputable def By (cf:CF) (fuel:Nat) (q:Xt × X):R Hp:=match q.1 with
 | .exi _=>.er [192]
 | _=>qp cf fuel q.2.ds q.2.h
noncomputable def exF (cf:CF) (fuel:Nat) (g:FuncId) (nm:String) (N:Nat) (rs:List ResultVar) (c:Code) (args:List V) (h:Hp):R A:=
 cx 191 (!(nm == "runtime.NumGoroutine") && Nat.ble args.length N) ((exC cf fuel false N g c ⟨yB N 0 args .e, h, []⟩).bind fun q => (By cf fuel q).bind fun h' => (s7 N q.2.fr h' rs).bind fun vs => .ok ⟨DY vs, h'⟩)
noncomputable def Ge (cf:CF) (fuel:Nat) (g:FuncId) (o:Option Func) (args:List V) (h:Hp):R A:=match o with
 | some fn=>match fn.body with
  | some c=>exF cf fuel g fn.name fn.ntmps fn.results.toList c args h
  | none=>.er [193]
 | none=>.er [194]
noncomputable def exN (fuel:Nat) (d:Nat):CF:=
 Nat.rec (motive:=fun _=>CF) (fun _ _ _=>.er [190]) (fun _ ih g args h=>pu (100000 + g) (Ge ih fuel g PG.funcs[g]? args h)) d
end Go.Proofs.YtbcdgcodnkgdoaaGreat.Run
namespace Go.Proofs.YtbcdgcodnkgdoaaGreat.Run
open Go Go.RowKit
/-! ### tables -/
theorem uj {α:Type} {s:T α} {x:α}:∀ (d:Nat) (t:T α) (k j:Nat),k < 2 ^ d→j < 2 ^ d→(t.put d k s).at j=some x→(j=k∧s.at 0=some x)∨(j≠k∧t.at j=some x):=by
 intro d;induction d with
 | zero=>
  intro t k j hk hj h;have hk0:k=0:=by omega
  have hj0:j=0:=by omega
  subst hk0;subst hj0;exact .inl ⟨rfl,h⟩
 | succ d ih=>
  intro t k j hk hj h;have e2:2 ^ (d + 1)=2 ^ d * 2:=Nat.pow_succ 2 d;have hk2:k / 2 < 2 ^ d:=by omega
  have hj2:j / 2 < 2 ^ d:=by omega
  have hat:∀ (l r:T α),(T.nd l r).at j=Bool.rec (motive:=fun _=>Option α) (r.at (Nat.div j 2)) (l.at (Nat.div j 2)) (Nat.beq (Nat.mod j 2) 0):=fun _ _=>rfl;have iZ:t.put (d + 1) k s=Bool.rec (motive:=fun _=>T α) (.nd t.fst (t.snd.put d (Nat.div k 2) s)) (.nd (t.fst.put d (Nat.div k 2) s) t.snd) (Nat.beq (Nat.mod k 2) 0):=rfl;have ed:∀ a,Nat.div a 2=a / 2:=fun _=>rfl;have em:∀ a,Nat.mod a 2=a % 2:=fun _=>rfl
  have hfst:∀ y,t.fst.at (j / 2)=some y→j % 2=0→t.at j=some y:=fun y hy hm=>by
   cases t with
   | e=>cases hy
   | lf v=>cases hy
   | nd l r=>
    have hb:Nat.beq (Nat.mod j 2) 0=true:=by rw [em,hm];rfl
    rw [hat,hb];exact hy
  have hsnd:∀ y,t.snd.at (j / 2)=some y→j % 2≠0→t.at j=some y:=fun y hy hm=>by
   cases t with
   | e=>cases hy
   | lf v=>cases hy
   | nd l r=>
    have hb:Nat.beq (Nat.mod j 2) 0=false:=by rw [em,(by omega:j % 2=1)];rfl
    rw [hat,hb];exact hy
  rw [iZ] at h;by_cases hkm:k % 2=0
  ·have hbk:Nat.beq (Nat.mod k 2) 0=true:=by rw [em,hkm];rfl
   rw [hbk] at h;by_cases hjm:j % 2=0
   ·have hbj:Nat.beq (Nat.mod j 2) 0=true:=by rw [em,hjm];rfl
    rw [show (Bool.rec (motive:=fun _=>T α) (.nd t.fst (t.snd.put d (Nat.div k 2) s)) (.nd (t.fst.put d (Nat.div k 2) s) t.snd) true:T α)=.nd (t.fst.put d (Nat.div k 2) s) t.snd from rfl,hat,hbj] at h;rcases ih t.fst (k / 2) (j / 2) hk2 hj2 h with ⟨h1,h2⟩ | ⟨h1,h2⟩
    ·exact .inl ⟨by omega,h2⟩
    ·exact .inr ⟨by omega,hfst _ h2 hjm⟩
   ·have hbj:Nat.beq (Nat.mod j 2) 0=false:=by rw [em,(by omega:j % 2=1)];rfl
    rw [show (Bool.rec (motive:=fun _=>T α) (.nd t.fst (t.snd.put d (Nat.div k 2) s)) (.nd (t.fst.put d (Nat.div k 2) s) t.snd) true:T α)=.nd (t.fst.put d (Nat.div k 2) s) t.snd from rfl,hat,hbj] at h;exact .inr ⟨by omega,hsnd _ h hjm⟩
  ·have hbk:Nat.beq (Nat.mod k 2) 0=false:=by rw [em,(by omega:k % 2=1)];rfl
   rw [hbk] at h;by_cases hjm:j % 2=0
   ·have hbj:Nat.beq (Nat.mod j 2) 0=true:=by rw [em,hjm];rfl
    rw [show (Bool.rec (motive:=fun _=>T α) (.nd t.fst (t.snd.put d (Nat.div k 2) s)) (.nd (t.fst.put d (Nat.div k 2) s) t.snd) false:T α)=.nd t.fst (t.snd.put d (Nat.div k 2) s) from rfl,hat,hbj] at h;exact .inr ⟨by omega,hfst _ h hjm⟩
   ·have hbj:Nat.beq (Nat.mod j 2) 0=false:=by rw [em,(by omega:j % 2=1)];rfl
    rw [show (Bool.rec (motive:=fun _=>T α) (.nd t.fst (t.snd.put d (Nat.div k 2) s)) (.nd (t.fst.put d (Nat.div k 2) s) t.snd) false:T α)=.nd t.fst (t.snd.put d (Nat.div k 2) s) from rfl,hat,hbj] at h;rcases ih t.snd (k / 2) (j / 2) hk2 hj2 h with ⟨h1,h2⟩ | ⟨h1,h2⟩
    ·exact .inl ⟨by omega,h2⟩
    ·exact .inr ⟨by omega,hsnd _ h2 hjm⟩
theorem fy {α:Type} {b:Bool} {o:Option α} {x:α} (h:qB b o none=some x):b=true∧o=some x:=by
 cases b with
 | true=>exact ⟨rfl,h⟩
 | false=>cases h
theorem fF {a b:Nat} (h:Nat.blt a b=true):a < b:=by simpa [Nat.blt_eq] using h
theorem tZ {N:Nat} {t:T V} {k j:Nat} {v x:V} (hk:k < N) (h:mC N (BE N t k v) j=some x):(j=k∧x=v)∨(j≠k∧mC N t j=some x):=by
 obtain ⟨hb,h⟩:=fy h;have hj:=fF hb;have hp:N < 2 ^ (Nat.log2 N + 1):=Nat.lt_log2_self;rcases uj (Nat.succ (Nat.log2 N)) t k j (Nat.lt_trans hk hp) (Nat.lt_trans hj hp) h with ⟨h1,h2⟩ | ⟨h1,h2⟩
 ·exact .inl ⟨h1,(Option.some.inj h2).symm⟩
 ·refine .inr ⟨h1,?_⟩
  unfold mC;rw [hb];exact h2
theorem sf {t s:T B} {k j:Nat} {x:B} (hj:j < 4096) (h:(iZ t k s).at j=some x):(j=k∧s.at 0=some x)∨(j≠k∧t.at j=some x):=by
 unfold iZ at h;cases hb:Nat.blt k 4096 with
 | true=>
  rw [hb] at h;exact uj 12 t k j (fF hb) hj h
 | false=>
  rw [hb] at h;refine .inr ⟨fun e=>?_,h⟩;subst e;have:Nat.blt j 4096=true:=by simpa [Nat.blt_eq] using hj
  rw [this] at hb;cases hb
theorem gM (h:Hp) (k:Nat):h.get k=qB (Nat.blt k 4096) (h.t.at k) none:=rfl
theorem vG {h:Hp} {k j:Nat} {b x:B} (e:(h.set k b).get j=some x):(j=k∧x=b)∨(j≠k∧h.get j=some x):=by
 rw [gM] at e;obtain ⟨hb,e⟩:=fy e;rcases sf (fF hb) e with ⟨h1,h2⟩ | ⟨h1,h2⟩
 ·exact .inl ⟨h1,(Option.some.inj h2).symm⟩
 ·exact .inr ⟨h1,by rw [gM,hb];exact h2⟩
theorem kT {h:Hp} {k j:Nat} {x:B} (e:(h.del k).get j=some x):j≠k∧h.get j=some x:=by
 rw [gM] at e;obtain ⟨hb,e⟩:=fy e;rcases sf (fF hb) e with ⟨h1,h2⟩ | ⟨h1,h2⟩
 ·cases h2
 ·exact ⟨h1,by rw [gM,hb];exact h2⟩
theorem kS {h:Hp} {j:Nat} {b x:B} (e:(h.new b).get j=some x):(j=h.n∧x=b)∨(j≠h.n∧h.get j=some x):=by
 rw [gM] at e;obtain ⟨hb,e⟩:=fy e;rcases sf (fF hb) e with ⟨h1,h2⟩ | ⟨h1,h2⟩
 ·exact .inl ⟨h1,(Option.some.inj h2).symm⟩
 ·exact .inr ⟨h1,by rw [gM,hb];exact h2⟩
@[simp] theorem Fu (h:Hp) (k:Nat) (b:B):(h.set k b).n=h.n:=rfl
@[simp] theorem Fw (h:Hp) (k:Nat):(h.del k).n=h.n:=rfl
@[simp] theorem Fv (h:Hp) (b:B):(h.new b).n=h.n + 1:=rfl
/-! ### names -/
abbrev Sg:=Nat→Option (Nat × Nat)
def Sg.le (σ τ:Sg):Prop:=∀ k q,σ k=some q→τ k=some q
theorem Sg.le.refl (σ:Sg):σ.le σ:=fun _ _ h=>h
theorem Sg.le.trans {σ τ ρ:Sg} (h:σ.le τ) (k:τ.le ρ):σ.le ρ:=fun i q e=>k i q (h i q e)
def Sg.add (σ:Sg) (k:Nat) (q:Nat × Nat):Sg:=fun j=>if j=k then some q else σ j
theorem cW {σ:Sg} {k:Nat} {q:Nat × Nat} (h:σ k=none):σ.le (σ.add k q):=fun j r e=>by
 unfold Sg.add;split
 ·rename_i hj;rw [hj,h] at e;cases e
 ·exact e
theorem bN (σ:Sg) (k:Nat) (q:Nat × Nat):σ.add k q k=some q:=by simp [Sg.add]
mutual
def den (σ:Sg):V→Option Value
 | .b x=>some (.bool x)
 | .i k n=>some (.int k n)
 | .s x=>some (.string x)
 | .p0=>some (.pointer none)
 | .p m o=>match σ m with
  | some q=>some (.pointer (some ⟨q.1,o,none⟩))
  | none=>none
 | .l0=>some (.slice none 0 0)
 | .l m off o n=>match σ m with
  | some q=>some (.slice (some ⟨q.1,off,none⟩) n (q.2 - o))
  | none=>none
 | .m0=>some (.map none)
 | .m m=>match σ m with
  | some q=>some (.map (some q.1))
  | none=>none
 | .f0=>some .nilFunc
 | .f g pre caps=>match dI σ pre with
  | some a=>match dI σ caps with
   | some b=>some (.func (.func g) a.toArray b.toArray)
   | none=>none
  | none=>none
 | .y m=>match σ m with
  | some q=>some (.func (.yield q.1) #[] #[])
  | none=>none
 | .i0=>some .nilIface
 | .a l=>match dI σ l with
  | some c=>some (.agg c.toArray)
  | none=>none
 | .t l=>match dI σ l with
  | some c=>some (.tuple c.toArray)
  | none=>none
def dI (σ:Sg):List V→Option (List Value)
 | []=>some []
 | v::r=>match den σ v with
  | some x=>match dI σ r with
   | some l=>some (x::l)
   | none=>none
  | none=>none
end
theorem sw (σ:Sg) (v:V) (r:List V):dI σ (v::r)=(match den σ v with
 | some x=>match dI σ r with
  | some l=>some (x::l)
  | none=>none
 | none=>none):=by rw [dI]
theorem aO {σ:Sg} {v:V} {r:List V} {l:List Value}:dI σ (v::r)=some l↔∃ x a,den σ v=some x∧dI σ r=some a∧l=x::a:=by
 rw [sw];constructor
 ·intro h
  cases hv:den σ v with
  | none=>rw [hv] at h;cases h
  | some x=>
   rw [hv] at h;cases hr:dI σ r with
   | none=>rw [hr] at h;cases h
   | some a=>rw [hr] at h;exact ⟨x,a,rfl,rfl,(Option.some.inj h).symm⟩
 ·rintro ⟨x,a,h1,h2,rfl⟩
  rw [h1,h2]
@[simp] theorem dX {σ:Sg}:dI σ []=some []:=by rw [dI]
mutual
theorem jS {σ τ:Sg} (h:σ.le τ):∀ (v:V) (x:Value),den σ v=some x→den τ v=some x
 | .b _,_,e=>e
 | .i _ _,_,e=>e
 | .s _,_,e=>e
 | .p0,_,e=>e
 | .l0,_,e=>e
 | .m0,_,e=>e
 | .f0,_,e=>e
 | .i0,_,e=>e
 | .p m o,x,e=>by
  unfold den at e ⊢;cases hm:σ m with
  | none=>rw [hm] at e;cases e
  | some q=>rw [hm] at e;rw [h m q hm];exact e
 | .l m off o n,x,e=>by
  unfold den at e ⊢;cases hm:σ m with
  | none=>rw [hm] at e;cases e
  | some q=>rw [hm] at e;rw [h m q hm];exact e
 | .m m,x,e=>by
  unfold den at e ⊢;cases hm:σ m with
  | none=>rw [hm] at e;cases e
  | some q=>rw [hm] at e;rw [h m q hm];exact e
 | .y m,x,e=>by
  unfold den at e ⊢;cases hm:σ m with
  | none=>rw [hm] at e;cases e
  | some q=>rw [hm] at e;rw [h m q hm];exact e
 | .f g pre caps,x,e=>by
  unfold den at e ⊢;cases h1:dI σ pre with
  | none=>rw [h1] at e;cases e
  | some a=>
   rw [h1] at e;cases h2:dI σ caps with
   | none=>rw [h2] at e;cases e
   | some b=>
    rw [h2] at e;rw [bT h pre a h1,bT h caps b h2];exact e
 | .a l,x,e=>by
  unfold den at e ⊢;cases h1:dI σ l with
  | none=>rw [h1] at e;cases e
  | some a=>rw [h1] at e;rw [bT h l a h1];exact e
 | .t l,x,e=>by
  unfold den at e ⊢;cases h1:dI σ l with
  | none=>rw [h1] at e;cases e
  | some a=>rw [h1] at e;rw [bT h l a h1];exact e
theorem bT {σ τ:Sg} (h:σ.le τ):∀ (l:List V) (a:List Value),dI σ l=some a→dI τ l=some a
 | [],_,e=>by simpa using e
 | v::r,a,e=>by
  obtain ⟨x,b,h1,h2,rfl⟩:=aO.1 e;exact aO.2 ⟨x,b,jS h v x h1,bT h r b h2,rfl⟩
end
theorem cy {σ:Sg}:∀ {l:List V} {a:List Value},dI σ l=some a→a.length=l.length:=by
 intro l;induction l with
 | nil=>intro a h;simp at h;simp [← h]
 | cons v r ih=>intro a h;obtain ⟨x,b,_,h2,rfl⟩:=aO.1 h;simp [ih h2]
theorem sx {σ:Sg}:∀ {l:List V} {a:List Value} {i:Nat} {v:V},dI σ l=some a→l[i]?=some v→∃ x,a[i]?=some x∧den σ v=some x:=by
 intro l;induction l with
 | nil=>intro a i v _ h;simp at h
 | cons u r ih=>
  intro a i v h hi;obtain ⟨x,b,h1,h2,rfl⟩:=aO.1 h;cases i with
  | zero=>simp at hi;subst hi;exact ⟨x,by simp,h1⟩
  | succ i=>simpa using ih h2 (by simpa using hi)
theorem cK {σ:Sg}:∀ {l m:List V} {a b:List Value},dI σ l=some a→dI σ m=some b→dI σ (l++m)=some (a++b):=by
 intro l;induction l with
 | nil=>intro m a b h k;simp at h;subst h;simpa using k
 | cons v r ih=>intro m a b h k;obtain ⟨x,c,h1,h2,rfl⟩:=aO.1 h;exact aO.2 ⟨x,c++b,h1,ih h2 k,rfl⟩
theorem jU {σ:Sg} (n:Nat):∀ {l:List V} {a:List Value},dI σ l=some a→dI σ (l.take n)=some (a.take n):=by
 induction n with
 | zero=>intro l a h;simp
 | succ n ih=>
  intro l a h;cases l with
  | nil=>simp at h;subst h;simp
  | cons v r=>obtain ⟨x,c,h1,h2,rfl⟩:=aO.1 h;exact aO.2 ⟨x,c.take n,h1,ih h2,rfl⟩
theorem jV {σ:Sg} (n:Nat):∀ {l:List V} {a:List Value},dI σ l=some a→dI σ (l.drop n)=some (a.drop n):=by
 induction n with
 | zero=>intro l a h;simpa using h
 | succ n ih=>
  intro l a h;cases l with
  | nil=>simp at h;subst h;simp
  | cons v r=>obtain ⟨x,c,h1,h2,rfl⟩:=aO.1 h;simpa using ih h2
theorem wR {c vs:List V} {o:Nat} (h:o + vs.length≤c.length):over c o vs=c.take o++vs++c.drop (o + vs.length):=by
 unfold over;split
 ·rename_i v
  simp only [List.length_cons,List.length_nil] at h ⊢;rw [List.set_eq_take_append_cons_drop,if_pos (by omega)];simp
 ·rfl
theorem mG {σ:Sg} {c vs:List V} {o:Nat} {c' vs':List Value} (h:o + vs.length≤c.length) (h1:dI σ c=some c') (h2:dI σ vs=some vs'):dI σ (over c o vs)=some (c'.take o++vs'++c'.drop (o + vs'.length)):=by
 rw [wR h,cy h2];exact cK (cK (jU _ h1) h2) (jV _ h1)
theorem me {c vs:List V} {o:Nat} (h:o + vs.length≤c.length):(over c o vs).length=c.length:=by
 rw [wR h];simp;omega
theorem tw {σ:Sg} {x:Value} {v:V} (h:Eg x=some v):den σ v=some x:=by
 unfold Eg at h;split at h <;> first | (cases h;done) | (obtain rfl:=Option.some.inj h;simp [den])
theorem iO {σ:Sg}:∀ {l:List Value} {c:List V},zR l=some c→dI σ c=some l:=by
 intro l;induction l with
 | nil=>intro c h;simp [zR] at h;subst h;simp
 | cons x r ih=>
  intro c h;unfold zR at h;cases h1:Eg x with
  | none=>rw [h1] at h;cases h
  | some v=>
   rw [h1] at h;cases h2:zR r with
   | none=>rw [h2] at h;cases h
   | some d=>
    rw [h2] at h;obtain rfl:=Option.some.inj h;exact aO.2 ⟨x,r,tw h1,ih h2,rfl⟩
theorem rS {σ:Sg} {x:Value} {v:V} (h:ofV x=some v):den σ v=some x:=by
 unfold ofV at h;split at h
 ·rename_i cs
  cases h1:zR cs.toList with
  | none=>rw [h1] at h;cases h
  | some l=>rw [h1] at h;obtain rfl:=Option.some.inj h;simp [den,iO h1]
 ·rename_i cs
  split at h
  ·rename_i hc;obtain rfl:=Option.some.inj h;simp [den];rw [← Array.toList_inj];simp [hc]
  ·cases h
 ·rename_i g pre caps
  split at h
  ·rename_i h1 h2
   obtain rfl:=Option.some.inj h;simp [den];constructor
   ·rw [← Array.toList_inj];simp [h1]
   ·rw [← Array.toList_inj];simp [h2]
  ·cases h
 ·exact tw h
theorem CG {σ:Sg} {v:V} {x:Value} (h:den σ v=some x) (h1:v.one=true):x.oneCell'=true:=by
 cases v <;> first
  | (simp [V.one] at h1;done)
  | (unfold den at h;revert h;first | (intro h;obtain rfl:=Option.some.inj h;rfl) | (split <;> intro h <;> first | (cases h;done) | (obtain rfl:=Option.some.inj h;rfl) | (revert h;split <;> intro h <;> first | (cases h;done) | (obtain rfl:=Option.some.inj h;rfl))))
theorem tu {σ:Sg}:∀ {l:List V} {a:List Value},dI σ l=some a→l.all V.one=true→∀ x∈a,x.oneCell'=true:=by
 intro l;induction l with
 | nil=>intro a h _ x hx;simp at h;subst h;simp at hx
 | cons v r ih=>
  intro a h h1 x hx;obtain ⟨y,b,h2,h3,rfl⟩:=aO.1 h;simp only [List.all_cons,Bool.and_eq_true] at h1;rcases List.mem_cons.1 hx with rfl | hx
  ·exact CG h2 h1.1
  ·exact ih h3 h1.2 x hx
end Go.Proofs.YtbcdgcodnkgdoaaGreat.Run
namespace Go.Proofs.YtbcdgcodnkgdoaaGreat.Run
open Go Go.RowKit
def DS (fz:Nat × Nat) (n:Nat):Prop:=fz.1=fz.2∨n≤fz.1
structure FrR (σ:Sg) (N:Nat) (fr:T V) (tmps:Array Value):Prop where
 size:tmps.size=N
 at_:∀ k v,mC N fr k=some v→∃ x,den σ v=some x∧tmps[k]?=some x
theorem FrR.mono {σ τ:Sg} {N:Nat} {fr:T V} {tmps:Array Value} (h:FrR σ N fr tmps) (le:σ.le τ):FrR τ N fr tmps:=
 ⟨h.size,fun k v hk=>let ⟨x,h1,h2⟩:=h.at_ k v hk;⟨x,jS le v x h1,h2⟩⟩
theorem FrR.put {σ:Sg} {N:Nat} {fr:T V} {tmps:Array Value} (h:FrR σ N fr tmps) {d:Nat} {v:V} {x:Value} (hd:d < N) (hv:den σ v=some x):FrR σ N (BE N fr d v) (tmps.setIfInBounds d x):=by
 refine ⟨by simp [h.size],fun k u hk=>?_⟩;rcases tZ hd hk with ⟨rfl,rfl⟩ | ⟨hne,hk⟩
 ·exact ⟨x,hv,by simp [h.size,hd]⟩
 ·obtain ⟨y,h1,h2⟩:=h.at_ k u hk
  exact ⟨y,h1,by rw [Array.getElem?_setIfInBounds_ne (Ne.symm hne)];exact h2⟩
def vL (σ:Sg):List (V × V)→List MapEntry→Prop
 | [],[]=>True
 | e::r,m::q=>den σ e.1=some m.key∧den σ e.2=some m.val∧vL σ r q
 | _,_=>False
theorem vL.mono {σ τ:Sg} (le:σ.le τ):∀ {es:List (V × V)} {ms:List MapEntry},vL σ es ms→vL τ es ms:=by
 intro es;induction es with
 | nil=>intro ms h;cases ms <;> exact h
 | cons e r ih=>
  intro ms h;cases ms with
  | nil=>exact h.elim
  | cons m q=>exact ⟨jS le _ _ h.1,jS le _ _ h.2.1,ih h.2.2⟩
def obj (σ:Sg):B→Nat × Nat→Obj→Prop
 | .cells c t,q,o=>∃ c' fz,dI σ c=some c'∧o=.cells c'.toArray t fz∧DS fz c'.length∧q.2=c.length
 | .buf c t,q,o=>∃ c' rest fz sz,szt t=some sz∧dI σ c=some c'∧o=.cells (c'++rest).toArray t fz∧DS fz (c'++rest).length∧(c'++rest).length=q.2 * sz∧q.2≤dK
 | .map es,q,o=>∃ ms clock,vL σ es ms∧o=.map ms.toArray clock
 | .loop ready fr N ps asg body _ d,q,o=>∃ tmps dq fn,FrR σ N fr tmps∧σ d=some dq∧o=.loop { state:=if ready then .ready else .busy,pending:=none,fn:=fn,tmps:=tmps,params:=ps.toArray,assign:=asg,body:=body,defers:=dq.1 }
 | .dfr,q,o=>o=.deferred (some [])
theorem obj.mono {σ τ:Sg} (le:σ.le τ):∀ {b:B} {q:Nat × Nat} {o:Obj},obj σ b q o→obj τ b q o
 | .cells c t,q,o,⟨c',fz,h1,h2⟩=>⟨c',fz,bT le _ _ h1,h2⟩
 | .buf c t,q,o,⟨c',rest,fz,sz,h0,h1,h2⟩=>⟨c',rest,fz,sz,h0,bT le _ _ h1,h2⟩
 | .map es,q,o,⟨ms,clock,h1,h2⟩=>⟨ms,clock,h1.mono le,h2⟩
 | .loop ..,q,o,⟨tmps,dq,fn,h1,h2,h3⟩=>⟨tmps,dq,fn,h1.mono le,le _ _ h2,h3⟩
 | .dfr,q,o,h=>h
structure gN (w0:World) (σ:Sg) (g:Nat→Option B) (w:World):Prop where
 kp:cL No w0 w
 low:∀ k q,σ k=some q→w0.heap.size≤q.1∧q.1 < w.heap.size
 obj:∀ k b,g k=some b→∃ q o,σ k=some q∧w.heap[q.1]?=some o∧Run.obj σ b q o
 inj:∀ j k a b q r,g j=some a→g k=some b→σ j=some q→σ k=some r→q.1=r.1→j=k
structure Den (w0:World) (σ:Sg) (h:Hp) (w:World):Prop where
 g:gN w0 σ h.get w
 up:∀ k,h.n≤k→σ k=none
theorem gN.sub {w0 w:World} {σ:Sg} {g g':Nat→Option B} (H:gN w0 σ g w) (hs:∀ k b,g' k=some b→g k=some b):gN w0 σ g' w:=
 ⟨H.kp,H.low,fun k b hk=>H.obj k b (hs k b hk),fun j k a b q r hj hk=>H.inj j k a b q r (hs _ _ hj) (hs _ _ hk)⟩
structure rb (w w':World) (b:Nat) (o:Obj):Prop where
 os:w'.os=w.os
 tape:w'.tape=w.tape
 output:w'.output=w.output
 size:w'.heap.size=w.heap.size
 at_:w'.heap[b]?=some o
 block:∀ i,i≠b→w'.heap[i]?=w.heap[i]?
theorem gN.turn {w0 w w':World} {σ:Sg} {g g':Nat→Option B} {k:Nat} {b b':B} {q:Nat × Nat} {o:Obj} (H:gN w0 σ g w) (hk:g k=some b) (hq:σ k=some q) (ht:rb w w' q.1 o) (ho:Run.obj σ b' q o)
 (hg:∀ j c,g' j=some c→(j=k∧c=b')∨(j≠k∧g j=some c)):gN w0 σ g' w':=by
 have hlow:=H.low k q hq;refine ⟨⟨ht.os.trans H.kp.os,ht.tape.trans H.kp.tape,ht.output.trans H.kp.output,by rw [ht.size];exact H.kp.size,fun i hi hn=>by rw [ht.block i (by omega)];exact H.kp.block i hi hn⟩,fun j r hr=>by rw [ht.size];exact H.low j r hr,fun j c hj=>?_,fun i j a c r s hi hj hr hs e=>?_⟩
 ·rcases hg j c hj with ⟨rfl,rfl⟩ | ⟨hne,hj⟩
  ·exact ⟨q,o,hq,ht.at_,ho⟩
  ·obtain ⟨r,o',h1,h2,h3⟩:=H.obj j c hj
   refine ⟨r,o',h1,?_,h3⟩;rw [ht.block r.1 (fun e=>hne (H.inj j k c b r q hj hk h1 hq e))];exact h2
 ·have key:∀ i a,g' i=some a→∃ a',g i=some a':=fun i a hi=>by
   rcases hg i a hi with ⟨rfl,_⟩ | ⟨_,hi⟩
   ·exact ⟨b,hk⟩
   ·exact ⟨a,hi⟩
  obtain ⟨a',ha⟩:=key i a hi;obtain ⟨c',hc⟩:=key j c hj;exact H.inj i j a' c' r s ha hc hr hs e
theorem Den.turn {w0 w w':World} {σ:Sg} {h:Hp} {k:Nat} {b b':B} {q:Nat × Nat} {o:Obj} (H:Den w0 σ h w) (hk:h.get k=some b) (hq:σ k=some q) (ht:rb w w' q.1 o) (ho:Run.obj σ b' q o):Den w0 σ (h.set k b') w':=
 ⟨H.g.turn hk hq ht ho (fun _ _=>vG),H.up⟩
theorem Den.del {w0 w:World} {σ:Sg} {h:Hp} (H:Den w0 σ h w) (k:Nat):Den w0 σ (h.del k) w:=
 ⟨H.g.sub (fun j c hj=>(kT hj).2),H.up⟩
theorem gN.drew {w0 w:World} {σ:Sg} {g:Nat→Option B} (H:gN w0 σ g w):gN w0 σ g w.drew:=
 ⟨H.kp.trans (cL.drew No w) (fun _ hb=>hb.elim),H.low,H.obj,H.inj⟩
theorem Den.drew {w0 w:World} {σ:Sg} {h:Hp} (H:Den w0 σ h w):Den w0 σ h w.drew:=⟨H.g.drew,H.up⟩
theorem i6 (w:World) (o:Obj) {i:Nat} (h:i < w.heap.size):(w.alloc o).heap[i]?=w.heap[i]?:=by
 show (w.heap.push o)[i]?=_;rw [Array.getElem?_push];simp [Nat.ne_of_lt h]
theorem nk (w:World) (o:Obj):(w.alloc o).heap[w.heap.size]?=some o:=by
 show (w.heap.push o)[w.heap.size]?=some o;simp
theorem fD (w:World) (o:Obj):(w.alloc o).heap.size=w.heap.size + 1:=by
 show (w.heap.push o).size=_;simp
theorem gN.new {w0 w:World} {σ:Sg} {g g':Nat→Option B} {n:Nat} {b:B} {o:Obj} {cap:Nat} (H:gN w0 σ g w) (hn:σ n=none) (ho:Run.obj (σ.add n (w.heap.size,cap)) b (w.heap.size,cap) o)
 (hg:∀ j c,g' j=some c→(j=n∧c=b)∨(j≠n∧g j=some c)):gN w0 (σ.add n (w.heap.size,cap)) g' (w.alloc o):=by
 have le:=cW (q:=(w.heap.size,cap)) hn;have hsz:=fD w o;refine ⟨H.kp.trans (cL.alloc No w o) (fun _ hb=>hb.elim),fun k q hq=>?_,fun j c hj=>?_,fun i j a c q r hi hj hq hr e=>?_⟩
 ·unfold Sg.add at hq
  split at hq
  ·obtain rfl:=Option.some.inj hq
   exact ⟨H.kp.size,by rw [hsz];exact Nat.lt_succ_self _⟩
  ·have:=H.low k q hq
   exact ⟨this.1,by rw [hsz];omega⟩
 ·rcases hg j c hj with ⟨rfl,rfl⟩ | ⟨hne,hj⟩
  ·exact ⟨(w.heap.size,cap),o,bN _ _ _,nk w o,ho⟩
  ·obtain ⟨q,o',h1,h2,h3⟩:=H.obj j c hj
   exact ⟨q,o',le _ _ h1,by rw [i6 w o (H.low j q h1).2];exact h2,h3.mono le⟩
 ·have key:∀ i a q,g' i=some a→(σ.add n (w.heap.size,cap)) i=some q→(i=n∧q.1=w.heap.size)∨(i≠n∧g i=some a∧σ i=some q∧q.1 < w.heap.size):=fun i a q hi hq=>by
   rcases hg i a hi with ⟨rfl,rfl⟩ | ⟨hne,hi⟩
   ·rw [bN] at hq
    obtain rfl:=Option.some.inj hq;exact .inl ⟨rfl,rfl⟩
   ·unfold Sg.add at hq
    rw [if_neg hne] at hq;exact .inr ⟨hne,hi,hq,(H.low i q hq).2⟩
  rcases key i a q hi hq with ⟨h1,h2⟩ | ⟨h1,h2,h3,h4⟩ <;> rcases key j c r hj hr with ⟨k1,k2⟩ | ⟨k1,k2,k3,k4⟩
  ·rw [h1,k1]
  ·omega
  ·omega
  ·exact H.inj i j a c q r h2 k2 h3 k3 e
theorem Den.new {w0 w:World} {σ:Sg} {h:Hp} {b:B} {o:Obj} {cap:Nat} (H:Den w0 σ h w) (ho:Run.obj (σ.add h.n (w.heap.size,cap)) b (w.heap.size,cap) o):
 σ.le (σ.add h.n (w.heap.size,cap))∧Den w0 (σ.add h.n (w.heap.size,cap)) (h.new b) (w.alloc o):=by
 have hn:σ h.n=none:=H.up h.n (Nat.le_refl _);refine ⟨cW hn,H.g.new hn ho (fun _ _=>kS),fun k hk=>?_⟩;simp at hk;unfold Sg.add;rw [if_neg (by omega)];exact H.up k (by omega)
/-! ### rows -/
theorem wu {h:Hp} {m:Nat} {c:List V} (e:h.row m=some c):∃ t,h.get m=some (.cells c t)∨h.get m=some (.buf c t):=by
 unfold Hp.row at e;cases hg:h.get m with
 | none=>rw [hg] at e;cases e
 | some b=>
  rw [hg] at e;cases b with
  | cells d t=>obtain rfl:=Option.some.inj e;exact ⟨t,.inl rfl⟩
  | buf d t=>obtain rfl:=Option.some.inj e;exact ⟨t,.inr rfl⟩
  | map _=>cases e
  | loop=>cases e
  | dfr=>cases e
theorem gN.row {w0 w:World} {σ:Sg} {h:Hp} {m:Nat} {c:List V} (H:gN w0 σ h.get w) (e:h.row m=some c):
 ∃ q c' rest t fz,σ m=some q∧dI σ c=some c'∧w.heap[q.1]?=some (.cells (c'++rest).toArray t fz)∧DS fz (c'++rest).length:=by
 obtain ⟨t,hg | hg⟩:=wu e
 ·obtain ⟨q,o,h1,h2,c',fz,h3,rfl,h4,_⟩:=H.obj m _ hg
  exact ⟨q,c',[],t,fz,h1,h3,by simpa using h2,by simpa using h4⟩
 ·obtain ⟨q,o,h1,h2,c',rest,fz,sz,_,h3,rfl,h4,_⟩:=H.obj m _ hg
  exact ⟨q,c',rest,t,fz,h1,h3,h2,h4⟩
theorem lC {w:World} {b:Nat} {l:List Value} {t:TypeId} {fz:Nat × Nat} (h:w.heap[b]?=some (.cells l.toArray t fz)) (o:Nat):w.cell? ⟨b,o,none⟩=l[o]?:=by
 simp [World.cell?,h]
theorem mK {w:World} {b:Nat} {l r:List Value} {t:TypeId} {fz:Nat × Nat} (h:w.heap[b]?=some (.cells (l++r).toArray t fz)) (o:Nat):bj w b o (l.drop o):=fun i v hv=>by
 rw [lC h,List.getElem?_append_left]
 ·rw [List.getElem?_drop] at hv;exact hv
 ·rw [List.getElem?_drop] at hv;exact (List.getElem?_eq_some_iff.1 hv).1
theorem kV {w:World} {b:Nat} {l:List Value} {t:TypeId} {fz:Nat × Nat} (h:w.heap[b]?=some (.cells l.toArray t fz)) (hf:DS fz l.length) (o:Nat) (ho:o < l.length):w.frozen? ⟨b,o,none⟩=false:=by
 simp only [World.frozen?,h];rcases hf with hf | hf
 ·rw [Bool.and_eq_false_iff]
  by_cases h1:fz.1≤o
  ·exact .inr (by simp;omega)
  ·exact .inl (by simpa using h1)
 ·rw [Bool.and_eq_false_iff]
  exact .inl (by simp;omega)
theorem o7 {b:Nat} {t:TypeId} {fz:Nat × Nat}:∀ (vs:List Value) (o:Nat) (w:World) (l:List Value),w.heap[b]?=some (.cells l.toArray t fz)→o + vs.length≤l.length→
 (w.setCells b o vs).heap[b]?=some (.cells (l.take o++vs++l.drop (o + vs.length)).toArray t fz):=by
 intro vs;induction vs with
 | nil=>intro o w l h _;simpa [World.setCells] using h
 | cons v vs ih=>
  intro o w l h hl;simp only [List.length_cons] at hl;have h1:(w.setCell ⟨b,o,none⟩ v).heap[b]?=some (.cells (l.set o v).toArray t fz):=by simp [World.setCell,Array.getElem?_modify,h]
  rw [World.setCells,ih (o + 1) _ (l.set o v) h1 (by simp;omega)]
  congr 3
  rw [List.drop_set_of_lt (by omega),List.take_set,List.take_succ_eq_append_getElem (by omega),List.set_append_right _ _ (by simp;omega)];simp [Nat.min_eq_left (show o≤l.length by omega),Nat.add_assoc,Nat.add_comm 1]
theorem m7 (b:Nat):∀ (vs:List Value) (o:Nat) (w:World),(w.setCells b o vs).heap.size=w.heap.size:=by
 intro vs;induction vs with
 | nil=>intro o w;rfl
 | cons v vs ih=>intro o w;rw [World.setCells,ih,eZ]
theorem nh (b:Nat):∀ (vs:List Value) (o:Nat) (w:World) (i:Nat),i≠b→(w.setCells b o vs).heap[i]?=w.heap[i]?:=by
 intro vs;induction vs with
 | nil=>intro o w i _;rfl
 | cons v vs ih=>intro o w i hi;rw [World.setCells,ih _ _ _ hi,jg _ _ _ _ hi]
theorem gg (b:Nat):∀ (vs:List Value) (o:Nat) (w:World),(w.setCells b o vs).os=w.os∧(w.setCells b o vs).tape=w.tape∧(w.setCells b o vs).output=w.output:=by
 intro vs;induction vs with
 | nil=>intro o w;exact ⟨rfl,rfl,rfl⟩
 | cons v vs ih=>intro o w;exact ih _ _
theorem f9 {b:Nat} {t:TypeId} {fz:Nat × Nat} {vs:List Value} {o:Nat} {w:World} {l:List Value} (h:w.heap[b]?=some (.cells l.toArray t fz)) (hl:o + vs.length≤l.length):
 rb w (w.setCells b o vs) b (.cells (l.take o++vs++l.drop (o + vs.length)).toArray t fz):=
 ⟨(gg b vs o w).1,(gg b vs o w).2.1,(gg b vs o w).2.2,m7 b vs o w,o7 vs o w l h hl,nh b vs o w⟩
theorem Den.write {w0 w:World} {σ:Sg} {h:Hp} {m o:Nat} {c vs:List V} {vs':List Value} {q:Nat × Nat} (H:Den w0 σ h w) (e:h.row m=some c) (hq:σ m=some q) (hv:dI σ vs=some vs') (hl:o + vs.length≤c.length):
 Den w0 σ (h.setRow m (over c o vs)) (w.setCells q.1 o vs'):=by
 have hvl:=cy hv;obtain ⟨t,hg | hg⟩:=wu e
 ·obtain ⟨q',o',h1,h2,c',fz,h3,rfl,h4,h5⟩:=H.g.obj m _ hg
  rw [hq] at h1;obtain rfl:=Option.some.inj h1;have hcl:=cy h3;have hs:h.setRow m (over c o vs)=h.set m (.cells (over c o vs) t):=by unfold Hp.setRow;rw [hg]
  rw [hs];refine H.turn hg hq (f9 h2 (by omega)) ⟨_,fz,mG hl h3 hv,rfl,?_,by rw [me hl];exact h5⟩;have:(c'.take o++vs'++c'.drop (o + vs'.length)).length=c'.length:=by simp;omega
  rw [this];exact h4
 ·obtain ⟨q',o',h1,h2,c',rest,fz,sz,h0,h3,rfl,h4,h5,h6⟩:=H.g.obj m _ hg
  rw [hq] at h1;obtain rfl:=Option.some.inj h1;have hcl:=cy h3;have hs:h.setRow m (over c o vs)=h.set m (.buf (over c o vs) t):=by unfold Hp.setRow;rw [hg]
  rw [hs]
  have e1:(c'++rest).take o++vs'++(c'++rest).drop (o + vs'.length)=(c'.take o++vs'++c'.drop (o + vs'.length))++rest:=by
   rw [List.take_append_of_le_length (by omega),List.drop_append_of_le_length (by omega)];simp
  have e2:(c'.take o++vs'++c'.drop (o + vs'.length)).length=c'.length:=by simp;omega
  refine H.turn hg hq (f9 h2 (by simp;omega)) ⟨_,rest,fz,sz,h0,mG hl h3 hv,by rw [e1],?_,?_,h6⟩
  ·rw [List.length_append,e2,← List.length_append];exact h4
  ·rw [List.length_append,e2,← List.length_append];exact h5
theorem Den.stores {w0 w:World} {σ:Sg} {h:Hp} {m o:Nat} {c:List V} {vs':List Value} {q:Nat × Nat} (H:Den w0 σ h w) (e:h.row m=some c) (hq:σ m=some q) (hl:o + vs'.length≤c.length) (h1:∀ x∈vs',x.oneCell'=true):
 (storeCells ⟨q.1,o,none⟩ vs').run PG w=.ok () (w.setCells q.1 o vs'):=by
 obtain ⟨q',c',rest,t,fz,h2,h3,h4,h5⟩:=H.g.row e;rw [hq] at h2;obtain rfl:=Option.some.inj h2;have hcl:=cy h3;have:=run_storeCells_cells (P:=PG) q.1 o vs' 0 w (fun j hj=>by rw [Nat.add_zero,lC h4];simp;omega) (fun j hj=>kV h4 h5 _ (by simp;omega)) h1
 simpa using this
end Go.Proofs.YtbcdgcodnkgdoaaGreat.Run
namespace Go.Proofs.YtbcdgcodnkgdoaaGreat.Run
open Go Go.RowKit
/-! ### answers -/
theorem bn {α β:Type} {r:R α} {f:α→R β} {y:β} (h:r.bind f=.ok y):∃ x,r=.ok x∧f x=.ok y:=by
 cases r with
 | ok x=>exact ⟨x,rfl,h⟩
 | er l=>cases h
theorem bx {α:Type} {k:Nat} {b:Bool} {r:R α} {y:α} (h:cx k b r=.ok y):b=true∧r=.ok y:=by
 cases b with
 | true=>exact ⟨rfl,h⟩
 | false=>cases h
theorem FU {α:Type} {k:Nat} {o:Option α} {y:α} (h:R.of k o=.ok y):o=some y:=by
 cases o with
 | none=>cases h
 | some x=>exact congrArg some (R.ok.inj h)
theorem sW {α:Type} {k:Nat} {r:R α} {y:α} (h:pu k r=.ok y):r=.ok y:=by
 cases r with
 | ok x=>exact h
 | er l=>cases h
theorem uU {h:Hp} {k:Nat} {o:Option V} {q:A} (e:o1 h k o=.ok q):∃ v,o=some v∧q=⟨v,h⟩:=by
 cases o with
 | none=>cases e
 | some v=>exact ⟨v,rfl,(R.ok.inj e).symm⟩
theorem f8 {h:Hp} {r:R V} {q:A} (e:lK h r=.ok q):∃ v,r=.ok v∧q=⟨v,h⟩:=by
 obtain ⟨v,h1,h2⟩:=bn e;exact ⟨v,h1,(R.ok.inj h2).symm⟩
/-! ### types -/
theorem ll {t:TypeId} {sz:Nat} (h:szt t=some sz):∃ i z,PG.info? t=some i∧i.zero=some z∧i.size=sz:=by
 unfold szt at h;cases hi:PG.info? t with
 | none=>rw [hi] at h;cases h
 | some i=>
  rw [hi] at h;simp only at h;cases hz:i.zero with
  | none=>rw [hz] at h;cases h
  | some z=>rw [hz] at h;exact ⟨i,z,rfl,hz,Option.some.inj h⟩
theorem fu {t:TypeId} {sz:Nat} (h:szt t=some sz) (w:World):(sizeOf t).run PG w=.ok sz w:=by
 obtain ⟨i,z,hi,_,hs⟩:=ll h;simp [sizeOf,typeInfo,hi,hs]
theorem jq {t:TypeId} {c:List V} (h:zcs t=some c):∃ i z,PG.info? t=some i∧i.zero=some z∧zR z.cells.toList=some c:=by
 unfold zcs at h;cases hi:PG.info? t with
 | none=>rw [hi] at h;cases h
 | some i=>
  rw [hi] at h;simp only at h;cases hz:i.zero with
  | none=>rw [hz] at h;cases h
  | some z=>rw [hz] at h;exact ⟨i,z,rfl,hz,h⟩
theorem ir {t:TypeId} {d:TypeDesc} (h:PG.underlying t=some d) (w:World):(isAgg t).run PG w=.ok (bH d) w:=by
 cases d <;> simp [isAgg,run_underlying h,bH]
theorem zF {t:TypeId} (h:rdt t=some none):∃ d,PG.underlying t=some d∧bH d=false:=by
 unfold rdt at h;cases hd:PG.underlying t with
 | none=>rw [hd] at h;cases h
 | some d=>
  rw [hd] at h;simp only at h;cases ha:bH d with
  | false=>exact ⟨d,rfl,ha⟩
  | true=>
   rw [ha] at h;simp only at h;cases hs:szt t with
   | none=>rw [hs] at h;cases h
   | some n=>rw [hs] at h;cases h
theorem zE {t:TypeId} {n:Nat} (h:rdt t=some (some n)):∃ d,PG.underlying t=some d∧bH d=true∧szt t=some n:=by
 unfold rdt at h;cases hd:PG.underlying t with
 | none=>rw [hd] at h;cases h
 | some d=>
  rw [hd] at h;simp only at h;cases ha:bH d with
  | false=>rw [ha] at h;cases h
  | true=>
   rw [ha] at h;simp only at h;cases hs:szt t with
   | none=>rw [hs] at h;cases h
   | some m=>rw [hs] at h;exact ⟨d,rfl,ha,by rw [← Option.some.inj (Option.some.inj h)]⟩
theorem Bl {t:TypeId} {c:List V} {o:Nat} {v:V} (h:rdC (rdt t) c o=.ok v):
 (∃ d,PG.underlying t=some d∧bH d=false∧c[o]?=some v)∨(∃ d n,PG.underlying t=some d∧bH d=true∧szt t=some n∧o + n≤c.length∧v=.a ((c.drop o).take n)):=by
 cases hr:rdt t with
 | none=>rw [hr] at h;cases h
 | some q=>
  rw [hr] at h;cases q with
  | none=>
   obtain ⟨d,h1,h2⟩:=zF hr;exact .inl ⟨d,h1,h2,FU h⟩
  | some n=>
   obtain ⟨d,h1,h2,h3⟩:=zE hr;obtain ⟨h4,h5⟩:=bx h;exact .inr ⟨d,n,h1,h2,h3,by simpa [Nat.ble_eq] using h4,(R.ok.inj h5).symm⟩
theorem wK {σ:Sg} {t:TypeId} {c:List V} {c':List Value} {o:Nat} {v:V} (h:rdC (rdt t) c o=.ok v) (hc:dI σ c=some c'):∃ x,den σ v=some x∧∀ w,(part t c'.toArray o).run PG w=.ok x w:=by
 rcases Bl h with ⟨d,h1,h2,h3⟩ | ⟨d,n,h1,h2,h3,h4,rfl⟩
 ·obtain ⟨x,h4,h5⟩:=sx hc h3
  exact ⟨x,h5,fun w=>by simp [part,ir h1,h2,h4,Result.andThen]⟩
 ·refine ⟨.agg ((c'.drop o).take n).toArray,by rw [den,jU n (jV o hc)],fun w=>?_⟩
  simp [part,ir h1,h2,fu h3,Result.andThen,List.extract_eq_take_drop]
theorem D7 {w0 w:World} {σ:Sg} {h:Hp} {t:TypeId} {u v:V} {x:Value} (H:gN w0 σ h.get w) (e:rd h t u=.ok v) (hu:den σ u=some x):∃ A y,x=.pointer (some A)∧den σ v=some y∧(loadVar t A).run PG w=.ok y w:=by
 unfold rd at e;split at e
 ·rename_i m o
  cases hr:h.row m with
  | none=>rw [hr] at e;cases e
  | some c=>
   rw [hr] at e;obtain ⟨q,c',rest,te,fz,h1,h2,h3,h4⟩:=H.row hr;have hx:x=.pointer (some ⟨q.1,o,none⟩):=by rw [den,h1] at hu;exact (Option.some.inj hu).symm
   refine ⟨⟨q.1,o,none⟩,?_⟩;rcases Bl e with ⟨d,k1,k2,k3⟩ | ⟨d,n,k1,k2,k3,k4,rfl⟩
   ·obtain ⟨y,h5,h6⟩:=sx h2 k3
    refine ⟨y,hx,h6,?_⟩
    have hc:w.cell? ⟨q.1,o,none⟩=some y:=by
     rw [lC h3,List.getElem?_append_left (List.getElem?_eq_some_iff.1 h5).1];exact h5
    simp [loadVar,ir k1,k2,hc,Result.andThen]
   ·refine ⟨.agg ((c'.drop o).take n).toArray,hx,by rw [den,jU n (jV o h2)],?_⟩
    have hl:=cy h2
    have hcs:bj w q.1 o ((c'.drop o).take n):=fun i v hv=>mK h3 o i v (by
     rw [List.getElem?_take] at hv;split at hv
     ·exact hv
     ·cases hv)
    have hn:((c'.drop o).take n).length=n:=by simp;omega
    have:=ju (P:=PG) hcs;rw [hn] at this;simp [loadVar,ir k1,k2,fu k3,this,Result.andThen]
 ·cases e
/-! ### equality -/
theorem c8 {u v:V} {x y:List V} {c:Bool} (h:la (u::x) (v::y)=some c):∃ k a b c',u=.i k a∧v=.i k b∧la x y=some c'∧c=(decide (a=b)&&c'):=by
 unfold la at h;split at h
 ·rename_i h1;cases h1
 ·rename_i k a r k' b q h1 h2
  obtain ⟨rfl,rfl⟩:=List.cons.inj h1;obtain ⟨rfl,rfl⟩:=List.cons.inj h2;split at h
  ·rename_i hk
   obtain rfl:=of_decide_eq_true hk;split at h
   ·rename_i c' hc
    exact ⟨k,a,b,c',rfl,rfl,hc,(Option.some.inj h).symm⟩
   ·cases h
  ·cases h
 ·cases h
theorem ou {c:Bool} (h:la [] []=some c):c=true:=(Option.some.inj h).symm
theorem vM {σ:Sg} {k:IntKind} {a:Int} {x:Value} (h:den σ (.i k a)=some x):x=.int k a:=by rw [den] at h;exact (Option.some.inj h).symm
theorem vf (w:World) (k k2:IntKind) (a b a' b':Int):(Op.equalIn 10000 111 (.agg #[.int k a,.int k2 b]) (.agg #[.int k a',.int k2 b'])).run PG w=.ok (decide (a=a')&&decide (b=b')) w:=by
 rw [run_equalIn_agg w 9999 111 _ _ (by simp [Program.fieldsOf,Tryz.underlying111]) Tryz.stoodInHeld111];have h3:PG.underlying 3=some (.int .i64):=Tryz.underlying3;have p:∀ (xs:Array Value) (o:Nat) (v:Value),xs[o]?=some v→(part 3 xs o).run PG w=.ok v w:=fun xs o v h=>by simp [part,ir h3,bH,h,Result.andThen]
 have q:∀ (d:Nat) (k:IntKind) (a b:Int),(Op.equalIn (d + 1) 3 (.int k a) (.int k b)).run PG w=.ok (a == b) w:=fun d k a b=>run_equalIn_int w d 3 k .i64 a b h3;have p1:=p #[.int k a,.int k2 b] 0 (.int k a) rfl;have p2:=p #[.int k a,.int k2 b] 1 (.int k2 b) rfl;have p3:=p #[.int k a',.int k2 b'] 0 (.int k a') rfl;have p4:=p #[.int k a',.int k2 b'] 1 (.int k2 b') rfl;have q1:=q 9998 k a a';have q2:=q 9998 k2 b b';simp [Program.fieldsOf,Tryz.underlying111,Op.eqFields,p1,p2,p3,p4,q1,q2,Result.andThen];by_cases h1:a=a' <;> by_cases h2:b=b' <;> simp [h1,h2]
theorem vg (w:World) (k0 k1 k2 k3:IntKind) (a0 a1 a2 a3 b0 b1 b2 b3:Int):(Op.equalIn 10000 95 (.agg #[.int k0 a0,.int k1 a1,.int k2 a2,.int k3 a3]) (.agg #[.int k0 b0,.int k1 b1,.int k2 b2,.int k3 b3])).run PG w=
 .ok (decide (a0=b0)&&(decide (a1=b1)&&(decide (a2=b2)&&decide (a3=b3)))) w:=by
 have h95:PG.underlying 95=some (.array 4 5):=Tryz.underlying95;have h5:PG.underlying 5=some (.int .u8):=Tryz.underlying5;obtain ⟨i,z,hi,_,hs⟩:=ll (t:=5) (sz:=1) (by kernel_rfl);rw [run_equalIn_array w 9999 _ _ h95 hi];have hcell:PG.cellsOf 5=1:=by kernel_rfl
 have p:∀ (xs:Array Value) (o:Nat) (v:Value),xs[o]?=some v→(part 5 xs o).run PG w=.ok v w:=fun xs o v h=>by simp [part,ir h5,bH,h,Result.andThen]
 have q:∀ (d:Nat) (k:IntKind) (a b:Int),(Op.equalIn (d + 1) 5 (.int k a) (.int k b)).run PG w=.ok (a == b) w:=fun d k a b=>run_equalIn_int w d 5 k .u8 a b h5;have p0:=p #[.int k0 a0,.int k1 a1,.int k2 a2,.int k3 a3] 0 _ rfl;have p1:=p #[.int k0 a0,.int k1 a1,.int k2 a2,.int k3 a3] 1 _ rfl;have p2:=p #[.int k0 a0,.int k1 a1,.int k2 a2,.int k3 a3] 2 _ rfl;have p3:=p #[.int k0 a0,.int k1 a1,.int k2 a2,.int k3 a3] 3 _ rfl;have r0:=p #[.int k0 b0,.int k1 b1,.int k2 b2,.int k3 b3] 0 _ rfl;have r1:=p #[.int k0 b0,.int k1 b1,.int k2 b2,.int k3 b3] 1 _ rfl;have r2:=p #[.int k0 b0,.int k1 b1,.int k2 b2,.int k3 b3] 2 _ rfl;have r3:=p #[.int k0 b0,.int k1 b1,.int k2 b2,.int k3 b3] 3 _ rfl;have q0:=q 9998 k0 a0 b0;have q1:=q 9998 k1 a1 b1;have q2:=q 9998 k2 a2 b2;have q3:=q 9998 k3 a3 b3;simp [Op.eqItems,hcell,List.range_succ,p0,p1,p2,p3,r0,r1,r2,r3,q0,q1,q2,q3,Result.andThen];by_cases h0:a0=b0 <;> by_cases h1:a1=b1 <;> by_cases h2:a2=b2 <;> by_cases h3:a3=b3 <;> simp [h0,h1,h2,h3]
theorem BJ {σ:Sg} {t:TypeId} {x y:List V} {xs ys:List Value} {c:Bool} (h:eqA t x y=some c) (hx:dI σ x=some xs) (hy:dI σ y=some ys):
 PG.eqGuardType PG.depth t=false∧∀ w,(Op.equalIn 10000 t (.agg xs.toArray) (.agg ys.toArray)).run PG w=.ok c w:=by
 unfold eqA at h;split at h
 ·rename_i sz het hsz
  split at h
  ·rename_i hl
   simp only [Bool.and_eq_true,Nat.beq_eq] at hl
   have ht:t=111∨t=95:=by
    unfold et at het
    simpa using het
   rcases ht with rfl | rfl
   ·have:sz=2:=by rw [show szt 111=some 2 from by kernel_rfl] at hsz;exact (Option.some.inj hsz).symm
    subst this;refine ⟨Tryz.eqGuardType111,fun w=>?_⟩
    match x,y,hl with
    | [u1,u2],[v1,v2],_=>
     obtain ⟨k,a,b,c1,rfl,rfl,h1,rfl⟩:=c8 h;obtain ⟨k2,a2,b2,c2,rfl,rfl,h2,rfl⟩:=c8 h1;obtain rfl:=ou h2;obtain ⟨x1,r1,e1,hx1,rfl⟩:=aO.1 hx;obtain ⟨x2,r2,e2,hx2,rfl⟩:=aO.1 hx1;obtain ⟨y1,s1,f1,hy1,rfl⟩:=aO.1 hy;obtain ⟨y2,s2,f2,hy2,rfl⟩:=aO.1 hy1;simp only [dX,Option.some.injEq] at hx2 hy2;subst hx2;subst hy2;obtain rfl:=vM e1;obtain rfl:=vM e2;obtain rfl:=vM f1;obtain rfl:=vM f2;rw [vf];simp
   ·have:sz=4:=by rw [show szt 95=some 4 from by kernel_rfl] at hsz;exact (Option.some.inj hsz).symm
    subst this;refine ⟨Tryz.eqGuardType95,fun w=>?_⟩
    match x,y,hl with
    | [u1,u2,u3,u4],[v1,v2,v3,v4],_=>
     obtain ⟨k,a,b,c1,rfl,rfl,h1,rfl⟩:=c8 h;obtain ⟨k2,a2,b2,c2,rfl,rfl,h2,rfl⟩:=c8 h1;obtain ⟨k3,a3,b3,c3,rfl,rfl,h3,rfl⟩:=c8 h2;obtain ⟨k4,a4,b4,c4,rfl,rfl,h4,rfl⟩:=c8 h3;obtain rfl:=ou h4;obtain ⟨x1,r1,e1,hx1,rfl⟩:=aO.1 hx;obtain ⟨x2,r2,e2,hx2,rfl⟩:=aO.1 hx1;obtain ⟨x3,r3,e3,hx3,rfl⟩:=aO.1 hx2;obtain ⟨x4,r4,e4,hx4,rfl⟩:=aO.1 hx3;obtain ⟨y1,s1,f1,hy1,rfl⟩:=aO.1 hy;obtain ⟨y2,s2,f2,hy2,rfl⟩:=aO.1 hy1;obtain ⟨y3,s3,f3,hy3,rfl⟩:=aO.1 hy2;obtain ⟨y4,s4,f4,hy4,rfl⟩:=aO.1 hy3;simp only [dX,Option.some.injEq] at hx4 hy4;subst hx4;subst hy4;obtain rfl:=vM e1;obtain rfl:=vM e2;obtain rfl:=vM e3;obtain rfl:=vM e4;obtain rfl:=vM f1;obtain rfl:=vM f2;obtain rfl:=vM f3;obtain rfl:=vM f4;rw [vg];simp
  ·cases h
 ·cases h
end Go.Proofs.YtbcdgcodnkgdoaaGreat.Run
namespace Go.Proofs.YtbcdgcodnkgdoaaGreat.Run
open Go Go.RowKit
def EvO (σ:Sg) (N:Nat) (fr:T V) (ρ:Operand→Value) (l:Array Operand):Prop:=∀ x∈l,∀ v,xe N fr x=some v→den σ v=some (ρ x)
theorem zg {N:Nat} {fr:T V} {x:Operand} {r:List Operand} {c:List V} (h:xes N fr (x::r)=some c):∃ v vs,xe N fr x=some v∧xes N fr r=some vs∧c=v::vs:=by
 have e:xes N fr (x::r)=Option.rec (motive:=fun _=>Option (List V)) none (fun v=>Option.rec (motive:=fun _=>Option (List V)) none (fun vs=>some (v::vs)) (xes N fr r)) (xe N fr x):=rfl;rw [e] at h;cases hx:xe N fr x with
 | none=>rw [hx] at h;cases h
 | some v=>
  rw [hx] at h;cases hr:xes N fr r with
  | none=>rw [hr] at h;cases h
  | some vs=>rw [hr] at h;exact ⟨v,vs,rfl,rfl,(Option.some.inj h).symm⟩
theorem fZ {σ:Sg} {N:Nat} {fr:T V} {ρ:Operand→Value}:∀ {l:List Operand} {c:List V},(∀ x∈l,∀ v,xe N fr x=some v→den σ v=some (ρ x))→xes N fr l=some c→dI σ c=some (l.map ρ):=by
 intro l;induction l with
 | nil=>intro c _ h;obtain rfl:=Option.some.inj (show some []=some c from h);simp
 | cons x r ih=>
  intro c he h;obtain ⟨v,vs,h1,h2,rfl⟩:=zg h;exact aO.2 ⟨ρ x,r.map ρ,he x (by simp) v h1,ih (fun y hy=>he y (by simp [hy])) h2,rfl⟩
theorem qP {σ:Sg} {b:Bool} {x:Value} (h:den σ (.b b)=some x):x=.bool b:=by rw [den] at h;exact (Option.some.inj h).symm
theorem e7 {σ:Sg} {k:IntKind} {n:Int} {x:Value} (h:den σ (.i k n)=some x):x=.int k n:=by rw [den] at h;exact (Option.some.inj h).symm
theorem EQ {σ:Sg} {s:ByteArray} {x:Value} (h:den σ (.s s)=some x):x=.string s:=by rw [den] at h;exact (Option.some.inj h).symm
theorem su {σ:Sg} {m o:Nat} {x:Value} (h:den σ (.p m o)=some x):∃ q,σ m=some q∧x=.pointer (some ⟨q.1,o,none⟩):=by
 rw [den] at h;cases hm:σ m with
 | none=>rw [hm] at h;cases h
 | some q=>rw [hm] at h;exact ⟨q,rfl,(Option.some.inj h).symm⟩
theorem o8 {σ:Sg} {m off o n:Nat} {x:Value} (h:den σ (.l m off o n)=some x):∃ q,σ m=some q∧x=.slice (some ⟨q.1,off,none⟩) n (q.2 - o):=by
 rw [den] at h;cases hm:σ m with
 | none=>rw [hm] at h;cases h
 | some q=>rw [hm] at h;exact ⟨q,rfl,(Option.some.inj h).symm⟩
theorem jT {σ:Sg} {x:Value} (h:den σ .l0=some x):x=.slice none 0 0:=by rw [den] at h;exact (Option.some.inj h).symm
theorem AA {σ:Sg} {m:Nat} {x:Value} (h:den σ (.m m)=some x):∃ q,σ m=some q∧x=.map (some q.1):=by
 rw [den] at h;cases hm:σ m with
 | none=>rw [hm] at h;cases h
 | some q=>rw [hm] at h;exact ⟨q,rfl,(Option.some.inj h).symm⟩
theorem vh {σ:Sg} {g:FuncId} {p c:List V} {x:Value} (h:den σ (.f g p c)=some x):∃ a b,dI σ p=some a∧dI σ c=some b∧x=.func (.func g) a.toArray b.toArray:=by
 rw [den] at h;cases h1:dI σ p with
 | none=>rw [h1] at h;cases h
 | some a=>
  rw [h1] at h;cases h2:dI σ c with
  | none=>rw [h2] at h;cases h
  | some b=>rw [h2] at h;exact ⟨a,b,rfl,rfl,(Option.some.inj h).symm⟩
theorem qQ {σ:Sg} {l:List V} {x:Value} (h:den σ (.a l)=some x):∃ a,dI σ l=some a∧x=.agg a.toArray:=by
 rw [den] at h;cases h1:dI σ l with
 | none=>rw [h1] at h;cases h
 | some a=>rw [h1] at h;exact ⟨a,rfl,(Option.some.inj h).symm⟩
theorem EP {σ:Sg} {l:List V} {x:Value} (h:den σ (.t l)=some x):∃ a,dI σ l=some a∧x=.tuple a.toArray:=by
 rw [den] at h;cases h1:dI σ l with
 | none=>rw [h1] at h;cases h
 | some a=>rw [h1] at h;exact ⟨a,rfl,(Option.some.inj h).symm⟩
section
variable {w0 w:World} {σ:Sg} {h:Hp} {N:Nat} {fr:T V} {ρ:Operand→Value} {q:A} {dst:Option Nat} {ty:TypeId} {pos:String} {af:Array Edge} {g:Option (Nat × Bool)}
def pz (σ:Sg) (w:World) (ρ:Operand→Value) (o:Oper) (v:V):Prop:=∃ x,(execOp ρ o).run PG w=.ok (.value x) w∧den σ v=some x
theorem FN {x:Operand} (e:o1 h 80 (xe N fr x)=.ok q) (he:EvO σ N fr ρ #[x]):pz σ w ρ ⟨dst,.move x,ty,pos,af,g⟩ q.v:=by
 obtain ⟨v,h1,rfl⟩:=uU e;exact ⟨ρ x,by simp [execOp],he x (by simp) v h1⟩
theorem CB {x:Operand} (e:o1 h 81 (xe N fr x)=.ok q) (he:EvO σ N fr ρ #[x]):pz σ w ρ ⟨dst,.assign x,ty,pos,af,g⟩ q.v:=by
 obtain ⟨v,h1,rfl⟩:=uU e;exact ⟨ρ x,by simp [execOp],he x (by simp) v h1⟩
theorem FM {c x y:Operand} (e:wW N fr h c x y=.ok q) (he:EvO σ N fr ρ #[c,x,y]):pz σ w ρ ⟨dst,.pick c x y,ty,pos,af,g⟩ q.v:=by
 unfold wW at e;split at e
 ·rename_i hc
  obtain ⟨v,h1,rfl⟩:=uU e;have:=qP (he c (by simp) _ hc);exact ⟨ρ x,by simp [execOp,this,asBool,Result.andThen],he x (by simp) v h1⟩
 ·rename_i hc
  obtain ⟨v,h1,rfl⟩:=uU e;have:=qP (he c (by simp) _ hc);exact ⟨ρ y,by simp [execOp,this,asBool,Result.andThen],he y (by simp) v h1⟩
 ·cases e
theorem FQ {t:TypeId} {x:Operand} (e:CL h t (xe N fr x)=.ok q) (he:EvO σ N fr ρ #[x]) (H:gN w0 σ h.get w):pz σ w ρ ⟨dst,.load t x,ty,pos,af,g⟩ q.v:=by
 cases hx:xe N fr x with
 | none=>rw [hx] at e;cases e
 | some u=>
  rw [hx] at e;obtain ⟨v,h1,rfl⟩:=f8 e;obtain ⟨A,y,h2,h3,h4⟩:=D7 H h1 (he x (by simp) u hx);exact ⟨y,by simp [execOp,Instr.loadAt,Instr.sureAddr,h2,h4,Result.andThen],h3⟩
theorem GT {x:Operand} (e:Ej h (xe N fr x)=.ok q) (he:EvO σ N fr ρ #[x]):pz σ w ρ ⟨dst,.nilCheck x,ty,pos,af,g⟩ q.v:=by
 unfold Ej at e;split at e
 ·rename_i m o hx
  obtain rfl:=R.ok.inj e;have hd:=he x (by simp) _ hx;obtain ⟨r,h1,h2⟩:=su hd;exact ⟨ρ x,by simp [execOp,h2],hd⟩
 ·rename_i f p c hx
  obtain rfl:=R.ok.inj e;have hd:=he x (by simp) _ hx;obtain ⟨a,b,h1,h2,h3⟩:=vh hd;exact ⟨ρ x,by simp [execOp,h3],hd⟩
 ·cases e
theorem sp {s:TypeId} {i off:Nat} (h:ly s i=some off):∃ fs f n,PG.underlying s=some (.struct fs)∧fs[i]?=some f∧f.offset=off∧szt f.type=some (n + 1):=by
 unfold ly at h;split at h
 ·rename_i fs hs
  split at h
  ·rename_i off' n hp
   obtain rfl:=Option.some.inj h;unfold nT at hp;split at hp
   ·rename_i f hf
    split at hp
    ·rename_i sz hsz
     simp only [Option.some.injEq,Prod.mk.injEq] at hp;exact ⟨fs,f,n,hs,hf,hp.1,by rw [hsz,hp.2]⟩
    ·cases hp
   ·cases hp
  ·cases h
 ·cases h
theorem CA {s:TypeId} {x:Operand} {i:Nat} (e:mf h (ly s i) (xe N fr x)=.ok q) (he:EvO σ N fr ρ #[x]):pz σ w ρ ⟨dst,.fieldAddr s x i,ty,pos,af,g⟩ q.v:=by
 unfold mf at e;split at e
 ·rename_i off m o hq hx
  obtain rfl:=R.ok.inj e;obtain ⟨fs,f,n,h1,h2,h3,h4⟩:=sp hq;obtain ⟨r,h5,h6⟩:=su (he x (by simp) _ hx);refine ⟨.pointer (some ⟨r.1,o + off,none⟩),?_,by simp [den,h5]⟩;simp [execOp,h6,Instr.fieldAt,run_underlying h1,h2,Instr.sureAddr,fieldPlace,fu h4,Result.andThen,ja,h3]
 ·cases e
theorem Ed {s:TypeId} {x:Operand} {i:Nat} (e:qf h s i (xe N fr x)=.ok q) (he:EvO σ N fr ρ #[x]):pz σ w ρ ⟨dst,.field s x i,ty,pos,af,g⟩ q.v:=by
 unfold qf at e;split at e
 ·rename_i fs c hs hx
  split at e
  ·rename_i f hf
   obtain ⟨v,h1,rfl⟩:=f8 e;obtain ⟨a,h2,h3⟩:=qQ (he x (by simp) _ hx);obtain ⟨y,h4,h5⟩:=wK h1 h2;exact ⟨y,by simp [execOp,h3,Instr.field,run_underlying hs,hf,asAgg,h5,Result.andThen],h4⟩
  ·cases e
 ·cases e
theorem tp {e':TypeId} {m off n:Nat} {a:Int} (e:tC h e' m off n a=.ok q):∃ sz,szt e'=some sz∧0≤a∧a < n∧q=⟨.p m (off + a.toNat * sz),h⟩:=by
 unfold tC at e;split at e
 ·rename_i sz hs
  obtain ⟨h1,h2⟩:=bx e;simp only [Bool.and_eq_true,decide_eq_true_eq] at h1;have:=fF h1.2;exact ⟨sz,hs,h1.1,by omega,(R.ok.inj h2).symm⟩
 ·cases e
theorem FR {t:TypeId} {x y:Operand} (e:wY h (PG.underlying t) (xe N fr x) (xe N fr y)=.ok q) (he:EvO σ N fr ρ #[x,y]):pz σ w ρ ⟨dst,.indexAddr t x y,ty,pos,af,g⟩ q.v:=by
 unfold wY at e;split at e
 ·rename_i e' m off o n k a ht hx hy
  obtain ⟨sz,h1,h2,h3,rfl⟩:=tp e;obtain ⟨r,h4,h5⟩:=o8 (he x (by simp) _ hx);have h6:=e7 (he y (by simp) _ hy);exact ⟨.pointer (some ⟨r.1,off + a.toNat * sz,none⟩),by simp [execOp,h5,h6,Instr.indexAt,asIntOf,run_underlying ht,h2,h3,fu h1,ja,Result.andThen],by simp [den,h4]⟩
 ·rename_i n e' m o k a ht hx hy
  obtain ⟨sz,h1,h2,h3,rfl⟩:=tp e;obtain ⟨r,h4,h5⟩:=su (he x (by simp) _ hx);have h6:=e7 (he y (by simp) _ hy);exact ⟨.pointer (some ⟨r.1,o + a.toNat * sz,none⟩),by simp [execOp,h5,h6,Instr.indexAt,asIntOf,run_underlying ht,h2,h3,fu h1,ja,Result.andThen,Instr.sureAddr],by simp [den,h4]⟩
 ·cases e
theorem GU {t:TypeId} {x y:Operand} (e:Ek h t (xe N fr x) (xe N fr y)=.ok q) (he:EvO σ N fr ρ #[x,y]):pz σ w ρ ⟨dst,.index t x y,ty,pos,af,g⟩ q.v:=by
 unfold Ek at e;split at e
 ·rename_i s k a ht hx hy
  obtain ⟨h1,h2⟩:=bx e;simp only [decide_eq_true_eq] at h1;split at h2
  ·rename_i c hc
   obtain rfl:=R.ok.inj h2;have h5:=EQ (he x (by simp) _ hx);have h6:=e7 (he y (by simp) _ hy)
   have hc':s[a.toNat]?=some c:=by
    obtain ⟨hlt,hg⟩:=List.getElem?_eq_some_iff.1 hc;have hlt':a.toNat < s.size:=by rw [Array.length_toList] at hlt;exact hlt
    rw [getElem?_pos s a.toNat hlt',← hg]
    rfl
   exact ⟨.int .u8 c.toNat,by simp [execOp,h5,h6,Instr.index,asIntOf,run_underlying ht,h1,hc',Result.andThen],by simp [den]⟩
  ·cases h2
 ·rename_i n e' c k a ht hx hy
  split at e
  ·rename_i sz hs
   obtain ⟨h1,h2⟩:=bx e;simp only [Bool.and_eq_true,decide_eq_true_eq] at h1;have hlt:=fF h1.2;obtain ⟨v,h3,rfl⟩:=f8 h2;obtain ⟨l,h4,h5⟩:=qQ (he x (by simp) _ hx);have h6:=e7 (he y (by simp) _ hy);obtain ⟨u,h7,h8⟩:=wK h3 h4;exact ⟨u,by simp [execOp,h5,h6,Instr.index,asIntOf,run_underlying ht,h1.1,show a < n by omega,fu hs,h8,Result.andThen],h7⟩
  ·cases e
 ·cases e
theorem GV {x:Operand} {i:Nat} (e:Em h i (xe N fr x)=.ok q) (he:EvO σ N fr ρ #[x]):pz σ w ρ ⟨dst,.extract x i,ty,pos,af,g⟩ q.v:=by
 unfold Em at e;split at e
 ·rename_i l hx
  obtain ⟨v,h1,rfl⟩:=uU e;obtain ⟨a,h2,h3⟩:=EP (he x (by simp) _ hx);obtain ⟨y,h4,h5⟩:=sx h2 h1;exact ⟨y,by simp [execOp,h3,Instr.extract,h4,Result.andThen],h5⟩
 ·cases e
theorem FS {f:Fn} {p c:Array Operand} (e:wZ h f (xes N fr p.toList) (xes N fr c.toList)=.ok q) (he:EvO σ N fr ρ (p++c)):pz σ w ρ ⟨dst,.makeFunc f p c,ty,pos,af,g⟩ q.v:=by
 unfold wZ at e;split at e
 ·rename_i k a b hp hc
  obtain rfl:=R.ok.inj e;have h1:=fZ (fun x hx=>he x (by simp at hx ⊢;exact .inl hx)) hp;have h2:=fZ (fun x hx=>he x (by simp at hx ⊢;exact .inr hx)) hc;refine ⟨.func (.func k) (p.map ρ) (c.map ρ),by simp [execOp,Instr.makeFunc,Result.andThen],?_⟩;simp only [den,h1,h2]
  congr 2
  ·rw [← Array.toList_inj];simp
  ·rw [← Array.toList_inj];simp
 ·cases e
theorem pUn {op:UnOp} {t:TypeId} {x:Operand} (e:oUn h op (xe N fr x)=.ok q) (he:EvO σ N fr ρ #[x]):pz σ w ρ ⟨dst,.unOp op t x,ty,pos,af,g⟩ q.v:=by
 unfold oUn at e;split at e
 ·rename_i c hx
  obtain rfl:=R.ok.inj e;have h1:=qP (he x (by simp) _ hx);exact ⟨.bool (!c),by simp [execOp,h1,Op.unary,Result.andThen],by simp [den]⟩
 ·rename_i k a hx
  obtain rfl:=R.ok.inj e;have h1:=e7 (he x (by simp) _ hx);exact ⟨.int k (k.wrap (0 - a)),by simp only [execOp,h1,Op.unary,Op.intArith];rfl,by simp [den]⟩
 ·rename_i k a hx
  obtain ⟨v,h2,rfl⟩:=f8 e;have h1:=e7 (he x (by simp) _ hx);obtain rfl:=R.ok.inj h2;exact ⟨_,by simp only [execOp,h1,Op.unary,Op.intBits];rfl,by simp [den]⟩
 ·cases e
theorem FT {src dst':TypeId} {x:Operand} (hk:mp (PG.underlying src)=0) (e:rU h src dst' (xe N fr x)=.ok q) (he:EvO σ N fr ρ #[x]):pz σ w ρ ⟨dst,.convert src dst' x,ty,pos,af,g⟩ q.v:=by
 unfold rU at e;split at e
 ·rename_i d k k' a h1 h2 hx
  obtain rfl:=R.ok.inj e;have h3:=e7 (he x (by simp) _ hx);exact ⟨.int k (k.wrap a),by simp [execOp,h3,convert,run_underlying h1,run_underlying h2,Conv.intToInt,Result.andThen],by simp [den]⟩
 ·rename_i h1 h2 hx
  rw [h1] at hk;simp [mp] at hk
 ·cases e
end
end Go.Proofs.YtbcdgcodnkgdoaaGreat.Run
namespace Go.Proofs.YtbcdgcodnkgdoaaGreat.Run
open Go Go.RowKit
section
variable {w0 w:World} {σ:Sg} {h:Hp} {N:Nat} {fr:T V} {ρ:Operand→Value} {q:A} {dst:Option Nat} {ty:TypeId} {pos:String} {af:Array Edge} {g:Option (Nat × Bool)}
theorem fS {k:IntKind} {n:Int}:den σ (.i k n)=some (.int k n):=by rw [den]
theorem mF {b:Bool}:den σ (.b b)=some (.bool b):=by rw [den]
theorem AO {op:BinOp} {k:IntKind} {a b:Int} {v:V} {t:TypeId} (e:yA op k a b=.ok v) (hs:op≠.shl) (hr:op≠.shr):∃ y,(∀ w,(binOp op t (.int k a) (.int k b)).run PG w=.ok y w)∧den σ v=some y:=by
 cases op with
 | shl=>exact absurd rfl hs
 | shr=>exact absurd rfl hr
 | andNot=>cases e
 | add=>obtain rfl:=R.ok.inj e;refine ⟨_,fun w=>?_,fS⟩;simp [binOp,Op.intArith]
 | sub=>obtain rfl:=R.ok.inj e;refine ⟨_,fun w=>?_,fS⟩;simp [binOp,Op.intArith]
 | mul=>obtain rfl:=R.ok.inj e;refine ⟨_,fun w=>?_,fS⟩;simp [binOp,Op.intArith]
 | quo=>
  unfold yA at e;simp only at e;split at e
  ·cases e
  ·rename_i hb
   have hb':¬ b=0:=of_decide_eq_false hb;obtain rfl:=R.ok.inj e;refine ⟨_,fun w=>?_,fS⟩;simp [binOp,Op.intDiv,hb']
 | rem=>
  unfold yA at e;simp only at e;split at e
  ·cases e
  ·rename_i hb
   have hb':¬ b=0:=of_decide_eq_false hb;obtain rfl:=R.ok.inj e;refine ⟨_,fun w=>?_,fS⟩;simp [binOp,Op.intDiv,hb']
 | and=>obtain rfl:=R.ok.inj e;refine ⟨_,fun w=>?_,fS⟩;simp [binOp,Op.intBits]
 | or=>obtain rfl:=R.ok.inj e;refine ⟨_,fun w=>?_,fS⟩;simp [binOp,Op.intBits]
 | xor=>obtain rfl:=R.ok.inj e;refine ⟨_,fun w=>?_,fS⟩;simp [binOp,Op.intBits]
 | eql=>obtain rfl:=R.ok.inj e;refine ⟨_,fun w=>?_,mF⟩;simp [binOp,Op.intCmp,DU]
 | neq=>obtain rfl:=R.ok.inj e;refine ⟨_,fun w=>?_,mF⟩;simp [binOp,Op.intCmp,DU,bne]
 | lss=>obtain rfl:=R.ok.inj e;refine ⟨_,fun w=>?_,mF⟩;simp [binOp,Op.intCmp]
 | leq=>obtain rfl:=R.ok.inj e;refine ⟨_,fun w=>?_,mF⟩;simp [binOp,Op.intCmp]
 | gtr=>obtain rfl:=R.ok.inj e;refine ⟨_,fun w=>?_,mF⟩;simp [binOp,Op.intCmp]
 | geq=>obtain rfl:=R.ok.inj e;refine ⟨_,fun w=>?_,mF⟩;simp [binOp,Op.intCmp]
theorem Di {op:BinOp} {k k':IntKind} {a b:Int} {v:V} {t:TypeId} (e:Gm op k k' a b=.ok v):∃ y,(∀ w,(binOp op t (.int k a) (.int k' b)).run PG w=.ok y w)∧den σ v=some y:=by
 unfold Gm at e;split at e
 ·unfold Gu at e
  split at e
  ·cases e
  ·rename_i hb
   have hb':¬ b < 0:=of_decide_eq_false hb;obtain rfl:=R.ok.inj e;refine ⟨_,fun w=>?_,fS⟩;simp [binOp,Op.shift,hb']
 ·unfold shr1 at e
  split at e
  ·cases e
  ·rename_i hb
   have hb':¬ b < 0:=of_decide_eq_false hb;obtain rfl:=R.ok.inj e;refine ⟨_,fun w=>?_,fS⟩;simp [binOp,Op.shift,hb']
 ·rename_i h1 h2
  split at e
  ·rename_i hk
   obtain rfl:=of_decide_eq_true hk;exact AO e (fun h=>h1 h) (fun h=>h2 h)
  ·cases e
theorem t5 {t:TypeId} {u v:V} {c:Bool} {a b:Value} (e:eqV t u v=some c) (h1:den σ u=some a) (h2:den σ v=some b):
 (∀ w,(Op.equal t a b).run PG w=.ok c w)∧(∀ (op:BinOp) (x y:Operand) w,(eqGuard op t x y a b).run PG w=.ok () w)∧binOp .eql t a b=(do pure (.bool (← Op.equal t a b)):Sem Value)∧binOp .neq t a b=(do pure (.bool (!(← Op.equal t a b))):Sem Value):=by
 have plain:∀ {d:TypeDesc},PG.underlying t=some d→∀ {c:Bool},(∀ (n:Nat) (w:World),(Op.equalIn (n + 1) t a b).run PG w=.ok c w)→(∀ w,(Op.equal t a b).run PG w=.ok c w):=fun _ _ hh w=>hh 9999 w;unfold eqV at e;split at e
 ·rename_i x y ht
  obtain rfl:=Option.some.inj e;obtain rfl:=qP h1;obtain rfl:=qP h2;exact ⟨plain ht (fun n w=>by simp [Op.equalIn,run_underlying ht,Result.andThen]),fun op x y w=>by unfold eqGuard;split <;> rfl,rfl,rfl⟩
 ·rename_i ht
  obtain rfl:=Option.some.inj e;rw [den] at h1 h2;obtain rfl:=Option.some.inj h1;obtain rfl:=Option.some.inj h2;exact ⟨plain ht (fun n w=>by simp [Op.equalIn,run_underlying ht,Result.andThen]),fun op x y w=>by unfold eqGuard;split <;> rfl,rfl,rfl⟩
 ·rename_i ht
  obtain rfl:=Option.some.inj e;obtain ⟨r,_,rfl⟩:=su h2;rw [den] at h1;obtain rfl:=Option.some.inj h1;exact ⟨plain ht (fun n w=>by simp [Op.equalIn,run_underlying ht,Result.andThen]),fun op x y w=>by unfold eqGuard;split <;> rfl,rfl,rfl⟩
 ·rename_i ht
  obtain rfl:=Option.some.inj e;obtain ⟨r,_,rfl⟩:=su h1;rw [den] at h2;obtain rfl:=Option.some.inj h2;exact ⟨plain ht (fun n w=>by simp [Op.equalIn,run_underlying ht,Result.andThen]),fun op x y w=>by unfold eqGuard;split <;> rfl,rfl,rfl⟩
 ·rename_i ht
  obtain rfl:=Option.some.inj e;obtain rfl:=jT h1;obtain rfl:=jT h2;exact ⟨plain ht (fun n w=>by simp [Op.equalIn,run_underlying ht,Result.andThen]),fun op x y w=>by unfold eqGuard;split <;> rfl,rfl,rfl⟩
 ·rename_i ht
  obtain rfl:=Option.some.inj e;obtain rfl:=jT h1;obtain ⟨r,_,rfl⟩:=o8 h2;exact ⟨plain ht (fun n w=>by simp [Op.equalIn,run_underlying ht,Result.andThen]),fun op x y w=>by unfold eqGuard;split <;> rfl,rfl,rfl⟩
 ·rename_i ht
  obtain rfl:=Option.some.inj e;obtain ⟨r,_,rfl⟩:=o8 h1;obtain rfl:=jT h2;exact ⟨plain ht (fun n w=>by simp [Op.equalIn,run_underlying ht,Result.andThen]),fun op x y w=>by unfold eqGuard;split <;> rfl,rfl,rfl⟩
 ·rename_i ht
  obtain rfl:=Option.some.inj e;rw [den] at h1 h2;obtain rfl:=Option.some.inj h1;obtain rfl:=Option.some.inj h2;exact ⟨plain ht (fun n w=>by simp [Op.equalIn,run_underlying ht,Result.andThen]),fun op x y w=>by unfold eqGuard;split <;> rfl,rfl,rfl⟩
 ·rename_i ht
  obtain rfl:=Option.some.inj e;rw [den] at h1;obtain rfl:=Option.some.inj h1;obtain ⟨r,_,rfl⟩:=AA h2;exact ⟨plain ht (fun n w=>by simp [Op.equalIn,run_underlying ht,Result.andThen]),fun op x y w=>by unfold eqGuard;split <;> rfl,rfl,rfl⟩
 ·rename_i ht
  obtain rfl:=Option.some.inj e;rw [den] at h2;obtain rfl:=Option.some.inj h2;obtain ⟨r,_,rfl⟩:=AA h1;exact ⟨plain ht (fun n w=>by simp [Op.equalIn,run_underlying ht,Result.andThen]),fun op x y w=>by unfold eqGuard;split <;> rfl,rfl,rfl⟩
 ·rename_i ht
  obtain rfl:=Option.some.inj e;rw [den] at h1 h2;obtain rfl:=Option.some.inj h1;obtain rfl:=Option.some.inj h2;exact ⟨plain ht (fun n w=>by simp [Op.equalIn,run_underlying ht,Result.andThen]),fun op x y w=>by unfold eqGuard;split <;> rfl,rfl,rfl⟩
 ·rename_i ht
  obtain rfl:=Option.some.inj e;rw [den] at h1;obtain rfl:=Option.some.inj h1;obtain ⟨a,b,_,_,rfl⟩:=vh h2;exact ⟨plain ht (fun n w=>by simp [Op.equalIn,run_underlying ht,Result.andThen]),fun op x y w=>by unfold eqGuard;split <;> rfl,rfl,rfl⟩
 ·rename_i ht
  obtain rfl:=Option.some.inj e;rw [den] at h2;obtain rfl:=Option.some.inj h2;obtain ⟨a,b,_,_,rfl⟩:=vh h1;exact ⟨plain ht (fun n w=>by simp [Op.equalIn,run_underlying ht,Result.andThen]),fun op x y w=>by unfold eqGuard;split <;> rfl,rfl,rfl⟩
 ·obtain ⟨xs,h3,rfl⟩:=qQ h1
  obtain ⟨ys,h4,rfl⟩:=qQ h2;obtain ⟨h5,h6⟩:=BJ e h3 h4;exact ⟨h6,fun op x y w=>run_eqGuard_agg w op t x y _ _ h5,rfl,rfl⟩
 ·cases e
theorem Dj {op:BinOp} {t:TypeId} {x y:Operand} {u v r:V} (e:Gn op t y u v=.ok r) (h1:den σ u=some (ρ x)) (h2:den σ v=some (ρ y)) (hy:∀ c,y=.const c→ρ y=c):
 ∃ z,(∀ w,((do eqGuard op t x y (ρ x) (ρ y);binOp op t (ρ x) (ρ y)):Sem Value).run PG w=.ok z w)∧den σ r=some z:=by
 unfold Gn at e;split at e
 ·have ha:ρ x=.nilIface:=by rw [den] at h1;exact (Option.some.inj h1).symm
  have hb:ρ y=.nilIface:=by rw [den] at h2;exact (Option.some.inj h2).symm
  have key:∀ {b:Bool},(o3 y&&Gb t)=b→b=true→y=.const .nilIface∧∃ ms,PG.underlying t=some (.interface ms):=by
   intro b hb ht;subst ht;simp only [Bool.and_eq_true] at hb;constructor
   ·have:=hb.1
    unfold o3 at this;split at this
    ·rfl
    ·cases this
   ·have:=hb.2
    unfold Gb at this;split at this
    ·rename_i ms hm;exact ⟨ms,hm⟩
    ·cases this
  split at e
  ·rename_i hc
   obtain ⟨rfl,ms,hm⟩:=key hc rfl;obtain rfl:=R.ok.inj e;have h3:∀ (n:Nat) w,(Op.equalIn (n + 1) t .nilIface .nilIface).run PG w=.ok true w:=fun n w=>by simp [Op.equalIn,run_underlying hm,Result.andThen]
   refine ⟨.bool true,fun w=>?_,by rw [den]⟩;rw [ha,hb];have h4:(eqGuard .eql t x (.const .nilIface) .nilIface .nilIface).run PG w=.ok () w:=by simp [eqGuard]
   have h5:(Op.equal t .nilIface .nilIface).run PG w=.ok true w:=h3 9999 w;simp only [Sem.run_bind,h4,Result.andThen,binOp,h5,Sem.run_pure]
  ·rename_i hc
   obtain ⟨rfl,ms,hm⟩:=key hc rfl;obtain rfl:=R.ok.inj e;have h3:∀ (n:Nat) w,(Op.equalIn (n + 1) t .nilIface .nilIface).run PG w=.ok true w:=fun n w=>by simp [Op.equalIn,run_underlying hm,Result.andThen]
   refine ⟨.bool false,fun w=>?_,by rw [den]⟩;rw [ha,hb];have h4:(eqGuard .neq t x (.const .nilIface) .nilIface .nilIface).run PG w=.ok () w:=by simp [eqGuard]
   have h5:(Op.equal t .nilIface .nilIface).run PG w=.ok true w:=h3 9999 w;simp only [Sem.run_bind,h4,Result.andThen,binOp,h5,Sem.run_pure,Bool.not_true]
  ·cases e
 ·split at e
  ·split at e
   ·rename_i c hc
    obtain rfl:=R.ok.inj e;obtain ⟨h3,h4,h5,h6⟩:=t5 hc h1 h2;refine ⟨.bool c,fun w=>?_,by rw [den]⟩
    have h7:(binOp .eql t (ρ x) (ρ y)).run PG w=.ok (.bool c) w:=by
     rw [h5];simp [h3,Result.andThen]
    simp [h4,h7,Result.andThen]
   ·cases e
  ·split at e
   ·rename_i c hc
    obtain rfl:=R.ok.inj e;obtain ⟨h3,h4,h5,h6⟩:=t5 hc h1 h2;refine ⟨.bool (!c),fun w=>?_,by rw [den]⟩
    have h7:(binOp .neq t (ρ x) (ρ y)).run PG w=.ok (.bool (!c)) w:=by
     rw [h6];simp [h3,Result.andThen]
    simp [h4,h7,Result.andThen]
   ·cases e
  ·cases e
end
end Go.Proofs.YtbcdgcodnkgdoaaGreat.Run
namespace Go.Proofs.YtbcdgcodnkgdoaaGreat.Run
open Go Go.RowKit
theorem mA {σ:Sg} {v:V} {x:Value} (h:den σ v=some x):dI σ v.flat=some x.cells.toList:=by
 cases v <;> first
  | (rename_i l
     obtain ⟨a,h1,rfl⟩:=qQ h
     simpa [V.flat,Value.cells] using h1)
  | (have:∀ c,x≠.agg c:=by intro c hc;subst hc;unfold den at h;revert h;first | (intro h;cases h;done) | (split <;> intro h <;> first | (cases h;done) | (revert h;split <;> intro h <;> cases h))
     have hx:x.cells=#[x]:=by cases x <;> first | rfl | exact absurd rfl (this _)
     simp only [V.flat,hx];exact aO.2 ⟨x,[],h,by simp,rfl⟩)
theorem ve (off:Nat):∀ (vs:List Value) (k:Nat) (cs:List Value),off + k + vs.length≤cs.length→
 (vs.zipIdx k).foldl (fun (cs:Array Value) (p:Value × Nat)=>cs.setIfInBounds (off + p.2) p.1) cs.toArray=(cs.take (off + k)++vs++cs.drop (off + k + vs.length)).toArray:=by
 intro vs;induction vs with
 | nil=>intro k cs h;simp
 | cons v vs ih=>
  intro k cs h;simp only [List.length_cons] at h;rw [List.zipIdx_cons,List.foldl_cons];have e:cs.toArray.setIfInBounds (off + k) v=(cs.set (off + k) v).toArray:=by simp
  simp only [e];rw [ih (k + 1) (cs.set (off + k) v) (by simp;omega)]
  congr 1
  rw [List.drop_set_of_lt (by omega),List.take_set,show off + (k + 1)=off + k + 1 from by omega,List.take_succ_eq_append_getElem (by omega),List.set_append_right _ _ (by simp;omega)];simp [Nat.min_eq_left (show off + k≤cs.length by omega),Nat.add_assoc,Nat.add_comm 1]
theorem xW (off:Nat) (vs:Array Value) (cs:List Value) (h:off + vs.size≤cs.length):
 vs.zipIdx.foldl (fun (cs:Array Value) (x:Value × Nat)=>cs.setIfInBounds (off + x.2) x.1) cs.toArray=(cs.take off++vs.toList++cs.drop (off + vs.size)).toArray:=by
 have:=ve off vs.toList 0 cs (by simpa using h);rw [← Array.foldl_toList,Array.toList_zipIdx]
 simpa using this
def PsR (σ:Sg):List (Nat × V)→List (Nat × Value)→Prop
 | [],[]=>True
 | p::r,p'::r'=>p.1=p'.1∧den σ p.2=some p'.2∧PsR σ r r'
 | _,_=>False
theorem Bf {σ:Sg} {N:Nat} {fr:T V} {ρ:Operand→Value}:∀ {l:List (Nat × Operand)} {ps:List (Nat × V)},xps N fr l=some ps→(∀ x∈l.map (·.2),∀ v,xe N fr x=some v→den σ v=some (ρ x))→PsR σ ps (l.map fun p=>(p.1,ρ p.2)):=by
 intro l;induction l with
 | nil=>intro ps h _;simp [xps] at h;subst h;trivial
 | cons p r ih=>
  intro ps h he;obtain ⟨i,x⟩:=p;unfold xps at h;cases hx:xe N fr x with
  | none=>rw [hx] at h;cases h
  | some v=>
   rw [hx] at h;cases hr:xps N fr r with
   | none=>rw [hr] at h;cases h
   | some vs=>
    rw [hr] at h;obtain rfl:=Option.some.inj h;exact ⟨rfl,he x (by simp) v hx,ih hr (fun y hy=>he y (by simp at hy ⊢;exact .inr hy))⟩
theorem sn {σ:Sg} {pl place:Nat→Option (Nat × Nat)} (hp:∀ i r,pl i=some r→place i=some r):∀ {ps:List (Nat × V)} {ps':List (Nat × Value)} {c d:List V} {c':List Value},so pl c ps=some d→dI σ c=some c'→PsR σ ps ps'→
 ∃ d',dI σ d=some d'∧Instr.fill place c'.toArray ps'=some d'.toArray:=by
 intro ps;induction ps with
 | nil=>
  intro ps' c d c' h hc hps;cases ps' with
  | nil=>obtain rfl:=Option.some.inj h;exact ⟨c',hc,rfl⟩
  | cons p r=>exact hps.elim
 | cons p r ih=>
  intro ps' c d c' h hc hps;cases ps' with
  | nil=>exact hps.elim
  | cons p' r'=>
   obtain ⟨i,v⟩:=p;obtain ⟨i',x⟩:=p';obtain ⟨rfl,h1,h2⟩:=hps;simp only at h1;unfold so at h;split at h
   ·rename_i off sz hpl
    split at h
    ·rename_i hl
     simp only [Bool.and_eq_true,Nat.beq_eq,Nat.ble_eq] at hl;have hfl:=mA h1;have hlen:=cy hfl;have hcl:=cy hc;have hsz:x.cells.size=v.flat.length:=by simpa using hlen
     obtain ⟨d',h3,h4⟩:=ih h (mG hl.2 hc hfl) h2;refine ⟨d',h3,?_⟩;unfold Instr.fill;rw [hp _ _ hpl];simp only;rw [if_neg (by simp;omega)];have:=xW off x.cells c' (by omega);rw [this];have e:x.cells.toList.length=x.cells.size:=by simp
     rw [e] at h4;exact h4
    ·cases h
   ·cases h
theorem s8 {σ:Sg} {z:List V} {z':List Value} (hz:dI σ z=some z'):∀ n,dI σ (Bj n z)=some (List.replicate n z').flatten:=by
 intro n;induction n with
 | zero=>show dI σ []=_;simp
 | succ n ih=>
  have e:Bj (n + 1) z=z++Bj n z:=rfl;rw [e,List.replicate_succ,List.flatten_cons];exact cK hz ih
theorem wy (z:Array Value) (h0:0 < z.size) (n:Nat):(Array.range (n * z.size)).map (fun i=>z[i % z.size]!)=(List.replicate n z.toList).flatten.toArray:=by
 have key:∀ n i,(List.replicate n z.toList).flatten[i]?=if i < n * z.size then some z[i % z.size]! else none:=by
  intro n;induction n with
  | zero=>intro i;simp
  | succ n ih=>
   intro i;rw [List.replicate_succ,List.flatten_cons];by_cases hi:i < z.size
   ·rw [List.getElem?_append_left (by simpa using hi),Nat.mod_eq_of_lt hi,if_pos (by rw [Nat.add_mul];omega)]
    simp [hi]
   ·rw [List.getElem?_append_right (by simp;omega),ih]
    simp only [Array.length_toList]
    have e1:(i - z.size) % z.size=i % z.size:=by
     conv=>rhs;rw [show i=(i - z.size) + z.size from by omega,Nat.add_mod_right]
    rw [e1];by_cases h2:i - z.size < n * z.size
    ·rw [if_pos h2,if_pos (by rw [Nat.add_mul];omega)]
    ·rw [if_neg h2,if_neg (by rw [Nat.add_mul];omega)]
 apply Array.ext_getElem?;intro i;have:=key n i;simp only [List.getElem?_toArray,this];by_cases h:i < n * z.size
 ·rw [if_pos h];simp [h]
 ·rw [if_neg h];simp;omega
section
variable {w0 w:World} {σ:Sg} {h:Hp} {N:Nat} {fr:T V} {ρ:Operand→Value} {q:A} {dst:Option Nat} {ty:TypeId} {pos:String} {af:Array Edge} {g:Option (Nat × Bool)}
theorem GW {op:BinOp} {t yt:TypeId} {x y:Operand} (e:Ep h op t y (xe N fr x) (xe N fr y)=.ok q) (he:EvO σ N fr ρ #[x,y]) (hc:∀ c,ρ (.const c)=c):pz σ w ρ ⟨dst,.binOp op t x y yt,ty,pos,af,g⟩ q.v:=by
 unfold Ep at e;split at e
 ·rename_i u v hx hy
  obtain ⟨r,h1,rfl⟩:=f8 e;have h2:=he x (by simp) u hx;have h3:=he y (by simp) v hy;unfold bop at h1;split at h1
  ·rename_i k a k' b
   obtain ⟨z,h4,h5⟩:=Di (t:=t) h1;have h6:=e7 h2;have h7:=e7 h3;exact ⟨z,by simp [execOp,h6,h7,aW,h4,Result.andThen],h5⟩
  ·obtain ⟨z,h4,h5⟩:=Dj (t:=t) (x:=x) h1 h2 h3 (fun c hcc=>by subst hcc;exact hc c)
   refine ⟨z,?_,h5⟩;have:=h4 w;simp only [execOp,Sem.run_bind,this,Result.andThen,Sem.run_pure]
 ·cases e
theorem nf {t:TypeId} {pl:Nat→Option (Nat × Nat)} (h:rN t=some pl):(∃ fs,PG.underlying t=some (.struct fs)∧(∀ f∈fs,∃ sz,szt f.type=some sz)∧pl=nT fs)∨∃ n e sz,PG.underlying t=some (.array n e)∧szt e=some sz∧pl=fun i=>some (i * sz,sz):=by
 unfold rN at h;split at h
 ·rename_i fs hs
  split at h
  ·rename_i hall
   refine .inl ⟨fs,hs,fun f hf=>?_,(Option.some.inj h).symm⟩;have:=List.all_eq_true.1 hall f (by simpa using hf);cases hz:szt f.type with
   | none=>rw [hz] at this;cases this
   | some sz=>exact ⟨sz,rfl⟩
  ·cases h
 ·rename_i n e hs
  split at h
  ·rename_i sz hz;exact .inr ⟨n,e,sz,hs,hz,(Option.some.inj h).symm⟩
  ·cases h
 ·cases h
theorem uG {w:World} {fs:Array Field} (hall:∀ f∈fs,∃ sz,szt f.type=some sz):
 (fs.mapM (m:=Sem) fun f=>do pure (f.offset,← sizeOf f.type)).run PG w=.ok (fs.map fun f=>(f.offset,(szt f.type).getD 0)) w:=by
 rw [Array.mapM_eq_mapM_toList]
 have key:∀ l:List Field,(∀ f∈l,∃ sz,szt f.type=some sz)→(l.mapM (m:=Sem) fun f=>do pure (f.offset,← sizeOf f.type)).run PG w=.ok (l.map fun f=>(f.offset,(szt f.type).getD 0)) w:=by
  intro l;induction l with
  | nil=>intro _;simp
  | cons f l ih=>
   intro hl;obtain ⟨sz,hs⟩:=hl f (by simp);have:=ih (fun f hf=>hl f (by simp [hf]));rw [List.mapM_cons];simp only [Sem.run_bind,fu hs,this,Result.andThen,Sem.run_pure,hs,Option.getD,List.map_cons]
 have:=key fs.toList (fun f hf=>hall f (by simpa using hf));simp only [Sem.run_map,this];simp;rw [← Array.toList_inj];simp
theorem Ee {t:TypeId} {ps:Array (Nat × Operand)} (e:qh h t (xps N fr ps.toList)=.ok q) (he:EvO σ N fr ρ (ps.toList.map (·.2)).toArray):pz σ w ρ ⟨dst,.build t ps,ty,pos,af,g⟩ q.v:=by
 unfold qh at e;split at e
 ·rename_i pl z l hp hz hl
  split at e
  ·rename_i c hc
   obtain rfl:=R.ok.inj e;obtain ⟨i,zv,h1,h2,h3⟩:=jq hz;have hz':=iO (σ:=σ) h3;have hps:=Bf hl (fun x hx=>he x (by simpa using hx));have hrz:(zeroValue t).run PG w=.ok zv w:=by simp [zeroValue,typeInfo,h1,h2]
   have hparts:(ps.map fun (i,x)=>(i,ρ x)).toList=ps.toList.map fun p=>(p.1,ρ p.2):=by simp
   rcases nf hp with ⟨fs,h4,hall,rfl⟩ | ⟨n,e',sz,h4,h5,rfl⟩
   ·have hplace:∀ i r,nT fs i=some r→(fs.map fun f=>(f.offset,(szt f.type).getD 0))[i]?=some r:=fun i r hr=>by
     unfold nT at hr;split at hr
     ·rename_i f hff
      split at hr
      ·rename_i sz hs
       rw [Array.getElem?_map,hff]
       simpa [hs] using hr
      ·cases hr
     ·cases hr
    obtain ⟨d',h6,h7⟩:=sn hplace hc hz' hps;refine ⟨.agg d'.toArray,?_,by rw [den,h6]⟩
    have h7':Instr.fill (fun i=>(fs.map fun f=>(f.offset,(szt f.type).getD 0))[i]?) zv.cells (ps.map fun (i,x)=>(i,ρ x)).toList=some d'.toArray:=by
     rw [hparts];have e:zv.cells.toList.toArray=zv.cells:=by simp
     rw [e] at h7;exact h7
    have:(Instr.build t (ps.map fun (i,x)=>(i,ρ x))).run PG w=.ok (.agg d'.toArray) w:=by
     unfold Instr.build;simp only [Sem.run_bind,hrz,Result.andThen,run_underlying h4,uG hall,h7',Sem.run_pure]
    simp [execOp,this,Result.andThen]
   ·obtain ⟨d',h6,h7⟩:=sn (place:=fun i=>some (i * sz,sz)) (fun i r hr=>hr) hc hz' hps
    refine ⟨.agg d'.toArray,?_,by rw [den,h6]⟩
    have h7':Instr.fill (fun i=>some (i * sz,sz)) zv.cells (ps.map fun (i,x)=>(i,ρ x)).toList=some d'.toArray:=by
     rw [hparts];simpa using h7
    have:(Instr.build t (ps.map fun (i,x)=>(i,ρ x))).run PG w=.ok (.agg d'.toArray) w:=by
     unfold Instr.build;simp only [Sem.run_bind,hrz,Result.andThen,run_underlying h4,fu h5,h7',Sem.run_pure]
    simp [execOp,this,Result.andThen]
  ·cases e
 ·cases e
end
end Go.Proofs.YtbcdgcodnkgdoaaGreat.Run
namespace Go.Proofs.YtbcdgcodnkgdoaaGreat.Run
open Go Go.RowKit
/-! ### keys -/
theorem t6 {σ:Sg} {kt:TypeId} {d:TypeDesc} {u v:V} {a b:Value} {c:Bool} (hd:PG.underlying kt=some d) (e:eqK kt d u v=some c) (h1:den σ u=some a) (h2:den σ v=some b):
 (Instr.sameNow d a b=some c∨Instr.sameNow d a b=none)∧(∀ w,(Op.equal kt a b).run PG w=.ok c w)∧(c=true→a=b∧Instr.sameBits 10000 a a=true):=by
 unfold eqK at e;split at e
 ·rename_i k a' k' b'
  obtain rfl:=e7 h1;obtain rfl:=e7 h2;split at e
  ·rename_i kk hk
   obtain rfl:=of_decide_eq_true hk;obtain rfl:=Option.some.inj e;refine ⟨.inl ?_,fun w=>?_,fun h=>?_⟩
   ·simp [Instr.sameNow,DU]
   ·have:=run_equalIn_int (P:=PG) w 9999 kt k kk a' b' hd
    rw [DU] at this;exact this
   ·obtain rfl:=of_decide_eq_true h;exact ⟨rfl,by simp [Instr.sameBits]⟩
  ·cases e
 ·split at e
  ·obtain ⟨xs,h3,rfl⟩:=qQ h1
   obtain ⟨ys,h4,rfl⟩:=qQ h2;obtain ⟨h5,h6⟩:=BJ e h3 h4;refine ⟨.inr rfl,h6,fun h=>?_⟩;subst h;unfold eqA at e;split at e
   ·split at e
    ·have key:∀ (x y:List V) (xs ys:List Value),la x y=some true→dI σ x=some xs→dI σ y=some ys→xs=ys∧∀ u∈xs,∃ k n,u=.int k n:=by
      intro x;induction x with
      | nil=>
       intro y xs ys he hx hy;cases y with
       | nil=>simp at hx hy;subst hx;subst hy;exact ⟨rfl,by simp⟩
       | cons v r=>cases he
      | cons u r ih=>
       intro y xs ys he hx hy;cases y with
       | nil=>simp [la] at he
       | cons v q=>
        obtain ⟨k,a,b,c',rfl,rfl,h7,h8⟩:=c8 he;obtain ⟨x1,r1,e1,hx1,rfl⟩:=aO.1 hx;obtain ⟨y1,s1,f1,hy1,rfl⟩:=aO.1 hy;obtain rfl:=e7 e1;obtain rfl:=e7 f1;have h9:decide (a=b)=true∧c'=true:=by simpa using h8.symm
        obtain rfl:=of_decide_eq_true h9.1;obtain ⟨rfl,h10⟩:=ih q r1 s1 (h9.2 ▸ h7) hx1 hy1;exact ⟨rfl,fun u hu=>(List.mem_cons.1 hu).elim (fun h=>⟨k,a,h⟩) (h10 u)⟩
     obtain ⟨rfl,h7⟩:=key _ _ xs ys e h3 h4
     have h8:∀ l:List Value,(∀ u∈l,∃ k n,u=.int k n)→((l.zip l).all fun p=>Instr.sameBits 9999 p.1 p.2)=true:=by
      intro l;induction l with
      | nil=>intro _;rfl
      | cons u r ih=>
       intro hl;obtain ⟨k,n,rfl⟩:=hl u (by simp);rw [List.zip_cons_cons,List.all_cons,ih (fun v hv=>hl v (by simp [hv]))];simp [Instr.sameBits]
     refine ⟨rfl,?_⟩;show (_ == _&&_)=true;simp only [beq_self_eq_true,Bool.true_and];exact h8 xs h7
    ·cases e
   ·cases e
  ·cases e
 ·cases e
theorem tY {σ:Sg} {kt:TypeId} {d:TypeDesc} {k:V} {a:Value} (hd:PG.underlying kt=some d) (hk:den σ k=some a):∀ {es:List (V × V)} {ms:List MapEntry} {r:Option V},mB kt d k es=some r→vL σ es ms→∀ i,
 (Instr.findNow d a ms i=none∨(∃ x,Instr.findNow d a ms i=some x∧((r=none∧x=none)∨∃ v j y,r=some v∧den σ v=some y∧x=some (j,y)))) ∧
 (∀ w,∃ x,(Instr.findAsking kt a ms i).run PG w=.ok x w∧((r=none∧x=none)∨∃ v j y,r=some v∧den σ v=some y∧x=some (j,y))):=by
 intro es;induction es with
 | nil=>
  intro ms r e he i;cases ms with
  | nil=>obtain rfl:=Option.some.inj e;exact ⟨.inr ⟨none,rfl,.inl ⟨rfl,rfl⟩⟩,fun w=>⟨none,by simp [Instr.findAsking],.inl ⟨rfl,rfl⟩⟩⟩
  | cons m q=>exact he.elim
 | cons p es ih=>
  intro ms r e he i;cases ms with
  | nil=>exact he.elim
  | cons m q=>
   obtain ⟨h1,h2,h3⟩:=he;unfold mB at e;split at e
   ·rename_i hq
    obtain rfl:=Option.some.inj e;obtain ⟨h4,h5,_⟩:=t6 hd hq hk h1;refine ⟨?_,fun w=>⟨some (i,m.val),by simp [Instr.findAsking,h5,Result.andThen],.inr ⟨_,i,m.val,rfl,h2,rfl⟩⟩⟩;rcases h4 with h4 | h4
    ·exact .inr ⟨some (i,m.val),by simp [Instr.findNow,h4],.inr ⟨_,i,m.val,rfl,h2,rfl⟩⟩
    ·exact .inl (by simp [Instr.findNow,h4])
   ·rename_i hq
    obtain ⟨h4,h5,_⟩:=t6 hd hq hk h1;obtain ⟨h6,h7⟩:=ih e h3 (i + 1);refine ⟨?_,fun w=>?_⟩
    ·rcases h4 with h4 | h4
     ·simpa [Instr.findNow,h4] using h6
     ·exact .inl (by simp [Instr.findNow,h4])
    ·obtain ⟨x,h8,h9⟩:=h7 w
     exact ⟨x,by simp [Instr.findAsking,h5,h8,Result.andThen],h9⟩
   ·cases e
theorem ot {σ:Sg} {kt:TypeId} {d:TypeDesc} {k:V} {a:Value} {es:List (V × V)} {ms:List MapEntry} {r:Option V} (hd:PG.underlying kt=some d) (hk:den σ k=some a) (e:mB kt d k es=some r) (he:vL σ es ms) (w:World):
 ∃ x,(Instr.findKey kt a ms).run PG w=.ok x w∧((r=none∧x=none)∨∃ v j y,r=some v∧den σ v=some y∧x=some (j,y)):=by
 obtain ⟨h1,h2⟩:=tY hd hk e he 0;rcases h1 with h1 | ⟨x,h1,h3⟩
 ·obtain ⟨x,h4,h5⟩:=h2 w
  exact ⟨x,by simp [Instr.findKey,run_underlying hd,h1,h4,Result.andThen],h5⟩
 ·exact ⟨x,by simp [Instr.findKey,run_underlying hd,h1,Result.andThen],h3⟩
theorem vm (w:World) (e:Bool) (k k2:IntKind) (a b:Int):(Instr.checkKey e 10000 111 (.agg #[.int k a,.int k2 b])).run PG w=.ok () w:=by
 have hu:PG.underlying 111=_:=Tryz.underlying111;have h3:PG.underlying 3=some (.int .i64):=Tryz.underlying3;have p1:(part 3 #[.int k a,.int k2 b] 0).run PG w=.ok (.int k a) w:=by simp [part,ir h3,bH,Result.andThen]
 have p2:(part 3 #[.int k a,.int k2 b] 1).run PG w=.ok (.int k2 b) w:=by simp [part,ir h3,bH,Result.andThen]
 have hc:∀ (n:Nat) (k:IntKind) (a:Int),(Instr.checkKey e (n + 1) 3 (.int k a)).run PG w=.ok () w:=fun n k a=>by simp [Instr.checkKey,run_underlying h3,Result.andThen]
 have hc':=hc 9998;show (Instr.checkKey e (9998 + 1 + 1) 111 _).run PG w=_;rw [Instr.checkKey];simp [run_underlying hu,p1,p2,hc',Result.andThen]
theorem tM {σ:Sg} {kt:TypeId} {d:TypeDesc} {k:V} {a:Value} (hd:PG.underlying kt=some d) (h:Aj kt d k=true) (hk:den σ k=some a) (w:World) (em:Bool):(Instr.checkKey em 10000 kt a).run PG w=.ok () w:=by
 unfold Aj at h;split at h
 ·rename_i e
  unfold eqK at e;split at e
  ·rename_i k1 a1 k2 b1
   obtain rfl:=e7 hk;split at e
   ·rename_i kk hkk
    show (Instr.checkKey em (9999 + 1) kt _).run PG w=_;rw [Instr.checkKey];simp [run_underlying hd,Result.andThen]
   ·cases e
  ·split at e
   ·rename_i x y fs
    obtain ⟨xs,h3,rfl⟩:=qQ hk;unfold eqA at e;split at e
    ·rename_i sz het hsz
     split at e
     ·rename_i hl
      simp only [Bool.and_eq_true,Nat.beq_eq] at hl
      have ht:kt=111∨kt=95:=by
       unfold et at het
       simpa using het
      rcases ht with rfl | rfl
      ·have:sz=2:=by rw [show szt 111=some 2 from by kernel_rfl] at hsz;exact (Option.some.inj hsz).symm
       subst this
       match x,hl,e with
       | [u1,u2],_,e=>
        obtain ⟨k,a,b,c1,rfl,_,h1,_⟩:=c8 e;obtain ⟨k2,a2,b2,c2,rfl,_,h2,_⟩:=c8 h1;obtain ⟨x1,r1,e1,hx1,rfl⟩:=aO.1 h3;obtain ⟨x2,r2,e2,hx2,rfl⟩:=aO.1 hx1;simp only [dX,Option.some.injEq] at hx2;subst hx2;obtain rfl:=e7 e1;obtain rfl:=e7 e2;exact vm w em _ _ _ _
      ·rw [show PG.underlying 95=some (.array 4 5) from Tryz.underlying95] at hd
       cases hd
     ·cases e
    ·cases e
   ·cases e
  ·cases e
 ·cases h
theorem z2 {w0 w:World} {σ:Sg} {h:Hp} {u:V} {x:Value} {es:List (V × V)} (H:gN w0 σ h.get w) (e:CS h u=some es) (hu:den σ u=some x):
 ∃ ms,vL σ es ms∧((x=.map none∧ms=[])∨∃ r c,x=.map (some r)∧w.heap[r]?=some (.map ms.toArray c)):=by
 unfold CS at e;split at e
 ·obtain rfl:=Option.some.inj e
  rw [den] at hu;exact ⟨[],trivial,.inl ⟨(Option.some.inj hu).symm,rfl⟩⟩
 ·rename_i m
  split at e
  ·rename_i es' hg
   obtain rfl:=Option.some.inj e;obtain ⟨q,o,h1,h2,ms,c,h3,rfl⟩:=H.obj _ _ hg;obtain ⟨q',h4,rfl⟩:=AA hu;rw [h1] at h4;obtain rfl:=Option.some.inj h4;exact ⟨ms,h3,.inr ⟨q.1,c,rfl,h2⟩⟩
  ·cases e
 ·cases e
section
variable {w0 w:World} {σ:Sg} {h:Hp} {N:Nat} {fr:T V} {ρ:Operand→Value} {q:A} {dst:Option Nat} {ty:TypeId} {pos:String} {af:Array Edge} {g:Option (Nat × Bool)}
theorem Ca {t:TypeId} {z:V} (hz:zvt t=some z):∃ zv,den σ z=some zv∧∀ w,(zeroValue t).run PG w=.ok zv w:=by
 unfold zvt at hz;cases hi:PG.info? t with
 | none=>rw [hi] at hz;cases hz
 | some i=>
  rw [hi] at hz;simp only at hz;cases hzv:i.zero with
  | none=>rw [hzv] at hz;cases hz
  | some zv=>rw [hzv] at hz;exact ⟨zv,rS hz,fun w=>by simp [zeroValue,typeInfo,hi,hzv]⟩
theorem FP {t:TypeId} {x k:Operand} {ok:Bool} (e:wX h t (xe N fr x) (xe N fr k) ok=.ok q) (he:EvO σ N fr ρ #[x,k]) (H:gN w0 σ h.get w):pz σ w ρ ⟨dst,.lookup t x k ok,ty,pos,af,g⟩ q.v:=by
 unfold wX at e;split at e
 ·rename_i m kv hm hk
  obtain ⟨v,h1,rfl⟩:=f8 e;unfold xo at h1;split at h1
  ·rename_i kt el ht
   split at h1
   ·rename_i d z es hd hz hes
    obtain ⟨h2,h3⟩:=bx h1;have dm:=he x (by simp) m hm;have dk:=he k (by simp) kv hk;obtain ⟨ms,h4,h5⟩:=z2 H hes dm;have h6:=tM hd h2 dk w;obtain ⟨zv,hzd,hrz⟩:=Ca (σ:=σ) hz;have hrz:=hrz w;cases hf:mB kt d kv es with
    | none=>rw [hf] at h3;cases h3
    | some r=>
     rw [hf] at h3;obtain ⟨y,h7,h8⟩:=ot hd dk hf h4 w;rcases h8 with ⟨rfl,rfl⟩ | ⟨v',j,y',rfl,hv',rfl⟩
     ·obtain rfl:=R.ok.inj h3
      refine ⟨if ok then .tuple #[zv,.bool false] else zv,?_,?_⟩
      ·rcases h5 with ⟨h5,rfl⟩ | ⟨r',c,h5,h9⟩
       ·cases ok <;> simp [execOp,Instr.lookup,run_underlying ht,h5,h6,h7,hrz,Result.andThen]
       ·cases ok <;> simp [execOp,Instr.lookup,run_underlying ht,h5,Go.MapKept.run_getObj_map h9,h6,h7,hrz,Result.andThen]
      ·cases ok
       ·exact hzd
       ·simp [den,sw,hzd]
     ·obtain rfl:=R.ok.inj h3
      refine ⟨if ok then .tuple #[y',.bool true] else y',?_,?_⟩
      ·rcases h5 with ⟨h5,rfl⟩ | ⟨r',c,h5,h9⟩
       ·cases ok <;> simp [execOp,Instr.lookup,run_underlying ht,h5,h6,h7,Result.andThen]
       ·cases ok <;> simp [execOp,Instr.lookup,run_underlying ht,h5,Go.MapKept.run_getObj_map h9,h6,h7,Result.andThen]
      ·cases ok
       ·exact hv'
       ·simp [den,sw,hv']
   ·cases h1
  ·cases h1
 ·cases e
end
end Go.Proofs.YtbcdgcodnkgdoaaGreat.Run
namespace Go.Proofs.YtbcdgcodnkgdoaaGreat.Run
open Go Go.RowKit
section
variable {w0 w:World} {σ:Sg} {h:Hp} {N:Nat} {fr:T V} {ρ:Operand→Value} {q:A} {dst:Option Nat} {ty:TypeId} {pos:String} {af:Array Edge} {g:Option (Nat × Bool)}
theorem pe {k:IntKind} {i:Int} {n:Nat} {cd:BoundsCode} (h0:0≤i) (h1:i≤n) (w:World):(Instr.sliceBound (.int k i) n cd).run PG w=.ok i.toNat w:=by
 simp [Instr.sliceBound,asIntOf,h0,h1]
theorem rF {e sz m off o n:Nat} {r:Nat × Nat} (H:gN w0 σ h.get w) (hr:pU h e sz m off o n=true) (hs:szt e=some sz) (hm:σ m=some r):o + n≤r.2:=by
 unfold pU at hr;split at hr
 ·rename_i c e' hg
  simp only [Bool.and_eq_true,Nat.beq_eq,Nat.ble_eq] at hr;obtain ⟨⟨⟨rfl,rfl⟩,h1⟩,h0⟩:=hr;have h0:=fF h0;obtain ⟨q',o',h2,h3,c',rest,fz,sz',h4,h5,rfl,h6,h7,h8⟩:=H.obj _ _ hg;rw [hm] at h2;obtain rfl:=Option.some.inj h2;rw [hs] at h4;obtain rfl:=Option.some.inj h4;have h9:=cy h5;rw [List.length_append] at h7;have:(o + n) * sz≤r.2 * sz:=by rw [Nat.add_mul];omega
  exact Nat.le_of_mul_le_mul_right this h0
 ·rename_i c te hg
  simp only [Bool.and_eq_true,Nat.beq_eq,Nat.ble_eq] at hr;obtain ⟨⟨rfl,rfl⟩,h1⟩:=hr;obtain ⟨q',o',h2,h3,c',fz,h5,rfl,h6,h7⟩:=H.obj _ _ hg;rw [hm] at h2;obtain rfl:=Option.some.inj h2;omega
 ·cases hr
theorem lR {t:TypeId} {u v:V} {a:Value} {lo hi:Option V} {lo' hi':Option Value} (H:gN w0 σ h.get w) (e:pP h t u lo hi=.ok v) (hu:den σ u=some a)
 (hlo:∀ x,lo=some x→∃ y,lo'=some y∧den σ x=some y) (hlo0:lo=none→lo'=none) (hhi:∀ x,hi=some x→∃ y,hi'=some y∧den σ x=some y) (hhi0:hi=none→hi'=none):
 ∃ x,(Instr.sliceAt t a lo' hi' none).run PG w=.ok x w∧den σ v=some x:=by
 unfold pP at e;split at e
 ·rename_i m off o n
  obtain ⟨r,h1,rfl⟩:=o8 hu;split at e
  ·rename_i el ht
   split at e
   ·rename_i sz hs
    split at e
    ·rename_i kk b
     obtain ⟨h2,h3⟩:=bx e;simp only [Bool.and_eq_true,decide_eq_true_eq,Nat.ble_eq] at h2;obtain ⟨⟨h2,h4⟩,h5⟩:=h2;obtain rfl:=R.ok.inj h3;obtain ⟨y,rfl,hy⟩:=hhi _ rfl;obtain rfl:=e7 hy;obtain rfl:=hlo0 rfl;have hroom:=rF H h5 hs h1;refine ⟨.slice (some ⟨r.1,off,none⟩) b.toNat (r.2 - o),?_,by simp [den,h1]⟩;have e1:=pe (k:=kk) (cd:=.sliceAcap) h2 (show b≤((r.2 - o:Nat):Int) by omega) w;simp [Instr.sliceAt,run_underlying ht,Instr.slice,Instr.sliceBounds,e1,fu hs,Result.andThen,Addr.add]
    ·rename_i kk b
     obtain ⟨h2,h3⟩:=bx e;simp only [Bool.and_eq_true,decide_eq_true_eq] at h2;obtain ⟨⟨h2,h4⟩,h5⟩:=h2;have h4:=fF h4;obtain rfl:=R.ok.inj h3;obtain ⟨y,rfl,hy⟩:=hlo _ rfl;obtain rfl:=e7 hy;obtain rfl:=hhi0 rfl;have hroom:=rF H h5 hs h1;refine ⟨.slice (some ⟨r.1,off + b.toNat * sz,none⟩) (n - b.toNat) (r.2 - (o + b.toNat)),?_,by simp [den,h1]⟩;have e1:=pe (k:=kk) (cd:=.sliceB) (n:=n) h2 (by omega) w;have hne:¬ (r.2 - o=b.toNat):=by omega
     simp [Instr.sliceAt,run_underlying ht,Instr.slice,Instr.sliceBounds,e1,fu hs,Result.andThen,ja,hne,Nat.sub_sub]
    ·cases e
   ·cases e
  ·cases e
 ·obtain rfl:=jT hu
  split at e
  ·rename_i el ht
   split at e
   ·rename_i kk b
    obtain ⟨h2,h3⟩:=bx e;simp only [Bool.and_eq_true,decide_eq_true_eq] at h2;obtain ⟨rfl,hs⟩:=h2;obtain rfl:=R.ok.inj h3;obtain ⟨y,rfl,hy⟩:=hhi _ rfl;obtain rfl:=e7 hy;obtain rfl:=hlo0 rfl;refine ⟨.slice none 0 0,?_,by simp [den]⟩;cases hsz:szt el with
    | none=>rw [hsz] at hs;cases hs
    | some sz=>
     have e1:=pe (k:=kk) (i:=0) (n:=0) (cd:=.sliceAcap) (Int.le_refl _) (Int.le_refl _) w;simp [Instr.sliceAt,run_underlying ht,Instr.slice,Instr.sliceBounds,e1,fu hsz,Result.andThen]
   ·cases e
  ·cases e
 ·rename_i m o
  obtain ⟨r,h1,rfl⟩:=su hu;split at e
  ·rename_i n el ht
   split at e
   ·rename_i sz c te hs hg
    obtain ⟨h2,h3⟩:=bx e;simp only [Bool.and_eq_true,Nat.beq_eq] at h2;obtain ⟨⟨⟨rfl,rfl⟩,rfl⟩,h4⟩:=h2;have h4:=fF h4;obtain rfl:=R.ok.inj h3;obtain rfl:=hlo0 rfl;obtain rfl:=hhi0 rfl;obtain ⟨q',o',k2,k3,c',fz,k5,rfl,k6,k7⟩:=H.obj _ _ hg;rw [h1] at k2;obtain rfl:=Option.some.inj k2;refine ⟨.slice (some ⟨r.1,0,none⟩) c.length c.length,?_,by simp [den,h1,k7]⟩;have hne:¬ (c.length=0):=by omega
    simp [Instr.sliceAt,run_underlying ht,Instr.sureAddr,Instr.sliceBounds,fu hs,Result.andThen,Addr.add]
   ·cases e
  ·cases e
 ·cases e
theorem Ec {t:TypeId} {x:Operand} {lo hi mx:Option Operand} (e:qe N fr h t (xe N fr x) lo hi mx=.ok q) (he:EvO σ N fr ρ (#[x]++lo.toArray++hi.toArray++mx.toArray)) (H:gN w0 σ h.get w):pz σ w ρ ⟨dst,.slice t x lo hi mx,ty,pos,af,g⟩ q.v:=by
 unfold qe at e;split at e
 ·rename_i v hx
  obtain ⟨r,h1,rfl⟩:=f8 e;obtain ⟨y,h2,h3⟩:=lR (lo':=none) (hi':=none) H h1 (he x (by simp) _ hx) (fun _ hh=>by cases hh) (fun _=>rfl) (fun _ hh=>by cases hh) (fun _=>rfl);exact ⟨y,by simp [execOp,h2,Result.andThen],h3⟩
 ·rename_i v l hx
  split at e
  ·rename_i a ha
   obtain ⟨r,h1,rfl⟩:=f8 e;obtain ⟨y,h2,h3⟩:=lR (lo':=some (ρ l)) (hi':=none) H h1 (he x (by simp) _ hx) (fun z hz=>by cases hz;exact ⟨_,rfl,he l (by simp) _ ha⟩) (fun hh=>by cases hh) (fun _ hh=>by cases hh) (fun _=>rfl);exact ⟨y,by simp [execOp,h2,Result.andThen],h3⟩
  ·cases e
 ·rename_i v l hx
  split at e
  ·rename_i a ha
   obtain ⟨r,h1,rfl⟩:=f8 e;obtain ⟨y,h2,h3⟩:=lR (lo':=none) (hi':=some (ρ l)) H h1 (he x (by simp) _ hx) (fun _ hh=>by cases hh) (fun _=>rfl) (fun z hz=>by cases hz;exact ⟨_,rfl,he l (by simp) _ ha⟩) (fun hh=>by cases hh);exact ⟨y,by simp [execOp,h2,Result.andThen],h3⟩
  ·cases e
 ·cases e
theorem CM {t:TypeId} {v:V} {a:Value} {ats:Array TypeId} (e:Fk h t v=.ok q) (hv:den σ v=some a):∃ x,(Builtin.len_ (t::ats.toList).toArray ty #[a]).run PG w=.ok x w∧den σ q.v=some x:=by
 unfold Fk at e;split at e
 ·rename_i ht
  obtain rfl:=R.ok.inj e;obtain ⟨r,h1,rfl⟩:=o8 hv;exact ⟨_,by simp [Builtin.len_,run_underlying ht,goInt,Result.andThen],fS⟩
 ·rename_i ht
  obtain rfl:=R.ok.inj e;obtain rfl:=jT hv;exact ⟨_,by simp [Builtin.len_,run_underlying ht,goInt,Result.andThen],fS⟩
 ·rename_i s ht
  obtain rfl:=R.ok.inj e;obtain rfl:=EQ hv;exact ⟨_,by simp [Builtin.len_,run_underlying ht,goInt,Result.andThen],fS⟩
 ·cases e
theorem wE {op:Op} (hk:bD op=0∨bD op=1) (e:opL N fr h op=.ok q) (he:EvO σ N fr ρ op.operands) (hc:∀ c,ρ (.const c)=c) (H:bD op=1→gN w0 σ h.get w):pz σ w ρ ⟨dst,op,ty,pos,af,g⟩ q.v:=by
 cases op <;> first
  | (cases e;done)
  | (exact FN e he)
  | (exact CB e he)
  | (exact FM e he)
  | (exact FQ e he (H rfl))
  | (exact GT e he)
  | (exact GW e he hc)
  | (exact pUn e he)
  | (exact CA e he)
  | (exact Ed e he)
  | (exact FR e he)
  | (exact GU e he)
  | (exact FP e he (H rfl))
  | (exact GV e he)
  | (exact FS e he)
  | (exact Ec e he (H rfl))
  | (exact Ee e he)
  | (exact FT (by rcases hk with hk | hk;exact hk;exfalso;revert hk;simp only [bD,mp];split <;> simp) e he)
  | (simp [bD] at hk;done)
  | skip
 ·rename_i c
  obtain ⟨cl,args,ats⟩:=c;cases cl with
  | value f=>simp [bD,jI] at hk
  | invoke r m=>cases e
  | builtin bt=>
   change gT h bt (xes N fr args.toList) ats.toList=.ok q at e;unfold gT at e;split at e
   ·rename_i v t r hl ht
    have hd:=fZ (fun x hx=>he x (by simp [Op.operands,Call.operands];simpa using hx)) hl;obtain ⟨a,b,h1,h2,h3⟩:=aO.1 hd;simp only [dX,Option.some.injEq] at h2;subst h2;obtain ⟨x,h4,h5⟩:=CM (w:=w) (ty:=ty) (ats:=r.toArray) e h1;have e1:args.map ρ=#[a]:=by rw [← Array.toList_inj];simpa using h3
    have e2:ats=(t::r.toArray.toList).toArray:=by rw [← Array.toList_inj];simpa using ht
    rw [← e2] at h4;exact ⟨x,by simp [execOp,resolve,invoke,builtin,e1,h4,Result.andThen],h5⟩
   ·simp [bD,jI,qA] at hk
   ·rename_i k a k' b hl
    obtain rfl:=R.ok.inj e;have hd:=fZ (fun x hx=>he x (by simp [Op.operands,Call.operands];simpa using hx)) hl;obtain ⟨x1,r1,h1,h2,h3⟩:=aO.1 hd;obtain ⟨x2,r2,h4,h5,rfl⟩:=aO.1 h2;simp only [dX,Option.some.injEq] at h5;subst h5;obtain rfl:=e7 h1;obtain rfl:=e7 h4;have e1:args.map ρ=#[.int k a,.int k' b]:=by rw [← Array.toList_inj];simpa using h3
    refine ⟨.int k (if b < a then b else a),?_,fS⟩
    have h6:(Builtin.min_ ats ty #[.int k a,.int k' b]).run PG w=.ok (.int k (if b < a then b else a)) w:=by
     simp [Builtin.min_,Builtin.min2]
    simp [execOp,resolve,invoke,builtin,e1,h6,Result.andThen]
   ·cases e
end
end Go.Proofs.YtbcdgcodnkgdoaaGreat.Run
namespace Go.Proofs.YtbcdgcodnkgdoaaGreat.Run
open Go Go.RowKit
def DG (N:Nat) (fr:T V) (n:Nat) (op:Op) (v:V) (b:B):Prop:=∀ {σ:Sg} {ρ:Operand→Value} {w:World} {dst:Option Nat} {ty:TypeId} {pos:String} {af:Array Edge} {g:Option (Nat × Bool)},EvO σ N fr ρ op.operands→σ n=none→
 ∃ cap x o,(execOp ρ ⟨dst,op,ty,pos,af,g⟩).run PG w=.ok (.value x) (w.alloc o)∧den (σ.add n (w.heap.size,cap)) v=some x∧obj (σ.add n (w.heap.size,cap)) b (w.heap.size,cap) o
theorem xZ {pl:Nat→Option (Nat × Nat)}:∀ {ps:List (Nat × V)} {c d:List V},so pl c ps=some d→d.length=c.length:=by
 intro ps;induction ps with
 | nil=>intro c d h;obtain rfl:=Option.some.inj h;rfl
 | cons p r ih=>
  intro c d h;obtain ⟨i,v⟩:=p;unfold so at h;split at h
  ·split at h
   ·rename_i hl
    simp only [Bool.and_eq_true,Nat.beq_eq,Nat.ble_eq] at hl;rw [ih h,me hl.2]
   ·cases h
  ·cases h
theorem zC (n:Nat) (z:List V):(Bj n z).length=n * z.length:=by
 induction n with
 | zero=>show ([]:List V).length=_;simp
 | succ n ih=>
  have e:Bj (n + 1) z=z++Bj n z:=rfl;rw [e,List.length_append,ih,Nat.add_mul];omega
theorem fz0 (n:Nat):DS (0,0) n:=.inl rfl
section
variable {h:Hp} {N:Nat} {fr:T V} {q:A}
theorem Et {t:TypeId} (e:w9 h t=.ok q):∃ b,q.h=h.new b∧DG N fr h.n (.alloc t) q.v b:=by
 unfold w9 at e;split at e
 ·rename_i z hz
  obtain rfl:=R.ok.inj e;refine ⟨_,rfl,fun {σ ρ w dst ty pos af g} he hn=>?_⟩;obtain ⟨i,zv,h1,h2,h3⟩:=jq hz;refine ⟨z.length,.pointer (some ⟨w.heap.size,0,none⟩),.cells zv.cells t,by simp [execOp,Instr.alloc,zeroValue,typeInfo,h1,h2,newVar,newRow,Result.andThen],by simp [den,bN],?_⟩;exact ⟨zv.cells.toList,(0,0),iO h3,by simp,fz0 _,rfl⟩
 ·cases e
theorem GY {t:TypeId} {x:Operand} (e:FY h t (xe N fr x)=.ok q):∃ b,q.h=h.new b∧DG N fr h.n (.box t x) q.v b:=by
 unfold FY at e;split at e
 ·rename_i v hx
  obtain ⟨h1,h2⟩:=bx e;obtain rfl:=R.ok.inj h2;refine ⟨_,rfl,fun {σ ρ w dst ty pos af g} he hn=>?_⟩;refine ⟨v.flat.length,.pointer (some ⟨w.heap.size,0,none⟩),.cells (ρ x).cells t,by simp [execOp,Instr.box,newVar,newRow,Result.andThen],by simp [den,bN],?_⟩;exact ⟨(ρ x).cells.toList,(0,0),bT (cW hn) _ _ (mA (he x (by simp [Op.operands]) v hx)),by simp,fz0 _,rfl⟩
 ·cases e
theorem zU {t:TypeId} {n:Nat} {ps:Array (Nat × Operand)} (e:oT h t n (xps N fr ps.toList)=.ok q):∃ b,q.h=h.new b∧DG N fr h.n (.buildSlice t n ps) q.v b:=by
 unfold oT at e;split at e
 ·rename_i el l ht hl
  unfold qg at e;split at e
  ·rename_i sz z hs hz
   split at e
   ·rename_i c hc
    obtain ⟨h1,h2⟩:=bx e;simp only [Bool.and_eq_true,Nat.beq_eq,Nat.ble_eq,Bool.not_eq_true'] at h1;obtain ⟨⟨⟨rfl,h3⟩,h4⟩,h5⟩:=h1;obtain rfl:=R.ok.inj h2;refine ⟨_,rfl,fun {σ ρ w dst ty pos af g} he hn=>?_⟩;obtain ⟨i,zv,k1,k2,k3⟩:=jq hz;have hzd:=iO (σ:=σ) k3;have hzl:zv.cells.size=z.length:=by have:=cy hzd;simpa using this
    have hps:=Bf hl (fun x hx=>he x (by simpa [Op.operands] using hx));have hparts:(ps.map fun (i,x)=>(i,ρ x)).toList=ps.toList.map fun p=>(p.1,ρ p.2):=by simp
    have h3':0 < z.length:=Nat.pos_of_ne_zero (fun hz0=>by rw [hz0] at h3;cases h3);have hrep:=s8 hzd n;obtain ⟨d',h6,h7⟩:=sn (place:=fun i=>some (i * z.length,z.length)) (fun i r hr=>hr) hc hrep hps;rw [← hparts] at h7;have hrr:=wy zv.cells (by omega) n;rw [hzl] at hrr;have hlen:d'.length=n * z.length:=by rw [cy h6,xZ hc,zC]
    refine ⟨n,.slice (some ⟨w.heap.size,0,none⟩) n n,.cells d'.toArray el,?_,by simp [den,bN],?_⟩
    ·have hrz:(zeroValue el).run PG w=.ok zv w:=by simp [zeroValue,typeInfo,k1,k2]
     have hn0:¬ (n * z.length > 2 ^ 24):=by omega
     have:(Instr.buildSlice t n (ps.map fun (i,x)=>(i,ρ x))).run PG w=.ok (.slice (some ⟨w.heap.size,0,none⟩) n n) (w.alloc (.cells d'.toArray el)):=by
      unfold Instr.buildSlice;simp only [Sem.run_bind,run_underlying ht,Result.andThen,fu hs,hn0,if_false];by_cases hn1:n * z.length=0
      ·have hm:∀ f:Nat→Value,(Array.range (n * z.length)).map f=(List.replicate n zv.cells.toList).flatten.toArray:=fun f=>by
        rw [← hrr,hn1];simp
       rw [if_pos hn1];simp only [Sem.run_bind,Sem.run_pure,Result.andThen,hm,h7,newRow];simp [Result.andThen]
      ·rw [if_neg hn1]
       simp only [Sem.run_bind,hrz,Sem.run_pure,Result.andThen,hzl,hrr,h7,newRow];simp [Result.andThen]
     simp [execOp,this,Result.andThen]
    ·refine ⟨d',[],(0,0),z.length,hs,bT (cW hn) _ _ h6,by simp,fz0 _,by simpa using hlen,?_⟩
     show n≤dK;have:n≤n * z.length:=Nat.le_mul_of_pos_right n h3';unfold dK;omega
   ·cases e
  ·cases e
 ·cases e
theorem GX {t:TypeId} {r:Option Operand} (e:oS h r=.ok q):∃ b,q.h=h.new b∧DG N fr h.n (.makeMap t r) q.v b:=by
 unfold oS at e;split at e
 ·obtain rfl:=R.ok.inj e
  refine ⟨_,rfl,fun {σ ρ w dst ty pos af g} he hn=>⟨0,.map (some w.heap.size),.map #[] 0,by simp [execOp,Instr.makeMap,Result.andThen],by simp [den,bN],[],0,trivial,rfl⟩⟩
 ·cases e
theorem CQ {t:TypeId} {x y:Operand} (e:rT h t (xe N fr x) (xe N fr y)=.ok q):∃ b,q.h=h.new b∧DG N fr h.n (.makeSlice t x y) q.v b:=by
 unfold rT at e;split at e
 ·rename_i u v hx hy
  unfold Bv at e;split at e
  ·rename_i k a k' b
   split at e
   ·rename_i el ht
    split at e
    ·rename_i sz by_ z hs hb hz
     obtain ⟨h1,h2⟩:=bx e;simp only [Bool.and_eq_true,Nat.beq_eq,Nat.ble_eq,Bool.not_eq_true',decide_eq_true_eq] at h1;obtain ⟨⟨⟨⟨⟨h3,h4⟩,h5⟩,h6⟩,h7⟩,h8⟩:=h1;subst h7;obtain rfl:=R.ok.inj h2;refine ⟨_,rfl,fun {σ ρ w dst ty pos af g} he hn=>?_⟩;have hrx:ρ x=.int k a:=e7 (he x (by simp [Op.operands]) _ hx);have hry:ρ y=.int k' b:=e7 (he y (by simp [Op.operands]) _ hy);subst h4;obtain ⟨n,rfl⟩:=Int.eq_ofNat_of_zero_le h3;obtain ⟨i,zv,k1,k2,k3⟩:=jq hz;obtain ⟨i',z',k1',_,k4⟩:=ll hs;rw [k1] at k1';obtain rfl:=Option.some.inj k1';have k5:i.bytes=by_:=by unfold byt at hb;rw [k1] at hb;exact Option.some.inj hb
     have hzd:=iO (σ:=σ) k3;have hzl:zv.cells.size=z.length:=by have:=cy hzd;simpa using this
     have h5':n≤1000000:=by omega
     have hbi:(i.bytes:Int) * (n:Int)≤281474976710656:=by
      rw [k5,← Int.natCast_mul];have:by_ * n≤1000 * 1000000:=Nat.mul_le_mul h6 h5';omega
     have hm:=run_make (P:=PG) w t el i zv ht k1 k2 k k' (n:Int) (n:Int) (by omega) (by omega) hbi (by omega)
     have hcells:madeCells zv.cells ((n:Int).toNat * i.size)=(List.replicate n zv.cells.toList).flatten.toArray:=by
      have:=ql zv.cells.toList n;rw [k4,Int.toNat_natCast,← hzl];unfold madeCells
      simpa using this
     rw [hcells,Int.toNat_natCast] at hm
     have hrun:(execOp ρ ⟨dst,.makeSlice t x y,ty,pos,af,g⟩).run PG w=.ok (.value (.slice (some ⟨w.heap.size,0,none⟩) n n)) (w.alloc (.cells (List.replicate n zv.cells.toList).flatten.toArray el)):=by
      simp only [execOp,hrx,hry,Sem.run_bind,hm,Result.andThen]
      rfl
     refine ⟨n,_,_,hrun,by simp [den,bN],?_⟩;refine ⟨(List.replicate n zv.cells.toList).flatten,[],(0,0),z.length,hs,by rw [Int.toNat_natCast];exact bT (cW hn) _ _ (s8 hzd n),by simp,fz0 _,?_,?_⟩
     ·rw [List.append_nil,eL (sz:=z.length) (by intro x hx;rw [List.eq_of_mem_replicate hx];simpa using hzl)];simp
     ·show n≤dK
      unfold dK;omega
    ·cases e
   ·cases e
  ·cases e
 ·cases e
theorem Bt {op:Op} (hk:bD op=2) (e:opL N fr h op=.ok q):∃ b,q.h=h.new b∧DG N fr h.n op q.v b:=by
 cases op <;> first
  | (cases e;done)
  | (exact Et e)
  | (exact GY e)
  | (exact zU e)
  | (exact GX e)
  | (exact CQ e)
  | (simp [bD] at hk;done)
  | (exfalso;revert hk;simp only [bD,mp];split <;> simp;done)
  | (exfalso;revert hk;rename_i c;obtain ⟨cl,args,ats⟩:=c;simp only [bD,jI];cases cl <;> simp [qA];split <;> simp;done)
end
end Go.Proofs.YtbcdgcodnkgdoaaGreat.Run
