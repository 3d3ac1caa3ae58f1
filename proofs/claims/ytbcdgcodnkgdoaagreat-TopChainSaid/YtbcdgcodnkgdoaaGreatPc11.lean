/- Parts of the proof: The runner for closed calls: a statement in open order, step by step. · The runner for closed calls: statements in open order, whole; code; calls. · The runner for closed calls: code. · The runner for closed calls: leaving, calls, the whole. · The runner at alive. · TopChain, walked. Conditions: none. -/
import Derived.Sort.LoopGhostIn
import Derived.Test.YtbcdgcodnkgdoaaGreatPc10
/- The runner for closed calls: a statement in open order, step by step. Conditions: none. -/
set_option linter.unusedVariables false
set_option linter.unusedSimpArgs false
set_option maxRecDepth 10000
namespace Go.Proofs.YtbcdgcodnkgdoaaGreat.Run
open Go Go.RowKit
/-! ### what the digest says -/
theorem dig_at {ops:List Oper}:∀ {l:List Oper} {acc:List Nat} {i:Nat} {g:Dg},(dig ops l acc)[i]?=some g→l[i]?=some g.o∧g.g=guardOf ops g.o∧g.k=kindOp g.o.op ∧
 ∃ acc':List Nat,g.m=maskOf acc' g.o∧acc'.length=acc.length + i∧(∀ j,j < acc.length→acc'[j]?=acc[j]?)∧∀ (j:Nat) (g':Dg),j < i→(dig ops l acc)[j]?=some g'→acc'[acc.length + j]?=some g'.m:=by
 intro l
 induction l with
 | nil=>intro acc i g h;simp [dig] at h
 | cons o l ih=>
  intro acc i g h
  simp only [dig] at h ⊢
  cases i with
  | zero=>
   simp at h
   subst h
   exact ⟨rfl,rfl,rfl,acc,rfl,rfl,fun _ _=>rfl,fun j g' hj _=>by omega⟩
  | succ i=>
   simp only [List.getElem?_cons_succ] at h
   obtain ⟨h1,h2,h3,acc',h4,h5,h6,h7⟩:=ih h
   refine ⟨by simpa using h1,h2,h3,acc',h4,by simp at h5;omega,fun j hj=>?_,fun j g' hj hg=>?_⟩
   ·rw [h6 j (by simp;omega),List.getElem?_append_left hj]
   ·cases j with
    | zero=>
     simp at hg
     subst hg
     rw [h6 (acc.length + 0) (by simp),List.getElem?_append_right (by omega)]
     simp
    | succ j=>
     simp only [List.getElem?_cons_succ] at hg
     have:=h7 j g' (by omega) hg
     simpa [Nat.add_assoc,Nat.add_comm 1] using this
theorem mask_bit {acc:List Nat} {o:Oper} {j:Nat} (h:(maskOf acc o).testBit j=true):∃ e∈o.after.toList,Region.binds .any e=true∧(e.on=j∨(acc.getD e.on 0).testBit j=true):=by
 unfold maskOf at h
 have key:∀ (l:List Edge) (s:Nat),(l.foldl (fun s e=>if Region.binds .any e then s ||| 2 ^ e.on ||| acc.getD e.on 0 else s) s).testBit j=true→s.testBit j=true∨∃ e∈l,Region.binds .any e=true∧(e.on=j∨(acc.getD e.on 0).testBit j=true):=by
  intro l
  induction l with
  | nil=>intro s h;exact .inl h
  | cons e l ih=>
   intro s h
   rw [List.foldl_cons] at h
   rcases ih _ h with h1 | ⟨e',h1,h2⟩
   ·split at h1
    ·rename_i hb
     rw [Nat.testBit_or,Nat.testBit_or,Bool.or_eq_true,Bool.or_eq_true] at h1
     rcases h1 with (h1 | h1) | h1
     ·exact .inl h1
     ·refine .inr ⟨e,by simp,hb,.inl ?_⟩
      rw [Nat.testBit_two_pow] at h1
      exact of_decide_eq_true h1
     ·exact .inr ⟨e,by simp,hb,.inr h1⟩
    ·exact .inl h1
   ·exact .inr ⟨e',by simp [h1],h2⟩
 rcases key _ _ h with h | h
 ·simp at h
 ·exact h
theorem hasN_false {l:List Nat} {d:Nat} (h:hasN l (some d)=false):d∉l:=by
 intro hm
 unfold hasN at h
 simp only at h
 have:=List.any_eq_false.1 h d hm
 simp at this
def Free (g p:Dg):Prop:=hasN g.looks p.o.dst=false∧hasN p.looks g.o.dst=false∧hasN g.o.dst.toList p.o.dst=false
theorem prevOk_at {g:Dg}:∀ {acc:List (Nat × Dg × List Nat)},prevOk g g.looks acc=true→(∀ q∈acc,q.2.2=q.2.1.looks)→∀ q∈acc,g.m.testBit q.1=true∨Free g q.2.1:=by
 intro acc
 induction acc with
 | nil=>intro _ _ q hq;simp at hq
 | cons x acc ih=>
  intro h hl q hq
  obtain ⟨j,p,lp⟩:=x
  simp only [prevOk,Bool.and_eq_true,Bool.or_eq_true] at h
  rcases List.mem_cons.1 hq with rfl | hq
  ·rcases h.1 with h1 | h1
   ·exact .inl h1
   ·have hlp:=hl (j,p,lp) (by simp)
    simp only at hlp
    subst hlp
    simp only [Bool.not_eq_true',Bool.or_eq_false_iff] at h1
    exact .inr ⟨h1.1.1,h1.1.2,h1.2⟩
  ·exact ih h.2 (fun q hq=>hl q (by simp [hq])) q hq
theorem tmpsOk_at:∀ {l:List Dg} {i0:Nat} {acc:List (Nat × Dg × List Nat)},tmpsOk l i0 acc=true→(∀ q∈acc,q.2.2=q.2.1.looks)→∀ i g,l[i]?=some g→backOk (i0 + i) g.o.after.toList=true∧(∀ q∈acc,g.m.testBit q.1=true∨Free g q.2.1)∧∀ j p,j < i→l[j]?=some p→g.m.testBit (i0 + j)=true∨Free g p:=by
 intro l
 induction l with
 | nil=>intro i0 acc _ _ i g h;simp at h
 | cons x l ih=>
  intro i0 acc h hl i g hg
  simp only [tmpsOk,Bool.and_eq_true] at h
  have hl':∀ q∈((i0,x,x.looks)::acc:List (Nat × Dg × List Nat)),q.2.2=q.2.1.looks:=fun q hq=>(List.mem_cons.1 hq).elim (fun h=>by rw [h]) (hl q)
  cases i with
  | zero=>
   simp at hg
   subst hg
   exact ⟨h.1.1,prevOk_at h.1.2 hl,fun j p hj _=>by omega⟩
  | succ i=>
   obtain ⟨h1,h2,h3⟩:=ih h.2 hl' i g (by simpa using hg)
   refine ⟨by rwa [show i0 + (i + 1)=i0 + 1 + i by omega],fun q hq=>h2 q (by simp [hq]),fun j p hj hp=>?_⟩
   cases j with
   | zero=>simp at hp;subst hp;exact h2 (i0,x,x.looks) (by simp)
   | succ j=>rw [show i0 + (j + 1)=i0 + 1 + j by omega];exact h3 j p (by omega) (by simpa using hp)
theorem backOk_at {i:Nat}:∀ {l:List Edge},backOk i l=true→∀ e∈l,Region.binds .any e=true→e.on < i:=by
 intro l
 induction l with
 | nil=>intro _ e he;simp at he
 | cons x l ih=>
  intro h e he hb
  simp only [backOk,Bool.and_eq_true,Bool.or_eq_true] at h
  rcases List.mem_cons.1 he with rfl | he
  ·rcases h.1 with h1 | h1
   ·rw [hb] at h1;cases h1
   ·exact blt_lt h1
  ·exact ih h.2 e he hb
theorem mem_tmpsO {l:List Operand} {t:Nat} (h:Operand.tmp t∈l):t∈tmpsO l:=by
 induction l with
 | nil=>simp at h
 | cons x l ih=>
  rcases List.mem_cons.1 h with h | h
  ·subst h;simp [tmpsO]
  ·have h2:=ih h
   cases x <;> simp [tmpsO,h2]
/-! ### the invariant -/
def Cl (tr:List Ev) (L:Nat→Bool):Prop:=∀ i e,tr[i]?=some e→L i=true→∀ j,e.g.m.testBit j=true→L j=true
structure Iv (w0:World) (N:Nat) (x0:X) (tr:List Ev) (L:Nat→Bool) (σ:Sg) (a:Act) (w:World):Prop where
 size:a.tmps.size=N
 fr:∀ t v,ff L 0 (fget N x0.fr) tr t=some v→∃ x,den σ v=some x∧a.tmps[t]?=some x
 ds:DsR σ (df L 0 x0.ds tr) a.defers
 ht:DenG w0 σ (htf L 0 x0.h tr).get w
 g:DenG w0 σ (gf L 0 x0.h.get tr) w
 dom:∀ k,σ k≠none→k < (htf L 0 x0.h tr).n∨∃ j e,tr[j]?=some e∧L j=true∧e.g.k=2∧e.b=true∧e.h.n=k∧∀ j' e',j < j'→tr[j']?=some e'→e'.tch=true→L j'=false
theorem DenG.keep {w0 w:World} {σ:Sg} {g:Nat→Option B} {n cap:Nat} {o:Obj} (H:DenG w0 σ g w) (hn:σ n=none):DenG w0 (σ.add n (w.heap.size,cap)) g (w.alloc o):=by
 have le:=Sg.le_add (q:=(w.heap.size,cap)) hn
 have hsz:=heap_alloc_size w o
 have live:∀ j c,g j=some c→j≠n:=fun j c hj e=>by
  obtain ⟨q,o',h1,_⟩:=H.obj j c hj
  rw [e,hn] at h1;cases h1
 refine ⟨H.kp.trans (Keeps.alloc No w o) (fun _ hb=>hb.elim),fun k q hq=>?_,fun j c hj=>?_,fun i j a c q r hi hj hq hr e=>?_⟩
 ·unfold Sg.add at hq
  split at hq
  ·obtain rfl:=Option.some.inj hq
   exact ⟨H.kp.size,by rw [hsz];exact Nat.lt_succ_self _⟩
  ·have:=H.low k q hq
   exact ⟨this.1,by rw [hsz];omega⟩
 ·obtain ⟨q,o',h1,h2,h3⟩:=H.obj j c hj
  exact ⟨q,o',le _ _ h1,by rw [heap_alloc_old w o (H.low j q h1).2];exact h2,h3.mono le⟩
 ·have e1:=live i a hi
  have e2:=live j c hj
  unfold Sg.add at hq hr
  rw [if_neg e1] at hq
  rw [if_neg e2] at hr
  exact H.inj i j a c q r hi hj hq hr e
def on_ (L:Nat→Bool) (i:Nat):Nat→Bool:=fun j=>if j=i then true else L j
section
variable {w0:World} {cf:CF} {rc:RC} {rnd:Bool} {r:Option Nat} {N:Nat} {ops:List Oper} {x0:X} {out:T V × Hp × Hp × List Df}
theorem Iv.step {A B':List Ev} {e:Ev} {L:Nat→Bool} {σ:Sg} {a:Act} {w:World} (hr:rnd=r.isSome) (hcf:CFok w0 cf) (hrc:RCok w0 rc)
 (hl:Lnk cf rc rnd N x0.fr x0.h x0.h x0.ds (A++e::B') out) (hp:Pairs N (A++e::B'))
 (hfree:∀ (i:Nat) (c:Ev),(A++e::B')[i]?=some c→∀ (j:Nat) (p:Ev),j < i→(A++e::B')[j]?=some p→c.g.m.testBit j=true∨Free c.g p.g)
 (hgd:e.g.g=guardOf ops e.g.o) (hkd:e.g.k=kindOp e.g.o.op)
 (hLi:L A.length=false) (hm:∀ j,e.g.m.testBit j=true→L j=true) (hcl:Cl (A++e::B') L) (iv:Iv w0 N x0 (A++e::B') L σ a w)
 (n:Nat) (K:Act→World→Prop) (Q:Exit→Act→World→Prop) (hK:∀ σ' a' w',σ.le σ'→Iv w0 N x0 (A++e::B') (on_ L A.length) σ' a' w'→K a' w'):
 if Region.wanted e.g.o (yielded ops.toArray a.tmps) then e.g.o.wpIn (FW r) n PG a w K Q else (∀ f,e.g.o.about PG w a.eval=some f→(FW r).fn f)∧K (a.put e.g.o.dst undef) w:=by
 obtain ⟨m,hA,hB⟩:=hl.split
 obtain ⟨e1,e2,e3,e4,own,fr',hput,hB⟩:=hB
 have hei:(A++e::B')[A.length]?=some e:=by simp
 have atA:∀ j c,A[j]?=some c→(A++e::B')[j]?=some c∧j < A.length:=fun j c h=>by
  have:=(List.getElem?_eq_some_iff.1 h).1
  exact ⟨by rw [List.getElem?_append_left this];exact h,this⟩
 have atB:∀ j c,B'[j]?=some c→(A++e::B')[A.length + 1 + j]?=some c:=fun j c h=>by
  rw [List.getElem?_append_right (by omega),show A.length + 1 + j - A.length=j + 1 by omega];simpa using h
 -- pairs with e
 have two1:∀ j c,A[j]?=some c→Two N j c e:=fun j c h=>hp _ _ hei j c (atA j c h).2 (atA j c h).1
 have two2:∀ j c,B'[j]?=some c→Two N A.length e c:=fun j c h=>hp _ _ (atB j c h) A.length e (by omega) hei
 have noB:∀ j c,B'[j]?=some c→c.g.m.testBit A.length=true→L (A.length + 1 + j)=false:=fun j c h ht=>by
  cases hh:L (A.length + 1 + j) with
  | false=>rfl
  | true=>have:=hcl _ _ (atB j c h) hh _ ht;rw [hLi] at this;cases this
 -- folds split
 have sff:∀ M,ff M 0 (fget N x0.fr) (A++e::B')=ff M (A.length + 1) (if M A.length then (fun t=>if e.g.o.dst=some t then some e.v else ff M 0 (fget N x0.fr) A t) else ff M 0 (fget N x0.fr) A) B':=fun M=>by rw [ff_app,Nat.zero_add];rfl
 have sgf:∀ M,gf M 0 x0.h.get (A++e::B')=gf M (A.length + 1) (if M A.length then (if e.tch then e.h'.get else if e.g.k=2∧e.b=true then (fun k=>if k=e.h.n then some e.blk else gf M 0 x0.h.get A k) else gf M 0 x0.h.get A) else gf M 0 x0.h.get A) B':=fun M=>by rw [gf_app,Nat.zero_add];rfl
 have shf:∀ M,htf M 0 x0.h (A++e::B')=htf M (A.length + 1) (if M A.length then (if e.tch then e.h' else htf M 0 x0.h A) else htf M 0 x0.h A) B':=fun M=>by rw [htf_app,Nat.zero_add];rfl
 have sdf:∀ M,df M 0 x0.ds (A++e::B')=df M (A.length + 1) (if M A.length then (if e.tch then e.ds' else df M 0 x0.ds A) else df M 0 x0.ds A) B':=fun M=>by rw [df_app,Nat.zero_add];rfl
 have cA:=f_congr (L:=on_ L A.length) (L':=L) (l:=A) (i:=0) (fun j hj=>by simp [on_];omega)
 have cB:=f_congr (L:=on_ L A.length) (L':=L) (l:=B') (i:=A.length + 1) (fun j hj=>by simp [on_];omega)
 have hon:on_ L A.length A.length=true:=by simp [on_]
 -- the frame
 have lookT:∀ t,t∈e.g.looks→∀ v,fget N e.fr t=some v→∃ x,den σ v=some x∧a.tmps[t]?=some x:=fun t ht v hv=>by
  refine iv.fr t v ?_
  rw [sff L,hLi]
  simp only [Bool.false_eq_true,if_false]
  rw [ff_at (fun j c hj hd=>?_)]
  ·refine canon_fr (L:=L) (i:=0) hA (fun v hv=>hv) (fun j c hj hd=>?_) v (by rw [e1] at hv;exact hv)
   rw [Nat.zero_add]
   rcases hfree _ _ hei j c (atA j c hj).2 (atA j c hj).1 with h | h
   ·exact hm j h
   ·exact absurd ht (by have:=h.1;rw [hd] at this;exact hasN_false this)
  ·rcases hfree _ _ (atB j c hj) A.length e (by omega) hei with h | h
   ·exact noB j c hj h
   ·exact absurd ht (by have:=h.2.1;rw [hd] at this;exact hasN_false this)
 have hev:EvO σ N e.fr a.eval e.g.o.op.operands:=fun x hx v hv=>by
  cases x with
  | tmp t=>
   obtain ⟨y,h1,h2⟩:=lookT t (by unfold Dg.looks;exact List.mem_append_right _ (mem_tmpsO (by simpa using hx))) v hv
   simp [Act.eval,Array.getD_eq_getD_getElem?,h2,h1]
  | const c=>exact ofV_den hv
  | global g=>cases hv
  | func f=>
   obtain rfl:=Option.some.inj (show some (V.f f [] [])=some v from hv)
   simp [den,Act.eval]
 have hwant:Region.wanted e.g.o (yielded ops.toArray a.tmps)=e.b:=wants_ok (N:=N) (fr:=e.fr) (σ:=σ) (by rw [← hgd];exact own.wn) (fun k j hk=>lookT k (by unfold Dg.looks;rw [hgd,hk];simp))
 -- the frame behind
 have frB:∀ {σ':Sg} {a':Act} {x:Value},σ.le σ'→den σ' e.v=some x→a'.tmps=(a.put e.g.o.dst x).tmps→a'.tmps.size=N∧∀ t v,ff (on_ L A.length) 0 (fget N x0.fr) (A++e::B') t=some v→∃ y,den σ' v=some y∧a'.tmps[t]?=some y:=by
  intro σ' a' x le hx ha
  have hsz:a'.tmps.size=N:=by rw [ha];cases e.g.o.dst <;> simp [Act.put,iv.size]
  refine ⟨hsz,fun t v hv=>?_⟩
  rw [sff,hon,if_pos rfl,cA.1,cB.1] at hv
  by_cases hd:e.g.o.dst=some t
  ·rw [ff_at (fun j c hj hdc=>?_)] at hv
   ·rw [if_pos hd] at hv
    obtain rfl:=Option.some.inj hv
    have ht:t < N:=by
     rcases putD_ok hput with ⟨h1,_⟩ | ⟨k,h1,h2,_⟩
     ·rw [hd] at h1;cases h1
     ·rw [hd] at h1;obtain rfl:=Option.some.inj h1;exact h2
    exact ⟨x,hx,by rw [ha,hd];simp [Act.put,iv.size,ht]⟩
   ·rcases hfree _ _ (atB j c hj) A.length e (by omega) hei with h | h
    ·exact noB j c hj h
    ·have:=h.2.2
     rw [hdc,hd] at this
     exact absurd (by simp) (hasN_false this)
  ·rw [ff_point (g':=ff L 0 (fget N x0.fr) A) (by simp [hd])] at hv
   obtain ⟨y,h1,h2⟩:=iv.fr t v (by rw [sff L,hLi];simpa using hv)
   refine ⟨y,den_mono le _ _ h1,?_⟩
   rw [ha]
   cases hdd:e.g.o.dst with
   | none=>exact h2
   | some d=>
    have hne:d≠t:=fun hh=>hd (by rw [hdd,hh])
    show (a.tmps.setIfInBounds d x)[t]?=some y
    rw [Array.getElem?_setIfInBounds_ne hne];exact h2
 have hdsame:∀ dst (x:Value),(a.put dst x).defers=a.defers:=fun dst x=>put_defers a dst x
 -- when the operation leaves the memory as it was
 have quiet:∀ {x:Value},e.tch=false→(e.g.k=2→e.b=false)→den σ e.v=some x→Iv w0 N x0 (A++e::B') (on_ L A.length) σ (a.put e.g.o.dst x) w:=by
  intro x ht hk2 hx
  have hn2:¬ (e.g.k=2∧e.b=true):=fun h=>by have:=hk2 h.1;rw [h.2] at this;cases this
  have eh:htf (on_ L A.length) 0 x0.h (A++e::B')=htf L 0 x0.h (A++e::B'):=by rw [shf,shf L,hon,hLi,cA.2.2.1,cB.2.2.1,ht];simp
  have eg:gf (on_ L A.length) 0 x0.h.get (A++e::B')=gf L 0 x0.h.get (A++e::B'):=by rw [sgf,sgf L,hon,hLi,cA.2.1,cB.2.1,ht];simp [hn2]
  have ed:df (on_ L A.length) 0 x0.ds (A++e::B')=df L 0 x0.ds (A++e::B'):=by rw [sdf,sdf L,hon,hLi,cA.2.2.2,cB.2.2.2,ht];simp
  obtain ⟨f1,f2⟩:=frB (a':=a.put e.g.o.dst x) (Sg.le.refl σ) hx rfl
  refine ⟨f1,f2,by rw [ed,hdsame];exact iv.ds,by rw [eh];exact iv.ht,by rw [eg];exact iv.g,fun k hk=>?_⟩
  rw [eh]
  rcases iv.dom k hk with h | ⟨j,c,h1,h2,h3,h4,h5,h6⟩
  ·exact .inl h
  ·refine .inr ⟨j,c,h1,by unfold on_;split <;> simp [h2],h3,h4,h5,fun j' c' hj hc hct=>?_⟩
   have:=h6 j' c' hj hc hct
   unfold on_
   by_cases hji:j'=A.length
   ·subst hji;rw [hei] at hc;obtain rfl:=Option.some.inj hc;rw [ht] at hct;cases hct
   ·rw [if_neg hji];exact this
 -- a statement that touches
 have touchA:e.tch=true→(∀ j c,A[j]?=some c→(c.tch=true∨c.g.k=2)→L (0 + j)=true)∧(∀ j c,B'[j]?=some c→(c.tch=true∨c.g.k=2)→L (A.length + 1 + j)=false):=fun ht=>
  ⟨fun j c hj hc=>by rw [Nat.zero_add];exact hm j (hc.elim (fun h=>(two1 j c hj).tt h ht) (fun h=>(two1 j c hj).at_ h ht)),fun j c hj hc=>noB j c hj (hc.elim (fun h=>(two2 j c hj).tt ht h) (fun h=>(two2 j c hj).ta ht h))⟩
 rw [hwant]
 cases hb:e.b with
 | false=>
  rw [if_neg (by simp)]
  refine ⟨fun f _=>fw_fn r f,?_⟩
  obtain ⟨hv,hh',hds'⟩:=own.no hb
  cases ht:e.tch with
  | false=>exact hK σ _ w (Sg.le.refl σ) (quiet ht (fun _=>hb) (by rw [hv];exact den_undef))
  | true=>
   obtain ⟨tA,tB⟩:=touchA ht
   obtain ⟨c1,c2⟩:=canon_ht (L:=L) (i:=0) hA (fun j c hj hc=>tA j c hj (.inl hc))
   have hT:htf L 0 x0.h (A++e::B')=m.2.2.1:=by rw [shf L,hLi];simp only [Bool.false_eq_true,if_false];rw [htf_none (fun j c hj hc=>tB j c hj (.inl hc)),c1]
   have hD:df L 0 x0.ds (A++e::B')=m.2.2.2:=by rw [sdf L,hLi];simp only [Bool.false_eq_true,if_false];rw [df_none (fun j c hj hc=>tB j c hj (.inl hc)),c2]
   have hG:gf L 0 x0.h.get (A++e::B')=gf L 0 x0.h.get A:=by rw [sgf L,hLi];simp only [Bool.false_eq_true,if_false];rw [gf_none tB]
   have hge:DenG w0 σ e.h'.get w:=iv.g.sub (fun k b hkb=>by rw [hG];exact canon_g (L:=L) (i:=0) hA (fun _ _ h=>h) tA k b (by rw [hh',e2] at hkb;exact hkb))
   have hT':htf (on_ L A.length) 0 x0.h (A++e::B')=e.h':=by rw [shf,hon,cB.2.2.1];simp only [if_true,ht];exact htf_none (fun j c hj hc=>tB j c hj (.inl hc))
   have hD':df (on_ L A.length) 0 x0.ds (A++e::B')=e.ds':=by rw [sdf,hon,cB.2.2.2];simp only [if_true,ht];exact df_none (fun j c hj hc=>tB j c hj (.inl hc))
   have hG':gf (on_ L A.length) 0 x0.h.get (A++e::B')=e.h'.get:=by rw [sgf,hon,cB.2.1];simp only [if_true,ht];exact gf_none tB
   obtain ⟨f1,f2⟩:=frB (σ':=σ) (x:=undef) (a':=a.put e.g.o.dst undef) (Sg.le.refl σ) (by rw [hv];exact den_undef) rfl
   refine hK σ _ w (Sg.le.refl σ) ⟨f1,f2,by rw [hD',hdsame,hds',e4,← hD];exact iv.ds,by rw [hT'];exact hge,by rw [hG'];exact hge,fun k hk=>.inl ?_⟩
   rw [hT',hh',e2]
   have hle:=ht_n hA (Nat.le_refl _)
   rcases iv.dom k hk with h | ⟨j,c,h1,h2,h3,h4,h5,h6⟩
   ·rw [hT] at h;omega
   ·have hjA:j < A.length:=by
     rcases Nat.lt_trichotomy j A.length with h | h | h
     ·exact h
     ·subst h;rw [hLi] at h2;cases h2
     ·exfalso
      obtain ⟨j',rfl⟩:∃ j',j=A.length + 1 + j':=⟨j - A.length - 1,by omega⟩
      have hc:B'[j']?=some c:=by rw [List.getElem?_append_right (by omega),show A.length + 1 + j' - A.length=j' + 1 by omega] at h1;simpa using h1
      have:=tB j' c hc (.inr h3);rw [h2] at this;cases this
    have hc:A[j]?=some c:=by rw [List.getElem?_append_left hjA] at h1;exact h1
    have:=laid_n hA hc h3 h4 (fun j' e' hj' he'=>by
     cases hh:e'.tch with
     | false=>rfl
     | true=>have g1:=h6 j' e' hj' (atA j' e' he').1 hh;have g2:=tA j' e' he' (.inl hh);rw [Nat.zero_add] at g2;rw [g1] at g2;cases g2)
    omega
 | true=>
  rw [if_pos rfl]
  cases ht:e.tch with
  | true=>
   obtain ⟨tA,tB⟩:=touchA ht
   obtain ⟨c1,c2⟩:=canon_ht (L:=L) (i:=0) hA (fun j c hj hc=>tA j c hj (.inl hc))
   have hT:htf L 0 x0.h (A++e::B')=m.2.2.1:=by rw [shf L,hLi];simp only [Bool.false_eq_true,if_false];rw [htf_none (fun j c hj hc=>tB j c hj (.inl hc)),c1]
   have hD:df L 0 x0.ds (A++e::B')=m.2.2.2:=by rw [sdf L,hLi];simp only [Bool.false_eq_true,if_false];rw [df_none (fun j c hj hc=>tB j c hj (.inl hc)),c2]
   have hG:gf L 0 x0.h.get (A++e::B')=gf L 0 x0.h.get A:=by rw [sgf L,hLi];simp only [Bool.false_eq_true,if_false];rw [gf_none tB]
   have hge:DenG w0 σ e.h.get w:=iv.g.sub (fun k b hkb=>by rw [hG];exact canon_g (L:=L) (i:=0) hA (fun _ _ h=>h) tA k b (by rw [e2] at hkb;exact hkb))
   have hle:=ht_n hA (Nat.le_refl _)
   have hup:∀ k,e.h.n≤k→σ k=none:=fun k hk=>by
    cases hs:σ k with
    | none=>rfl
    | some p=>
     exfalso
     rw [e2] at hk
     rcases iv.dom k (by rw [hs];simp) with h | ⟨j,c,h1,h2,h3,h4,h5,h6⟩
     ·rw [hT] at h;omega
     ·have hjA:j < A.length:=by
       rcases Nat.lt_trichotomy j A.length with h | h | h
       ·exact h
       ·subst h;rw [hLi] at h2;cases h2
       ·exfalso
        obtain ⟨j',rfl⟩:∃ j',j=A.length + 1 + j':=⟨j - A.length - 1,by omega⟩
        have hc:B'[j']?=some c:=by rw [List.getElem?_append_right (by omega),show A.length + 1 + j' - A.length=j' + 1 by omega] at h1;simpa using h1
        have:=tB j' c hc (.inr h3);rw [h2] at this;cases this
      have hc:A[j]?=some c:=by rw [List.getElem?_append_left hjA] at h1;exact h1
      have:=laid_n hA hc h3 h4 (fun j' e' hj' he'=>by
       cases hh:e'.tch with
       | false=>rfl
       | true=>have g1:=h6 j' e' hj' (atA j' e' he').1 hh;have g2:=tA j' e' he' (.inl hh);rw [Nat.zero_add] at g2;rw [g1] at g2;cases g2)
      omega
   have hT':htf (on_ L A.length) 0 x0.h (A++e::B')=e.h':=by rw [shf,hon,cB.2.2.1];simp only [if_true,ht];exact htf_none (fun j c hj hc=>tB j c hj (.inl hc))
   have hD':df (on_ L A.length) 0 x0.ds (A++e::B')=e.ds':=by rw [sdf,hon,cB.2.2.2];simp only [if_true,ht];exact df_none (fun j c hj hc=>tB j c hj (.inl hc))
   have hG':gf (on_ L A.length) 0 x0.h.get (A++e::B')=e.h'.get:=by rw [sgf,hon,cB.2.1];simp only [if_true,ht];exact gf_none tB
   obtain ⟨q,q1,q2,q3,q4⟩:=own.c3 (by simpa [Ev.tch,Nat.ble_eq] using ht) hb
   have hop:=opS_ok hr hcf hrc (kindOp_le _) q1 n σ a w K Q e.g.o.dst e.g.o.type e.g.o.pos e.g.o.after e.g.o.guard hev (by rw [e4,← hD];exact iv.ds) ⟨hge,hup⟩
   refine hop (fun σ' x w' dd le hx hdd H'=>?_)
   rw [q2] at hx;rw [q3] at H';rw [q4] at hdd
   obtain ⟨f1,f2⟩:=frB (a':=({ a with defers:=dd }:Act).put e.g.o.dst x) le hx (by cases e.g.o.dst <;> rfl)
   refine hK σ' _ w' le ⟨f1,f2,by rw [hD',put_defers];exact hdd,by rw [hT'];exact H'.g,by rw [hG'];exact H'.g,fun k hk=>.inl ?_⟩
   rw [hT']
   rcases Nat.lt_or_ge k e.h'.n with h | h
   ·exact h
   ·exact absurd (H'.up k h) hk
  | false=>
   have hk2:e.g.k≤2:=by
    rcases Nat.lt_or_ge e.g.k 3 with h1 | h1
    ·omega
    ·exfalso
     have:e.tch=true:=by simpa [Ev.tch,Nat.ble_eq] using h1
     rw [this] at ht;cases ht
   have hdef:∀ c,e.g.o.op≠.defer c:=fun c hc=>by rw [hkd,hc] at hk2;simp [kindOp] at hk2
   rcases (show e.g.k≤1∨e.g.k=2 by omega) with h1 | h2
   ·-- plain,or it reads
    obtain ⟨_,_,q0,q1,q2⟩:=own.c1 h1 hb
    have readable:∃ hx q,opL N e.fr hx e.g.o.op=.ok q∧q.v=e.v∧(kindOp e.g.o.op=1→DenG w0 σ hx.get w):=by
     rcases (show e.g.k=0∨e.g.k=1 by omega) with hk0 | hk1
     ·exact ⟨_,_,q1,q2,fun h=>by rw [← hkd,hk0] at h;cases h⟩
     ·refine ⟨htf L 0 x0.h (A++e::B'),?_⟩
      have hsp:htf L 0 x0.h (A++e::B')=htf L (A.length + 1) (htf L 0 x0.h A) B':=by rw [shf L,hLi];simp
      rcases htf_last (L:=L) (l:=B') (i:=A.length + 1) (g:=htf L 0 x0.h A) with ⟨g1,g2⟩ | ⟨j,c,g1,g2,g3,g4⟩
      ·rcases htf_next (L:=L) (i:=0) hA (fun j j' a c hjj ha hc ta tc hL'=>by
        rw [Nat.zero_add] at hL' ⊢
        exact hcl _ _ (atA j' c hc).1 hL' j ((hp _ _ (atA j' c hc).1 j a hjj (atA j a ha).1).tt ta tc)) with f1 | ⟨j,c,f1,f2,f3,f4⟩
       ·rw [hsp,g1,f1,← e3];exact ⟨_,q1,q2,fun _=>by rw [e3,← f1,← g1,← hsp];exact iv.ht⟩
       ·rw [Nat.zero_add] at f3
        obtain ⟨q',r1,r2⟩:=(two1 j c f1).tr f2 hk1 hb (by
         cases hh:e.g.m.testBit j with
         | false=>rfl
         | true=>have:=hm j hh;rw [f3] at this;cases this)
        rw [f4,← g1,← hsp] at r1
        exact ⟨_,r1,r2,fun _=>iv.ht⟩
      ·obtain ⟨q',r1,r2⟩:=(two2 j c g1).rt hk1 hb g2 (by
        cases hh:c.g.m.testBit A.length with
        | false=>rfl
        | true=>have:=noB j c g1 hh;rw [g3] at this;cases this)
       rw [← g4,← hsp] at r1
       exact ⟨_,r1,r2,fun _=>iv.ht⟩
    obtain ⟨hx,q,r1,r2,r3⟩:=readable
    obtain ⟨x,h5,h6⟩:=pure_ok (w0:=w0) (w:=w) (dst:=e.g.o.dst) (ty:=e.g.o.type) (pos:=e.g.o.pos) (af:=e.g.o.after) (g:=e.g.o.guard) (by rw [← hkd];omega) r1 hev (fun c=>rfl) r3
    rw [r2] at h6
    exact wpIn_yl hdef (.val h5) (hK σ _ w (Sg.le.refl σ) (quiet ht (fun h=>by omega) h6))
   ·-- it lays a block
    obtain ⟨b1,b2,b3⟩:=own.c2 h2 hb
    have aA:∀ j c,A[j]?=some c→c.tch=true→L (0 + j)=true:=fun j c hj hc=>by rw [Nat.zero_add];exact hm j ((two1 j c hj).ta hc h2)
    have aB:∀ j c,B'[j]?=some c→c.tch=true→L (A.length + 1 + j)=false:=fun j c hj hc=>noB j c hj ((two2 j c hj).at_ h2 hc)
    obtain ⟨c1,c2⟩:=canon_ht (L:=L) (i:=0) hA aA
    have hT:htf L 0 x0.h (A++e::B')=m.2.2.1:=by rw [shf L,hLi];simp only [Bool.false_eq_true,if_false];rw [htf_none aB,c1]
    have hle:=ht_n hA (Nat.le_refl _)
    -- names of other blocks
    have nB:∀ j c,B'[j]?=some c→L (A.length + 1 + j)=true→c.tch=false∧(c.g.k=2→c.b=true→c.h.n≠e.h.n):=fun j c hj hLj=>by
     have htc:c.tch=false:=by
      cases hh:c.tch with
      | false=>rfl
      | true=>have:=aB j c hj hh;rw [hLj] at this;cases this
     refine ⟨htc,fun hk hcb heq=>?_⟩
     have hsp:B'=B'.take j++c::B'.drop (j + 1):=by
      obtain ⟨hlt,hg⟩:=List.getElem?_eq_some_iff.1 hj
      rw [← hg,List.getElem_cons_drop hlt,List.take_append_drop]
     rw [hsp] at hB
     obtain ⟨m2,h3,h4⟩:=hB.split
     obtain ⟨_,g2,_⟩:=h4
     have hseg:=seg_n h3 (fun j' c' hc'=>by
      have hlt:j' < j:=by have:=(List.getElem?_eq_some_iff.1 hc').1;simp at this;omega
      have hc'':B'[j']?=some c':=by rw [List.getElem?_take] at hc';rw [if_pos hlt] at hc';exact hc'
      cases hh:c'.tch with
      | false=>rfl
      | true=>
       have:=(hp _ _ (atB j c hj) (A.length + 1 + j') c' (by omega) (atB j' c' hc'')).ta hh hk
       have:=hcl _ _ (atB j c hj) hLj _ this
       rw [aB j' c' hc'' hh] at this;cases this)
     rw [← g2,b1] at hseg
     simp at hseg
     omega
    have hnone:σ e.h.n=none:=by
     cases hs:σ e.h.n with
     | none=>rfl
     | some p=>
      exfalso
      rcases iv.dom e.h.n (by rw [hs];simp) with h | ⟨j,c,h1',h2',h3,h4,h5,h6⟩
      ·rw [hT,e2] at h;omega
      ·rcases Nat.lt_trichotomy j A.length with h | h | h
       ·have hc:A[j]?=some c:=by rw [List.getElem?_append_left h] at h1';exact h1'
        have:=laid_n hA hc h3 h4 (fun j' e' hj' he'=>by
         cases hh:e'.tch with
         | false=>rfl
         | true=>have g1:=h6 j' e' hj' (atA j' e' he').1 hh;have g2:=aA j' e' he' hh;rw [Nat.zero_add] at g2;rw [g1] at g2;cases g2)
        rw [h5,e2] at this;omega
       ·subst h;rw [hLi] at h2';cases h2'
       ·obtain ⟨j',rfl⟩:∃ j',j=A.length + 1 + j':=⟨j - A.length - 1,by omega⟩
        have hc:B'[j']?=some c:=by rw [List.getElem?_append_right (by omega),show A.length + 1 + j' - A.length=j' + 1 by omega] at h1';simpa using h1'
        exact (nB j' c hc h2').2 h3 h4 h5
    obtain ⟨cap,x,o,h5,h6,h7⟩:=b3 (by rw [← hkd];exact h2) (w:=w) (dst:=e.g.o.dst) (ty:=e.g.o.type) (pos:=e.g.o.pos) (af:=e.g.o.after) (g:=e.g.o.guard) hev hnone
    have le:=Sg.le_add (q:=(w.heap.size,cap)) hnone
    have eh:htf (on_ L A.length) 0 x0.h (A++e::B')=htf L 0 x0.h (A++e::B'):=by rw [shf,shf L,hon,hLi,cA.2.2.1,cB.2.2.1,ht];simp
    have ed:df (on_ L A.length) 0 x0.ds (A++e::B')=df L 0 x0.ds (A++e::B'):=by rw [sdf,sdf L,hon,hLi,cA.2.2.2,cB.2.2.2,ht];simp
    have eg:gf (on_ L A.length) 0 x0.h.get (A++e::B')=gf L (A.length + 1) (fun k=>if k=e.h.n then some e.blk else gf L 0 x0.h.get A k) B':=by rw [sgf,hon,cA.2.1,cB.2.1,ht];simp [h2,hb]
    have egL:gf L 0 x0.h.get (A++e::B')=gf L (A.length + 1) (gf L 0 x0.h.get A) B':=by rw [sgf L,hLi];simp
    obtain ⟨f1,f2⟩:=frB (a':=a.put e.g.o.dst x) le h6 rfl
    refine wpIn_yl hdef (.val h5) (hK _ _ _ le ⟨f1,f2,by rw [ed,hdsame];exact iv.ds.mono le,by rw [eh];exact iv.ht.keep hnone,?_,fun k hk=>?_⟩)
    ·refine iv.g.new hnone h7 (fun k c hk=>?_)
     rw [eg] at hk
     rw [egL]
     exact gf_upd nB k c hk
    ·rw [eh]
     by_cases hkn:k=e.h.n
     ·refine .inr ⟨A.length,e,hei,hon,h2,hb,hkn.symm,fun j' c' hj hc hct=>?_⟩
      obtain ⟨j2,rfl⟩:∃ j2,j'=A.length + 1 + j2:=⟨j' - A.length - 1,by omega⟩
      have hc':B'[j2]?=some c':=by rw [List.getElem?_append_right (by omega),show A.length + 1 + j2 - A.length=j2 + 1 by omega] at hc;simpa using hc
      have:=aB j2 c' hc' hct
      unfold on_;rw [if_neg (by omega)];exact this
     ·have hk':σ k≠none:=by unfold Sg.add at hk;rw [if_neg hkn] at hk;exact hk
      rcases iv.dom k hk' with h | ⟨j,c,h1',h2',h3,h4,h5',h6'⟩
      ·exact .inl h
      ·refine .inr ⟨j,c,h1',by unfold on_;split <;> simp [h2'],h3,h4,h5',fun j' c' hj hc hct=>?_⟩
       have:=h6' j' c' hj hc hct
       unfold on_
       by_cases hji:j'=A.length
       ·subst hji;rw [hei] at hc;obtain rfl:=Option.some.inj hc;rw [ht] at hct;cases hct
       ·rw [if_neg hji];exact this
end
end Go.Proofs.YtbcdgcodnkgdoaaGreat.Run
namespace Go.Proofs.YtbcdgcodnkgdoaaGreat.Run
open Go Go.RowKit
def cnt (listed:Array Bool):Nat→Nat
 | 0=>0
 | k + 1=>cnt listed k + (if listed.getD k false then 0 else 1)
theorem getD_set {listed:Array Bool} {i j:Nat} (hi:i < listed.size):(listed.setIfInBounds i true).getD j false=if j=i then true else listed.getD j false:=by
 simp only [Array.getD_eq_getD_getElem?,Array.getElem?_setIfInBounds]
 by_cases h:i=j
 ·subst h;simp [hi]
 ·simp [h,Ne.symm h]
theorem cnt_set {listed:Array Bool} {i:Nat} (hi:i < listed.size) (hf:listed.getD i false=false):∀ k,(i < k→cnt (listed.setIfInBounds i true) k + 1=cnt listed k)∧(k≤i→cnt (listed.setIfInBounds i true) k=cnt listed k):=by
 intro k
 induction k with
 | zero=>exact ⟨fun h=>by omega,fun _=>rfl⟩
 | succ k ih=>
  simp only [cnt,getD_set hi]
  refine ⟨fun h=>?_,fun h=>?_⟩
  ·by_cases hk:k=i
   ·subst hk;rw [ih.2 (Nat.le_refl _),hf];simp
   ·rw [if_neg hk];have:=ih.1 (by omega);omega
  ·rw [if_neg (show ¬ k=i by omega),ih.2 (by omega)]
theorem cnt_zero {listed:Array Bool}:∀ {k:Nat},cnt listed k=0→∀ i,i < k→listed.getD i false=true:=by
 intro k
 induction k with
 | zero=>intro _ i hi;omega
 | succ k ih=>
  intro h i hi
  simp only [cnt] at h
  by_cases hk:i=k
  ·subst hk
   cases hh:listed.getD i false with
   | true=>rfl
   | false=>rw [hh] at h;simp at h
  ·exact ih (by omega) i (by omega)
theorem ready_iff {ops:List Oper} {listed:Array Bool} {i:Nat} (h:i∈Region.ready .any ops.toArray listed):i < ops.length∧listed.getD i true=false∧∃ o,ops[i]?=some o∧∀ e∈o.after.toList,Region.binds .any e=true→listed.getD e.on false=true:=by
 unfold Region.ready at h
 rw [List.mem_filter] at h
 obtain ⟨h1,h2⟩:=h
 simp only [List.mem_range,List.size_toArray] at h1
 simp only [Bool.and_eq_true,Bool.not_eq_true',List.getElem?_toArray] at h2
 obtain ⟨h3,h4⟩:=h2
 cases ho:ops[i]? with
 | none=>rw [ho] at h4;simp at h4
 | some o=>
  rw [ho] at h4
  simp only [Option.map_some,Option.getD_some,Array.all_eq_true_iff_forall_mem,Bool.or_eq_true,Bool.not_eq_true'] at h4
  refine ⟨h1,h3,o,rfl,fun e he hb=>?_⟩
  rcases h4 e (by simpa using he) with h | h
  ·rw [hb] at h;cases h
  ·exact h
theorem ready_of {ops:List Oper} {listed:Array Bool} {i:Nat} {o:Oper} (h1:i < ops.length) (h2:listed.getD i true=false) (ho:ops[i]?=some o) (h:∀ e∈o.after.toList,Region.binds .any e=true→listed.getD e.on false=true):i∈Region.ready .any ops.toArray listed:=by
 unfold Region.ready
 rw [List.mem_filter]
 refine ⟨by simpa using h1,?_⟩
 simp only [Bool.and_eq_true,Bool.not_eq_true',List.getElem?_toArray,ho,Option.map_some,Option.getD_some,Array.all_eq_true_iff_forall_mem,Bool.or_eq_true]
 refine ⟨h2,fun e he=>?_⟩
 cases hb:Region.binds .any e with
 | false=>exact .inl rfl
 | true=>exact .inr (h e (by simpa using he) hb)
theorem getD_lt {listed:Array Bool} {i:Nat} (h:i < listed.size) (b:Bool):listed.getD i b=listed.getD i false:=by simp [Array.getD_eq_getD_getElem?,h]
section
variable {w0:World} {cf:CF} {rc:RC} {rnd:Bool} {r:Option Nat} {N:Nat}
theorem exA_ok (hr:rnd=r.isSome) (hcf:CFok w0 cf) (hrc:RCok w0 rc) {ops:List Oper} {x:X} {s:An} (ht:tmpsOk (dig ops ops []) 0 []=true) (e:exA cf rc rnd N (dig ops ops []) ⟨0,0,0,x.h,[],[],x⟩=.ok s)
 (n:Nat) (σ:Sg) (a:Act) (w:World) (Q:Exit→Act→World→Prop) (hf:FrR σ N x.fr a.tmps) (hd:DsR σ x.ds a.defers) (H:Den w0 σ x.h w)
 (k:∀ σ' a' w',σ.le σ'→FrR σ' N s.x.fr a'.tmps→DsR σ' s.x.ds a'.defers→Den w0 σ' s.x.h w'→Q .normal a' w'):wpAnyIn (FW r) n PG .any ops.toArray Q ops.length (Array.replicate ops.length false) a w:=by
 have hdk:∀ g∈dig ops ops [],g.k=kindOp g.o.op:=fun g hg=>by
  obtain ⟨i,hi⟩:=List.getElem?_of_mem hg
  exact (dig_at hi).2.2.1
 obtain ⟨tr,htr,hp,hl⟩:=trace_ok (cf:=cf) (rc:=rc) (rnd:=rnd) (N:=N) (ops:=ops) (fr0:=x.fr) (h0:=x.h) (ht0:=x.h) (ds0:=x.ds) (pre:=[]) hdk e
  ⟨rfl,fun j e h=>(by simp at h),fun j e h=>(by simp at h),fun j e h=>(by simp at h),fun j e h=>(by simp at h)⟩ (fun i c h=>(by simp at h)) rfl
 simp only [List.nil_append] at hp hl
 have hdl:∀ (l:List Oper) (acc:List Nat),(dig ops l acc).length=l.length:=by
  intro l
  induction l with
  | nil=>intro acc;rfl
  | cons o l ih=>intro acc;simp [dig,ih]
 have hlen:tr.length=ops.length:=by rw [← hdl ops [],← htr,List.length_map]
 have hat:∀ (i:Nat) (c:Ev),tr[i]?=some c→(dig ops ops [])[i]?=some c.g:=fun i c h=>by rw [← htr,List.getElem?_map,h];rfl
 have hfree:∀ (i:Nat) (c:Ev),tr[i]?=some c→∀ (j:Nat) (p:Ev),j < i→tr[j]?=some p→c.g.m.testBit j=true∨Free c.g p.g:=fun i c hc j p hj hpj=>by
  have:=(tmpsOk_at ht (fun q hq=>(by simp at hq)) i c.g (hat i c hc)).2.2 j p.g hj (hat j p hpj)
  simpa using this
 have hback:∀ (i:Nat) (c:Ev),tr[i]?=some c→∀ e∈c.g.o.after.toList,Region.binds .any e=true→e.on < i:=fun i c hc=>by
  have:=(tmpsOk_at ht (fun q hq=>(by simp at hq)) i c.g (hat i c hc)).1
  rw [Nat.zero_add] at this
  exact fun e he hb=>backOk_at this e he hb
 have main:∀ (fuel:Nat) (listed:Array Bool) (σ1:Sg) (a:Act) (w:World),listed.size=ops.length→Cl tr (fun j=>listed.getD j false)→Iv w0 N x tr (fun j=>listed.getD j false) σ1 a w→cnt listed ops.length≤fuel→σ.le σ1→
  wpAnyIn (FW r) n PG .any ops.toArray Q fuel listed a w:=by
  have fin:∀ (listed:Array Bool) (σ1:Sg) (a:Act) (w:World),listed.size=ops.length→Iv w0 N x tr (fun j=>listed.getD j false) σ1 a w→(∀ i,i < ops.length→listed.getD i false=true)→σ.le σ1→Q .normal a w:=by
   intro listed σ1 a w hsz iv hall le
   have hL:∀ (j:Nat) (c:Ev),tr[j]?=some c→listed.getD (0 + j) false=true:=fun j c hc=>by
    rw [Nat.zero_add];exact hall j (by have:=(List.getElem?_eq_some_iff.1 hc).1;omega)
   obtain ⟨c1,c2⟩:=canon_ht (L:=fun j=>listed.getD j false) (i:=0) hl (fun j c hc _=>hL j c hc)
   refine k σ1 a w le ⟨iv.size,fun t v hv=>iv.fr t v (canon_fr (L:=fun j=>listed.getD j false) (i:=0) hl (fun v hv=>hv) (fun j c hc _=>hL j c hc) v hv)⟩ (by have:=iv.ds;rwa [c2] at this) ⟨iv.g.sub (fun k b hk=>canon_g (L:=fun j=>listed.getD j false) (i:=0) hl (fun _ _ h=>h) (fun j c hc _=>hL j c hc) k b hk),fun k hk=>?_⟩
   cases hs:σ1 k with
   | none=>rfl
   | some p=>
    exfalso
    have hle:=ht_n hl (Nat.le_refl _)
    rcases iv.dom k (by rw [hs];simp) with h | ⟨j,c,h1,h2,h3,h4,h5,h6⟩
    ·rw [c1] at h;simp only at h hle;omega
    ·have:=laid_n hl h1 h3 h4 (fun j' e' hj' he'=>by
      cases hh:e'.tch with
      | false=>rfl
      | true=>have g1:listed.getD j' false=false:=h6 j' e' hj' he' hh;have g2:=hL j' e' he';rw [Nat.zero_add,g1] at g2;cases g2)
     simp only at this
     omega
  have allReady:∀ (listed:Array Bool),listed.size=ops.length→Region.ready .any ops.toArray listed=[]→∀ i,i < ops.length→listed.getD i false=true:=by
   intro listed hsz hre i
   induction i using Nat.strongRecOn with
   | _ i ih=>
    intro hi
    cases hh:listed.getD i false with
    | true=>rfl
    | false=>
     exfalso
     obtain ⟨c,hc⟩:∃ c,tr[i]?=some c:=⟨tr[i]'(by omega),List.getElem?_eq_getElem _⟩
     have ho:=(dig_at (hat i c hc)).1
     have:i∈Region.ready .any ops.toArray listed:=ready_of hi (by rw [getD_lt (by omega)];exact hh) ho (fun e he hb=>ih e.on (hback i c hc e he hb) (by have:=hback i c hc e he hb;omega))
     rw [hre] at this
     simp at this
  intro fuel
  induction fuel with
  | zero=>
   intro listed σ1 a w hsz hcl iv hcnt le
   have hall:=cnt_zero (by omega:cnt listed ops.length=0)
   refine ⟨?_,fin listed σ1 a w hsz iv hall le⟩
   cases hre:Region.ready .any ops.toArray listed with
   | nil=>rfl
   | cons i l=>
    exfalso
    obtain ⟨h1,h2,_⟩:=ready_iff (listed:=listed) (ops:=ops) (i:=i) (by rw [hre];simp)
    rw [getD_lt (by omega),hall i h1] at h2;cases h2
  | succ fuel ih=>
   intro listed σ1 a w hsz hcl iv hcnt le
   refine ⟨fun hre=>fin listed σ1 a w hsz iv (allReady listed hsz hre) le,fun i hi=>?_⟩
   obtain ⟨h1,h2,o,ho,h3⟩:=ready_iff hi
   rw [getD_lt (by omega)] at h2
   obtain ⟨c,hc⟩:∃ c,tr[i]?=some c:=⟨tr[i]'(by omega),List.getElem?_eq_getElem _⟩
   obtain ⟨d1,d2,d3,acc',d4,d5,d6,d7⟩:=dig_at (hat i c hc)
   rw [ho] at d1
   obtain rfl:=Option.some.inj d1
   have hm:∀ j,c.g.m.testBit j=true→listed.getD j false=true:=fun j hj=>by
    rw [d4] at hj
    obtain ⟨ed,he,hb,h | h⟩:=mask_bit hj
    ·rw [← h];exact h3 ed he hb
    ·have hlt:=hback i c hc ed he hb
     obtain ⟨c',hc'⟩:∃ c',tr[ed.on]?=some c':=⟨tr[ed.on]'(by omega),List.getElem?_eq_getElem _⟩
     have:=d7 ed.on c'.g hlt (hat _ _ hc')
     simp only [List.length_nil,Nat.zero_add] at this
     rw [List.getD_eq_getElem?_getD,this] at h
     exact hcl _ _ hc' (h3 ed he hb) j h
   have hil:i < listed.size:=by omega
   obtain ⟨hit,hig⟩:=List.getElem?_eq_some_iff.1 hc
   have hsp:tr=tr.take i++c::tr.drop (i + 1):=by rw [← hig,List.getElem_cons_drop hit,List.take_append_drop]
   have hil2:(tr.take i).length=i:=by simp;omega
   have hon:(fun j=>(listed.setIfInBounds i true).getD j false)=on_ (fun j=>listed.getD j false) i:=by
    funext j;rw [getD_set hil];rfl
   have step:=Iv.step (w0:=w0) (cf:=cf) (rc:=rc) (rnd:=rnd) (r:=r) (N:=N) (ops:=ops) (x0:=x) (A:=tr.take i) (B':=tr.drop (i + 1)) (e:=c) (L:=fun j=>listed.getD j false) (σ:=σ1) (a:=a) (w:=w) hr hcf hrc (by rw [← hsp];exact hl) (by rw [← hsp];exact hp) (by rw [← hsp];exact hfree) d2 d3 (by rw [hil2];exact h2) hm (by rw [← hsp];exact hcl) (by rw [← hsp];exact iv) n
    (wpAnyIn (FW r) n PG .any ops.toArray Q fuel (listed.setIfInBounds i true)) Q (fun σ' a' w' le' iv'=>by
     rw [hil2,← hsp,← hon] at iv'
     refine ih _ σ' a' w' (by simp [hsz]) (fun i' c' hc' hL' j hj=>?_) iv' ?_ (le.trans le')
     ·simp only at hL' ⊢
      rw [getD_set hil] at hL' ⊢
      split
      ·rfl
      ·split at hL'
       ·rename_i hii;subst hii;rw [hc] at hc';obtain rfl:=Option.some.inj hc';exact hm j hj
       ·exact hcl _ _ hc' hL' j hj
     ·have:=(cnt_set hil h2 ops.length).1 h1;omega)
   unfold wpOpIn
   simp only [List.getElem?_toArray,ho]
   exact step
 refine main ops.length _ σ a w (by simp) (fun i c _ hL=>?_) ?_ ?_ (Sg.le.refl σ)
 ·simp [Array.getD_eq_getD_getElem?,Array.getElem?_replicate] at hL
  split at hL <;> simp at hL
 ·have hL0:∀ j,(fun j=>(Array.replicate ops.length false).getD j false) j=false:=fun j=>by
   simp [Array.getD_eq_getD_getElem?,Array.getElem?_replicate];split <;> rfl
  have h0:htf (fun j=>(Array.replicate ops.length false).getD j false) 0 x.h tr=x.h:=htf_none (fun j c _ _=>hL0 _)
  refine ⟨hf.size,fun t v hv=>?_,by rw [df_none (fun j c _ _=>hL0 _)];exact hd,by rw [h0];exact H.g,by rw [gf_none (fun j c _ _=>hL0 _)];exact H.g,fun k hk=>.inl ?_⟩
  ·rw [ff_at (fun j c _ _=>hL0 _)] at hv;exact hf.at_ t v hv
  ·rw [h0]
   rcases Nat.lt_or_ge k x.h.n with h | h
   ·exact h
   ·exact absurd (H.up k h) hk
 ·have:∀ (l:Array Bool) k,cnt l k≤k:=by
   intro l k
   induction k with
   | zero=>exact Nat.le_refl _
   | succ k ih=>simp only [cnt];split <;> omega
  exact this _ _
end
end Go.Proofs.YtbcdgcodnkgdoaaGreat.Run
namespace Go.Proofs.YtbcdgcodnkgdoaaGreat.Run
open Go Go.RowKit
theorem DenG.gone {w0 w w':World} {σ:Sg} {g g':Nat→Option B} {k:Nat} {b:B} {q:Nat × Nat} {o:Obj} (H:DenG w0 σ g w) (hk:g k=some b) (hq:σ k=some q) (ht:Turns w w' q.1 o)
 (hg:∀ j c,g' j=some c→j≠k∧g j=some c):DenG w0 σ g' w':=by
 have hlow:=H.low k q hq
 refine ⟨⟨ht.os.trans H.kp.os,ht.tape.trans H.kp.tape,ht.output.trans H.kp.output,by rw [ht.size];exact H.kp.size,fun i hi hn=>by rw [ht.block i (by omega)];exact H.kp.block i hi hn⟩,fun j r hr=>by rw [ht.size];exact H.low j r hr,fun j c hj=>?_,fun i j a c r s hi hj hr hs e=>?_⟩
 ·obtain ⟨hne,hj⟩:=hg j c hj
  obtain ⟨r,o',h1,h2,h3⟩:=H.obj j c hj
  refine ⟨r,o',h1,?_,h3⟩
  rw [ht.block r.1 (fun e=>hne (H.inj j k c b r q hj hk h1 hq e))]
  exact h2
 ·exact H.inj i j a c r s (hg i a hi).2 (hg j c hj).2 hr hs e
theorem Den.gone {w0 w w':World} {σ:Sg} {h:Hp} {k:Nat} {b:B} {q:Nat × Nat} {o:Obj} (H:Den w0 σ h w) (hk:h.get k=some b) (hq:σ k=some q) (ht:Turns w w' q.1 o):Den w0 σ (h.del k) w':=
 ⟨H.g.gone hk hq ht (fun _ _=>Hp.get_del),H.up⟩
theorem mixed:PG.follows .mixedOrders=true:=by kernel_rfl
theorem drew_eq (w:World):{ w with drawn:=w.drawn + 1 }=w.drew:=rfl
section
variable {w0:World} {cf:CF}
theorem reg_ok {rc:RC} {rnd:Bool} {r:Option Nat} {N:Nat} (hr:rnd=r.isSome) (hcf:CFok w0 cf) (hrc:RCok w0 rc) {id:Nat} {ops:Array Oper} {dr:Bool} {x:X} {q:Xt × X} (e:cReg cf rc rnd N (dig ops.toList ops.toList []) dr x=.ok q):CodeOk w0 r N (.region id ops dr) x q:=by
 intro n σ a w Q hf hd H k
 cases dr with
 | false=>
  obtain ⟨x',e1,e2⟩:=bind_ok (show (exO cf rc rnd N (dig ops.toList ops.toList []) x).bind _=.ok q from e)
  obtain rfl:=R.ok.inj e2
  exact wpIn_region_list (exO_ok hr hcf hrc e1 n σ a w Q hf hd H k)
 | true=>
  obtain ⟨e0,e3⟩:=when_ok (show R.when 164 _ _=.ok q from e)
  obtain ⟨s,e1,e2⟩:=bind_ok e3
  obtain rfl:=R.ok.inj e2
  refine wpIn_region_any mixed ?_
  rw [drew_eq]
  have:=exA_ok hr hcf hrc e0 e1 n σ a w.drew Q hf hd H.drew k
  simpa using this
theorem range_ok {rnd:Bool} {r:Option Nat} {N:Nat} (hr:rnd=r.isSome) (hcf:CFok w0 cf) {fn:FuncId} {f:Operand} {ps:Array Tmp} {asg body:Code} {x:X} {q:Xt × X} (e:cRange cf rnd N fn (xe N x.fr f) ps asg body x=.ok q):CodeOk w0 r N (.rangeFunc f ps asg body) x q:=by
 intro n σ a w Q hf hd H k
 unfold cRange at e
 split at e
 ·rename_i g pre caps hfv
  cases r with
  | some l=>cases hr
  | none=>
  obtain ⟨p,e1,e2⟩:=bind_ok e
  unfold cRange2 at e2
  split at e2
  ·rename_i fr' N' ps' asg' body' fn' d' hg
   obtain rfl:=R.ok.inj e2
   obtain ⟨h1,h2⟩:=hcf _ _ _ _ e1
   have hev:=hf.ev #[f] f (by simp) _ hfv
   obtain ⟨pa,ca,h3,h4,h5⟩:=den_f hev
   refine wpIn_rangeFunc fun fnm hfn=>?_
   -- the two blocks
   obtain ⟨le1,H1⟩:=H.new (b:=.dfr) (o:=.deferred (some [])) (cap:=0) rfl
   have hs1:σ.add x.h.n (w.heap.size,0) x.h.n=some (w.heap.size,0):=Sg.add_self _ _ _
   obtain ⟨le2,H2⟩:=H1.new (b:=.loop true x.fr N ps.toList asg body fn x.h.n) (cap:=0) (o:=.loop { state:=.ready,pending:=none,fn:=fnm,tmps:=a.tmps,params:=ps,assign:=asg,body:=body,defers:=w.heap.size })
    ⟨a.tmps,(w.heap.size,0),fnm,hf.mono (le1.trans (Sg.le_add (H1.up _ (Nat.le_refl _)))),(Sg.le_add (H1.up _ (Nat.le_refl _))) _ _ hs1,by simp⟩
   have hsz:(w.alloc (.deferred (some []))).heap.size=w.heap.size + 1:=heap_alloc_size _ _
   rw [hsz] at le2 H2
   have hn1:(x.h.new .dfr).n=x.h.n + 1:=rfl
   rw [hn1] at le2 H2
   generalize hσ2:(σ.add x.h.n (w.heap.size,0)).add (x.h.n + 1) (w.heap.size + 1,0)=σ2 at le2 H2
   have hy:σ2 (x.h.n + 1)=some (w.heap.size + 1,0):=by rw [← hσ2];exact Sg.add_self _ _ _
   have hm:σ2 x.h.n=some (w.heap.size,0):=le2 _ _ hs1
   have hden:denL σ2 (pre++[.y (Nat.succ x.h.n)]++caps)=some (pa++[Value.func (.yield (w.heap.size + 1)) #[] #[]]++ca):=by
    refine denL_append (denL_append (denL_mono (le1.trans le2) _ _ h3) ?_) (denL_mono (le1.trans le2) _ _ h4)
    refine denL_cons.2 ⟨_,[],?_,denL_nil,rfl⟩
    rw [den,hy]
   have hent:=run_enterLoop_outer (P:=PG) (w:=w) fnm a.tmps ps asg body
   generalize ((w.alloc (.deferred (some []))).alloc (.loop { state:=.ready,pending:=none,fn:=fnm,tmps:=a.tmps,params:=ps,assign:=asg,body:=body,defers:=w.heap.size }))=W at H2 hent
   refine ⟨w.heap.size + 1,[{ target:=.collected w.heap.size,args:=#[] }],W,{ target:=.fn (.func g) ca.toArray,args:=pa.toArray++#[Value.func (.yield (w.heap.size + 1)) #[] #[]] },W,g,(pa++[Value.func (.yield (w.heap.size + 1)) #[] #[]]++ca).toArray,W,hent,?_,fun f' _=>fw_fn none f',?_,fun hh=>(by cases hh),?_⟩
   ·simp only [resolve,h5,Deferred.ofValue,Sem.run_pure]
    simp [Act.eval,Result.andThen]
   ·rw [← h1 (pa++[Value.func (.yield (w.heap.size + 1)) #[] #[]]++ca).toArray W]
    simp [invoke]
   ·refine h2 (n - 1) σ2 _ _ _ hden H2 (fun σ3 v w3 le3 hv H3=>?_)
    obtain ⟨q',o',g1,g2,tmps',dq',fn'',g3,g4,rfl⟩:=H3.g.obj _ _ hg
    have hy3:=le3 _ _ hy
    have hm3:=le3 _ _ hm
    obtain rfl:(w.heap.size + 1,0)=q':=Option.some.inj (hy3.symm.trans g1)
    refine ⟨none,_,run_endLoop g2 (by simp),?_⟩
    have hlow:=(H3.g.low _ _ hy3).2
    refine k σ3 { a with defers:=_ } _ ((le1.trans le2).trans le3) (hf.mono ((le1.trans le2).trans le3)) ?_ (H3.gone hg hy3 (turns_setObj hlow))
    exact ⟨⟨_,hm3,rfl⟩,hd.mono ((le1.trans le2).trans le3)⟩
  ·cases e2
 ·cases e
theorem exC_ok (hcf:CFok w0 cf):∀ (fuel:Nat) {rnd:Bool} {r:Option Nat} {N:Nat} {fn:FuncId} {c:Code} {x:X} {q:Xt × X},rnd=r.isSome→exC cf fuel rnd N fn c x=.ok q→CodeOk w0 r N c x q:=by
 intro fuel
 induction fuel using Nat.strongRecOn with
 | _ fuel ih=>
 cases fuel with
 | zero=>intro rnd r N fn c x q hr e;cases e
 | succ fuel=>
 intro rnd r N fn c x q hr e
 have IH:∀ {rnd:Bool} {r:Option Nat} {N:Nat} {fn:FuncId} {c:Code} {x:X} {q:Xt × X},rnd=r.isSome→exC cf fuel rnd N fn c x=.ok q→CodeOk w0 r N c x q:=ih fuel (Nat.lt_succ_self _)
 have hrc:RCok w0 (fun N c x=>exC cf fuel true N fn c x):=fun N c x q e l=>IH (r:=some l) rfl e
 have e0:exC1 cf (exC cf fuel) rnd N fn c x=.ok q:=e
 cases c with
 | skip=>
  obtain rfl:=R.ok.inj (show R.ok (Xt.nrm,x)=.ok q from e0)
  intro n σ a w Q hf hd H k
  exact wpIn_skip (k σ a w (Sg.le.refl σ) hf hd H)
 | region id ops dr=>exact reg_ok hr hcf hrc (tag_ok (show R.tag (10000 + id) _=.ok q from e0))
 | seq b c=>
  obtain ⟨p,e1,e2⟩:=bind_ok (show (exC cf fuel rnd N fn b x).bind (cSeq (exC cf fuel) rnd N fn c)=.ok q from e0)
  intro n σ a w Q hf hd H k
  refine wpIn_seq (IH hr e1 n σ a w _ hf hd H fun σ1 a1 w1 le1 hf1 hd1 H1=>?_)
  obtain ⟨t,y⟩:=p
  cases t with
  | nrm=>exact IH hr (show exC cf fuel rnd N fn c y=.ok q from e2) n σ1 a1 w1 Q hf1 hd1 H1 fun σ2 a2 w2 le2=>k σ2 a2 w2 (le1.trans le2)
  | ret=>
   obtain rfl:=R.ok.inj (show R.ok (Xt.ret,y)=.ok q from e2)
   exact k σ1 a1 w1 le1 hf1 hd1 H1
  | exi j=>
   obtain rfl:=R.ok.inj (show R.ok (Xt.exi j,y)=.ok q from e2)
   exact k σ1 a1 w1 le1 hf1 hd1 H1
 | cond v b c=>
  intro n σ a w Q hf hd H k
  have e1:cCond (exC cf fuel) rnd N fn (xe N x.fr v) b c x=.ok q:=e0
  unfold cCond at e1
  split at e1
  ·rename_i hv
   refine wpIn_cond_true ?_ (IH hr e1 n σ a w Q hf hd H k)
   exact den_b (hf.ev #[v] v (by simp) _ hv)
  ·rename_i hv
   refine wpIn_cond_false ?_ (IH hr e1 n σ a w Q hf hd H k)
   exact den_b (hf.ev #[v] v (by simp) _ hv)
  ·cases e1
 | block id c=>
  obtain ⟨p,e1,e2⟩:=bind_ok (show (exC cf fuel rnd N fn c x).bind (cBlock id)=.ok q from e0)
  intro n σ a w Q hf hd H k
  refine wpIn_block (IH hr e1 n σ a w _ hf hd H fun σ1 a1 w1 le1 hf1 hd1 H1=>?_)
  obtain ⟨t,y⟩:=p
  cases t with
  | nrm=>
   obtain rfl:=R.ok.inj (show R.ok (Xt.nrm,y)=.ok q from e2)
   exact k σ1 a1 w1 le1 hf1 hd1 H1
  | ret=>
   obtain rfl:=R.ok.inj (show R.ok (Xt.ret,y)=.ok q from e2)
   exact k σ1 a1 w1 le1 hf1 hd1 H1
  | exi j=>
   obtain rfl:=R.ok.inj (show R.ok (iteB (Nat.beq j id) Xt.nrm (.exi j),y)=.ok q from e2)
   show (if j=id then Q .normal a1 w1 else Q (.exit j) a1 w1)
   have kk:=k σ1 a1 w1 le1 hf1 hd1 H1
   cases hb:Nat.beq j id with
   | true=>
    rw [hb] at kk
    rw [if_pos (Nat.eq_of_beq_eq_true hb)]
    exact kk
   | false=>
    rw [hb] at kk
    rw [if_neg (fun h=>by subst h;rw [Nat.beq_refl] at hb;cases hb)]
    exact kk
 | loop c=>
  intro n σ a w Q hf hd H k
  refine wpIn_loop_ghost (fun m a w=>∃ σ' x',m≤fuel + 1∧σ.le σ'∧exC cf m rnd N fn (.loop c) x'=.ok q∧FrR σ' N x'.fr a.tmps∧DsR σ' x'.ds a.defers∧Den w0 σ' x'.h w) (fuel + 1) ⟨σ,x,Nat.le_refl _,Sg.le.refl σ,e,hf,hd,H⟩ ?_
  intro m a w hI
  obtain ⟨σ',x',hm,le,em,hf,hd,H⟩:=hI
  cases m with
  | zero=>cases em
  | succ m=>
  obtain ⟨p,e1,e2⟩:=bind_ok (show (exC cf m rnd N fn c x').bind (cSeq (exC cf m) rnd N fn (.loop c))=.ok q from em)
  refine ih m (by omega) hr e1 n σ' a w _ hf hd H fun σ1 a1 w1 le1 hf1 hd1 H1=>?_
  obtain ⟨t,y⟩:=p
  cases t with
  | nrm=>exact ⟨m,Nat.lt_succ_self _,σ1,y,by omega,le.trans le1,e2,hf1,hd1,H1⟩
  | ret=>
   obtain rfl:=R.ok.inj (show R.ok (Xt.ret,y)=.ok q from e2)
   exact k σ1 a1 w1 (le.trans le1) hf1 hd1 H1
  | exi j=>
   obtain rfl:=R.ok.inj (show R.ok (Xt.exi j,y)=.ok q from e2)
   exact k σ1 a1 w1 (le.trans le1) hf1 hd1 H1
 | rangeFunc f ps asg body=>exact range_ok hr hcf (show cRange cf rnd N fn (xe N x.fr f) ps asg body x=.ok q from e0)
 | exit id=>
  obtain rfl:=R.ok.inj (show R.ok (Xt.exi id,x)=.ok q from e0)
  intro n σ a w Q hf hd H k
  exact wpIn_exit (k σ a w (Sg.le.refl σ) hf hd H)
 | scope b=>cases e0
 | label l=>
  obtain rfl:=R.ok.inj (show R.ok (Xt.nrm,x)=.ok q from e0)
  intro n σ a w Q hf hd H k
  exact wpIn_label (k σ a w (Sg.le.refl σ) hf hd H)
 | goto l=>cases e0
 | ret=>
  obtain rfl:=R.ok.inj (show R.ok (Xt.ret,x)=.ok q from e0)
  intro n σ a w Q hf hd H k
  exact wpIn_ret (k σ a w (Sg.le.refl σ) hf hd H)
 | _=>cases e0
end
end Go.Proofs.YtbcdgcodnkgdoaaGreat.Run
namespace Go.Proofs.YtbcdgcodnkgdoaaGreat.Run
open Go Go.RowKit
theorem tat_e (k:Nat):(T.e:T V).at k=none:=rfl
theorem fget_e {N k:Nat} {v:V} (h:fget N .e k=some v):False:=by
 obtain ⟨_,h⟩:=iteB_none h
 rw [tat_e] at h;cases h
theorem setAt {tmps:Array Value} {i:Nat} {x:Value} (h:tmps[i]?=some x):tmps.setIfInBounds i x=tmps:=by
 apply Array.ext_getElem?
 intro j
 by_cases hj:i=j
 ·subst hj
  have:=(Array.getElem?_eq_some_iff.1 h).1
  rw [h];simp [this]
 ·rw [Array.getElem?_setIfInBounds_ne hj]
theorem args0_ok {σ:Sg} {N:Nat} {tmps:Array Value}:∀ {vs:List V} {xs:List Value} {i:Nat} {t:T V},denL σ vs=some xs→i + vs.length≤N→FrR σ N t tmps→(∀ j x,xs[j]?=some x→tmps[i + j]?=some x)→FrR σ N (args0 N i vs t) tmps:=by
 intro vs
 induction vs with
 | nil=>intro xs i t _ _ H _;exact H
 | cons v r ih=>
  intro xs i t hx hl H ha
  obtain ⟨x,b,h1,h2,rfl⟩:=denL_cons.1 hx
  simp only [List.length_cons] at hl
  have hi:=ha 0 x rfl
  have:=H.put (d:=i) (v:=v) (x:=x) (by omega) h1
  rw [Nat.add_zero] at hi
  rw [setAt hi] at this
  refine ih h2 (i:=Nat.succ i) (by omega) this fun j y hj=>?_
  have:=ha (j + 1) y (by simpa using hj)
  rw [show Nat.succ i + j=i + (j + 1) by omega]
  exact this
theorem enter_ok {σ:Sg} {N:Nat} {vs:List V} {xs:List Value} (hx:denL σ vs=some xs) (hl:vs.length≤N):FrR σ N (args0 N 0 vs .e) (xs.toArray++Array.replicate (N - xs.toArray.size) undef):=by
 have hlen:=denL_len hx
 refine args0_ok hx (by omega) ⟨by simp;omega,fun k v h=>(fget_e h).elim⟩ fun j x hj=>?_
 have:=(List.getElem?_eq_some_iff.1 hj).1
 rw [Nat.zero_add,Array.getElem?_append_left (by simpa using this)]
 simpa using hj
def res1 (tmps:Array Value):ResultVar→Sem Value
 | .tmp t=>pure (tmps.getD t undef)
 | .cell a t=>do loadVar t (← asAddr (tmps.getD a undef))
theorem resV_ok {w0 w:World} {σ:Sg} {h:Hp} {N:Nat} {fr:T V} {tmps:Array Value} (H:DenG w0 σ h.get w) (hf:FrR σ N fr tmps):∀ {rs:List ResultVar} {vs:List V},resV N fr h rs=.ok vs→
 ∃ xs,denL σ vs=some xs∧(rs.mapM (res1 tmps)).run PG w=.ok xs w:=by
 intro rs
 induction rs with
 | nil=>intro vs e;obtain rfl:=R.ok.inj (show R.ok []=.ok vs from e);exact ⟨[],denL_nil,by simp⟩
 | cons r rs ih=>
  intro vs e
  have getD:∀ k v,fget N fr k=some v→den σ v=some (tmps.getD k undef):=fun k v hv=>by
   obtain ⟨x,h1,h2⟩:=hf.at_ k v hv
   rw [Array.getD_eq_getD_getElem?,h2];exact h1
  cases r with
  | tmp t=>
   have e0:resV N fr h (.tmp t::rs)=(match fget N fr t with
    | some v=>(resV N fr h rs).bind fun l=>.ok (v::l)
    | none=>.er [178]):=rfl
   rw [e0] at e
   split at e
   ·rename_i v hv
    obtain ⟨l,e1,e2⟩:=bind_ok e
    obtain rfl:=R.ok.inj e2
    obtain ⟨xs,h1,h2⟩:=ih e1
    refine ⟨_::xs,denL_cons.2 ⟨_,_,getD _ _ hv,h1,rfl⟩,?_⟩
    simp [List.mapM_cons,res1,h2,Result.andThen]
   ·cases e
  | cell a t=>
   have e0:resV N fr h (.cell a t::rs)=(match fget N fr a with
    | some p=>(rd h t p).bind fun v=>(resV N fr h rs).bind fun l=>.ok (v::l)
    | none=>.er [179]):=rfl
   rw [e0] at e
   split at e
   ·rename_i p hp
    obtain ⟨v,e0,e⟩:=bind_ok e
    obtain ⟨l,e1,e2⟩:=bind_ok e
    obtain rfl:=R.ok.inj e2
    obtain ⟨xs,h1,h2⟩:=ih e1
    obtain ⟨A,y,g1,g2,g3⟩:=rd_ok H e0 (getD _ _ hp)
    refine ⟨y::xs,denL_cons.2 ⟨_,_,g2,h1,rfl⟩,?_⟩
    simp [List.mapM_cons,res1,h2,g1,asAddr,g3,Result.andThen]
   ·cases e
theorem tup_den {σ:Sg} {vs:List V} {xs:List Value} (h:denL σ vs=some xs):den σ (tupV vs)=some (if h:xs.toArray.size=1 then xs.toArray[0] else .tuple xs.toArray):=by
 cases vs with
 | nil=>
  obtain rfl:=Option.some.inj (denL_nil.symm.trans h)
  simp [tupV,den]
 | cons v r=>
  obtain ⟨x,b,h1,h2,rfl⟩:=denL_cons.1 h
  cases r with
  | nil=>
   obtain rfl:=Option.some.inj (denL_nil.symm.trans h2)
   simp [tupV,h1]
  | cons u r=>
   obtain ⟨y,c,h3,h4,rfl⟩:=denL_cons.1 h2
   show den σ (.t (v::u::r))=_
   rw [den,h];simp
theorem results_ok {w0 w:World} {σ:Sg} {h:Hp} {fr:T V} {fn:Func} {tmps:Array Value} {vs:List V} (H:DenG w0 σ h.get w) (hf:FrR σ fn.ntmps fr tmps) (e:resV fn.ntmps fr h fn.results.toList=.ok vs):
 ∃ x,den σ (tupV vs)=some x∧(results fn tmps).run PG w=.ok x w:=by
 obtain ⟨xs,h1,h2⟩:=resV_ok H hf e
 refine ⟨_,tup_den h1,?_⟩
 have:results fn tmps=(do let vs ← fn.results.mapM (res1 tmps);pure (if h:vs.size=1 then vs[0] else .tuple vs)):=by
  unfold results
  congr 1
 rw [this]
 have hm:(fn.results.mapM (res1 tmps)).run PG w=.ok xs.toArray w:=by
  rw [Array.mapM_eq_mapM_toList]
  show Sem.run PG ((List.mapM (res1 tmps) fn.results.toList) >>= fun x=>pure x.toArray) w=_
  rw [Sem.run_bind,h2]
  rfl
 rw [Sem.run_bind,hm]
 rfl
theorem callFunc_ok {g : FuncId} {fn : Func} {c : Code} (hf : PG.funcs[g]? = some fn) (hb : fn.body = some c) (hn : (fn.name == "runtime.NumGoroutine") = false) (args : Array Value) (w : World) : (callFunc g args).run PG w = .ok (.enter g args) w := by
 have hn' : ¬ fn.name = "runtime.NumGoroutine" := by simpa using hn
 simp [callFunc,hf,hb,hn']
section
variable {w0:World} {cf:CF}
theorem exD2_ok {q:Xt × X} {h':Hp} (e:exD2 q=.ok h'):(q.1=.nrm∨q.1=.ret)∧q.2.ds=[]∧q.2.h=h':=by
 unfold exD2 at e
 split at e
 ·rename_i h1 h2;exact ⟨.inl h1,h2,R.ok.inj e⟩
 ·rename_i h1 h2;exact ⟨.inr h1,h2,R.ok.inj e⟩
 ·cases e
theorem exD_ok (hcf:CFok w0 cf) {fuel:Nat} {g:FuncId} {args:List V} {h h':Hp} (e:exD cf fuel g args h=.ok h'):(∀ args w,(callFunc g args).run PG w=.ok (.enter g args) w) ∧
 ∀ (n:Nat) (σ:Sg) (w:World) (args':List Value) (R:Ending→FrameMode→World→Prop),denL σ args=some args'→Den w0 σ h w→(∀ σ' x w',σ.le σ'→Den w0 σ' h' w'→R (.returned x) .returning w')→CallsDIn (FW none) n PG g args'.toArray .returning w R:=by
 unfold exD at e
 cases hf:PG.funcs[g]? with
 | none=>rw [hf] at e;cases e
 | some fn=>
 rw [hf] at e
 obtain ⟨hn,e⟩:=when_ok e
 have hn : (fn.name == "runtime.NumGoroutine") = false := by simpa using hn
 unfold exD0 at e
 split at e
 ·rename_i id ops y hb hrs
  unfold exD1 at e
  split at e
  ·rename_i d0 as0 ats ty0 pos0 af0 d1 d2 ty1 pos1 af1 hops
   obtain ⟨hc,e⟩:=when_ok e
   simp only [Bool.and_eq_true] at hc
   obtain ⟨⟨⟨⟨c1,c2⟩,c3⟩,c4⟩,c5⟩:=hc
   obtain ⟨q,e1,e2⟩:=bind_ok e
   obtain ⟨hq,hds,rfl⟩:=exD2_ok e2
   obtain rfl:=Nat.eq_of_beq_eq_true c1
   have l0:=blt_lt c2
   have l1:=blt_lt c3
   have l4:=Nat.le_of_ble_eq_true c4
   have has:as0=#[]:=by
    cases hh:as0.toList with
    | nil=>exact Array.toList_eq_nil_iff.1 hh
    | cons x r=>rw [hh] at c5;cases c5
   subst has
   have hops':ops=[_,_].toArray:=(Array.toArray_toList (xs:=ops)).symm.trans (congrArg List.toArray hops)
   subst hops'
   refine ⟨callFunc_ok hf hb hn,fun n σ w args' R hx H k=>callsDIn_of_wpSIn hf hb (fw_fn none g) fun c₀ cs hc₀=>wpSIn_seq (wpSIn_region ?_)⟩
   have hfr:=enter_ok (N:=fn.ntmps) hx l4
   have hrec:recoverD (c₀::cs)=none:=by simp [recoverD,hc₀]
   have hsame:({ c₀ with mode:=.returning }:Frame)=c₀:=by cases c₀;simp_all
   have hput:=(hfr.put (d:=d0) (v:=.i0) (x:=.nilIface) l0 (by rw [den])).put (d:=d1) (v:=.i0) (x:=.nilIface) l1 (by rw [den])
   have hy:=exC_ok hcf fuel (r:=none) rfl e1
   have step:y.wpSIn (FW none) n PG (bodyPostS PG fn c₀ cs R) { tmps:=((args'.toArray++Array.replicate (fn.ntmps - args'.toArray.size) undef).setIfInBounds d0 .nilIface).setIfInBounds d1 .nilIface,defers:=[] } (c₀::cs) w:=by
    refine wpSIn_of_wpIn rfl (hy n σ _ w _ hput trivial H fun σ' a' w' le hf' hd' H'=>?_)
    rw [hds] at hd'
    have hdd:a'.defers=[]:=by
     cases hh:a'.defers with
     | nil=>rfl
     | cons d r=>rw [hh] at hd';exact hd'.elim
    have hr0:(results fn a'.tmps).run PG w'=.ok (.tuple #[]) w':=results_none (Array.toList_eq_nil_iff.1 hrs) _ _ _
    rcases hq with hq | hq
    ·rw [hq];exact ⟨hdd,.returning,by rw [hsame],_,hr0,k σ' _ w' le H'⟩
    ·rw [hq];exact ⟨hdd,.returning,by rw [hsame],_,hr0,k σ' _ w' le H'⟩
   have hlt:d0 < (args'.toArray++Array.replicate (fn.ntmps - args'.toArray.size) undef).size:=by rw [hfr.size];exact l0
   have hget:((args'.toArray++Array.replicate (fn.ntmps - args'.toArray.size) undef).setIfInBounds d0 Value.nilIface).getD d0 undef=.nilIface:=by
    rw [Array.getD_eq_getD_getElem?,Array.getElem?_setIfInBounds]
    rw [if_pos rfl,if_pos hlt];rfl
   generalize (args'.toArray++Array.replicate (fn.ntmps - args'.toArray.size) undef)=tm at step hget
   show wpOpsSIn (FW none) n PG _ _ [0,1] _ _ _
   simp only [wpOpsSIn,List.getElem?_toArray,List.getElem?_cons_zero,List.getElem?_cons_succ]
   refine ⟨fun f _=>fw_fn none f,?_⟩
   rw [if_pos (by simp [Region.wanted])]
   have hr1:(execOp ({ tmps:=tm,defers:=[] }:Act).eval ⟨some d0,.call ⟨.builtin .recover,#[],ats⟩,ty0,pos0,af0,none⟩).run PG w=.ok .recover w:=by
    simp [execOp,resolve,invoke,Deferred.ofValue,Result.andThen,builtin]
   rw [hr1]
   simp only [hrec]
   refine ⟨fun f _=>fw_fn none f,?_⟩
   rw [if_pos (by simp [Region.wanted])]
   have hr2:(execOp (({ tmps:=tm,defers:=[] }:Act).put (some d0) .nilIface).eval ⟨some d1,.assign (.tmp d0),ty1,pos1,af1,none⟩).run PG w=.ok (.value .nilIface) w:=by
    simp [execOp,Act.eval,Act.put,hget]
   rw [hr2]
   exact step
  ·cases e
 ·cases e
theorem leave_ok (hcf:CFok w0 cf) {fuel:Nat} {fn:Func} {tmps:Array Value}:∀ {ds:List Df} {dd:List Deferred} {h h':Hp},leave cf fuel ds h=.ok h'→∀ (n:Nat) (σ:Sg) (w:World) (R:Ending→World→Prop),DsR σ ds dd→Den w0 σ h w→
 (∀ σ' w',σ.le σ'→Den w0 σ' h' w'→∃ v,(results fn tmps).run PG w'=.ok v w'∧R (.returned v) w')→LeavesInM (FW none) n PG fn tmps R dd .returning w:=by
 intro ds
 induction ds with
 | nil=>
  intro dd h h' e n σ w R hd H k
  obtain rfl:=Run.R.ok.inj (show Run.R.ok h=.ok h' from e)
  cases dd with
  | nil=>exact k σ w (Sg.le.refl σ) H
  | cons d q=>exact hd.elim
 | cons d r ih=>
  intro dd h h' e n σ w R hd H k
  cases dd with
  | nil=>cases d <;> exact hd.elim
  | cons y q=>
  cases d with
  | fn g caps args=>
   obtain ⟨⟨c,a,h1,h2,rfl⟩,hd⟩:=hd
   obtain ⟨h1',e1,e2⟩:=bind_ok (show (exD cf fuel g (args++caps) h).bind (fun h'=>leave cf fuel r h')=.ok h' from e)
   obtain ⟨g1,g2⟩:=exD_ok hcf e1
   refine ⟨by simp,.inr ⟨fun hh=>(by cases hh),.func g,c.toArray,g,(a++c).toArray,rfl,?_,fun f _=>fw_fn none f,?_⟩⟩
   ·rw [← g1 (a++c).toArray w]
    simp [invoke]
   ·exact g2 (n - 1) σ w _ _ (denL_append h2 h1) H fun σ' x w' le H'=>ih e2 n σ' w' R (hd.mono le) H' fun σ2 w2 le2=>k σ2 w2 (le.trans le2)
  | mark m=>
   obtain ⟨⟨p,h1,rfl⟩,hd⟩:=hd
   have e0:leave cf fuel (.mark m::r) h=(match h.get m with
    | some .dfr=>leave cf fuel r (h.del m)
    | _=>.er [185]):=rfl
   rw [e0] at e
   split at e
   ·rename_i hg
    obtain ⟨p',o,g1,g2,g3⟩:=H.g.obj _ _ hg
    obtain rfl:=Option.some.inj (h1.symm.trans g1)
    obtain rfl:o=.deferred (some []):=g3
    exact ⟨by simp,.inl ⟨_,_,rfl,run_takeDeferred g2,ih e n σ _ R hd (H.gone hg h1 (turns_setObj (H.g.low _ _ h1).2)) k⟩⟩
   ·cases e
theorem exF_ok (hcf:CFok w0 cf) {fuel:Nat} {g:FuncId} {fn:Func} {c:Code} {args:List V} {h:Hp} {q:A} (hf:PG.funcs[g]?=some fn) (hb:fn.body=some c) (e:exF cf fuel g fn.name fn.ntmps fn.results.toList c args h=.ok q):
 (∀ args w,(callFunc g args).run PG w=.ok (.enter g args) w) ∧
 ∀ (n:Nat) (σ:Sg) (w:World) (args':List Value) (R:Ending→World→Prop),denL σ args=some args'→Den w0 σ h w→(∀ σ' x w',σ.le σ'→den σ' q.v=some x→Den w0 σ' q.h w'→R (.returned x) w')→CallsIn Fence.wide n PG g args'.toArray w R:=by
 obtain ⟨hc,e⟩:=when_ok e
 simp only [Bool.and_eq_true] at hc
 obtain ⟨p,e1,e⟩:=bind_ok e
 obtain ⟨h',e2,e⟩:=bind_ok e
 obtain ⟨vs,e3,e4⟩:=bind_ok e
 obtain rfl:=R.ok.inj e4
 refine ⟨callFunc_ok hf hb (by simpa using hc.1),fun n σ w args' R hx H k=>?_⟩
 have hfr:=enter_ok (N:=fn.ntmps) hx (Nat.le_of_ble_eq_true hc.2)
 refine callsIn_of_wp_marks (F:=FW none) hf hb (fw_fn none g) (exC_ok hcf fuel (r:=none) rfl e1 n σ _ w _ hfr trivial H fun σ' a' w' le hf' hd' H'=>?_)
 have key:∀ {R':Ending→World→Prop},leave cf fuel p.2.ds p.2.h=.ok h'→LeavesInM (FW none) n PG fn a'.tmps R a'.defers .returning w':=fun {R'} e2=>
  leave_ok hcf e2 n σ' w' R hd' H' fun σ2 w2 le2 H2=>by
   obtain ⟨x,h1,h2⟩:=results_ok H2.g (hf'.mono le2) e3
   exact ⟨x,h2,k σ2 x w2 (le.trans le2) h1 H2⟩
 unfold leave1 at e2
 cases hp:p.1 with
 | nrm=>rw [hp] at e2;exact key (R':=R) e2
 | ret=>rw [hp] at e2;exact key (R':=R) e2
 | exi j=>rw [hp] at e2;cases e2
end
theorem exN_ok (w0:World) (fuel:Nat):∀ d,CFok w0 (exN fuel d):=by
 intro d
 induction d with
 | zero=>intro g args h q e;cases e
 | succ d ih=>
  intro g args h q e
  have e:=tag_ok (show R.tag (100000 + g) (exF1 (exN fuel d) fuel g PG.funcs[g]? args h)=.ok q from e)
  unfold exF1 at e
  cases hf:PG.funcs[g]? with
  | none=>rw [hf] at e;cases e
  | some fn=>
  rw [hf] at e
  simp only at e
  split at e
  ·rename_i c hb;exact exF_ok ih hf hb e
  ·cases e
theorem den_start (w:World):Den w (fun _=>none) ⟨.e,0⟩ w:=by
 refine ⟨⟨Keeps.refl No w,fun k q h=>(by cases h),fun k b h=>?_,fun j k a b q r h=>?_⟩,fun _ _=>rfl⟩
 ·obtain ⟨_,h⟩:=iteB_none (show iteB (Nat.blt k 4096) ((T.e:T B).at k) none=some b from h)
  cases h
 ·obtain ⟨_,h⟩:=iteB_none (show iteB (Nat.blt j 4096) ((T.e:T B).at j) none=some a from h)
  cases h
theorem exN_ret {fuel d:Nat} {g:FuncId} {q:A} {x:Value} (e:exN fuel d g [] ⟨.e,0⟩=.ok q) (hx:∀ σ y,den σ q.v=some y→y=x) (w:World):CallsIn Fence.wide 0 PG g #[] w (fun e w'=>e=.returned x∧Keeps No w w'):=
 (exN_ok w fuel d g [] _ q e).2 0 (fun _=>none) w [] _ denL_nil (den_start w) fun σ' y w' _ hy H=>⟨by rw [hx σ' y hy],H.g.kp⟩
noncomputable def R.isTrue (r:R A):Bool:=match r with
 | .ok ⟨.b x,_⟩=>x
 | _=>false
theorem isTrue_ok {r:R A} (h:r.isTrue=true):∃ q,r=.ok q∧q.v=.b true:=by
 cases r with
 | er l=>cases h
 | ok q=>
  obtain ⟨v,h'⟩:=q
  cases v with
  | b x=>cases x with
   | true=>exact ⟨_,rfl,rfl⟩
   | false=>cases h
  | _=>cases h
end Go.Proofs.YtbcdgcodnkgdoaaGreat.Run
namespace Go.Proofs.YtbcdgcodnkgdoaaGreat
open Go Go.RowKit Run
theorem alive_run:(exN 3000 60 7 [] ⟨.e,0⟩).isTrue=true:=by kernel_rfl
theorem alive_ret (w:World):Ret Tryz.prog 7 [] w (.bool true):=by
 obtain ⟨q,h1,h2⟩:=isTrue_ok alive_run
 exact callsIn_wide.1 (exN_ret h1 (fun σ y hy=>by rw [h2,den] at hy;exact (Option.some.inj hy).symm) w)
end Go.Proofs.YtbcdgcodnkgdoaaGreat
namespace Go.Proofs.YtbcdgcodnkgdoaaGreat
open Go Go.RowKit
abbrev chE (k:Int) (i:Nat) (b:Nat):List Value:=[.int .i64 k,.int .i64 ((i:Int) + 1),.slice (some ⟨b,0,none⟩) 1 1]
theorem ch_inR {x:Int} (h0:-9223372036854775808≤x) (h1:x≤9223372036854775807):(Lit.int .i64 x).wf=true:=i64_of h0 h1
theorem ch_one {w:World} {F:Nat→Prop} {k:Int} {i b:Nat} (hk:k=1∨k=2) (hi:i≤4096) (h:(blk b [.int .i64 i] 3).p w F):(rdsHP Mem.none kRule [chE k i b] [(k,(i:Int) + 1,[(i:Int)])]).p w F:=by
 refine All2.one (R:=fun cs x=>Rd kRule (Mem.none.or (mem w F)) cs x) ?_
 refine rdP (c1:=[.int .i64 k]) (rdI _ _ (ch_inR (by omega) (by omega))) (rdP (c1:=[.int .i64 ((i:Int) + 1)]) (rdI _ _ (ch_inR (by omega) (by omega))) (rdOne (cs:=[.int .i64 i]) (fun j v hj=>Mem.le_right _ _ _ _ _ ?_) (rdI _ _ (ch_inR (by omega) (by omega))) rfl))
 refine ⟨⟨h.1,unfrozen_of_blk h.2 _⟩,?_⟩
 have:=CellsAt.of_blk h.2 j v hj
 simpa using this
theorem ch_lists {w:World} {F:Nat→Prop} {b n:Nat} (hn:n≤4096) (h:(ownHP 26 1 (slV b n) (List.replicate n [.slice none 0 0])).p w F):Rd kLists (mem w F) [slV b n] (List.replicate n []):=by
 refine rd_of_own (N:=mem w F) h rfl (Mem.le_refl _) ⟨by simp,fun i cs x hx hy=>?_⟩ (by rw [List.length_replicate];unfold reach;omega)
 have h1:=List.mem_of_getElem? hx
 have h2:=List.mem_of_getElem? hy
 rw [List.eq_of_mem_replicate h1,List.eq_of_mem_replicate h2]
 exact rdNil
attribute [local irreducible] RW CW
section
variable {P:Program} {E:Env} {Q:Pst} {G:List (Nat × Value)} {H:List HP}
end
theorem num_ret (e:Int) (w:World):Ret Tryz.prog 10 [.int .i64 e] w (.int .i64 e):=by
 refine Calls.enter Tryz.func10 rfl _ rfl rfl (S:=No) (H:=[]) trivial ?_
 refine Ja ?_;refine Jd ?_;refine Jb ?_;refine Ja ?_;refine Jc ?_;refine Jd ?_;refine Jb ?_
 exact CW.ret1 rfl Tryz.results10 rfl rfl fun w hw=>⟨rfl,hw.kp⟩
theorem law_TopChain (a k:Int) (fact:Bool) (w:World):Ret Tryz.prog 5 [.int .i64 a,.int .i64 k,.bool fact] w (.bool true):=by
 have hr1:=Int.tmod_lt_of_pos a (b:=400) (by omega)
 have hr2:=Int.lt_tmod_of_pos a (b:=400) (by omega)
 obtain ⟨r,hr⟩:∃ r,r=a.tmod 400:=⟨_,rfl⟩
 obtain ⟨n,hn⟩:∃ n:Nat,n=r.natAbs:=⟨_,rfl⟩
 obtain ⟨k2,hk2⟩:∃ k2:Int,k2=if k=1 then 1 else 2:=⟨_,rfl⟩
 have hkk:k2=1∨k2=2:=by rw [hk2];split <;> simp
 have hn2:n≤399:=by omega
 refine Calls.enter Tryz.func5 rfl _ rfl rfl (S:=No) (H:=[]) trivial ?_
 refine Ja ?_;refine Jd ?_;refine Jb ?_
 refine CW.seq ?_
 refine Ja ?_
 refine RW.call Tryz.call7 rfl (fun w2 _=>alive_ret w2) rfl ?_
 refine Js ?_;refine Jb ?_
 refine CW.cf rfl ?_
 refine JM ?_;refine Ja ?_;refine Jc ?_
 refine RW.rem rfl rfl (by omega) rfl ?_
 refine Jd ?_;refine Jb ?_
 refine CW.cut (ι:=Unit) (fun _=>[(0,.int .i64 n),(1,.int .i64 k),(2,.bool fact)]) (fun _=>[]) ?_ (fun _=>?_)
 ·rw [← hr]
  refine Ja ?_;refine Jc ?_;refine Jk ?_;refine Jb ?_
  refine CW.ite rfl (fun h=>?_) (fun h=>?_)
  ·refine CW.region ?_
   refine Jc ?_
   refine RW.neg (c:=n) rfl (by rw [w64 (by omega) (by omega)];omega) rfl ?_
   refine Jd ?_
   refine RW.nil ?_
   exact PW.meet () ⟨rfl,rfl,rfl,trivial⟩ (fun h=>h)
  ·have e:r=n:=by omega
   rw [e]
   refine CW.skip ?_
   exact PW.meet () ⟨rfl,rfl,rfl,trivial⟩ (fun h=>h)
 refine CW.cut (ι:=Unit) (fun _=>[(0,.int .i64 n),(1,.int .i64 k2),(2,.bool fact)]) (fun _=>[]) ?_ (fun _=>?_)
 ·refine Ja ?_;refine Jc ?_;refine Jj ?_;refine Jb ?_
  refine CW.ite rfl (fun h=>?_) (fun h=>?_)
  ·refine CW.region ?_
   refine Jd ?_
   refine RW.nil ?_
   rw [hk2,if_neg h]
   exact PW.meet () ⟨rfl,rfl,rfl,trivial⟩ (fun h=>h)
  ·have e:k=k2:=by rw [hk2];split <;> omega
   rw [← e]
   refine CW.skip ?_
   exact PW.meet () ⟨rfl,rfl,rfl,trivial⟩ (fun h=>h)
 refine CW.cut (ι:=Nat × Nat × Nat) (fun q=>[(0,.int .i64 n),(1,.int .i64 k2),(2,.bool fact),(7,ptrV q.1)]) (fun q=>[blk q.1 [.int .i64 ((n:Int) + 1),slV q.2.1 (n + 1),.slice none 0 0,slV q.2.2 n] 25,ownHP 26 1 (slV q.2.1 (n + 1)) (List.replicate (n + 1) [.slice none 0 0]),ownHP 26 1 (slV q.2.2 n) (List.replicate n [.slice none 0 0])]) ?_ (fun ⟨bT,bF,bB⟩=>?_)
 ·refine CW.of (by kernel_rfl) (WA.tree ?_)
  refine WT.move 0 rfl rfl (by kernel_rfl) (by kernel_rfl) (by kernel_rfl) rfl rfl rfl ?_
  refine WT.add 1 rfl rfl (by kernel_rfl) (by kernel_rfl) (by kernel_rfl) rfl rfl rfl rfl (c:=(n:Int) + 1) (w64 (by omega) (by omega)) ?_
  refine WT.move 2 rfl rfl (by kernel_rfl) (by kernel_rfl) (by kernel_rfl) rfl rfl rfl ?_
  refine WT.add 3 rfl rfl (by kernel_rfl) (by kernel_rfl) (by kernel_rfl) rfl rfl rfl rfl (c:=((n + 1:Nat):Int)) (w64 (by omega) (by omega)) ?_
  refine WT.move 5 rfl rfl (by kernel_rfl) (by kernel_rfl) (by kernel_rfl) rfl rfl rfl ?_
  refine WT.step rfl rfl rfl ⟨⟨_,rfl,?_⟩,⟨_,rfl,?_⟩,⟨_,rfl,?_⟩,trivial⟩
  ·refine RW.make (n:=n + 1) (zc:=[.slice none 0 0]) rfl rfl rfl rfl rfl (by unfold maxN;omega) (by omega) rfl fun bF=>?_
   refine RW.tree ?_
   refine WT.step rfl rfl rfl ⟨⟨_,rfl,?_⟩,⟨_,rfl,?_⟩,trivial⟩
   ·refine RW.make (n:=n) (zc:=[.slice none 0 0]) rfl rfl rfl rfl rfl (by unfold maxN;omega) (by omega) rfl fun bB=>?_
    refine RW.tree ?_
    refine WT.step rfl rfl rfl ⟨⟨_,rfl,?_⟩,⟨_,rfl,?_⟩,trivial⟩
    ·refine RW.build (v:=.agg #[.int .i64 ((n:Int) + 1),slV bF (n + 1),.slice none 0 0,slV bB n]) rfl (fun w=>by kernel_rfl) rfl ?_
     refine RW.tree ?_
     refine WT.step rfl rfl rfl ⟨⟨_,rfl,?_⟩,trivial⟩
     ·refine RW.alloc (c:=[.int .i64 0,.slice none 0 0,.slice none 0 0,.slice none 0 0]) rfl rfl fun bT _=>?_
      refine RW.tree ?_
      refine WT.step rfl rfl rfl ⟨⟨_,rfl,?_⟩,trivial⟩
      ·refine RW.store_whole [] (vs:=[.int .i64 ((n:Int) + 1),slV bF (n + 1),.slice none 0 0,slV bB n]) rfl rfl rfl rfl rfl (by simp [Value.oneCell']) ?_
       refine RW.tree ?_
       refine WT.done rfl rfl (RW.nil ?_)
       exact PW.meetT ⟨bT,bF,bB⟩ [0,2,1] ⟨rfl,rfl,rfl,rfl,trivial⟩ rfl
    ·refine RW.alloc (c:=[.int .i64 0,.slice none 0 0,.slice none 0 0,.slice none 0 0]) rfl rfl fun bT _=>?_
     refine RW.tree ?_
     refine WT.step rfl rfl rfl ⟨⟨_,rfl,?_⟩,trivial⟩
     ·refine RW.build (v:=.agg #[.int .i64 ((n:Int) + 1),slV bF (n + 1),.slice none 0 0,slV bB n]) rfl (fun w=>by kernel_rfl) rfl ?_
      refine RW.tree ?_
      refine WT.step rfl rfl rfl ⟨⟨_,rfl,?_⟩,trivial⟩
      ·refine RW.store_whole [] (vs:=[.int .i64 ((n:Int) + 1),slV bF (n + 1),.slice none 0 0,slV bB n]) rfl rfl rfl rfl rfl (by simp [Value.oneCell']) ?_
       refine RW.tree ?_
       refine WT.done rfl rfl (RW.nil ?_)
       exact PW.meetT ⟨bT,bF,bB⟩ [0,2,1] ⟨rfl,rfl,rfl,rfl,trivial⟩ rfl
   ·refine RW.alloc (c:=[.int .i64 0,.slice none 0 0,.slice none 0 0,.slice none 0 0]) rfl rfl fun bT _=>?_
    refine RW.tree ?_
    refine WT.step rfl rfl rfl ⟨⟨_,rfl,?_⟩,trivial⟩
    ·refine RW.make (n:=n) (zc:=[.slice none 0 0]) rfl rfl rfl rfl rfl (by unfold maxN;omega) (by omega) rfl fun bB=>?_
     refine RW.tree ?_
     refine WT.step rfl rfl rfl ⟨⟨_,rfl,?_⟩,trivial⟩
     ·refine RW.build (v:=.agg #[.int .i64 ((n:Int) + 1),slV bF (n + 1),.slice none 0 0,slV bB n]) rfl (fun w=>by kernel_rfl) rfl ?_
      refine RW.tree ?_
      refine WT.step rfl rfl rfl ⟨⟨_,rfl,?_⟩,trivial⟩
      ·refine RW.store_whole [_] (vs:=[.int .i64 ((n:Int) + 1),slV bF (n + 1),.slice none 0 0,slV bB n]) rfl rfl rfl rfl rfl (by simp [Value.oneCell']) ?_
       refine RW.tree ?_
       refine WT.done rfl rfl (RW.nil ?_)
       exact PW.meetT ⟨bT,bF,bB⟩ [1,2,0] ⟨rfl,rfl,rfl,rfl,trivial⟩ rfl
  ·refine RW.make (n:=n) (zc:=[.slice none 0 0]) rfl rfl rfl rfl rfl (by unfold maxN;omega) (by omega) rfl fun bB=>?_
   refine RW.tree ?_
   refine WT.step rfl rfl rfl ⟨⟨_,rfl,?_⟩,⟨_,rfl,?_⟩,trivial⟩
   ·refine RW.make (n:=n + 1) (zc:=[.slice none 0 0]) rfl rfl rfl rfl rfl (by unfold maxN;omega) (by omega) rfl fun bF=>?_
    refine RW.tree ?_
    refine WT.step rfl rfl rfl ⟨⟨_,rfl,?_⟩,⟨_,rfl,?_⟩,trivial⟩
    ·refine RW.build (v:=.agg #[.int .i64 ((n:Int) + 1),slV bF (n + 1),.slice none 0 0,slV bB n]) rfl (fun w=>by kernel_rfl) rfl ?_
     refine RW.tree ?_
     refine WT.step rfl rfl rfl ⟨⟨_,rfl,?_⟩,trivial⟩
     ·refine RW.alloc (c:=[.int .i64 0,.slice none 0 0,.slice none 0 0,.slice none 0 0]) rfl rfl fun bT _=>?_
      refine RW.tree ?_
      refine WT.step rfl rfl rfl ⟨⟨_,rfl,?_⟩,trivial⟩
      ·refine RW.store_whole [] (vs:=[.int .i64 ((n:Int) + 1),slV bF (n + 1),.slice none 0 0,slV bB n]) rfl rfl rfl rfl rfl (by simp [Value.oneCell']) ?_
       refine RW.tree ?_
       refine WT.done rfl rfl (RW.nil ?_)
       exact PW.meetT ⟨bT,bF,bB⟩ [0,1,2] ⟨rfl,rfl,rfl,rfl,trivial⟩ rfl
    ·refine RW.alloc (c:=[.int .i64 0,.slice none 0 0,.slice none 0 0,.slice none 0 0]) rfl rfl fun bT _=>?_
     refine RW.tree ?_
     refine WT.step rfl rfl rfl ⟨⟨_,rfl,?_⟩,trivial⟩
     ·refine RW.build (v:=.agg #[.int .i64 ((n:Int) + 1),slV bF (n + 1),.slice none 0 0,slV bB n]) rfl (fun w=>by kernel_rfl) rfl ?_
      refine RW.tree ?_
      refine WT.step rfl rfl rfl ⟨⟨_,rfl,?_⟩,trivial⟩
      ·refine RW.store_whole [] (vs:=[.int .i64 ((n:Int) + 1),slV bF (n + 1),.slice none 0 0,slV bB n]) rfl rfl rfl rfl rfl (by simp [Value.oneCell']) ?_
       refine RW.tree ?_
       refine WT.done rfl rfl (RW.nil ?_)
       exact PW.meetT ⟨bT,bF,bB⟩ [0,1,2] ⟨rfl,rfl,rfl,rfl,trivial⟩ rfl
   ·refine RW.alloc (c:=[.int .i64 0,.slice none 0 0,.slice none 0 0,.slice none 0 0]) rfl rfl fun bT _=>?_
    refine RW.tree ?_
    refine WT.step rfl rfl rfl ⟨⟨_,rfl,?_⟩,trivial⟩
    ·refine RW.make (n:=n + 1) (zc:=[.slice none 0 0]) rfl rfl rfl rfl rfl (by unfold maxN;omega) (by omega) rfl fun bF=>?_
     refine RW.tree ?_
     refine WT.step rfl rfl rfl ⟨⟨_,rfl,?_⟩,trivial⟩
     ·refine RW.build (v:=.agg #[.int .i64 ((n:Int) + 1),slV bF (n + 1),.slice none 0 0,slV bB n]) rfl (fun w=>by kernel_rfl) rfl ?_
      refine RW.tree ?_
      refine WT.step rfl rfl rfl ⟨⟨_,rfl,?_⟩,trivial⟩
      ·refine RW.store_whole [_] (vs:=[.int .i64 ((n:Int) + 1),slV bF (n + 1),.slice none 0 0,slV bB n]) rfl rfl rfl rfl rfl (by simp [Value.oneCell']) ?_
       refine RW.tree ?_
       refine WT.done rfl rfl (RW.nil ?_)
       exact PW.meetT ⟨bT,bF,bB⟩ [1,0,2] ⟨rfl,rfl,rfl,rfl,trivial⟩ rfl
  ·refine RW.alloc (c:=[.int .i64 0,.slice none 0 0,.slice none 0 0,.slice none 0 0]) rfl rfl fun bT _=>?_
   refine RW.tree ?_
   refine WT.step rfl rfl rfl ⟨⟨_,rfl,?_⟩,⟨_,rfl,?_⟩,trivial⟩
   ·refine RW.make (n:=n + 1) (zc:=[.slice none 0 0]) rfl rfl rfl rfl rfl (by unfold maxN;omega) (by omega) rfl fun bF=>?_
    refine RW.tree ?_
    refine WT.step rfl rfl rfl ⟨⟨_,rfl,?_⟩,trivial⟩
    ·refine RW.make (n:=n) (zc:=[.slice none 0 0]) rfl rfl rfl rfl rfl (by unfold maxN;omega) (by omega) rfl fun bB=>?_
     refine RW.tree ?_
     refine WT.step rfl rfl rfl ⟨⟨_,rfl,?_⟩,trivial⟩
     ·refine RW.build (v:=.agg #[.int .i64 ((n:Int) + 1),slV bF (n + 1),.slice none 0 0,slV bB n]) rfl (fun w=>by kernel_rfl) rfl ?_
      refine RW.tree ?_
      refine WT.step rfl rfl rfl ⟨⟨_,rfl,?_⟩,trivial⟩
      ·refine RW.store_whole [_,_] (vs:=[.int .i64 ((n:Int) + 1),slV bF (n + 1),.slice none 0 0,slV bB n]) rfl rfl rfl rfl rfl (by simp [Value.oneCell']) ?_
       refine RW.tree ?_
       refine WT.done rfl rfl (RW.nil ?_)
       exact PW.meetT ⟨bT,bF,bB⟩ [2,1,0] ⟨rfl,rfl,rfl,rfl,trivial⟩ rfl
   ·refine RW.make (n:=n) (zc:=[.slice none 0 0]) rfl rfl rfl rfl rfl (by unfold maxN;omega) (by omega) rfl fun bB=>?_
    refine RW.tree ?_
    refine WT.step rfl rfl rfl ⟨⟨_,rfl,?_⟩,trivial⟩
    ·refine RW.make (n:=n + 1) (zc:=[.slice none 0 0]) rfl rfl rfl rfl rfl (by unfold maxN;omega) (by omega) rfl fun bF=>?_
     refine RW.tree ?_
     refine WT.step rfl rfl rfl ⟨⟨_,rfl,?_⟩,trivial⟩
     ·refine RW.build (v:=.agg #[.int .i64 ((n:Int) + 1),slV bF (n + 1),.slice none 0 0,slV bB n]) rfl (fun w=>by kernel_rfl) rfl ?_
      refine RW.tree ?_
      refine WT.step rfl rfl rfl ⟨⟨_,rfl,?_⟩,trivial⟩
      ·refine RW.store_whole [_,_] (vs:=[.int .i64 ((n:Int) + 1),slV bF (n + 1),.slice none 0 0,slV bB n]) rfl rfl rfl rfl rfl (by simp [Value.oneCell']) ?_
       refine RW.tree ?_
       refine WT.done rfl rfl (RW.nil ?_)
       exact PW.meetT ⟨bT,bF,bB⟩ [2,0,1] ⟨rfl,rfl,rfl,rfl,trivial⟩ rfl
 dsimp only
 refine CW.seq ?_
 refine Ja ?_;refine Jd ?_;refine Jb ?_
 refine CW.sep [blk bT [.int .i64 ((n:Int) + 1),slV bF (n + 1),.slice none 0 0,slV bB n] 25,ownHP 51 3 (.slice none 0 0) [],rdsHP Mem.none kRule [] (chR 0 k2),ownHP 26 1 (slV bF (n + 1)) (List.replicate (n + 1) [.slice none 0 0]),ownHP 26 1 (slV bB n) (List.replicate n [.slice none 0 0])] (fun w A h=>Sep.take [2,0,1,3,4] (Sep.addp (c:=ownHP 51 3 (.slice none 0 0) []) (.inl ⟨rfl,rfl⟩) (Sep.addp (c:=rdsHP Mem.none kRule [] (chR 0 k2)) (All2.nil (R:=fun cs x=>Rd kRule (Mem.none.or (mem w No)) cs x)) h))) ?_
 refine CW.block ?_
 refine CW.loop (ι:={ q:Nat × (Option Addr × Nat × Nat) × List (List Value) // q.1≤n∧q.2.2.length=q.1 }) (fun q=>[(0,.int .i64 n),(1,.int .i64 k2),(2,.bool fact),(7,ptrV bT),(8,.int .i64 q.1.1)])
  (fun q=>[blk bT [.int .i64 ((n:Int) + 1),slV bF (n + 1),.slice q.1.2.1.1 q.1.2.1.2.1 q.1.2.1.2.2,slV bB n] 25,ownHP 51 3 (.slice q.1.2.1.1 q.1.2.1.2.1 q.1.2.1.2.2) q.1.2.2,rdsHP Mem.none kRule q.1.2.2 (chR q.1.1 k2),ownHP 26 1 (slV bF (n + 1)) (List.replicate (n + 1) [.slice none 0 0]),ownHP 26 1 (slV bB n) (List.replicate n [.slice none 0 0])]) (fun q=>n - q.1.1)
  ⟨(0,(none,0,0),[]),Nat.zero_le _,rfl⟩ ⟨rfl,rfl,rfl,rfl,rfl,trivial⟩ (fun h=>h) ?_
 intro ⟨⟨i,⟨vA,vn,vc⟩,es⟩,hi,hes⟩
 dsimp only at hi hes ⊢
 refine CW.seq ?_
 refine Ja ?_;refine Jc ?_;refine Jc ?_;refine Jk ?_;refine Jb ?_
 refine CW.ite rfl (fun hlt=>?_) (fun hge=>?_)
 ·refine CW.skip ?_
  refine PW.code ?_
  refine CW.seq ?_
  refine CW.block ?_
  refine CW.region ?_
  refine Je ?_;refine JA ?_;refine Jc ?_;refine Jc ?_
  refine RW.add rfl rfl (w64 (by omega) (by omega)) rfl ?_
  refine Jc ?_
  refine RW.buildSlice (e:=3) (c:=[.int .i64 i]) rfl (fun w=>by kernel_rfl) rfl fun b _=>?_
  refine RW.build (v:=.agg (chE k2 i b).toArray) rfl (fun w=>by kernel_rfl) rfl ?_
  refine RW.buildSlice (e:=51) (c:=chE k2 i b) rfl (fun w=>by kernel_rfl) rfl fun b2 _=>?_
  refine RW.append [_,_,_] (e:=51) (sz:=3) (news:=[chE k2 i b]) (zc:=[.int .i64 0,.int .i64 0,.slice none 0 0]) rfl rfl rfl rfl rfl (by simp) (by simp [Value.oneCell']) (fun w hw hn=>?_) ?_ ?_ rfl fun u1=>?_
  ·exact ⟨b2,0,rfl,CellsAt.of_blk (St.blk (pre:=[]) hw)⟩
  ·rw [hes];show (i + 1) * 40≤_;omega
  ·rw [hes];unfold maxN;omega
  refine RW.have_ (φ:=∃ A nn c,u1=.slice A nn c) (fun w hw=>by obtain ⟨A,c,h,_⟩:=own_shapeC (pre:=[_,_,_]) hw;exact ⟨A,_,c,h⟩) (fun ⟨A,nn,c,hu⟩=>?_)
  subst hu
  refine RW.sep [blk bT [.int .i64 ((n:Int) + 1),slV bF (n + 1),.slice vA vn vc,slV bB n] 25,ownHP 51 3 (.slice A nn c) (es++[chE k2 i b]),rdsHP Mem.none kRule (es++[chE k2 i b]) (chR i k2++[(k2,(i:Int) + 1,[(i:Int)])]),ownHP 26 1 (slV bF (n + 1)) (List.replicate (n + 1) [.slice none 0 0]),ownHP 26 1 (slV bB n) (List.replicate n [.slice none 0 0])] (fun w D h=>Sep.take [1,2,0,3,4] (Sep.two (e:=rdsHP Mem.none kRule (es++[chE k2 i b]) (chR i k2++[(k2,(i:Int) + 1,[(i:Int)])])) (fun F F2 h1 h2=>rds_append h1 ((rdsHP Mem.none kRule [chE k2 i b] [(k2,(i:Int) + 1,[(i:Int)])]).up (fun b hb=>hb) (ch_one hkk (by omega) h2))) (Sep.take [4,1,2,3,5,6] h))) ?_
  refine Je ?_
  refine RW.store_blk [] rfl rfl rfl rfl rfl (Nat.lt_of_sub_eq_succ rfl) ?_
  refine RW.nil (PW.code ?_)
  refine CW.region ?_
  refine Jc ?_
  refine RW.add rfl rfl (w64 (by omega) (by omega)) rfl ?_
  refine Jd ?_
  refine RW.nil ?_
  refine PW.again ⟨(i + 1,(A,nn,c),es++[chE k2 i b]),by dsimp only;omega,by simp [hes]⟩ ⟨rfl,rfl,rfl,rfl,rfl,trivial⟩ (fun hw=>?_) (by show n - (i + 1) < n - i;omega)
  rw [show chR (i + 1) k2=chR i k2++[(k2,(i:Int) + 1,[(i:Int)])] by unfold chR;rw [List.range_succ,List.map_append];rfl]
  exact hw
 refine CW.exit rfl ?_
 refine PW.code ?_
 obtain rfl:i=n:=by omega
 refine CW.seqR ?_
 refine RW.have_ (φ:=vn=i) (fun w hw=>by
  obtain ⟨A,c,h,_⟩:=own_shapeC (pre:=[_]) hw
  injection h with h1 h2 h3
  rw [h2,hes]) (fun hvn=>?_)
 subst hvn
 refine RW.sep [rdHP Mem.none kRules [.slice vA vn vc] (chR vn k2),blk bT [.int .i64 ((vn:Int) + 1),slV bF (vn + 1),.slice vA vn vc,slV bB vn] 25,ownHP 26 1 (slV bF (vn + 1)) (List.replicate (vn + 1) [.slice none 0 0]),ownHP 26 1 (slV bB vn) (List.replicate vn [.slice none 0 0])] (fun w D h=>merge_own (by_:=40) (Sep.take [1,2,0,3,4] h) rfl (by rw [List.length_map,List.length_range];unfold reach;omega)) ?_
 refine Jd ?_;refine Jb ?_
 refine CW.cut (ι:=Option Addr × Nat) (fun q=>[(0,.int .i64 vn),(1,.int .i64 k2),(2,.bool fact),(7,ptrV bT),(9,.slice q.1 (chF fact).length q.2)]) (fun q=>[rdHP Mem.none kInts [.slice q.1 (chF fact).length q.2] (chF fact),rdHP Mem.none kRules [.slice vA vn vc] (chR vn k2),blk bT [.int .i64 ((vn:Int) + 1),slV bF (vn + 1),.slice vA vn vc,slV bB vn] 25,ownHP 26 1 (slV bF (vn + 1)) (List.replicate (vn + 1) [.slice none 0 0]),ownHP 26 1 (slV bB vn) (List.replicate vn [.slice none 0 0])]) ?_ (fun ⟨fA,fc⟩=>?_)
 ·refine Ja ?_;refine Jc ?_;refine Jb ?_
  cases fact with
  | true=>
   refine CW.ct rfl ?_
   refine CW.region ?_
   refine RW.buildSlice (e:=3) (c:=[.int .i64 0]) rfl (fun w=>by kernel_rfl) rfl fun b _=>?_
   refine Jd ?_
   refine RW.nil ?_
   refine PW.meet (some ⟨b,0,none⟩,1) ⟨rfl,rfl,rfl,rfl,rfl,trivial⟩ (fun hw=>hw.sep_map (fun w D h=>?_))
   obtain ⟨F,hF,h1,h2⟩:=h
   refine ⟨F,hF,?_,h2⟩
   exact rdOne (cs:=[.int .i64 0]) (fun j v hj=>Mem.le_right _ _ _ _ _ ⟨⟨h1.1,unfrozen_of_blk h1.2 _⟩,by have:=CellsAt.of_blk h1.2 j v hj;simpa using this⟩) (rdI _ _ (ch_inR (by omega) (by omega))) rfl
  | false=>
   refine CW.cf rfl ?_
   refine CW.skip ?_
   exact PW.meet (none,0) ⟨rfl,rfl,rfl,rfl,rfl,trivial⟩ (fun hw=>hw.sep_map (fun w D h=>Sep.addp (c:=rdHP Mem.none kInts [.slice none 0 0] ([]:List Int)) rdNil h))
 dsimp only
 refine Ja ?_;refine JG ?_;refine Jc ?_
 have hth:=ch_th (k:=k2) (n:=vn) (by omega)
 have hfr:∀ q∈chF fact,0≤q∧q < ((vn + 1:Nat):Int):=fun q hq=>by
  cases fact with
  | true=>have:=List.mem_singleton.1 hq;omega
  | false=>cases hq
 have hgv:givenD (chT vn k2) (chF fact)=0:=ch_given (by omega) (by omega) (by omega) (by cases fact;exact .inl rfl;exact .inr rfl)
 have hC:=ch_all (n:=vn) (k:=k2) (fact:=fact) (by omega) hkk
 obtain ⟨xT,hxT⟩:∃ xT:TC,xT=⟨some ⟨bF,0,none⟩,vA,some ⟨bB,0,none⟩,vn + 1,vc,vn⟩:=⟨_,rfl⟩
 have hxc:xT.th (chT vn k2)=[.int .i64 ((vn:Int) + 1),slV bF (vn + 1),.slice vA vn vc,slV bB vn]:=by
  rw [hxT]
  unfold TC.th
  simp
  refine ⟨List.length_replicate,?_,List.length_replicate⟩
  show (chR vn k2).length=vn
  rw [List.length_map,List.length_range]
 refine RW.callN (vs:=[.agg (xT.th (chT vn k2)).toArray,.slice fA (chF fact).length fc]) Tryz.call13 (by rw [hxc];rfl) (fun w2 hw=>counted_ok hth.tok hfr (hlook_of hth hfr) hgv w2 ?_ ?_) rfl fun bM=>?_
 ·have hle:∀ F:Nat→Prop,Mem.le (Mem.none.or (mem w2 F)) (mem w2 (fun b=>¬ No b)):=fun F=>Mem.or_le (Mem.none_le _) (mem_up (fun b _ k=>k))
  obtain ⟨F1,h1,_⟩:=St.get (pre:=[_]) hw
  obtain ⟨F2,h2,_⟩:=St.get (pre:=[_,_,_]) hw
  obtain ⟨F3,h3,_⟩:=St.get (pre:=[_,_,_,_]) hw
  have g1:=Rd.mono (hle F1) h1
  have g2:=Rd.mono (mem_up (F':=fun b=>¬ No b) (fun b _ k=>k)) (ch_lists (by omega) h2)
  have g3:=Rd.mono (mem_up (F':=fun b=>¬ No b) (fun b _ k=>k)) (ch_lists (by omega) h3)
  rw [hxT]
  refine ⟨i64_of (by show _≤(vn:Int) + 1;omega) (by show (vn:Int) + 1≤_;omega),?_,?_,?_⟩
  ·show Rd kLists _ [.slice (some ⟨bF,0,none⟩) (List.replicate (vn + 1) ([]:List Int)).length (vn + 1)] _
   rw [List.length_replicate];exact g2
  ·show Rd kRules _ [.slice vA (chR vn k2).length vc] _
   rw [List.length_map,List.length_range];exact g1
  ·show Rd kLists _ [.slice (some ⟨bB,0,none⟩) (List.replicate vn ([]:List Int)).length vn] _
   rw [List.length_replicate];exact g3
 ·obtain ⟨F1,h1,_⟩:=St.get (pre:=[]) hw
  exact Rd.mono (Mem.or_le (Mem.none_le _) (mem_up (fun b _ k=>k))) h1
 generalize En.runD (chT vn k2) (vn + 1) vn (chF fact)=e at *
 refine Jc ?_;refine Jt ?_;refine Jt ?_;refine Jt ?_
 refine RW.alloc (c:=[.int .i64 0,.int .i64 0]) rfl rfl fun bC _=>?_
 refine Jd ?_
 refine RW.store_whole [] (vs:=[.int .i64 e.qd,.int .i64 e.up]) rfl rfl rfl rfl rfl (by simp [Value.oneCell']) ?_
 refine Jd ?_;refine Jb ?_
 refine CW.seq ?_
 refine Ja ?_;refine Jc ?_
 refine RW.call Tryz.call10 rfl (fun w2 _=>num_ret 0 w2) rfl ?_
 refine Jj ?_;refine Jc ?_;refine Jy ?_;refine Jc ?_;refine Jy ?_;refine Jg ?_;refine Jy ?_;refine Jc ?_;refine Jy ?_
 refine RW.add rfl rfl (c:=(vn:Int) + 1) (w64 (by omega) (by omega)) rfl ?_
 refine Jy ?_;refine Jj ?_;refine Jw ?_;refine Jc ?_
 rw [decide_eq_false (show ¬ (((vn + 1:Nat):Int)≠(vn:Int) + 1) by omega)]
 refine Jy ?_;refine Je ?_;refine Jy ?_;refine JA ?_;refine Jy ?_;refine Jc ?_;refine Jy ?_
 refine RW.add rfl rfl (c:=(vn:Int) + 1) (w64 (by omega) (by omega)) rfl ?_
 refine Jy ?_
 refine RW.mul rfl rfl (c:=2 * ((vn:Int) + 1)) (w64 (by omega) (by omega)) rfl ?_
 refine Jy ?_;refine Jj ?_;refine Jw ?_;refine Jc ?_
 have hqd:=hC.qd
 have hup:=hC.up
 rw [decide_eq_false (show ¬ (e.qd≠2 * ((vn:Int) + 1)) by omega)]
 refine Jy ?_;refine Je ?_;refine Jy ?_;refine JA ?_;refine Jy ?_;refine Jc ?_;refine Jy ?_
 refine RW.add rfl rfl (c:=(vn:Int) + 1) (w64 (by omega) (by omega)) rfl ?_
 refine Jy ?_;refine Jc ?_;refine Jy ?_
 refine RW.add rfl rfl (c:=(vn:Int) + 1 + vn) (w64 (by omega) (by omega)) rfl ?_
 refine Jy ?_
 refine RW.mul rfl rfl (c:=4 * ((vn:Int) + 1 + vn)) (w64 (by omega) (by omega)) rfl ?_
 refine Jy ?_;refine Jm ?_;refine Jw ?_;refine Jb ?_
 rw [decide_eq_false (show ¬ (4 * ((vn:Int) + 1 + vn) < e.up) by omega)]
 skip
 refine CW.cf rfl ?_
 refine JM ?_
 refine CW.seq ?_
 refine Ja ?_;refine Jd ?_;refine Jb ?_
 refine CW.take [1] ?_
 refine CW.block ?_
 refine CW.loop (ι:={ i:Nat // i≤vn + 1 }) (fun i=>[(0,.int .i64 vn),(1,.int .i64 k2),(2,.bool fact),(10,slV bM (vn + 1)),(13,.int .i64 i.1)]) (fun _=>[ownHP 45 1 (slV bM (vn + 1)) (e.marks.map markE)]) (fun i=>vn + 1 - i.1)
  ⟨0,by omega⟩ ⟨rfl,rfl,rfl,rfl,rfl,trivial⟩ (fun h=>h) ?_
 intro ⟨i,hi2⟩
 dsimp only
 refine CW.seq ?_
 refine Ja ?_;refine Jc ?_;refine Jc ?_;refine Jl ?_;refine Jb ?_
 refine CW.ite rfl (fun hlt=>?_) (fun hge=>?_)
 ·refine CW.skip ?_
  refine PW.code ?_
  refine CW.seq ?_
  refine CW.block ?_
  refine Ja ?_;refine Jd ?_;refine Jb ?_
  refine CW.cut (ι:=Unit) (fun _=>[(0,.int .i64 vn),(1,.int .i64 k2),(2,.bool fact),(10,slV bM (vn + 1)),(13,.int .i64 i),(14,.int .u8 (chW k2 fact i))]) (fun _=>[ownHP 45 1 (slV bM (vn + 1)) (e.marks.map markE)]) ?_ (fun _=>?_)
  ·refine Ja ?_;refine Jc ?_;refine Jb ?_
   unfold chW
   cases fact with
   | true=>
    refine CW.ct rfl ?_
    refine Ja ?_;refine Jd ?_;refine Jb ?_;refine Ja ?_;refine Jc ?_;refine Ji ?_;refine Jc ?_
    rw [if_pos rfl]
    refine RW.splitD 94 rfl (fun g1=>?_) (fun g1=>?_)
    ·refine Jz ?_;refine Jz ?_;refine Jv ?_;refine Jb ?_
     refine CW.ct rfl ?_
     refine CW.region ?_
     refine Jd ?_
     refine RW.nil ?_
     rw [if_pos (.inl g1)]
     exact PW.meet () ⟨rfl,rfl,rfl,rfl,rfl,rfl,trivial⟩ (fun h=>h)
    ·refine Jy ?_;refine Jc ?_;refine Jy ?_;refine Ji ?_;refine Jw ?_;refine Jb ?_
     refine CW.ite rfl (fun g2=>?_) (fun g2=>?_)
     ·refine CW.region ?_
      refine Jd ?_
      refine RW.nil ?_
      rw [if_pos (.inr g2)]
      exact PW.meet () ⟨rfl,rfl,rfl,rfl,rfl,rfl,trivial⟩ (fun h=>h)
     ·refine CW.skip ?_
      rw [if_neg (fun k=>k.elim g1 g2)]
      exact PW.meet () ⟨rfl,rfl,rfl,rfl,rfl,rfl,trivial⟩ (fun h=>h)
   | false=>
    refine CW.cf rfl ?_
    refine CW.skip ?_
    exact PW.meet () ⟨rfl,rfl,rfl,rfl,rfl,rfl,trivial⟩ (fun h=>h)
  refine Ja ?_;refine Jc ?_;refine Jc ?_
  refine RW.indexAddr rfl rfl (by omega) (by omega) rfl ?_
  refine RW.loadOwn1 [] (i:=i) (j:=0) rfl (by simp) (show (e.marks.map markE)[i]?=some (markE (chW k2 fact i)) by rw [List.getElem?_map,hC.mrk i (by omega)];rfl) rfl rfl rfl ?_
  refine Jc ?_;refine Jj ?_;refine Jb ?_
  rw [decide_eq_false (show ¬ (chW k2 fact i≠chW k2 fact i) by simp)]
  skip
  refine CW.cf rfl ?_
  refine CW.skip ?_
  refine PW.code ?_
  refine CW.region ?_
  refine Jc ?_
  refine RW.add rfl rfl (w64 (by omega) (by omega)) rfl ?_
  refine Jd ?_
  refine RW.nil ?_
  exact PW.again ⟨i + 1,by omega⟩ ⟨rfl,rfl,rfl,rfl,rfl,trivial⟩ (fun hw=>hw) (by show vn + 1 - (i + 1) < vn + 1 - i;omega)
 refine CW.exit rfl ?_
 refine PW.code ?_
 refine Ja ?_;refine Jd ?_;refine Jb ?_
 exact CW.ret1 rfl Tryz.results5 rfl rfl fun w hw=>⟨rfl,hw.kp⟩
end Go.Proofs.YtbcdgcodnkgdoaaGreat
