/- Parts of the proof: The rounds of fast: what is told is just and, at the end, all that follows. · fast's beginning: what is laid, up to the foes. · fast's beginning: foes; all of it up to the pairs. · fast's beginning: who has what in its body; the pairs. · fast's beginning: who beats whom; what is only read is right. · fast's beginning: rules without a body; the counters are right, and what is laid is just. · fast's run, from beginning to end: just what follows is told. · fast's run: just what follows is told. · What goes one way alone in fast's counters. · How much fast's run costs: counting; what each rule costs. · How much fast's run costs: literals, and pairs. · How much fast's run costs: all of it. · theory.circle. Conditions: none. -/
import Derived.Test.YtbcdgcodnkgdoaaGreatPc7
/- The rounds of fast: what is told is just and, at the end, all that follows. Conditions: none. -/
set_option linter.unusedVariables false
set_option linter.unusedSimpArgs false
namespace Go.Proofs.YtbcdgcodnkgdoaaGreat
open Go Go.RowKit
structure ConP (n m np:Nat) (s:Es) (pq ps:Int→Int):Prop where
 sym:∀ (q:Int),0≤q→q < n→∀ f∈foT s.t q,q∈foT s.t f
 pin:∀ (p:Int),0≤p→p < np→hdT s.t (ps p)∈foT s.t (pq p)
 pall:∀ (q x:Int),0≤q→q < n→0≤x→x < m→hdT s.t x∈foT s.t q→(∃ (r:Int),(0≤r∧r < m)∧supD s.t r=true∧hdT s.t r=q)→∃ (p:Int),(0≤p∧p < np)∧pq p=q∧ps p=x
 bts:∀ (x p:Int),0≤x→x < m→0≤p→p < np→(p∈rowAt s.beats x↔supD s.t x=true∧hdT s.t x=pq p∧ps p∈btT s.t x)
 one:∀ (p p':Int),0≤p→p < np→0≤p'→p' < np→pq p=pq p'→ps p=ps p'→p=p'
 psup:∀ (p:Int),0≤p→p < np→∃ (r:Int),(0≤r∧r < m)∧supD s.t r=true∧hdT s.t r=pq p
theorem cN_ex {m:Nat} {f:Int→Bool} (h:cN m f≠0):∃ (r:Int),(0≤r∧r < m)∧f r=true:=by
 refine Classical.byContradiction fun k=>h (cN_zero.2 fun i i0 i1=>?_)
 cases hf:f i with
 | false=>rfl
 | true=>exact absurd ⟨i,⟨i0,i1⟩,hf⟩ k
section
variable {n m np:Nat} {s:Es} {pq ps:Int→Int} {fact:Int→Bool} {laid Pr:Int→Int→Bool} {e e':En} {q r k p f:Int}
theorem need_zero {dl df:Int→Int→Int→Bool} {c:Cr} (h:CanS n m np s pq ps dl df c) (r0:0≤r) (r1:r < m):gi c.need r=0↔∀ b∈bd s r,dl r b 3=true:=by
 rw [h.need r r0 r1]
 constructor
 ·intro hz b hb
  have:=countP_zero.1 (show (bd s r).countP (fun b=>!dl r b 3)=0 by omega) b hb
  simpa using this
 ·intro ha
  have:(bd s r).countP (fun b=>!dl r b 3)=0:=countP_zero.2 fun b hb=>by rw [ha b hb];rfl
  omega
theorem dead_iff {dl df:Int→Int→Int→Bool} {c:Cr} (h:CanS n m np s pq ps dl df c) (r0:0≤r) (r1:r < m):gb c.dead r=true↔∃ b∈bd s r,dl r b 4=true:=by
 rw [h.dead r r0 r1,List.any_eq_true]
theorem Inv.sound (hc:Con n m np s pq ps) (hp:ConP n m np s pq ps) (h:Inv n m np s pq ps fact laid Pr e) (hPr:∀ q k,Pr q k=true→Lf s.t n m fact q k) (hla:∀ q k,laid q k=true→Lf s.t n m fact q k):
 ∀ (q k:Int),0≤q→q < n→1≤k→k≤4→e.has q k=true→Lf s.t n m fact q k:=by
 have s1:∀ (q:Int),0≤q→q < n→e.has q 1=true→Lf s.t n m fact q 1:=fun q q0 q1 hh=>by
  refine lf_closed.k1 q q0 q1 ?_
  rcases h.ks.s1 q q0 q1 hh with h1 | ⟨r,hr,a,b,c⟩
  ·exact .inl h1
  ·exact .inr ⟨r,hr,a,b,fun x hx=>hPr _ _ (c x hx)⟩
 have s2:∀ (q:Int),0≤q→q < n→e.has q 2=true→Lf s.t n m fact q 2:=fun q q0 q1 hh=>by
  refine lf_closed.k2 q q0 q1 ?_
  obtain ⟨h1,h2⟩:=h.ks.s2 q q0 q1 hh
  refine ⟨h1,fun r r0 r1 a b=>?_⟩
  obtain ⟨x,hx,hd1⟩:=h2 r r0 r1 a b
  exact ⟨x,hx,hPr _ _ hd1⟩
 have hS:=h.can.s
 have hneed:∀ (r:Int),0≤r→r < m→gi e.core.need r=0→∀ b∈bdT s.t r,Lf s.t n m fact b 3:=fun r r0 r1 hz b hb=>hPr _ _ ((need_zero hS r0 r1).1 hz b hb)
 have hdead:∀ (r:Int),0≤r→r < m→gb e.core.dead r=true→∃ b∈bdT s.t r,Lf s.t n m fact b 4:=fun r r0 r1 hz=>by
  obtain ⟨b,hb,hd1⟩:=(dead_iff hS r0 r1).1 hz
  exact ⟨b,hb,hPr _ _ hd1⟩
 intro q k q0 q1 k0 k1 hh
 obtain rfl | rfl | rfl | rfl:k=1∨k=2∨k=3∨k=4:=by omega
 ·exact s1 q q0 q1 hh
 ·exact s2 q q0 q1 hh
 ·refine lf_closed.k3 q q0 q1 ?_
  rcases (h.kp.j q q0 q1).1 hh with h1 | h1
  ·exact .inl (s1 q q0 q1 h1)
  ·refine .inr ?_
   unfold cond1 at h1
   rw [Bool.and_eq_true,Bool.and_eq_true,beq_iff_eq,beq_iff_eq] at h1
   obtain ⟨⟨h1,h2⟩,h3⟩:=h1
   obtain ⟨r,hr,a,b,c⟩:=(hS.backed q q0 q1).1 h1
   refine ⟨⟨r,hr,a,b,hneed r hr.1 hr.2 c⟩,fun f hf=>?_,fun x x0 x1 hx=>?_⟩
   ·have o1:=(hS.opn1 q q0 q1).1
    have:=countP_zero.1 (show (rowAt (tFoes s.t) q).countP (fun f=>!(Pr f 2 || laid f 2))=0 by omega) f hf
    rw [Bool.not_eq_false',Bool.or_eq_true] at this
    exact this.elim (hPr _ _) (hla _ _)
   ·obtain ⟨p,hpr,e1,e2⟩:=hp.pall q x q0 q1 x0 x1 hx ⟨r,hr,a,b⟩
    rw [hS.pr.att q q0 q1] at h3
    have:=cN_zero.1 h3 p hpr.1 hpr.2
    rw [e1,beq_self_eq_true,Bool.true_and,Bool.not_eq_false'] at this
    rcases (hS.sett p hpr.1 hpr.2).1 this with h4 | ⟨y,hy,h4,h5⟩
    ·rw [e2] at h4
     exact .inl (hdead x x0 x1 h4)
    ·obtain ⟨g1,g2,g3⟩:=(hp.bts y p hy.1 hy.2 hpr.1 hpr.2).1 h4
     exact .inr ⟨y,hy,g1,by rw [g2,e1],by rw [← e2];exact g3,hneed y hy.1 hy.2 h5⟩
 ·refine lf_closed.k4 q q0 q1 ?_
  obtain ⟨h1,h2⟩:=(h.kp.j q q0 q1).2 hh
  refine ⟨s2 q q0 q1 h1,?_⟩
  unfold cond2 at h2
  rw [Bool.or_eq_true,Bool.or_eq_true,beq_iff_eq] at h2
  rcases h2 with (h2 | h2) | h2
  ·refine .inl fun r r0 r1 a b=>hdead r r0 r1 ?_
   rw [hS.backs q q0 q1] at h2
   have:=cN_zero.1 h2 r r0 r1
   rw [a,show (hd s r == q)=true from beq_iff_eq.2 b,Bool.true_and,Bool.true_and,Bool.not_eq_false'] at this
   exact this
  ·obtain ⟨f,hf,hd1⟩:=hS.clash1 q q0 q1 h2
   rw [Bool.or_eq_true] at hd1
   exact .inr (.inl ⟨f,hf,hd1.elim (hPr _ _) (hla _ _)⟩)
  ·obtain ⟨p,hpr,e1,h3,h4⟩:=(hS.stand q q0 q1).1 h2
   have hps:=(hc.pr p hpr.1 hpr.2).2
   refine .inr (.inr ⟨ps p,hps,by rw [← e1];exact hp.pin p hpr.1 hpr.2,hneed _ hps.1 hps.2 h3,fun x x0 x1 a b c=>hdead x x0 x1 ?_⟩)
   rw [hS.left p hpr.1 hpr.2] at h4
   have:=cN_zero.1 h4 x x0 x1
   rw [decide_eq_true ((hp.bts x p x0 x1 hpr.1 hpr.2).2 ⟨a,by rw [b,e1],c⟩),Bool.true_and,Bool.not_eq_false'] at this
   exact this
def ToldP (n:Nat) (e:En) (q k:Int):Prop:=(0≤q∧q < n)∧(1≤k∧k≤4)∧e.has q k=true
theorem Inv.complete (hc:Con n m np s pq ps) (hp:ConP n m np s pq ps) (h:Inv n m np s pq ps fact laid Pr e) (hall:∀ (q k:Int),0≤q→q < n→1≤k→k≤4→e.has q k=true→Pr q k=true):Clsd s.t m fact (ToldP n e) n:=by
 have hS:=h.can.s
 have hT:∀ q k,ToldP n e q k→Pr q k=true:=fun q k ht=>hall q k ht.1.1 ht.1.2 ht.2.1.1 ht.2.1.2 ht.2.2
 have hneed:∀ (r:Int),0≤r→r < m→(∀ b∈bdT s.t r,ToldP n e b 3)→gi e.core.need r=0:=fun r r0 r1 ha=>(need_zero hS r0 r1).2 (fun b hb=>hT _ _ (ha b hb))
 have hdead:∀ (r:Int),0≤r→r < m→(∃ b∈bdT s.t r,ToldP n e b 4)→gb e.core.dead r=true:=fun r r0 r1 ⟨b,hb,ha⟩=>(dead_iff hS r0 r1).2 ⟨b,hb,hT _ _ ha⟩
 refine ⟨fun q q0 q1 hk=>⟨⟨q0,q1⟩,by omega,?_⟩,fun q q0 q1 hk=>⟨⟨q0,q1⟩,by omega,?_⟩,fun q q0 q1 hk=>⟨⟨q0,q1⟩,by omega,?_⟩,fun q q0 q1 hk=>⟨⟨q0,q1⟩,by omega,?_⟩⟩
 ·rcases hk with hk | ⟨r,hr,a,b,c⟩
  ·exact h.ks.c0 q q0 q1 hk
  ·rw [← b]
   exact h.ks.c1 r hr.1 hr.2 a (fun x hx=>hT _ _ (c x hx))
 ·refine h.ks.c2 q q0 q1 hk.1 (fun r r0 r1 a b=>?_)
  obtain ⟨x,hx,hp⟩:=hk.2 r r0 r1 a b
  exact ⟨x,hx,hT _ _ hp⟩
 ·refine (h.kp.cl q q0 q1 (fun k=>k)).1 ?_
  rcases hk with hk | ⟨⟨r,hr,a,b,c⟩,d,g⟩
  ·exact .inl (hT _ _ hk)
  ·refine .inr ?_
   have hb:gb e.core.backed q=true:=(hS.backed q q0 q1).2 ⟨r,hr,a,b,hneed r hr.1 hr.2 c⟩
   unfold cond1
   rw [Bool.and_eq_true,Bool.and_eq_true,beq_iff_eq,beq_iff_eq]
   refine ⟨⟨hb,?_⟩,?_⟩
   ·rcases hS.opn2 q q0 q1 with ho | ⟨_,ho⟩
    ·rw [ho]
     have:(rowAt (tFoes s.t) q).countP (fun f=>!(Pr f 2 || laid f 2))=0:=countP_zero.2 fun f hf=>by rw [hT _ _ (d f hf)];rfl
     omega
    ·rw [ho] at hb;cases hb
   ·rw [hS.pr.att q q0 q1]
    refine cN_zero.2 fun p p0 p1=>?_
    by_cases e1:pq p=q
    ·have hps:=(hc.pr p p0 p1).2
     have hst:e.core.sett p=true:=by
      refine (hS.sett p p0 p1).2 ?_
      rcases g (ps p) hps.1 hps.2 (by rw [← e1];exact hp.pin p p0 p1) with h4 | ⟨y,hy,ya,yb,yc,yd⟩
      ·exact .inl (hdead _ hps.1 hps.2 h4)
      ·exact .inr ⟨y,hy,(hp.bts y p hy.1 hy.2 p0 p1).2 ⟨ya,by rw [yb,e1],yc⟩,hneed y hy.1 hy.2 yd⟩
     rw [hst];simp
    ·rw [beq_eq_false_iff_ne.2 e1];rfl
 ·obtain ⟨h1,h2⟩:=hk
  refine (h.kp.cl q q0 q1 (fun k=>k)).2 (hT _ _ h1) ?_
  unfold cond2
  rw [Bool.or_eq_true,Bool.or_eq_true,beq_iff_eq]
  have hb0:(∀ (r:Int),0≤r→r < m→supD s.t r=true→hdT s.t r=q→gb e.core.dead r=true)→gi e.core.backs q=0:=fun ha=>by
   rw [hS.backs q q0 q1]
   refine cN_zero.2 fun r r0 r1=>?_
   cases hs:supD s.t r with
   | false=>rfl
   | true=>
    by_cases e1:hd s r=q
    ·rw [ha r r0 r1 hs e1];simp
    ·rw [beq_eq_false_iff_ne.2 e1];rfl
  rcases h2 with h2 | ⟨f,hf,h2⟩ | ⟨x,hx,hxf,h2,h3⟩
  ·exact .inl (.inl (hb0 fun r r0 r1 a b=>hdead r r0 r1 (h2 r r0 r1 a b)))
  ·rcases hS.clash2 q q0 q1 f hf (by rw [hT _ _ h2];rfl) with h3 | h3
   ·exact .inl (.inr h3)
   ·exact .inl (.inl h3)
  ·by_cases hr:∃ (r:Int),(0≤r∧r < m)∧supD s.t r=true∧hdT s.t r=q
   ·obtain ⟨p,hpr,e1,e2⟩:=hp.pall q x q0 q1 hx.1 hx.2 hxf hr
    refine .inr ((hS.stand q q0 q1).2 ⟨p,hpr,e1,by rw [e2];exact hneed x hx.1 hx.2 h2,?_⟩)
    rw [hS.left p hpr.1 hpr.2]
    refine cN_zero.2 fun y y0 y1=>?_
    by_cases hb:p∈rowAt s.beats y
    ·obtain ⟨g1,g2,g3⟩:=(hp.bts y p y0 y1 hpr.1 hpr.2).1 hb
     rw [hdead y y0 y1 (h3 y y0 y1 g1 (by rw [g2,e1]) (by rw [← e2];exact g3))]
     simp
    ·rw [decide_eq_false hb];rfl
   ·exact .inl (.inl (hb0 fun r r0 r1 a b=>absurd ⟨r,⟨r0,r1⟩,a,b⟩ hr))
def PrI (i:Nat) (l:List (Int × Int)) (q k:Int):Bool:=decide ((q,k)∈l.take i)
theorem pri_iff {i:Nat} {l:List (Int × Int)}:PrI i l q k=true↔(q,k)∈l.take i:=decide_eq_true_iff
theorem pri_next {i:Nat} {l l':List (Int × Int)} (hi:l[i]?=some (q,k)) (hl:l <+: l'):PrI (i + 1) l'=addP (PrI i l) q k:=by
 obtain ⟨l2,rfl⟩:=hl
 obtain ⟨hlt,hge⟩:=List.getElem?_eq_some_iff.1 hi
 funext x j
 refine Bool.eq_iff_iff.2 ?_
 unfold addP
 rw [pri_iff,Bool.or_eq_true,pri_iff,List.take_append_of_le_length (by omega),List.take_add_one,hi,List.mem_append,Bool.and_eq_true,beq_iff_eq,beq_iff_eq]
 simp
abbrev Kept (n m np:Nat) (s:Es) (pq ps:Int→Int) (fact:Int→Bool) (laid:Int→Int→Bool) (first:Nat) (Q:Cr→Prop):Prop:=∀ (Pr:Int→Int→Bool) (c:Cr) (i:Nat) (q k:Int),Can n m np s pq ps fact laid Pr c→0≤q→q < n→1≤k→k≤4→Pr q k=false→(k=2→(laid q 2=true↔i < first))→Q c→Q (Cr.does s first i c (q,k))
theorem work_inv {laidL:List (Int × Int)} {Q:Cr→Prop} (hQ:Kept n m np s pq ps fact (fun q k=>decide ((q,k)∈laidL)) laidL.length Q) (hc:Con n m np s pq ps) (hp:ConP n m np s pq ps) (hlf:∀ x∈laidL,Lf s.t n m fact x.1 x.2):∀ (k i:Nat) {e:En},4 * n≤k + i→i≤e.told.length→laidL <+: e.told→Inv n m np s pq ps fact (fun q k=>decide ((q,k)∈laidL)) (PrI i e.told) e→(∀ x∈e.told,Lf s.t n m fact x.1 x.2)→Q e.core→
 ∃ e',En.work s laidL.length k i e=e'∧Inv n m np s pq ps fact (fun q k=>decide ((q,k)∈laidL)) (PrI e'.told.length e'.told) e'∧(∀ x∈e'.told,Lf s.t n m fact x.1 x.2)∧laidL <+: e'.told∧Q e'.core∧(Ri e.up→Ri e'.up) ∧
  Cg (e'.up - V n m np s e'.core - 3 * (e'.told.length:Nat)) (e.up - V n m np s e.core - 2 * (e.told.length:Nat) - i)
 | 0,i,e,hk,hi,hpre,hI,hL,hq=>by
  have hm:=hI.ok.most
  obtain rfl:i=e.told.length:=by omega
  exact ⟨e,rfl,hI,hL,hpre,hq,id,Cg.of (by omega)⟩
 | k + 1,i,e,hk,hi,hpre,hI,hL,hq=>by
  unfold En.work
  cases hx:e.told[i]? with
  | none=>
   rw [List.getElem?_eq_none_iff] at hx
   obtain rfl:i=e.told.length:=by omega
   exact ⟨e,rfl,hI,hL,hpre,hq,id,Cg.of (by omega)⟩
  | some x=>
   obtain ⟨q,j⟩:=x
   dsimp only
   obtain ⟨hlt,hge⟩:=List.getElem?_eq_some_iff.1 hx
   have hmem:(q,j)∈e.told:=List.mem_of_getElem? hx
   obtain ⟨⟨q0,q1⟩,j0,j1⟩:=hI.kp.tm.rng _ hmem
   have hh:e.has q j=true:=(hI.kp.tm.has q j q0 q1 j0 j1).2 hmem
   have hP:PrI i e.told q j=false:=by
    refine Bool.eq_false_iff.2 fun h=>?_
    rw [pri_iff,List.mem_take_iff_getElem] at h
    obtain ⟨a,ha,hae⟩:=h
    have:=(List.getElem?_inj (i:=a) (j:=i) (by omega) hI.kp.tm.nd).1 (by rw [hx,List.getElem?_eq_getElem (by omega),hae])
    omega
   have hl:decide ((q,j)∈laidL)=true↔i < laidL.length:=by
    rw [decide_eq_true_iff]
    obtain ⟨l2,hl2⟩:=hpre
    constructor
    ·intro hm
     obtain ⟨a,ha,hae⟩:=List.getElem_of_mem hm
     have hlt2:a < e.told.length:=by rw [← hl2,List.length_append];omega
     have e2:e.told[a]'hlt2=(q,j):=by
      simp only [← hl2]
      rw [List.getElem_append_left ha]
      exact hae
     have:=(List.getElem?_inj (i:=a) (j:=i) hlt2 hI.kp.tm.nd).1 (by rw [hx,List.getElem?_eq_getElem hlt2,e2])
     omega
    ·intro hm
     have e2:e.told[i]'hlt=laidL[i]'hm:=by
      simp only [← hl2]
      rw [List.getElem_append_left hm]
     rw [← hge,e2]
     exact List.getElem_mem hm
   have hPr2:∀ b j',addP (PrI i e.told) q j b j'=true→Lf s.t n m fact b j':=fun b j' h=>by
    unfold addP at h
    rw [Bool.or_eq_true,pri_iff,Bool.and_eq_true,beq_iff_eq,beq_iff_eq] at h
    rcases h with h | ⟨rfl,rfl⟩
    ·exact hL _ (List.mem_of_mem_take h)
    ·exact hL _ hmem
   have hI2:=hI.ups 1
   have hI3:=hI2.does (first:=laidL.length) (i:=i) hc hp.sym q0 q1 j0 j1 hh hP (fun hj=>by subst hj;exact hl) (fun b hb=>lf_coh3 ⟨hPr2 b 3 hb.1,hPr2 b 4 hb.2⟩)
   have hT:=Tk.does (first:=laidL.length) (i:=i) hc.ok hI2.ok q0 q1 j0 j1
   have hpe:e.told <+: (En.does s laidL.length i (e.ups 1) (q,j)).told:=hT.pre
   have hlen:=hpe.length_le
   have hS:=hI3.sound hc hp hPr2 (fun b j' hb=>hlf _ (decide_eq_true_iff.1 hb))
   rw [← pri_next hx hpe] at hI3
   obtain ⟨e',h1,h2,h3,h4,hq2,hr,h5⟩:=work_inv hQ hc hp hlf k (i + 1) (e:=En.does s laidL.length i (e.ups 1) (q,j)) (by omega) (by omega) (hpre.trans hpe) hI3 (fun x hx=>by
    obtain ⟨⟨x0,x1⟩,y0,y1⟩:=hI3.kp.tm.rng x hx
    exact hS x.1 x.2 x0 x1 y0 y1 ((hI3.kp.tm.has x.1 x.2 x0 x1 y0 y1).2 hx)) (by rw [core_does,core_ups];exact hQ _ _ _ _ _ hI.can q0 q1 j0 j1 hP (fun hj=>by subst hj;exact hl) hq)
   refine ⟨e',h1,h2,h3,h4,hq2,fun _=>hr (hT.rg (w64_ri _)),h5.trans ?_⟩
   obtain ⟨a,ha⟩:=hT.up
   obtain ⟨b,hb⟩:=w64_cg (e.up + 1)
   rw [show (e.ups 1).up=En.w64 (e.up + 1) from rfl,core_ups,show (e.ups 1).told=e.told from rfl,hb] at ha
   refine ⟨a + b,?_⟩
   dsimp only at ha ⊢
   generalize En.does s laidL.length i (e.ups 1) (q,j)=e2 at *
   omega
end
end Go.Proofs.YtbcdgcodnkgdoaaGreat
namespace Go.Proofs.YtbcdgcodnkgdoaaGreat
open Go Go.RowKit
structure THk (n m:Nat) (t:ThV):Prop where
 tok:TOk n m t
 body:∀ (r:Int),0≤r→r < m→(bdT t r).Nodup
 foes:∀ (q:Int),0≤q→q < n→(foT t q).Nodup
 sym:∀ (q:Int),0≤q→q < n→∀ f∈foT t q,q∈foT t f
 beats:∀ (r:Int),0≤r→r < m→(btT t r).Nodup
 beatf:∀ (r:Int),0≤r→r < m→∀ x∈btT t r,hdT t x∈foT t (hdT t r)
section
variable {n m:Nat} {t:ThV} {e:En} {q r x k:Int} {i:Nat} {facts:List Int}
theorem gi_inc {l:List Int} (hl:l.length=n) (q0:0≤q) (q1:q < n) (x0:0≤x) (h0:-9223372036854775808≤gi l q) (h1:gi l q≤9223372036854775806):gi (En.inc l q) x=if x=q then gi l q + 1 else gi l x:=by
 unfold En.inc
 dsimp only [gi] at h0 h1 ⊢
 have:=getD_setAt (v:=En.w64 (l.getD q.toNat 0 + 1)) (d:=(0:Int)) hl q0 q1 x0
 rw [w64_id (by omega) (by omega)] at this
 rw [w64_id (by omega) (by omega)]
 exact this
theorem inc_len {l:List Int}:(En.inc l q).length=l.length:=by unfold En.inc;rw [List.length_set]
theorem gi_rep:gi (List.replicate n 0) q=0:=by
 dsimp only [gi]
 rw [List.getD_eq_getElem?_getD,List.getElem?_replicate]
 split <;> rfl
theorem gb_rep:gb (List.replicate n false) q=false:=by
 dsimp only [gb]
 rw [List.getD_eq_getElem?_getD,List.getElem?_replicate]
 split <;> rfl
structure L1 (n m:Nat) (t:ThV) (i:Nat) (e:En):Prop where
 eq:e={ En.lay0 n m with needD:=e.needD,need:=e.need,strict:=e.strict,backs:=e.backs }
 ok:LOk n m e
 needD:∀ (r:Int),0≤r→r < i→gi e.needD r=((bdT t r).length:Nat)
 need:∀ (r:Int),0≤r→r < i→gi e.need r=((bdT t r).length:Nat)
 strict:∀ (q:Int),0≤q→q < n→gi e.strict q=cN i (fun r=>stT t r&&(hdT t r == q))
 backs:∀ (q:Int),0≤q→q < n→gi e.backs q=cN i (fun r=>supD t r&&(hdT t r == q))
theorem lay1_step (ht:TOk n m t) (hi:i < m) (h:L1 n m t i e):L1 n m t (i + 1) (En.lay1 t e i):=by
 obtain ⟨⟨h0,h1⟩,_⟩:=ht.rule (r:=(i:Int)) (by omega) (by omega)
 have hm:=ht.small.2
 have hset:∀ (l:List Int) (v x:Int),l.length=m→0≤x→gi (l.set i v) x=if x=i then v else gi l x:=fun l v x hl x0=>getD_setAt (q:=(i:Int)) hl (by omega) (by omega) x0
 -- bodies
 have hB:L1 n m t i (En.lay1B t e i)∧gi (En.lay1B t e i).needD i=((bdT t i).length:Nat)∧gi (En.lay1B t e i).need i=((bdT t i).length:Nat):=by
  have e1:=h.eq
  refine ⟨⟨?_,h.ok.lay1B,fun r r0 r1=>?_,fun r r0 r1=>?_,h.strict,h.backs⟩,?_,?_⟩
  ·unfold En.lay1B
   rw [e1]
  ·show gi (e.needD.set i _) r=_
   rw [hset _ _ _ h.ok.ok.needD r0,if_neg (by omega)];exact h.needD r r0 r1
  ·show gi (e.need.set i _) r=_
   rw [hset _ _ _ h.ok.ok.need r0,if_neg (by omega)];exact h.need r r0 r1
  ·show gi (e.needD.set i _) i=_
   rw [hset _ _ _ h.ok.ok.needD (by omega),if_pos rfl]
  ·show gi (e.need.set i _) i=_
   rw [hset _ _ _ h.ok.ok.need (by omega),if_pos rfl]
 obtain ⟨hB,hB1,hB2⟩:=hB
 unfold En.lay1
 generalize En.lay1B t e i=e1 at *
 -- strict rules
 have hS:LOk n m (En.lay1S t e1 i)∧(En.lay1S t e1 i)={ e1 with strict:=(En.lay1S t e1 i).strict }∧∀ (q:Int),0≤q→q < n→gi (En.lay1S t e1 i).strict q=cN (i + 1) (fun r=>stT t r&&(hdT t r == q)):=by
  refine ⟨hB.ok.lay1S,?_,fun q q0 q1=>?_⟩
  ·unfold En.lay1S;split <;> rfl
  ·rw [cN_succ,← hB.strict q q0 q1]
   have hR:=hB.strict _ h0 h1
   have hc1:=cN_nonneg i (fun r=>stT t r&&(hdT t r == (ruleAt t i).2.1))
   have hc2:=cN_le i (fun r=>stT t r&&(hdT t r == (ruleAt t i).2.1))
   unfold En.lay1S
   by_cases hs:((ruleAt t i).1 == 1)=true
   ·rw [if_pos hs]
    show gi (En.inc e1.strict (ruleAt t i).2.1) q=_
    rw [gi_inc hB.ok.ok.strict h0 h1 q0 (by omega) (by omega)]
    by_cases eq:q=(ruleAt t i).2.1
    ·subst eq
     rw [if_pos rfl,if_pos (by rw [show stT t i=true from hs];simp)]
    ·rw [if_neg eq,if_neg (by rw [show (hdT t i == q)=false from beq_eq_false_iff_ne.2 (fun k=>eq k.symm)];simp)]
     omega
   ·rw [if_neg hs,if_neg (by rw [show stT t i=false from Bool.eq_false_iff.2 hs];simp)]
    omega
 obtain ⟨hS0,hS1,hS2⟩:=hS
 generalize En.lay1S t e1 i=e2 at *
 have hbk:e2.backs=e1.backs:=by rw [hS1]
 have hnD:e2.needD=e1.needD:=by rw [hS1]
 have hnn:e2.need=e1.need:=by rw [hS1]
 have hK:LOk n m (En.lay1K t e2 i)∧(En.lay1K t e2 i)={ e2 with backs:=(En.lay1K t e2 i).backs }∧∀ (q:Int),0≤q→q < n→gi (En.lay1K t e2 i).backs q=cN (i + 1) (fun r=>supD t r&&(hdT t r == q)):=by
  refine ⟨hS0.lay1K,?_,fun q q0 q1=>?_⟩
  ·unfold En.lay1K;split <;> rfl
  ·rw [cN_succ,← hB.backs q q0 q1,← hbk]
   have hR:=hB.backs _ h0 h1
   rw [← hbk] at hR
   have hc1:=cN_nonneg i (fun r=>supD t r&&(hdT t r == (ruleAt t i).2.1))
   have hc2:=cN_le i (fun r=>supD t r&&(hdT t r == (ruleAt t i).2.1))
   unfold En.lay1K
   by_cases hs:supD t i=true
   ·rw [if_pos hs]
    show gi (En.inc e2.backs (ruleAt t i).2.1) q=_
    rw [gi_inc hS0.ok.backs h0 h1 q0 (by omega) (by omega)]
    by_cases eq:q=(ruleAt t i).2.1
    ·subst eq
     rw [if_pos rfl,if_pos (by rw [hs];simp)]
    ·rw [if_neg eq,if_neg (by rw [show (hdT t i == q)=false from beq_eq_false_iff_ne.2 (fun k=>eq k.symm)];simp)]
     omega
   ·rw [if_neg hs,if_neg (by rw [Bool.eq_false_iff.2 hs];simp)]
    omega
 obtain ⟨hK0,hK1,hK2⟩:=hK
 generalize En.lay1K t e2 i=e3 at *
 have x1:e3.needD=e1.needD:=by rw [hK1];exact hnD
 have x2:e3.need=e1.need:=by rw [hK1];exact hnn
 have x3:e3.strict=e2.strict:=by rw [hK1]
 refine ⟨?_,hK0,fun r r0 r1=>?_,fun r r0 r1=>?_,fun q q0 q1=>by rw [x3];exact hS2 q q0 q1,hK2⟩
 ·have:=hB.eq
  rw [hK1,hS1,this]
 ·rw [x1]
  by_cases e:r=i
  ·subst e;exact hB1
  ·exact hB.needD r r0 (by omega)
 ·rw [x2]
  by_cases e:r=i
  ·subst e;exact hB2
  ·exact hB.need r r0 (by omega)
theorem lay1_all (ht:TOk n m t):L1 n m t m (upto (En.lay1 t) m 0 (En.lay0 n m)):=by
 have:=upto_ind (f:=En.lay1 t) (fun i e=>L1 n m t i e) m 0 (En.lay0 n m) (fun j e _ hj h=>lay1_step ht (by omega) h) ⟨rfl,LOk.new n m,fun r r0 r1=>by omega,fun r r0 r1=>by omega,fun q q0 q1=>gi_rep,fun q q0 q1=>gi_rep⟩
 rw [Nat.zero_add] at this
 exact this
theorem bit_zero (k0:1≤k) (k1:k≤4):En.bit 0 k=false:=by
 obtain rfl | rfl | rfl | rfl:k=1∨k=2∨k=3∨k=4:=by omega
 all_goals decide +kernel
theorem has_zero (hm:e.marks=List.replicate n 0) (k0:1≤k) (k1:k≤4):e.has q k=false:=by
 unfold En.has
 rw [hm,show (List.replicate n (0:Int)).getD q.toNat 0=0 from gi_rep]
 exact bit_zero k0 k1
theorem TM.new (hm:e.marks=List.replicate n 0) (ht:e.told=[]):TM n e:=by
 refine ⟨by rw [hm];simp,fun x hx=>?_,fun q k _ _ k0 k1=>?_,fun p hp=>?_,by rw [ht];simp⟩
 ·rw [hm] at hx
  obtain rfl:=(List.mem_replicate.1 hx).2
  omega
 ·rw [has_zero hm k0 k1,ht];simp
 ·rw [ht] at hp;cases hp
theorem lay2_all:∀ {l:List Int} {e:En},(∀ q∈l,0≤q∧q < n)→TM n e→TM n (l.foldl En.lay2 e)∧(l.foldl En.lay2 e).core=e.core∧∀ (x j:Int),0≤x→x < n→1≤j→j≤4→((l.foldl En.lay2 e).has x j=true↔e.has x j=true∨(j=1∧x∈l))
 | [],e,_,h=>⟨h,rfl,fun x j _ _ _ _=>by simp⟩
 | q::l,e,hl,h=>by
  obtain ⟨q0,q1⟩:=hl q (List.mem_cons_self ..)
  obtain ⟨h1,h2,h3⟩:=lay2_all (l:=l) (e:=En.lay2 e q) (fun u hu=>hl u (List.mem_cons_of_mem _ hu)) (h.tell q0 q1 (by omega) (by omega))
  rw [List.foldl_cons]
  refine ⟨h1,h2.trans core_tell,fun x j x0 x1 j0 j1=>?_⟩
  rw [h3 x j x0 x1 j0 j1]
  unfold En.lay2
  rw [has_tell h q0 q1 (by omega) (by omega) x0 x1 j0 j1,Bool.or_eq_true,Bool.and_eq_true,beq_iff_eq,beq_iff_eq,List.mem_cons]
  constructor
  ·rintro ((k | ⟨k1,k2⟩) | ⟨k1,k2⟩)
   ·exact .inl k
   ·exact .inr ⟨k2,.inl k1⟩
   ·exact .inr ⟨k1,.inr k2⟩
  ·rintro (k | ⟨k1,k2 | k2⟩)
   ·exact .inl (.inl k)
   ·exact .inl (.inr ⟨k2,k1⟩)
   ·exact .inr ⟨k1,k2⟩
theorem lay2F_all:∀ {l:List Int} {L:List Bool},L.length=n→(∀ q∈l,0≤q∧q < n)→(l.foldl En.lay2F L).length=n∧∀ (x:Int),0≤x→x < n→(gb (l.foldl En.lay2F L) x=true↔gb L x=true∨x∈l)
 | [],L,hL,_=>⟨hL,fun x _ _=>by simp⟩
 | q::l,L,hL,hl=>by
  obtain ⟨q0,q1⟩:=hl q (List.mem_cons_self ..)
  obtain ⟨h1,h2⟩:=lay2F_all (l:=l) (L:=En.lay2F L q) (by unfold En.lay2F;rw [List.length_set];exact hL) (fun u hu=>hl u (List.mem_cons_of_mem _ hu))
  rw [List.foldl_cons]
  refine ⟨h1,fun x x0 x1=>?_⟩
  rw [h2 x x0 x1]
  unfold En.lay2F
  rw [show gb (L.set q.toNat true) x=if x=q then true else gb L x from getD_setAt hL q0 q1 x0,List.mem_cons]
  split
  ·rename_i e;subst e;simp
  ·rename_i e
   exact ⟨fun k=>k.imp id .inr,fun k=>k.imp id (fun k=>k.elim (fun e2=>absurd e2 e) id)⟩
theorem lay3_all (ht:TOk n m t) {e:En} (h:TM n e):TM n (upto (En.lay3 t) m 0 e)∧(upto (En.lay3 t) m 0 e).core=e.core∧∀ (x j:Int),0≤x→x < n→1≤j→j≤4→((upto (En.lay3 t) m 0 e).has x j=true↔e.has x j=true∨(j=1∧∃ (r:Int),(0≤r∧r < m)∧stT t r=true∧hdT t r=x∧bdT t r=[])):=by
 have:=upto_ind (f:=En.lay3 t) (fun i e2=>TM n e2∧e2.core=e.core∧∀ (x j:Int),0≤x→x < n→1≤j→j≤4→(e2.has x j=true↔e.has x j=true∨(j=1∧∃ (r:Int),(0≤r∧r < i)∧stT t r=true∧hdT t r=x∧bdT t r=[]))) m 0 e (fun i e2 _ hi ⟨a,b,c⟩=>?_) ⟨h,rfl,fun x j _ _ _ _=>⟨.inl,fun k=>k.elim id (fun ⟨_,r,hr,_⟩=>by omega)⟩⟩
 ·rw [Nat.zero_add] at this
  exact this
 ·obtain ⟨⟨h0,h1⟩,_⟩:=ht.rule (r:=(i:Int)) (by omega) (by omega)
  unfold En.lay3
  by_cases hb:((ruleAt t i).1 == 1&&((ruleAt t i).2.2.length == 0))=true
  ·rw [if_pos hb]
   rw [Bool.and_eq_true,beq_iff_eq (b:=0),List.length_eq_zero_iff] at hb
   refine ⟨a.tell h0 h1 (by omega) (by omega),core_tell.trans b,fun x j x0 x1 j0 j1=>?_⟩
   rw [has_tell a h0 h1 (by omega) (by omega) x0 x1 j0 j1,Bool.or_eq_true,Bool.and_eq_true,beq_iff_eq,beq_iff_eq,c x j x0 x1 j0 j1]
   constructor
   ·rintro ((k | ⟨k,r,hr,k2⟩) | ⟨k,k2⟩)
    ·exact .inl k
    ·exact .inr ⟨k,r,by omega,k2⟩
    ·exact .inr ⟨k2,i,by omega,hb.1,k.symm,hb.2⟩
   ·rintro (k | ⟨k,r,hr,k2,k3,k4⟩)
    ·exact .inl (.inl k)
    ·by_cases e:r=i
     ·subst e;exact .inr ⟨k3.symm,k⟩
     ·exact .inl (.inr ⟨k,r,by omega,k2,k3,k4⟩)
  ·rw [if_neg hb]
   refine ⟨a,b,fun x j x0 x1 j0 j1=>?_⟩
   rw [c x j x0 x1 j0 j1]
   refine or_congr Iff.rfl (and_congr Iff.rfl ⟨fun ⟨r,hr,k⟩=>⟨r,by omega,k⟩,fun ⟨r,hr,k2,k3,k4⟩=>⟨r,?_,k2,k3,k4⟩⟩)
   by_cases e:r=i
   ·subst e
    refine absurd ?_ hb
    rw [Bool.and_eq_true]
    exact ⟨k2,by rw [show (ruleAt t i).2.2=[] from k4];rfl⟩
   ·omega
theorem lay4_all {F:List Bool} {e:En} (hls:e.strict.length=n) (h:TM n e):TM n (upto (En.lay4 F) n 0 e)∧(upto (En.lay4 F) n 0 e).core={ e.core with strict:=(upto (En.lay4 F) n 0 e).strict }∧(upto (En.lay4 F) n 0 e).strict.length=n ∧
 (∀ (x j:Int),0≤x→x < n→1≤j→j≤4→((upto (En.lay4 F) n 0 e).has x j=true↔e.has x j=true∨(j=2∧gb F x=false∧gi e.strict x=0)))∧∀ (x:Int),0≤x→x < n→gi (upto (En.lay4 F) n 0 e).strict x=if gb F x=true then -1 else gi e.strict x:=by
 have:=upto_ind (f:=En.lay4 F) (fun i e2=>TM n e2∧e2.core={ e.core with strict:=e2.strict }∧e2.strict.length=n∧(∀ (x j:Int),0≤x→x < n→1≤j→j≤4→(e2.has x j=true↔e.has x j=true∨(j=2∧x < i∧gb F x=false∧gi e.strict x=0)))∧∀ (x:Int),0≤x→x < n→gi e2.strict x=if x < i∧gb F x=true then -1 else gi e.strict x) n 0 e (fun i e2 _ hi ⟨a,b,b2,c,d⟩=>?_) ⟨h,rfl,hls,fun x j x0 _ _ _=>⟨.inl,fun k=>k.elim id (fun ⟨_,hr,_⟩=>by omega)⟩,fun x x0 x1=>by rw [if_neg (by omega)]⟩
 ·rw [Nat.zero_add] at this
  obtain ⟨a,b,b2,c,d⟩:=this
  refine ⟨a,b,b2,fun x j x0 x1 j0 j1=>?_,fun x x0 x1=>?_⟩
  ·rw [c x j x0 x1 j0 j1]
   exact or_congr Iff.rfl (and_congr Iff.rfl ⟨fun k=>k.2,fun k=>⟨x1,k⟩⟩)
  ·rw [d x x0 x1]
   by_cases hf:gb F x=true
   ·rw [if_pos ⟨x1,hf⟩,if_pos hf]
   ·rw [if_neg (fun k=>hf k.2),if_neg hf]
 ·have q0:(0:Int)≤i:=by omega
  have q1:(i:Int) < n:=by omega
  unfold En.lay4
  by_cases hf:F.getD i false=true
  ·rw [if_pos hf]
   have hf2:gb F (i:Int)=true:=hf
   have hset:∀ (x:Int),0≤x→gi (e2.strict.set i (-1)) x=if x=i then -1 else gi e2.strict x:=fun x x0=>getD_setAt (q:=(i:Int)) b2 q0 q1 x0
   refine ⟨a.same rfl rfl,?_,by show (e2.strict.set _ _).length=n;rw [List.length_set];exact b2,fun x j x0 x1 j0 j1=>?_,fun x x0 x1=>?_⟩
   ·show ({ e2.core with strict:=e2.strict.set i (-1) }:Cr)=_
    rw [b]
   ·show e2.has x j=true↔_
    rw [c x j x0 x1 j0 j1]
    refine or_congr Iff.rfl (and_congr Iff.rfl ⟨fun ⟨k,k2⟩=>⟨by omega,k2⟩,fun ⟨k,k2,k3⟩=>⟨?_,k2,k3⟩⟩)
    by_cases e:x=i
    ·subst e;rw [hf2] at k2;cases k2
    ·omega
   ·show gi (e2.strict.set i (-1)) x=_
    rw [hset x x0]
    by_cases e:x=i
    ·subst e;rw [if_pos rfl,if_pos ⟨by omega,hf2⟩]
    ·rw [if_neg e,d x x0 x1]
     by_cases hx:x < i∧gb F x=true
     ·rw [if_pos hx,if_pos ⟨by omega,hx.2⟩]
     ·rw [if_neg hx,if_neg (fun k=>hx ⟨by omega,k.2⟩)]
  ·rw [if_neg hf]
   have hf2:gb F (i:Int)=false:=Bool.eq_false_iff.2 hf
   have hsi:gi e2.strict i=gi e.strict i:=by rw [d i q0 q1,if_neg (fun k=>by omega)]
   have hd2:∀ (x:Int),0≤x→x < n→gi e2.strict x=if x < (i + 1:Nat)∧gb F x=true then -1 else gi e.strict x:=fun x x0 x1=>by
    rw [d x x0 x1]
    by_cases hx:x < i∧gb F x=true
    ·rw [if_pos hx,if_pos ⟨by omega,hx.2⟩]
    ·rw [if_neg hx,if_neg (fun k=>hx ⟨by
      by_cases e:x=i
      ·subst e;rw [hf2] at k;cases k.2
      ·omega,k.2⟩)]
   by_cases hz:(e2.strict.getD i 0 == 0)=true
   ·rw [if_pos hz]
    have hz2:gi e.strict i=0:=by rw [← hsi];exact beq_iff_eq.1 hz
    refine ⟨a.tell q0 q1 (by omega) (by omega),?_,by rw [show (e2.tell i 2).strict=(e2.tell i 2).core.strict from rfl,core_tell];exact b2,fun x j x0 x1 j0 j1=>?_,fun x x0 x1=>?_⟩
    ·rw [show (e2.tell i 2).strict=(e2.tell i 2).core.strict from rfl,core_tell];exact b
    ·rw [has_tell a q0 q1 (by omega) (by omega) x0 x1 j0 j1,Bool.or_eq_true,Bool.and_eq_true,beq_iff_eq,beq_iff_eq,c x j x0 x1 j0 j1]
     constructor
     ·rintro ((k | ⟨k,k2,k3⟩) | ⟨k,k2⟩)
      ·exact .inl k
      ·exact .inr ⟨k,by omega,k3⟩
      ·subst k;exact .inr ⟨k2,by omega,hf2,hz2⟩
     ·rintro (k | ⟨k,k2,k3⟩)
      ·exact .inl (.inl k)
      ·by_cases e:x=i
       ·exact .inr ⟨e,k⟩
       ·exact .inl (.inr ⟨k,by omega,k3⟩)
    ·rw [show (e2.tell i 2).strict=(e2.tell i 2).core.strict from rfl,core_tell];exact hd2 x x0 x1
   ·rw [if_neg hz]
    have hz2:¬ gi e.strict i=0:=by rw [← hsi];exact fun k=>hz (beq_iff_eq.2 k)
    refine ⟨a,b,b2,fun x j x0 x1 j0 j1=>?_,hd2⟩
    rw [c x j x0 x1 j0 j1]
    refine or_congr Iff.rfl (and_congr Iff.rfl ⟨fun ⟨k,k2⟩=>⟨by omega,k2⟩,fun ⟨k,k2,k3⟩=>⟨?_,k2,k3⟩⟩)
    by_cases e:x=i
    ·subst e;exact absurd k3 hz2
    ·omega
end
end Go.Proofs.YtbcdgcodnkgdoaaGreat
namespace Go.Proofs.YtbcdgcodnkgdoaaGreat
open Go Go.RowKit
section
variable {n m:Nat} {t:ThV} {e:En} {q r x k:Int} {i:Nat} {facts:List Int}
theorem lay5f_all:∀ {l:List Int} {e:En},i < n→e.opn.length=n→e.clash.length=n→0≤gi e.opn i→gi e.opn i + l.length≤4096→(l.foldl (En.lay5f i) e)={ e with opn:=(l.foldl (En.lay5f i) e).opn,clash:=(l.foldl (En.lay5f i) e).clash }∧(l.foldl (En.lay5f i) e).opn.length=n∧(l.foldl (En.lay5f i) e).clash.length=n ∧
 (∀ (x:Int),0≤x→x < n→gi (l.foldl (En.lay5f i) e).opn x=if x=i then gi e.opn i + ((l.countP (fun f=>!e.has f 2):Nat):Int) else gi e.opn x)∧∀ (x:Int),0≤x→x < n→gb (l.foldl (En.lay5f i) e).clash x=if x=i then (gb e.clash i || l.any (fun f=>e.has f 1)) else gb e.clash x
 | [],e,_,h1,h2,_,_=>⟨rfl,h1,h2,fun x x0 x1=>by split <;> simp_all,fun x x0 x1=>by split <;> simp_all⟩
 | f::l,e,hi,h1,h2,h3,h4=>by
  rw [List.length_cons] at h4
  have q0:(0:Int)≤i:=by omega
  have q1:(i:Int) < n:=by omega
  have key:∃ e2,En.lay5f i e f=e2∧e2={ e with opn:=e2.opn,clash:=e2.clash }∧e2.opn.length=n∧e2.clash.length=n∧(∀ (x:Int),0≤x→x < n→gi e2.opn x=if x=i then gi e.opn i + (if e.has f 2 then 0 else 1) else gi e.opn x)∧∀ (x:Int),0≤x→x < n→gb e2.clash x=if x=i then (gb e.clash i || e.has f 1) else gb e.clash x:=by
   refine ⟨_,rfl,?_⟩
   unfold En.lay5f
   dsimp only
   have hset:∀ (v:Bool) (x:Int),0≤x→gb (e.clash.set i v) x=if x=i then v else gb e.clash x:=fun v x x0=>getD_setAt (q:=(i:Int)) h2 q0 q1 x0
   by_cases hb:e.has f 2=true
   ·rw [if_pos hb]
    refine ⟨rfl,h1,by simp [h2],fun x x0 x1=>?_,fun x x0 x1=>hset _ x x0⟩
    rw [if_pos hb]
    split
    ·rename_i e3;subst e3;show gi e.opn _=_;omega
    ·rfl
   ·rw [if_neg hb]
    refine ⟨rfl,by show (En.inc _ _).length=n;rw [inc_len];exact h1,by simp [h2],fun x x0 x1=>?_,fun x x0 x1=>hset _ x x0⟩
    rw [if_neg hb]
    show gi (En.inc e.opn i) x=_
    exact gi_inc h1 q0 q1 x0 (by omega) (by omega)
  obtain ⟨e2,he,k0,k1,k2,k3,k4⟩:=key
  rw [List.foldl_cons,he]
  have hm:e2.marks=e.marks:=by rw [k0]
  have hh:∀ x j,e2.has x j=e.has x j:=fun x j=>has_same hm
  have hi3:=k3 i q0 q1
  rw [if_pos rfl] at hi3
  obtain ⟨g0,g1,g2,g3,g4⟩:=lay5f_all (l:=l) (e:=e2) hi k1 k2 (by rw [hi3];split <;> omega) (by rw [hi3];split <;> omega)
  refine ⟨?_,g1,g2,fun x x0 x1=>?_,fun x x0 x1=>?_⟩
  ·generalize l.foldl (En.lay5f i) e2=e3 at *
   rw [g0,k0]
  ·rw [g3 x x0 x1]
   split
   ·rw [hi3,List.countP_cons]
    simp only [hh]
    cases e.has f 2 <;> simp <;> omega
   ·rename_i e3
    rw [k3 x x0 x1,if_neg e3]
  ·rw [g4 x x0 x1]
   split
   ·rw [k4 i q0 q1,if_pos rfl,List.any_cons]
    simp only [hh]
    rw [Bool.or_assoc]
   ·rename_i e3
    rw [k4 x x0 x1,if_neg e3]
theorem lay5_all (ht:TOk n m t) {e:En} (ho:e.opn=List.replicate n 0) (hc:e.clash=List.replicate n false):(upto (En.lay5 t) n 0 e)={ e with opn:=(upto (En.lay5 t) n 0 e).opn,clash:=(upto (En.lay5 t) n 0 e).clash }∧(upto (En.lay5 t) n 0 e).opn.length=n∧(upto (En.lay5 t) n 0 e).clash.length=n ∧
 (∀ (x:Int),0≤x→x < n→gi (upto (En.lay5 t) n 0 e).opn x=(((foT t x).countP (fun f=>!e.has f 2):Nat):Int))∧∀ (x:Int),0≤x→x < n→gb (upto (En.lay5 t) n 0 e).clash x=(foT t x).any (fun f=>e.has f 1):=by
 have:=upto_ind (f:=En.lay5 t) (fun i e2=>e2={ e with opn:=e2.opn,clash:=e2.clash }∧e2.opn.length=n∧e2.clash.length=n∧(∀ (x:Int),0≤x→x < n→gi e2.opn x=if x < i then (((foT t x).countP (fun f=>!e.has f 2):Nat):Int) else 0)∧∀ (x:Int),0≤x→x < n→gb e2.clash x=if x < i then (foT t x).any (fun f=>e.has f 1) else false) n 0 e (fun i e2 _ hi ⟨a,b,c,d,g⟩=>?_) ⟨rfl,by rw [ho];simp,by rw [hc];simp,fun x x0 x1=>by rw [if_neg (by omega),ho];exact gi_rep,fun x x0 x1=>by rw [if_neg (by omega),hc];exact gb_rep⟩
 ·rw [Nat.zero_add] at this
  obtain ⟨a,b,c,d,g⟩:=this
  exact ⟨a,b,c,fun x x0 x1=>by rw [d x x0 x1,if_pos x1],fun x x0 x1=>by rw [g x x0 x1,if_pos x1]⟩
 ·have q0:(0:Int)≤i:=by omega
  have q1:(i:Int) < n:=by omega
  have hf:=(ht.foe q0 q1).1
  have hi0:=d i q0 q1
  rw [if_neg (by omega)] at hi0
  have hi1:=g i q0 q1
  rw [if_neg (by omega)] at hi1
  have hm:e2.marks=e.marks:=by rw [a]
  have hh:∀ x j,e2.has x j=e.has x j:=fun x j=>has_same hm
  obtain ⟨g0,g1,g2,g3,g4⟩:=lay5f_all (l:=rowAt (tFoes t) i) (e:=e2) (i:=i) (by omega) b c (by omega) (by omega)
  unfold En.lay5
  generalize (rowAt (tFoes t) i).foldl (En.lay5f i) e2=e3 at *
  refine ⟨by rw [g0,a],g1,g2,fun x x0 x1=>?_,fun x x0 x1=>?_⟩
  ·rw [g3 x x0 x1]
   by_cases ex:x=i
   ·subst ex
    rw [if_pos rfl,if_pos (by omega),hi0]
    simp only [hh]
    exact Int.zero_add _
   ·rw [if_neg ex,d x x0 x1]
    by_cases hx:x < i
    ·rw [if_pos hx,if_pos (by omega)]
    ·rw [if_neg hx,if_neg (by omega)]
  ·rw [g4 x x0 x1]
   by_cases ex:x=i
   ·subst ex
    rw [if_pos rfl,if_pos (by omega),hi1]
    simp only [hh,Bool.false_or]
   ·rw [if_neg ex,g x x0 x1]
    by_cases hx:x < i
    ·rw [if_pos hx,if_pos (by omega)]
    ·rw [if_neg hx,if_neg (by omega)]
structure L5 (n m:Nat) (t:ThV) (fact:Int→Bool) (e:En):Prop where
 ok:LOk n m e
 tm:TM n e
 h1:∀ (x:Int),0≤x→x < n→(e.has x 1=true↔fact x=true∨∃ (r:Int),(0≤r∧r < m)∧stT t r=true∧hdT t r=x∧bdT t r=[])
 h2:∀ (x:Int),0≤x→x < n→(e.has x 2=true↔fact x=false∧cN m (fun r=>stT t r&&(hdT t r == x))=0)
 h34:∀ (x j:Int),0≤x→x < n→3≤j→j≤4→e.has x j=false
 needD:∀ (r:Int),0≤r→r < m→gi e.needD r=((bdT t r).length:Nat)
 need:∀ (r:Int),0≤r→r < m→gi e.need r=((bdT t r).length:Nat)
 strict:∀ (q:Int),0≤q→q < n→gi e.strict q=if fact q=true then -1 else cN m (fun r=>stT t r&&(hdT t r == q))
 backs:∀ (q:Int),0≤q→q < n→gi e.backs q=cN m (fun r=>supD t r&&(hdT t r == q))
 opn:∀ (q:Int),0≤q→q < n→gi e.opn q=(((foT t q).countP (fun f=>!e.has f 2):Nat):Int)
 clash:∀ (q:Int),0≤q→q < n→gb e.clash q=(foT t q).any (fun f=>e.has f 1)
 rest:e.deadD=List.replicate m false∧e.dead=List.replicate m false∧e.backed=List.replicate n false∧e.attacks=List.replicate n 0∧e.standing=List.replicate n false∧e.pairs=[]
theorem layE_all (ht:TOk n m t) (hfr:∀ q∈facts,0≤q∧q < n):L5 n m t (fun q=>decide (q∈facts)) (En.layE t n m facts):=by
 have hok:=layE_ok ht hfr
 have a:=lay1_all (n:=n) (m:=m) (t:=t) ht
 unfold En.layE at hok ⊢
 generalize upto (En.lay1 t) m 0 (En.lay0 n m)=e1 at *
 have ae:=a.eq
 have hm1:e1.marks=List.replicate n 0:=by rw [ae];rfl
 have ht1:e1.told=[]:=by rw [ae];rfl
 obtain ⟨b1,b2,b3⟩:=lay2_all (l:=facts) (e:=e1) hfr (TM.new hm1 ht1)
 generalize facts.foldl En.lay2 e1=e2 at *
 obtain ⟨c1,c2,c3⟩:=lay3_all (t:=t) ht b1
 generalize upto (En.lay3 t) m 0 e2=e3 at *
 have hc3:e3.core=e1.core:=c2.trans b2
 have hst:e3.strict=e1.strict:=congrArg Cr.strict hc3
 obtain ⟨F,hF⟩:∃ F,F=facts.foldl En.lay2F (List.replicate n false):=⟨_,rfl⟩
 obtain ⟨_,f2⟩:=lay2F_all (n:=n) (l:=facts) (L:=List.replicate n false) (by simp) hfr
 rw [← hF] at f2 hok ⊢
 have hFf:∀ (x:Int),0≤x→x < n→gb F x=decide (x∈facts):=fun x x0 x1=>by
  refine Bool.eq_iff_iff.2 ?_
  rw [f2 x x0 x1,decide_eq_true_iff]
  exact ⟨fun k=>k.elim (fun k=>by rw [gb_rep] at k;cases k) id,.inr⟩
 obtain ⟨d1,d2,d3,d4,d5⟩:=lay4_all (F:=F) (e:=e3) (by rw [hst];exact a.ok.ok.strict) c1
 generalize upto (En.lay4 F) n 0 e3=e4 at *
 have hc4:e4.core={ e1.core with strict:=e4.strict }:=by rw [d2,hc3]
 have ho4:e4.opn=List.replicate n 0:=by
  have:=congrArg Cr.opn hc4
  exact this.trans (by show e1.opn=_;rw [ae];rfl)
 have hcl4:e4.clash=List.replicate n false:=by
  have:=congrArg Cr.clash hc4
  exact this.trans (by show e1.clash=_;rw [ae];rfl)
 obtain ⟨g0,g1,g2,g3,g4⟩:=lay5_all (t:=t) ht ho4 hcl4
 generalize upto (En.lay5 t) n 0 e4=e5 at *
 have hm5:e5.marks=e4.marks:=by rw [g0]
 have ht5:e5.told=e4.told:=by rw [g0]
 have hh5:∀ x j,e5.has x j=e4.has x j:=fun x j=>has_same hm5
 have z:∀ x j,1≤j→j≤4→e1.has x j=false:=fun x j=>has_zero hm1
 have y1:∀ (f:En→List Int) (g:Cr→List Int),(∀ e,g e.core=f e)→True:=fun _ _ _=>trivial
 have w1:e5.needD=e1.needD:=by rw [g0];exact congrArg Cr.needD hc4
 have w2:e5.need=e1.need:=by rw [g0];exact congrArg Cr.need hc4
 have w3:e5.strict=e4.strict:=by rw [g0]
 have w4:e5.backs=e1.backs:=by rw [g0];exact congrArg Cr.backs hc4
 refine ⟨hok,d1.same hm5 ht5,fun x x0 x1=>?_,fun x x0 x1=>?_,fun x j x0 x1 j0 j1=>?_,fun r r0 r1=>by rw [w1];exact a.needD r r0 r1,fun r r0 r1=>by rw [w2];exact a.need r r0 r1,fun q q0 q1=>?_,fun q q0 q1=>by rw [w4];exact a.backs q q0 q1,fun q q0 q1=>by simp only [hh5];exact g3 q q0 q1,fun q q0 q1=>by simp only [hh5];exact g4 q q0 q1,?_⟩
 ·rw [hh5,d4 x 1 x0 x1 (by omega) (by omega),c3 x 1 x0 x1 (by omega) (by omega),b3 x 1 x0 x1 (by omega) (by omega),z x 1 (by omega) (by omega),decide_eq_true_iff]
  constructor
  ·rintro (((k | k) | k) | k)
   ·cases k
   ·exact .inl k.2
   ·exact .inr k.2
   ·omega
  ·rintro (k | k)
   ·exact .inl (.inl (.inr ⟨rfl,k⟩))
   ·exact .inl (.inr ⟨rfl,k⟩)
 ·rw [hh5,d4 x 2 x0 x1 (by omega) (by omega),c3 x 2 x0 x1 (by omega) (by omega),b3 x 2 x0 x1 (by omega) (by omega),z x 2 (by omega) (by omega),hFf x x0 x1,hst,a.strict x x0 x1]
  constructor
  ·rintro (((k | k) | k) | k)
   ·cases k
   ·omega
   ·omega
   ·exact k.2
  ·exact fun k=>.inr ⟨rfl,k⟩
 ·rw [hh5]
  refine Bool.eq_false_iff.2 fun k=>?_
  rw [d4 x j x0 x1 (by omega) (by omega),c3 x j x0 x1 (by omega) (by omega),b3 x j x0 x1 (by omega) (by omega),z x j (by omega) (by omega)] at k
  rcases k with ((k | k) | k) | k
  ·cases k
  ·omega
  ·omega
  ·omega
 ·rw [w3,d5 q q0 q1,hFf q q0 q1,hst,a.strict q q0 q1]
 ·have v:=hc4
  refine ⟨?_,?_,?_,?_,?_,?_⟩
  ·rw [g0];exact (congrArg Cr.deadD v).trans (by show e1.deadD=_;rw [ae];rfl)
  ·rw [g0];exact (congrArg Cr.dead v).trans (by show e1.dead=_;rw [ae];rfl)
  ·rw [g0];exact (congrArg Cr.backed v).trans (by show e1.backed=_;rw [ae];rfl)
  ·rw [g0];exact (congrArg Cr.attacks v).trans (by show e1.attacks=_;rw [ae];rfl)
  ·rw [g0];exact (congrArg Cr.standing v).trans (by show e1.standing=_;rw [ae];rfl)
  ·rw [g0];exact (congrArg Cr.pairs v).trans (by show e1.pairs=_;rw [ae];rfl)
end
end Go.Proofs.YtbcdgcodnkgdoaaGreat
namespace Go.Proofs.YtbcdgcodnkgdoaaGreat
open Go Go.RowKit
section
variable {n m:Nat} {t:ThV} {e:En} {q r x k:Int} {i:Nat} {facts:List Int} {L:List (List Int)}
theorem push_len {b:Int}:(pushAt L b r).length=L.length:=by unfold pushAt;rw [List.length_set]
theorem row_push {b:Int} (hL:L.length=n) (b0:0≤b) (b1:b < n) (x0:0≤x):rowAt (pushAt L b r) x=if x=b then rowAt L b++[r] else rowAt L x:=getD_setAt hL b0 b1 x0
theorem pushes_row:∀ {l:List Int} {L:List (List Int)},L.length=n→l.Nodup→(∀ b∈l,0≤b∧b < n)→(l.foldl (fun l b=>pushAt l b r) L).length=n∧∀ (x:Int),0≤x→rowAt (l.foldl (fun l b=>pushAt l b r) L) x=if x∈l then rowAt L x++[r] else rowAt L x
 | [],L,hL,_,_=>⟨hL,fun x _=>by simp⟩
 | b::l,L,hL,hn,hl=>by
  rw [List.nodup_cons] at hn
  obtain ⟨b0,b1⟩:=hl b (List.mem_cons_self ..)
  obtain ⟨h1,h2⟩:=pushes_row (l:=l) (L:=pushAt L b r) (by rw [push_len];exact hL) hn.2 (fun u hu=>hl u (List.mem_cons_of_mem _ hu))
  rw [List.foldl_cons]
  refine ⟨h1,fun x x0=>?_⟩
  rw [h2 x x0,row_push hL b0 b1 x0]
  by_cases e:x=b
  ·subst e
   rw [if_neg hn.1,if_pos rfl,if_pos (by simp)]
  ·rw [if_neg e]
   by_cases hx:x∈l
   ·rw [if_pos hx,if_pos (by simp [hx])]
   ·rw [if_neg hx,if_neg (by simp [hx,e])]
theorem row_rep:rowAt (List.replicate n []) q=[]:=by
 show (List.replicate n []).getD q.toNat []=[]
 rw [List.getD_eq_getElem?_getD,List.getElem?_replicate]
 split <;> rfl
theorem layIn_all (hk:THk n m t):∀ (q:Int),0≤q→q < n→(rowAt (En.layIn t n m) q).Nodup∧∀ r,r∈rowAt (En.layIn t n m) q↔(0≤r∧r < m)∧q∈bdT t r:=by
 have ht:=hk.tok
 have:=upto_ind (f:=En.lay1I t) (fun i L=>L.length=n∧∀ (q:Int),0≤q→q < n→(rowAt L q).Nodup∧∀ r,r∈rowAt L q↔(0≤r∧r < i)∧q∈bdT t r) m 0 (List.replicate n []) (fun i L _ hi ⟨a,b⟩=>?_) ⟨by simp,fun q q0 q1=>by rw [row_rep];exact ⟨List.nodup_nil,fun r=>⟨fun k=>(by cases k),fun k=>by omega⟩⟩⟩
 ·rw [Nat.zero_add] at this
  exact this.2
 ·have i0:(0:Int)≤i:=by omega
  have i1:(i:Int) < m:=by omega
  obtain ⟨_,_,hb⟩:=ht.rule i0 i1
  obtain ⟨h1,h2⟩:=pushes_row (r:=(i:Int)) (l:=bdT t i) a (hk.body i i0 i1) hb
  refine ⟨h1,fun q q0 q1=>?_⟩
  obtain ⟨b1,b2⟩:=b q q0 q1
  show (rowAt ((bdT t i).foldl (fun l b=>pushAt l b i) L) q).Nodup∧_
  unfold En.lay1I
  rw [h2 q q0]
  by_cases hq:q∈bdT t i
  ·rw [if_pos hq]
   refine ⟨?_,fun r=>?_⟩
   ·rw [List.nodup_append]
    refine ⟨b1,by simp,fun u hu v hv=>?_⟩
    rw [List.mem_singleton] at hv
    subst hv
    have:=((b2 u).1 hu).1.2
    omega
   ·rw [List.mem_append,List.mem_singleton,b2 r]
    constructor
    ·rintro (⟨k,k2⟩ | k)
     ·exact ⟨by omega,k2⟩
     ·subst k;exact ⟨by omega,hq⟩
    ·rintro ⟨k,k2⟩
     by_cases e:r=i
     ·exact .inr e
     ·exact .inl ⟨by omega,k2⟩
  ·rw [if_neg hq]
   refine ⟨b1,fun r=>?_⟩
   rw [b2 r]
   constructor
   ·rintro ⟨k,k2⟩;exact ⟨by omega,k2⟩
   ·rintro ⟨k,k2⟩
    by_cases e:r=i
    ·subst e;exact absurd k2 hq
    ·exact ⟨by omega,k2⟩
end
abbrev len64 (x:En):Int:=(x.pairs.length:Nat)
structure P1 (n m K:Nat) (e:En) (D:Int→Int→Prop) (x:En.PS):Prop where
 eq:x.e={ e with pairs:=x.e.pairs,attacks:=x.e.attacks }
 most:x.e.pairs.length≤K
 lat:x.e.attacks.length=n
 ld:x.d.length=n
 lof:x.of.length=m
 att:∀ (q:Int),0≤q→q < n→gi x.e.attacks q=cN x.e.pairs.length (fun p=>(x.e.pair p).1 == q)
 of:∀ (s:Int),0≤s→s < m→(rowAt x.of s).Nodup∧∀ p,p∈rowAt x.of s↔(0≤p∧p < len64 x.e)∧(x.e.pair p).2.1=s
 src:∀ (p:Int),0≤p→p < len64 x.e→D (x.e.pair p).1 (x.e.pair p).2.1∧gi e.backs (x.e.pair p).1≠0∧(x.e.pair p).2.2=(false,0)
 get:∀ (q s p:Int),0≤q→q < n→0≤s→s < m→getM (x.d.getD q.toNat []) s=some p→(0≤p∧p < len64 x.e)∧(x.e.pair p).1=q∧(x.e.pair p).2.1=s
 cov:∀ (q s:Int),0≤q→q < n→0≤s→s < m→D q s→gi e.backs q≠0→∃ p,getM (x.d.getD q.toNat []) s=some p
 one:∀ (p p':Int),0≤p→p < len64 x.e→0≤p'→p' < len64 x.e→(x.e.pair p).1=(x.e.pair p').1→(x.e.pair p).2.1=(x.e.pair p').2.1→p=p'
section
variable {n m K:Nat} {t:ThV} {e:En} {q s p:Int} {D D':Int→Int→Prop} {x:En.PS}
theorem P1.cg (h:P1 n m K e D x) (hD:∀ q s,D' q s↔D q s):P1 n m K e D' x:=by
 have:D'=D:=by funext q s;exact propext (hD q s)
 rw [this];exact h
theorem P1.up {K':Nat} (h:P1 n m K e D x) (hK:K≤K'):P1 n m K' e D x:=⟨h.eq,Nat.le_trans h.most hK,h.lat,h.ld,h.lof,h.att,h.of,h.src,h.get,h.cov,h.one⟩
theorem getD_app {α:Type} {l:List α} {v d:α} {p:Int} (p0:0≤p) (p1:p≤l.length):(l++[v]).getD p.toNat d=if p=l.length then v else l.getD p.toNat d:=by
 rw [List.getD_eq_getElem?_getD,List.getD_eq_getElem?_getD]
 by_cases e:p=l.length
 ·rw [if_pos e,List.getElem?_append_right (by omega),show p.toNat - l.length=0 by omega]
  rfl
 ·rw [if_neg e,List.getElem?_append_left (by omega)]
theorem P1.step {s:Nat} (hK:K≤1000000) (h:P1 n m K e D x) (q0:0≤q) (q1:q < n) (s1:s < m) (hn:¬ D q s):P1 n m (K + 1) e (fun q' s'=>D q' s'∨(q'=q∧s'=s)) (En.pairA s x q):=by
 have hbk:x.e.backs=e.backs:=by rw [h.eq]
 unfold En.pairA
 by_cases hz:(x.e.backs.getD q.toNat 0 == 0)=true
 ·rw [if_pos hz]
  rw [hbk] at hz
  have hz2:gi e.backs q=0:=beq_iff_eq.1 hz
  refine ⟨h.eq,Nat.le_succ_of_le h.most,h.lat,h.ld,h.lof,h.att,h.of,fun p p0 p1=>⟨.inl (h.src p p0 p1).1,(h.src p p0 p1).2⟩,h.get,fun q' s' a b c d hD hb=>?_,h.one⟩
  rcases hD with hD | ⟨rfl,rfl⟩
  ·exact h.cov q' s' a b c d hD hb
  ·exact absurd hz2 hb
 ·rw [if_neg hz]
  have hz2:gi e.backs q≠0:=fun k=>hz (by rw [hbk];exact beq_iff_eq.2 k)
  obtain ⟨N,hN⟩:∃ N,N=x.e.pairs.length:=⟨_,rfl⟩
  have hmost:=h.most
  have hpx:∀ (p:Int),0≤p→p≤N→(x.e.pairs++[(q,(s:Int),false,0)]).getD p.toNat (0,0,false,0)=if p=N then (q,(s:Int),false,0) else x.e.pair p:=fun p p0 p1=>by rw [hN];exact getD_app p0 (by rw [← hN];exact p1)
  have hlen:(x.e.pairs++[(q,(s:Int),false,0)]).length=N + 1:=by rw [hN];simp
  have hR:=h.att q q0 q1
  have c1:=cN_nonneg x.e.pairs.length (fun p=>(x.e.pair p).1 == q)
  have c2:=cN_le x.e.pairs.length (fun p=>(x.e.pair p).1 == q)
  refine ⟨?_,by rw [hlen];omega,by show (En.inc _ _).length=n;rw [inc_len];exact h.lat,by simp [h.ld],by show (pushAt _ _ _).length=m;rw [push_len];exact h.lof,fun y y0 y1=>?_,fun s' s0' s1'=>?_,fun p p0 p1=>?_,fun q' s' p a0 a1 b0 b1 hg=>?_,fun q' s' a0 a1 b0 b1 hD hb=>?_,fun p p' a0 a1 b0 b1 e1 e2=>?_⟩
  ·show ({ x.e with pairs:=_,attacks:=_ }:En)=_
   rw [h.eq]
  ·show gi (En.inc x.e.attacks q) y=cN (x.e.pairs++[(q,(s:Int),false,0)]).length (fun p=>((x.e.pairs++[(q,(s:Int),false,0)]).getD p.toNat (0,0,false,0)).1 == y)
   rw [gi_inc h.lat q0 q1 y0 (by omega) (by omega),hlen,cN_succ,hpx N (by omega) (by omega),if_pos rfl]
   have hc:cN N (fun p=>((x.e.pairs++[(q,(s:Int),false,0)]).getD p.toNat (0,0,false,0)).1 == y)=cN N (fun p=>(x.e.pair p).1 == y):=cN_congr fun p p0 p1=>by rw [hpx p p0 (by omega),if_neg (by omega)]
   rw [hc]
   have ha:=h.att y y0 y1
   rw [← hN] at ha
   by_cases ey:y=q
   ·subst ey
    rw [if_pos rfl,if_pos (by simp),ha]
   ·rw [if_neg ey,if_neg (by rw [beq_iff_eq];exact fun k=>ey k.symm),ha]
    omega
  ·show (rowAt (pushAt x.of s _) s').Nodup∧∀ p,p∈rowAt (pushAt x.of s _) s'↔(0≤p∧p < ((x.e.pairs++[(q,(s:Int),false,0)]).length:Nat))∧((x.e.pairs++[(q,(s:Int),false,0)]).getD p.toNat (0,0,false,0)).2.1=s'
   rw [row_push h.lof (by omega) (by omega) s0',hlen,← hN]
   obtain ⟨o1,o2⟩:=h.of s' s0' s1'
   by_cases es:s'=s
   ·subst es
    rw [if_pos rfl]
    refine ⟨?_,fun p=>?_⟩
    ·rw [List.nodup_append]
     refine ⟨o1,by simp,fun u hu v hv=>?_⟩
     rw [List.mem_singleton] at hv
     subst hv
     have:=((o2 u).1 hu).1.2
     dsimp only [len64] at this
     omega
    ·rw [List.mem_append,List.mem_singleton,o2 p]
     dsimp only [len64]
     constructor
     ·rintro (⟨k,k2⟩ | k)
      ·exact ⟨by omega,by rw [hpx p k.1 (by omega),if_neg (by omega)];exact k2⟩
      ·subst k;exact ⟨by omega,by rw [hpx N (by omega) (by omega),if_pos rfl]⟩
     ·rintro ⟨k,k2⟩
      by_cases e1:p=N
      ·exact .inr e1
      ·rw [hpx p k.1 (by omega),if_neg e1] at k2
       exact .inl ⟨by omega,k2⟩
   ·rw [if_neg es]
    refine ⟨o1,fun p=>?_⟩
    rw [o2 p]
    dsimp only [len64]
    constructor
    ·rintro ⟨k,k2⟩
     exact ⟨by omega,by rw [hpx p k.1 (by omega),if_neg (by omega)];exact k2⟩
    ·rintro ⟨k,k2⟩
     rw [hpx p k.1 (by omega)] at k2
     by_cases e1:p=N
     ·rw [if_pos e1] at k2
      exact absurd k2.symm es
     ·rw [if_neg e1] at k2
      exact ⟨by omega,k2⟩
  ·have p1':p < ((x.e.pairs++[(q,(s:Int),false,0)]).length:Nat):=p1
   rw [hlen] at p1'
   show (D ((x.e.pairs++[(q,(s:Int),false,0)]).getD p.toNat (0,0,false,0)).1 ((x.e.pairs++[(q,(s:Int),false,0)]).getD p.toNat (0,0,false,0)).2.1∨((x.e.pairs++[(q,(s:Int),false,0)]).getD p.toNat (0,0,false,0)).1=q∧((x.e.pairs++[(q,(s:Int),false,0)]).getD p.toNat (0,0,false,0)).2.1=(s:Int))∧gi e.backs ((x.e.pairs++[(q,(s:Int),false,0)]).getD p.toNat (0,0,false,0)).1≠0∧((x.e.pairs++[(q,(s:Int),false,0)]).getD p.toNat (0,0,false,0)).2.2=(false,0)
   rw [hpx p p0 (by omega)]
   by_cases e1:p=N
   ·rw [if_pos e1]
    exact ⟨.inr ⟨rfl,rfl⟩,hz2,rfl⟩
   ·rw [if_neg e1]
    obtain ⟨k1,k2⟩:=h.src p p0 (by dsimp only [len64];omega)
    exact ⟨.inl k1,k2⟩
  ·show (0≤p∧p < ((x.e.pairs++[(q,(s:Int),false,0)]).length:Nat))∧((x.e.pairs++[(q,(s:Int),false,0)]).getD p.toNat (0,0,false,0)).1=q'∧((x.e.pairs++[(q,(s:Int),false,0)]).getD p.toNat (0,0,false,0)).2.1=s'
   have hg2:getM ((x.d.set q.toNat (putM (x.d.getD q.toNat []) (s:Int) (x.e.pairs.length:Int))).getD q'.toNat []) s'=some p:=hg
   rw [getD_setAt h.ld q0 q1 a0] at hg2
   rw [hlen]
   have old:getM (x.d.getD q'.toNat []) s'=some p→(0≤p∧p < ((N + 1:Nat):Int))∧((x.e.pairs++[(q,(s:Int),false,0)]).getD p.toNat (0,0,false,0)).1=q'∧((x.e.pairs++[(q,(s:Int),false,0)]).getD p.toNat (0,0,false,0)).2.1=s':=fun hg3=>by
    obtain ⟨k1,k2,k3⟩:=h.get q' s' p a0 a1 b0 b1 hg3
    dsimp only [len64] at k1
    refine ⟨by omega,?_⟩
    rw [hpx p k1.1 (by omega),if_neg (by omega)]
    exact ⟨k2,k3⟩
   by_cases eq:q'=q
   ·rw [if_pos eq,getM_put] at hg2
    by_cases es:(s:Int)=s'
    ·rw [if_pos es] at hg2
     injection hg2 with hg2
     rw [← hN] at hg2
     subst hg2
     refine ⟨by omega,?_⟩
     rw [hpx N (by omega) (by omega),if_pos rfl]
     exact ⟨eq.symm,es⟩
    ·rw [if_neg es] at hg2
     exact old (by rw [eq];exact hg2)
   ·rw [if_neg eq] at hg2
    exact old hg2
  ·show ∃ p,getM ((x.d.set q.toNat (putM (x.d.getD q.toNat []) (s:Int) (x.e.pairs.length:Int))).getD q'.toNat []) s'=some p
   rw [getD_setAt h.ld q0 q1 a0]
   by_cases eq:q'=q
   ·rw [if_pos eq,getM_put]
    by_cases es:(s:Int)=s'
    ·rw [if_pos es];exact ⟨_,rfl⟩
    ·rw [if_neg es]
     rcases hD with hD | hD
     ·rw [← eq];exact h.cov q' s' a0 a1 b0 b1 hD hb
     ·exact absurd hD.2.symm es
   ·rw [if_neg eq]
    rcases hD with hD | hD
    ·exact h.cov q' s' a0 a1 b0 b1 hD hb
    ·exact absurd hD.1 eq
  ·have a1':p < ((x.e.pairs++[(q,(s:Int),false,0)]).length:Nat):=a1
   have b1':p' < ((x.e.pairs++[(q,(s:Int),false,0)]).length:Nat):=b1
   rw [hlen] at a1' b1'
   have e1':((x.e.pairs++[(q,(s:Int),false,0)]).getD p.toNat (0,0,false,0)).1=((x.e.pairs++[(q,(s:Int),false,0)]).getD p'.toNat (0,0,false,0)).1:=e1
   have e2':((x.e.pairs++[(q,(s:Int),false,0)]).getD p.toNat (0,0,false,0)).2.1=((x.e.pairs++[(q,(s:Int),false,0)]).getD p'.toNat (0,0,false,0)).2.1:=e2
   rw [hpx p a0 (by omega),hpx p' b0 (by omega)] at e1' e2'
   by_cases c1:p=N
   ·by_cases c2:p'=N
    ·omega
    ·rw [if_pos c1,if_neg c2] at e1' e2'
     obtain ⟨k1,_⟩:=h.src p' b0 (by dsimp only [len64];omega)
     rw [← e1',← e2'] at k1
     exact absurd k1 hn
   ·by_cases c2:p'=N
    ·rw [if_neg c1,if_pos c2] at e1' e2'
     obtain ⟨k1,_⟩:=h.src p a0 (by dsimp only [len64];omega)
     rw [e1',e2'] at k1
     exact absurd k1 hn
    ·rw [if_neg c1,if_neg c2] at e1' e2'
     exact h.one p p' a0 (by dsimp only [len64];omega) b0 (by dsimp only [len64];omega) e1' e2'
theorem P1.steps {s:Nat} (s1:s < m):∀ {l:List Int} {K:Nat} {D:Int→Int→Prop} {x:En.PS},K + l.length≤1000000→l.Nodup→(∀ q∈l,(0≤q∧q < n)∧¬ D q s)→P1 n m K e D x→P1 n m (K + l.length) e (fun q' s'=>D q' s'∨(q'∈l∧s'=s)) (l.foldl (En.pairA s) x)
 | [],K,D,x,_,_,_,h=>h.cg (fun q s=>by simp)
 | q::l,K,D,x,hK,hn,hl,h=>by
  rw [List.nodup_cons] at hn
  rw [List.length_cons] at hK
  obtain ⟨⟨q0,q1⟩,hq⟩:=hl q (List.mem_cons_self ..)
  have:=P1.steps s1 (l:=l) (K:=K + 1) (by omega) hn.2 (fun u hu=>⟨(hl u (List.mem_cons_of_mem _ hu)).1,fun k=>k.elim (hl u (List.mem_cons_of_mem _ hu)).2 (fun k=>hn.1 (k.1 ▸ hu))⟩) (h.step (s:=s) (by omega) q0 q1 s1 hq)
  rw [List.foldl_cons,List.length_cons,show K + (l.length + 1)=K + 1 + l.length by omega]
  refine this.cg fun q' s'=>?_
  rw [List.mem_cons]
  constructor
  ·rintro (k | ⟨k | k,k2⟩)
   ·exact .inl (.inl k)
   ·exact .inl (.inr ⟨k,k2⟩)
   ·exact .inr ⟨k,k2⟩
  ·rintro ((k | k) | k)
   ·exact .inl k
   ·exact .inr ⟨.inl k.1,k.2⟩
   ·exact .inr ⟨.inr k.1,k.2⟩
theorem pair1_all (hk:THk n m t) {e:En} (ha:e.attacks=List.replicate n 0) (hp:e.pairs=[]):P1 n m (64 * m) e (fun q s=>(0≤s∧s < m)∧q∈foT t (hdT t s)) (En.pair1 t n m e):=by
 have ht:=hk.tok
 have hm:=ht.small.2
 have hpr:∀ (p:Int),0≤p→p < len64 e→False:=fun p p0 p1=>by
  dsimp only [len64] at p1
  rw [hp] at p1
  simp only [List.length_nil] at p1
  omega
 have:=upto_ind (f:=En.pairAs t) (fun i x=>P1 n m (64 * i) e (fun q s=>(0≤s∧s < i)∧q∈foT t (hdT t s)) x) m 0 ⟨List.replicate n [],List.replicate m [],e⟩ (fun i x _ hi h=>?_) ?_
 ·rw [Nat.zero_add] at this
  exact this
 ·obtain ⟨⟨h0,h1⟩,_⟩:=ht.rule (r:=(i:Int)) (by omega) (by omega)
  obtain ⟨f1,f2⟩:=ht.foe h0 h1
  have:=P1.steps (s:=i) (by omega) (l:=foT t (hdT t i)) (K:=64 * i) (by show 64 * i + (rowAt (tFoes t) (ruleAt t i).2.1).length≤_;omega) (hk.foes _ h0 h1) (fun q hq=>⟨f2 q hq,fun k=>by omega⟩) h
  refine P1.cg (P1.up this (by show 64 * i + (rowAt (tFoes t) (ruleAt t i).2.1).length≤_;omega)) (fun q s=>?_)
  constructor
  ·rintro ⟨k,k2⟩
   by_cases e1:s=i
   ·subst e1;exact .inr ⟨k2,rfl⟩
   ·exact .inl ⟨by omega,k2⟩
  ·rintro (⟨k,k2⟩ | ⟨k,k2⟩)
   ·exact ⟨by omega,k2⟩
   ·subst k2;exact ⟨by omega,k⟩
 ·refine ⟨rfl,by rw [hp];simp,by rw [ha];simp,by simp,by simp,fun q q0 q1=>?_,fun s s0 s1=>?_,fun p p0 p1=>(hpr p p0 p1).elim,fun q s p _ _ _ _ hg=>?_,fun q s _ _ _ _ hD _=>by omega,fun p p' p0 p1 _ _ _ _=>(hpr p p0 p1).elim⟩
  ·show gi e.attacks q=cN e.pairs.length _
   rw [ha,gi_rep,hp];rfl
  ·show (rowAt (List.replicate m []) s).Nodup∧∀ p,p∈rowAt (List.replicate m []) s↔_
   rw [row_rep]
   exact ⟨List.nodup_nil,fun p=>⟨fun k=>(by cases k),fun k=>(hpr p k.1.1 k.1.2).elim⟩⟩
  ·have hg2:getM ((List.replicate n []).getD q.toNat []) s=some p:=hg
   rw [show (List.replicate n ([]:List (Int × Int))).getD q.toNat []=[] by rw [List.getD_eq_getElem?_getD,List.getElem?_replicate];split <;> rfl] at hg2
   cases hg2
end
end Go.Proofs.YtbcdgcodnkgdoaaGreat
namespace Go.Proofs.YtbcdgcodnkgdoaaGreat
open Go Go.RowKit
structure P2 (n m np:Nat) (e:En) (hd':Int→Int) (D:Int→Int→Prop) (x:En.PT):Prop where
 eq:x.e={ e with pairs:=x.e.pairs }
 len:x.e.pairs.length=np
 lb:x.bts.length=m
 same:∀ (p:Int),0≤p→p < np→(x.e.pair p).1=(e.pair p).1∧(x.e.pair p).2.1=(e.pair p).2.1∧(x.e.pair p).2.2.1=(e.pair p).2.2.1
 nd:∀ (r:Int),0≤r→r < m→(rowAt x.bts r).Nodup
 mem:∀ (r p:Int),0≤r→r < m→(p∈rowAt x.bts r↔(0≤p∧p < np)∧(e.pair p).1=hd' r∧D r (e.pair p).2.1)
 left:∀ (p:Int),0≤p→p < np→(x.e.pair p).2.2.2=cN m (fun r=>decide (p∈rowAt x.bts r))
section
variable {n m np:Nat} {t:ThV} {e:En} {q s p:Int} {D D':Int→Int→Prop} {x:En.PT} {hd':Int→Int} {d:List (List (Int × Int))}
theorem P2.cg (h:P2 n m np e hd' D x) (hD:∀ q s,D' q s↔D q s):P2 n m np e hd' D' x:=by
 have:D'=D:=by funext q s;exact propext (hD q s)
 rw [this];exact h
theorem P2.step {r:Nat} (hm:m≤4096) (h:P2 n m np e hd' D x) (r1:r < m) (hp:∃ p,En.pairP d (hd' r) s=p∧(0≤p∧p < np)∧(e.pair p).1=hd' r∧(e.pair p).2.1=s)
 (hone:∀ (p p':Int),0≤p→p < np→0≤p'→p' < np→(e.pair p).1=(e.pair p').1→(e.pair p).2.1=(e.pair p').2.1→p=p') (hn:¬ D r s):P2 n m np e hd' (fun r' s'=>D r' s'∨(r'=r∧s'=s)) (En.pairB d (hd' r) r x s):=by
 obtain ⟨p,hpe,⟨p0,p1⟩,hpq,hps⟩:=hp
 unfold En.pairB
 rw [hpe]
 have hnot:p∉rowAt x.bts r:=fun k=>hn (by have:=((h.mem r p (by omega) (by omega)).1 k).2.2;rw [hps] at this;exact this)
 have hrow:∀ (r':Int),0≤r'→rowAt (pushAt x.bts r p) r'=if r'=r then rowAt x.bts r++[p] else rowAt x.bts r':=fun r' r0'=>row_push h.lb (by omega) (by omega) r0'
 have hl:=h.left p p0 p1
 have c1:=cN_nonneg m (fun r=>decide (p∈rowAt x.bts r))
 have c2:=cN_le m (fun r=>decide (p∈rowAt x.bts r))
 have hw:En.w64 ((x.e.pair p).2.2.2 + 1)=(x.e.pair p).2.2.2 + 1:=w64_id (by omega) (by omega)
 rw [hw]
 have hpx:∀ (y:Int),0≤y→(x.e.pairs.set p.toNat ((x.e.pair p).1,(x.e.pair p).2.1,(x.e.pair p).2.2.1,(x.e.pair p).2.2.2 + 1)).getD y.toNat (0,0,false,0)=if y=p then ((x.e.pair p).1,(x.e.pair p).2.1,(x.e.pair p).2.2.1,(x.e.pair p).2.2.2 + 1) else x.e.pair y:=fun y y0=>pair_put h.len p0 p1 y0
 refine ⟨?_,by simp [h.len],by show (pushAt _ _ _).length=m;rw [push_len];exact h.lb,fun y y0 y1=>?_,fun r' r0' r1'=>?_,fun r' y r0' r1'=>?_,fun y y0 y1=>?_⟩
 ·show ({ x.e with pairs:=_ }:En)=_
  rw [h.eq]
 ·show ((x.e.pairs.set p.toNat _).getD y.toNat (0,0,false,0)).1=_∧((x.e.pairs.set p.toNat _).getD y.toNat (0,0,false,0)).2.1=_∧((x.e.pairs.set p.toNat _).getD y.toNat (0,0,false,0)).2.2.1=_
  rw [hpx y y0]
  split
  ·rename_i ey;subst ey;exact h.same y y0 y1
  ·exact h.same y y0 y1
 ·show (rowAt (pushAt x.bts r p) r').Nodup
  rw [hrow r' r0']
  split
  ·rename_i er
   rw [List.nodup_append]
   refine ⟨er ▸ h.nd r' r0' r1',by simp,fun u hu v hv=>?_⟩
   rw [List.mem_singleton] at hv
   subst hv
   exact fun k=>hnot (k ▸ hu)
  ·exact h.nd r' r0' r1'
 ·show y∈rowAt (pushAt x.bts r p) r'↔_
  rw [hrow r' r0']
  by_cases er:r'=r
  ·rw [if_pos er,List.mem_append,List.mem_singleton,← er,h.mem r' y r0' r1']
   constructor
   ·rintro (⟨k,k2,k3⟩ | k)
    ·exact ⟨k,k2,.inl k3⟩
    ·subst k;exact ⟨⟨p0,p1⟩,by rw [hpq,er],.inr ⟨rfl,hps⟩⟩
   ·rintro ⟨k,k2,k3 | k3⟩
    ·exact .inl ⟨k,k2,k3⟩
    ·exact .inr (hone y p k.1 k.2 p0 p1 (by rw [k2,hpq,er]) (by rw [k3.2,hps]))
  ·rw [if_neg er,h.mem r' y r0' r1']
   refine and_congr Iff.rfl (and_congr Iff.rfl ⟨.inl,fun k=>k.elim id (fun k=>absurd k.1 er)⟩)
 ·show ((x.e.pairs.set p.toNat _).getD y.toNat (0,0,false,0)).2.2.2=cN m (fun r'=>decide (y∈rowAt (pushAt x.bts r p) r'))
  rw [hpx y y0]
  by_cases ey:y=p
  ·subst ey
   rw [if_pos rfl]
   show (x.e.pair y).2.2.2 + 1=_
   rw [hl]
   have:=cN_less (m:=m) (r:=(r:Int)) (f:=fun r'=>decide (y∈rowAt (pushAt x.bts r y) r')) (g:=fun r'=>decide (y∈rowAt x.bts r')) (by omega) (by omega) (by simp only [hrow r (by omega)];simp) (by simp only [decide_eq_false hnot]) (fun i i0 i1 hi=>by simp only [hrow i i0,if_neg hi])
   omega
  ·rw [if_neg ey,h.left y y0 y1]
   refine cN_congr fun i i0 i1=>?_
   rw [hrow i i0]
   split
   ·rename_i ei
    rw [ei]
    refine Bool.eq_iff_iff.2 ?_
    rw [decide_eq_true_iff,decide_eq_true_iff,List.mem_append,List.mem_singleton]
    exact ⟨.inl,fun k=>k.elim id (fun k=>absurd k ey)⟩
   ·rfl
theorem P2.steps {r:Nat} (hm:m≤4096) (r1:r < m)
 (hone:∀ (p p':Int),0≤p→p < np→0≤p'→p' < np→(e.pair p).1=(e.pair p').1→(e.pair p).2.1=(e.pair p').2.1→p=p'):∀ {l:List Int} {D:Int→Int→Prop} {x:En.PT},l.Nodup→(∀ s∈l,(∃ p,En.pairP d (hd' r) s=p∧(0≤p∧p < np)∧(e.pair p).1=hd' r∧(e.pair p).2.1=s)∧¬ D r s)→P2 n m np e hd' D x→P2 n m np e hd' (fun r' s'=>D r' s'∨(r'=r∧s'∈l)) (l.foldl (En.pairB d (hd' r) r) x)
 | [],D,x,_,_,h=>h.cg (fun q s=>by simp)
 | s::l,D,x,hn,hl,h=>by
  rw [List.nodup_cons] at hn
  obtain ⟨h1,h2⟩:=hl s (List.mem_cons_self ..)
  have:=P2.steps hm r1 hone (l:=l) hn.2 (fun u hu=>⟨(hl u (List.mem_cons_of_mem _ hu)).1,fun k=>k.elim (hl u (List.mem_cons_of_mem _ hu)).2 (fun k=>hn.1 (k.2 ▸ hu))⟩) (h.step hm r1 h1 hone h2)
  rw [List.foldl_cons]
  refine this.cg fun q' s'=>?_
  rw [List.mem_cons]
  constructor
  ·rintro (k | ⟨k,k2 | k2⟩)
   ·exact .inl (.inl k)
   ·exact .inl (.inr ⟨k,k2⟩)
   ·exact .inr ⟨k,k2⟩
  ·rintro ((k | k) | k)
   ·exact .inl k
   ·exact .inr ⟨k.1,.inl k.2⟩
   ·exact .inr ⟨k.1,.inr k.2⟩
variable {fact:Int→Bool}
theorem has_back {e:En} (h:L5 n m t fact e) {r:Int} (hk:THk n m t) (r0:0≤r) (r1:r < m) (hs:supD t r=true):gi e.backs (hdT t r)≠0:=by
 obtain ⟨⟨h0,h1⟩,_⟩:=hk.tok.rule r0 r1
 rw [h.backs _ h0 h1]
 have:=cN_pos (m:=m) (r:=r) (f:=fun r'=>supD t r'&&(hdT t r' == hdT t r)) r0 r1 (by simp only [hs];simp)
 intro hz
 rw [hz] at this
 omega
theorem pair_there {e:En} (h:L5 n m t fact e) (hk:THk n m t) {r:Int} (r0:0≤r) (r1:r < m) (hs:supD t r=true) (hx:s∈btT t r):∃ p,getM ((En.pair1 t n m e).d.getD (hdT t r).toNat []) s=some p∧(0≤p∧p < len64 (En.pair1 t n m e).e)∧((En.pair1 t n m e).e.pair p).1=hdT t r∧((En.pair1 t n m e).e.pair p).2.1=s:=by
 have ht:=hk.tok
 obtain ⟨_,_,_,ha,_,hp⟩:=h.rest
 have h1:=pair1_all hk ha hp
 obtain ⟨⟨g0,g1⟩,_⟩:=ht.rule r0 r1
 obtain ⟨s0,s1⟩:=(ht.beat r0 r1).2 s hx
 obtain ⟨⟨f0,f1⟩,_⟩:=ht.rule s0 s1
 obtain ⟨p,hp⟩:=h1.cov (hdT t r) s g0 g1 s0 s1 ⟨⟨s0,s1⟩,hk.sym _ g0 g1 _ (hk.beatf r r0 r1 s hx)⟩ (has_back h hk r0 r1 hs)
 exact ⟨p,hp,h1.get _ _ _ g0 g1 s0 s1 hp⟩
theorem pair2_all {e:En} (h:L5 n m t fact e) (hk:THk n m t):P2 n m (En.pair1 t n m e).e.pairs.length (En.pair1 t n m e).e (hdT t) (fun r s=>supD t r=true∧s∈btT t r) (En.pair2 t n m e):=by
 have ht:=hk.tok
 have hm:=ht.small.2
 obtain ⟨_,_,_,ha,_,hp⟩:=h.rest
 have h1:=pair1_all hk ha hp
 have:=upto_ind (f:=En.pairBs t (En.pair1 t n m e).d) (fun i x=>P2 n m (En.pair1 t n m e).e.pairs.length (En.pair1 t n m e).e (hdT t) (fun r s=>r < i∧supD t r=true∧s∈btT t r) x) m 0 ⟨List.replicate m [],(En.pair1 t n m e).e⟩ (fun i x _ hi h2=>?_) ?_
 ·rw [Nat.zero_add] at this
  unfold En.pair2
  generalize upto (En.pairBs t (En.pair1 t n m e).d) m 0 ⟨List.replicate m [],(En.pair1 t n m e).e⟩=x at *
  refine ⟨this.eq,this.len,this.lb,this.same,this.nd,fun r p r0 r1=>?_,this.left⟩
  rw [this.mem r p r0 r1]
  exact and_congr Iff.rfl (and_congr Iff.rfl ⟨fun k=>k.2,fun k=>⟨r1,k⟩⟩)
 ·have i0:(0:Int)≤i:=by omega
  have i1:(i:Int) < m:=by omega
  unfold En.pairBs
  by_cases hs:supD t i=true
  ·rw [if_pos hs]
   have:=P2.steps (d:=(En.pair1 t n m e).d) (hd':=hdT t) (r:=i) hm (by omega) h1.one (l:=btT t i) (hk.beats i i0 i1) (fun s hs2=>⟨?_,fun k=>by omega⟩) h2
   ·refine P2.cg this (fun r s=>?_)
    constructor
    ·rintro ⟨k,k2,k3⟩
     by_cases er:r=i
     ·subst er;exact .inr ⟨rfl,k3⟩
     ·exact .inl ⟨by omega,k2,k3⟩
    ·rintro (⟨k,k2⟩ | ⟨k,k2⟩)
     ·exact ⟨by omega,k2⟩
     ·subst k;exact ⟨by omega,hs,k2⟩
   ·obtain ⟨p,hp1,hp2⟩:=pair_there h hk i0 i1 hs hs2
    refine ⟨p,?_,hp2⟩
    unfold En.pairP
    rw [hp1];rfl
  ·rw [if_neg hs]
   refine P2.cg h2 (fun r s=>⟨fun ⟨k,k2,k3⟩=>⟨?_,k2,k3⟩,fun ⟨k,k2⟩=>⟨by omega,k2⟩⟩)
   by_cases er:r=i
   ·subst er;exact absurd k2 hs
   ·omega
 ·refine ⟨rfl,rfl,by simp,fun p _ _=>⟨rfl,rfl,rfl⟩,fun r r0 r1=>?_,fun r p r0 r1=>?_,fun p p0 p1=>?_⟩
  ·show (rowAt (List.replicate m []) r).Nodup
   rw [row_rep];exact List.nodup_nil
  ·show p∈rowAt (List.replicate m []) r↔_
   rw [row_rep]
   exact ⟨fun k=>(by cases k),fun k=>by omega⟩
  ·show ((En.pair1 t n m e).e.pair p).2.2.2=cN m (fun r=>decide (p∈rowAt (List.replicate m []) r))
   rw [(h1.src p p0 p1).2.2]
   refine (cN_zero.2 fun i i0 i1=>?_).symm
   rw [row_rep];rfl
variable {facts:List Int}
theorem hlook_of (hk:THk n m t) (hfr:∀ q∈facts,0≤q∧q < n):HLook t n m facts:=fun r r1 hs s hx=>by
 obtain ⟨p,h1,h2,_⟩:=pair_there (layE_all hk.tok hfr) hk (r:=(r:Int)) (by omega) (by omega) hs hx
 exact ⟨p,h1,h2⟩
abbrev pqL (t:ThV) (n m:Nat) (facts:List Int) (p:Int):Int:=((En.pair1 t n m (En.layE t n m facts)).e.pair p).1
abbrev psL (t:ThV) (n m:Nat) (facts:List Int) (p:Int):Int:=((En.pair1 t n m (En.layE t n m facts)).e.pair p).2.1
abbrev npL (t:ThV) (n m:Nat) (facts:List Int):Nat:=(En.pair1 t n m (En.layE t n m facts)).e.pairs.length
theorem lay_con (hk:THk n m t) (hfr:∀ q∈facts,0≤q∧q < n):Con n m (npL t n m facts) (En.layS t n m facts) (pqL t n m facts) (psL t n m facts)∧ConP n m (npL t n m facts) (En.layS t n m facts) (pqL t n m facts) (psL t n m facts):=by
 have ht:=hk.tok
 have h:=layE_all ht hfr
 obtain ⟨_,_,_,ha,_,hp⟩:=h.rest
 have h1:=pair1_all hk ha hp
 have h2:=pair2_all h hk
 obtain ⟨np,hnp,hnpe,hof,hbt,hkD⟩:=layD_ok ht hfr (hlook_of hk hfr)
 have hes:=layS_ok (facts:=facts) ht hof hbt
 have hin:=layIn_all hk
 have hpr:=pair1_ok ht (layE_ok ht hfr)
 have hnp2:npL t n m facts=np:=hnpe.symm
 have hrange:∀ (p:Int),0≤p→p < npL t n m facts→(0≤pqL t n m facts p∧pqL t n m facts p < n)∧0≤psL t n m facts p∧psL t n m facts p < m:=fun p p0 p1=>hpr.e.pair p0 p1
 refine ⟨⟨by rw [hnp2];exact hes,by rw [hnp2];exact hnp,fun r r0 r1=>⟨hk.body r r0 r1,(ht.rule r0 r1).2⟩,fun r r0 r1=>(ht.rule r0 r1).1,hin,fun r r0 r1=>h1.of r r0 r1,fun r r0 r1=>⟨h2.nd r r0 r1,fun p hp=>?_⟩,hrange,fun q q0 q1=>⟨hk.foes q q0 q1,ht.foe q0 q1⟩⟩,⟨hk.sym,fun p p0 p1=>?_,fun q x q0 q1 x0 x1 hx ⟨r,hr,hs,hq⟩=>?_,fun x p x0 x1 p0 p1=>?_,h1.one,fun p p0 p1=>?_⟩⟩
 ·obtain ⟨k1,k2,k3,k4⟩:=(h2.mem r p r0 r1).1 hp
  exact ⟨k1,k3,k2⟩
 ·obtain ⟨⟨_,k⟩,_⟩:=h1.src p p0 p1
  have hr:=hrange p p0 p1
  have hh:=(ht.rule hr.2.1 hr.2.2).1
  exact hk.sym _ hh.1 hh.2 _ k
 ·have hb:=has_back h hk hr.1 hr.2 hs
  rw [show hdT t r=q from hq] at hb
  have hh:=(ht.rule x0 x1).1
  obtain ⟨p,hp⟩:=h1.cov q x q0 q1 x0 x1 ⟨⟨x0,x1⟩,hk.sym q q0 q1 _ hx⟩ hb
  exact ⟨p,h1.get _ _ _ q0 q1 x0 x1 hp⟩
 ·have:=h2.mem x p x0 x1
  show p∈rowAt (En.pair2 t n m (En.layE t n m facts)).bts x↔_
  rw [this]
  exact ⟨fun ⟨_,k2,k3,k4⟩=>⟨k3,k2.symm,k4⟩,fun ⟨k1,k2,k3⟩=>⟨⟨p0,p1⟩,k2.symm,k1,k3⟩⟩
 ·have hb:=(h1.src p p0 p1).2.1
  have hr:=hrange p p0 p1
  rw [h.backs _ hr.1.1 hr.1.2] at hb
  obtain ⟨r,hr,hf⟩:=cN_ex hb
  rw [Bool.and_eq_true,beq_iff_eq] at hf
  exact ⟨r,hr,hf.1,hf.2⟩
end
end Go.Proofs.YtbcdgcodnkgdoaaGreat
namespace Go.Proofs.YtbcdgcodnkgdoaaGreat
open Go Go.RowKit
section
variable {n m np:Nat} {t:ThV} {e e1 e2:En} {q s p r x:Int} {S:Es} {pq ps:Int→Int} {i:Nat} {c2:Cr}
theorem core_lay6p:(En.lay6p e p).core=e.core.settle p:=by
 unfold En.lay6p Cr.settle
 show (if (e.core.pair p).2.2.1=true then e else _).core=_
 split <;> rfl
theorem lay6p_mt:(En.lay6p e p).marks=e.marks∧(En.lay6p e p).told=e.told:=by unfold En.lay6p;split <;> exact ⟨rfl,rfl⟩
theorem lay6ps_mt:∀ {l:List Int} {e:En},(l.foldl En.lay6p e).marks=e.marks∧(l.foldl En.lay6p e).told=e.told
 | [],e=>⟨rfl,rfl⟩
 | p::l,e=>by
  obtain ⟨h1,h2⟩:=lay6ps_mt (l:=l) (e:=En.lay6p e p)
  obtain ⟨g1,g2⟩:=lay6p_mt (e:=e) (p:=p)
  exact ⟨h1.trans g1,h2.trans g2⟩
theorem lay6qs:∀ {l:List Int} {e:En},e.standing.length=n→PrOk n np pq ps e.core→(∀ p∈l,(0≤p∧p < np)∧(0≤pq p∧pq p < n))→(l.foldl En.lay6q e).marks=e.marks∧(l.foldl En.lay6q e).told=e.told∧(l.foldl En.lay6q e).core={ e.core with standing:=(l.foldl En.lay6q e).standing }∧(l.foldl En.lay6q e).standing.length=n∧∀ (q:Int),0≤q→q < n→(gb (l.foldl En.lay6q e).standing q=true↔gb e.standing q=true∨∃ p,p∈l∧pq p=q∧e.core.left p=0)
 | [],e,h,_,_=>⟨rfl,rfl,rfl,h,fun q _ _=>⟨.inl,fun k=>k.elim id (fun ⟨p,hp,_⟩=>by cases hp)⟩⟩
 | p::l,e,h,hp,hl=>by
  obtain ⟨⟨p0,p1⟩,q0,q1⟩:=hl p (List.mem_cons_self ..)
  have hpp:=(hp.prq p p0 p1).1
  have key:∃ e2,En.lay6q e p=e2∧e2.marks=e.marks∧e2.told=e.told∧e2.core={ e.core with standing:=e2.standing }∧e2.standing.length=n∧∀ (q:Int),0≤q→q < n→(gb e2.standing q=true↔gb e.standing q=true∨(pq p=q∧e.core.left p=0)):=by
   refine ⟨_,rfl,?_⟩
   unfold En.lay6q
   rw [show (e.pair p).1=pq p from hpp]
   by_cases hz:((e.pair p).2.2.2 == 0)=true
   ·rw [if_pos hz]
    have hz2:e.core.left p=0:=beq_iff_eq.1 hz
    refine ⟨rfl,rfl,rfl,by simp [h],fun q g0 g1=>?_⟩
    show gb (e.standing.set (pq p).toNat true) q=true↔_
    rw [show gb (e.standing.set (pq p).toNat true) q=if q=pq p then true else gb e.standing q from getD_setAt h q0 q1 g0]
    split
    ·rename_i e3;exact ⟨fun _=>.inr ⟨e3.symm,hz2⟩,fun _=>rfl⟩
    ·rename_i e3;exact ⟨.inl,fun k=>k.elim id (fun k=>absurd k.1.symm e3)⟩
   ·rw [if_neg hz]
    exact ⟨rfl,rfl,rfl,h,fun q g0 g1=>⟨.inl,fun k=>k.elim id (fun k=>absurd (beq_iff_eq.2 k.2) hz)⟩⟩
  obtain ⟨e2,he,k1,k2,k3,k4,k5⟩:=key
  rw [List.foldl_cons,he]
  have hpr:e2.core.pairs=e.core.pairs:=by rw [k3]
  have hl2:∀ x,e2.core.left x=e.core.left x:=fun x=>by unfold Cr.left Cr.pair;rw [hpr]
  obtain ⟨g1,g2,g3,g4,g5⟩:=lay6qs (l:=l) (e:=e2) k4 (hp.congr hpr (by rw [k3])) (fun p hp=>hl p (List.mem_cons_of_mem _ hp))
  refine ⟨g1.trans k1,g2.trans k2,by rw [g3,k3],g4,fun q a0 a1=>?_⟩
  rw [g5 q a0 a1,k5 q a0 a1]
  constructor
  ·rintro ((k | k) | ⟨y,hy,k,k'⟩)
   ·exact .inl k
   ·exact .inr ⟨p,List.mem_cons_self ..,k⟩
   ·exact .inr ⟨y,List.mem_cons_of_mem _ hy,k,by rw [← hl2];exact k'⟩
  ·rintro (k | ⟨y,hy,k,k'⟩)
   ·exact .inl (.inl k)
   ·rcases List.mem_cons.1 hy with rfl | hy
    ·exact .inl (.inr ⟨k,k'⟩)
    ·exact .inr ⟨y,hy,k,by rw [hl2];exact k'⟩
structure L6 (n m np:Nat) (S:Es) (pq ps:Int→Int) (e2:En) (i:Nat) (e:En):Prop where
 mt:e.marks=e2.marks∧e.told=e2.told
 eq:e.core={ e2.core with backed:=e.backed,pairs:=e.pairs,attacks:=e.attacks,standing:=e.standing }
 pr:PrOk n np pq ps e.core
 lbd:e.backed.length=n
 lsd:e.standing.length=n
 backed:∀ (q:Int),0≤q→q < n→(gb e.backed q=true↔∃ (r:Int),(0≤r∧r < i)∧supD S.t r=true∧hdT S.t r=q∧bdT S.t r=[])
 sett:∀ (p:Int),0≤p→p < np→(e.core.sett p=true↔∃ (r:Int),(0≤r∧r < i)∧p∈rowAt S.beats r∧bdT S.t r=[])
 left:∀ (p:Int),0≤p→p < np→e.core.left p=e2.core.left p
 stand:∀ (q:Int),0≤q→q < n→(gb e.standing q=true↔∃ (p:Int),(0≤p∧p < np)∧pq p=q∧(0≤ps p∧ps p < i)∧bdT S.t (ps p)=[]∧e2.core.left p=0)
theorem lay6_step (hc:Con n m np S pq ps) (hi:i < m) (h:L6 n m np S pq ps e2 i e):L6 n m np S pq ps e2 (i + 1) (En.lay6 S.t S.of S.beats e i):=by
 have i0:(0:Int)≤i:=by omega
 have i1:(i:Int) < m:=by omega
 obtain ⟨h0,h1⟩:=hc.head i i0 i1
 have hof:=(hc.of i i0 i1).2
 have hbt:=(hc.beats i i0 i1).2
 unfold En.lay6
 by_cases hb:0 < (bdT S.t i).length
 ·rw [if_pos (decide_eq_true hb)]
  have hne:bdT S.t i≠[]:=fun k=>by rw [k] at hb;simp at hb
  have hnot:∀ {P:Int→Prop} {r:Int},(0≤r∧r < (i + 1:Nat))→bdT S.t r=[]→(0≤r∧r < i):=fun {P} {r} hr hz=>by
   by_cases er:r=i
   ·subst er;exact absurd hz hne
   ·omega
  refine ⟨h.mt,h.eq,h.pr,h.lbd,h.lsd,fun q q0 q1=>?_,fun p p0 p1=>?_,h.left,fun q q0 q1=>?_⟩
  ·rw [h.backed q q0 q1]
   exact ⟨fun ⟨r,a,b⟩=>⟨r,by omega,b⟩,fun ⟨r,a,b⟩=>⟨r,hnot (P:=fun _=>True) a b.2.2,b⟩⟩
  ·rw [h.sett p p0 p1]
   exact ⟨fun ⟨r,a,b⟩=>⟨r,by omega,b⟩,fun ⟨r,a,b⟩=>⟨r,hnot (P:=fun _=>True) a b.2,b⟩⟩
  ·rw [h.stand q q0 q1]
   exact ⟨fun ⟨p,a,b,c,d⟩=>⟨p,a,b,by omega,d⟩,fun ⟨p,a,b,c,d⟩=>⟨p,a,b,hnot (P:=fun _=>True) c d.1,d⟩⟩
 ·rw [if_neg (by rw [decide_eq_true_iff];exact hb)]
  have hz:bdT S.t i=[]:=List.length_eq_zero_iff.1 (by omega)
  -- those that it beats are settled
  have key:∃ e3,(if supD S.t i=true then (rowAt S.beats i).foldl En.lay6p { e with backed:=e.backed.set (ruleAt S.t i).2.1.toNat true } else e)=e3∧(e3.marks=e.marks∧e3.told=e.told)∧e3.core={ e.core with backed:=e3.backed,pairs:=e3.pairs,attacks:=e3.attacks }∧PrOk n np pq ps e3.core∧e3.backed.length=n ∧
   (∀ (q:Int),0≤q→q < n→(gb e3.backed q=true↔gb e.backed q=true∨(supD S.t i=true∧hdT S.t i=q)))∧(∀ (p:Int),0≤p→p < np→(e3.core.sett p=true↔e.core.sett p=true∨p∈rowAt S.beats i))∧∀ (p:Int),0≤p→p < np→e3.core.left p=e.core.left p:=by
   refine ⟨_,rfl,?_⟩
   by_cases hs:supD S.t i=true
   ·rw [if_pos hs]
    have hset:∀ (x:Int),0≤x→gb (e.backed.set (ruleAt S.t i).2.1.toNat true) x=if x=(ruleAt S.t i).2.1 then true else gb e.backed x:=fun x x0=>getD_setAt h.lbd h0 h1 x0
    obtain ⟨g1,g2⟩:=lay6ps_mt (l:=rowAt S.beats i) (e:={ e with backed:=e.backed.set (ruleAt S.t i).2.1.toNat true })
    have hcs:=fold_core (f:=En.lay6p) (g:=Cr.settle) (fun _ _=>core_lay6p) (l:=rowAt S.beats i) (e:={ e with backed:=e.backed.set (ruleAt S.t i).2.1.toNat true })
    obtain ⟨k1,k2⟩:=settles_ok hc (L:=rowAt S.beats i) (c:=({ e with backed:=e.backed.set (ruleAt S.t i).2.1.toNat true }:En).core) (h.pr.congr rfl rfl) (fun p hp=>(hbt p hp).1)
    rw [← hcs] at k1 k2
    generalize (rowAt S.beats i).foldl En.lay6p { e with backed:=e.backed.set (ruleAt S.t i).2.1.toNat true }=e3 at *
    have ke:=k2.eq
    have kb:e3.backed=e.backed.set (ruleAt S.t i).2.1.toNat true:=congrArg Cr.backed ke
    refine ⟨⟨g1,g2⟩,by rw [kb];exact ke,k1,by rw [kb];simp [h.lbd],fun q q0 q1=>?_,fun p p0 p1=>?_,fun p p0 p1=>k2.left p p0 p1⟩
    ·rw [kb,hset q q0]
     split
     ·rename_i eq;exact ⟨fun _=>.inr ⟨hs,eq.symm⟩,fun _=>rfl⟩
     ·rename_i eq;exact ⟨.inl,fun k=>k.elim id (fun k=>absurd k.2.symm eq)⟩
    ·rw [k2.sett p p0 p1,Bool.or_eq_true,List.contains_iff_mem]
     exact Iff.rfl
   ·rw [if_neg hs]
    exact ⟨⟨rfl,rfl⟩,rfl,h.pr,h.lbd,fun q q0 q1=>⟨.inl,fun k=>k.elim id (fun k=>absurd k.1 hs)⟩,fun p p0 p1=>⟨.inl,fun k=>k.elim id (fun k=>absurd (hbt p k).2.1 hs)⟩,fun p p0 p1=>rfl⟩
  obtain ⟨e3,he,k1,k2,k3,k4,k5,k6,k7⟩:=key
  rw [he]
  have hsd:e3.standing=e.standing:=congrArg Cr.standing k2
  obtain ⟨g1,g2,g3,g4,g5⟩:=lay6qs (l:=rowAt S.of i) (e:=e3) (by rw [hsd];exact h.lsd) k3 (fun p hp=>⟨((hof p).1 hp).1,(hc.pr p ((hof p).1 hp).1.1 ((hof p).1 hp).1.2).1⟩)
  generalize (rowAt S.of i).foldl En.lay6q e3=e4 at *
  have hp4:e4.core.pairs=e3.core.pairs:=by rw [g3]
  have hs4:∀ x,e4.core.sett x=e3.core.sett x:=fun x=>by unfold Cr.sett Cr.pair;rw [hp4]
  have hl4:∀ x,e4.core.left x=e3.core.left x:=fun x=>by unfold Cr.left Cr.pair;rw [hp4]
  have hb4:e4.backed=e3.backed:=congrArg Cr.backed g3
  have x1:e4.pairs=e3.pairs:=hp4
  have x2:e4.attacks=e3.attacks:=congrArg Cr.attacks g3
  refine ⟨⟨g1.trans (k1.1.trans h.mt.1),g2.trans (k1.2.trans h.mt.2)⟩,?_,k3.congr hp4 (by rw [g3]),by rw [hb4];exact k4,g4,fun q q0 q1=>?_,fun p p0 p1=>?_,fun p p0 p1=>by rw [hl4,k7 p p0 p1];exact h.left p p0 p1,fun q q0 q1=>?_⟩
  ·rw [g3,k2,h.eq,hb4,x1,x2]
  ·rw [hb4,k5 q q0 q1,h.backed q q0 q1]
   constructor
   ·rintro (⟨r,a,b⟩ | ⟨a,b⟩)
    ·exact ⟨r,by omega,b⟩
    ·exact ⟨i,by omega,a,b,hz⟩
   ·rintro ⟨r,a,b,c,d⟩
    by_cases er:r=i
    ·subst er;exact .inr ⟨b,c⟩
    ·exact .inl ⟨r,by omega,b,c,d⟩
  ·rw [hs4,k6 p p0 p1,h.sett p p0 p1]
   constructor
   ·rintro (⟨r,a,b⟩ | a)
    ·exact ⟨r,by omega,b⟩
    ·exact ⟨i,by omega,a,hz⟩
   ·rintro ⟨r,a,b,c⟩
    by_cases er:r=i
    ·subst er;exact .inr b
    ·exact .inl ⟨r,by omega,b,c⟩
  ·rw [g5 q q0 q1,hsd,h.stand q q0 q1]
   constructor
   ·rintro (⟨p,a,b,c,d⟩ | ⟨p,a,b,c⟩)
    ·exact ⟨p,a,b,by omega,d⟩
    ·have hpr:=(hof p).1 a
     rw [k7 p hpr.1.1 hpr.1.2,h.left p hpr.1.1 hpr.1.2] at c
     exact ⟨p,hpr.1,b,by omega,by rw [hpr.2];exact hz,c⟩
   ·rintro ⟨p,a,b,c,d,g⟩
    by_cases er:ps p=i
    ·exact .inr ⟨p,(hof p).2 ⟨a,er⟩,b,by rw [k7 p a.1 a.2,h.left p a.1 a.2];exact g⟩
    ·exact .inl ⟨p,a,b,by omega,d,g⟩
end
end Go.Proofs.YtbcdgcodnkgdoaaGreat
namespace Go.Proofs.YtbcdgcodnkgdoaaGreat
open Go Go.RowKit
section
variable {n m:Nat} {t:ThV} {facts:List Int}
abbrev factB (facts:List Int) (q:Int):Bool:=decide (q∈facts)
abbrev laidB (t:ThV) (n m:Nat) (facts:List Int) (q k:Int):Bool:=decide ((q,k)∈(En.layD t n m facts).told)
abbrev noPr:Int→Int→Bool:=fun _ _=>false
theorem countP_all {l:List Int}:l.countP (fun _=>!false)=l.length:=by
 rw [List.countP_eq_length];intro a _;rfl
structure LayOk (n m:Nat) (t:ThV) (facts:List Int):Prop where
 con:Con n m (npL t n m facts) (En.layS t n m facts) (pqL t n m facts) (psL t n m facts)
 conp:ConP n m (npL t n m facts) (En.layS t n m facts) (pqL t n m facts) (psL t n m facts)
 ok:EnOk n m (npL t n m facts) (En.layD t n m facts)
 tm:TM n (En.layD t n m facts)
 can:Can n m (npL t n m facts) (En.layS t n m facts) (pqL t n m facts) (psL t n m facts) (factB facts) (laidB t n m facts) noPr (En.layD t n m facts).core
 ks:Ks n m (En.layS t n m facts) (factB facts) (fun _ b k=>noPr b k) (En.layD t n m facts)
 h34:∀ (x j:Int),0≤x→x < n→3≤j→j≤4→(En.layD t n m facts).has x j=false
 opn:∀ (q:Int),0≤q→q < n→gi (En.layD t n m facts).opn q=(((foT t q).countP (fun f=>!(En.layD t n m facts).has f 2):Nat):Int)
 clash:∀ (q:Int),0≤q→q < n→gb (En.layD t n m facts).clash q=(foT t q).any (fun f=>(En.layD t n m facts).has f 1)
 up:(En.layD t n m facts).up=0
 needD:∀ (r:Int),0≤r→r < m→gi (En.layD t n m facts).needD r=((bdT t r).length:Nat)
theorem layD_all (hk:THk n m t) (hfr:∀ q∈facts,0≤q∧q < n):LayOk n m t facts:=by
 have ht:=hk.tok
 have h:=layE_all ht hfr
 obtain ⟨r1,r2,r3,ha,r5,hp⟩:=h.rest
 have h1:=pair1_all hk ha hp
 have h2:=pair2_all h hk
 obtain ⟨np,hnp,hnpe,_,_,hok⟩:=layD_ok ht hfr (hlook_of hk hfr)
 obtain ⟨hc,hcp⟩:=lay_con hk hfr
 rw [hnpe] at hok
 change EnOk n m (npL t n m facts) _ at hok
 obtain ⟨e5,he5⟩:∃ e5,e5=En.layE t n m facts:=⟨_,rfl⟩
 obtain ⟨x2,hx2⟩:∃ x2,x2=En.pair2 t n m (En.layE t n m facts):=⟨_,rfl⟩
 have e2c:x2.e.core={ e5.core with pairs:=x2.e.pairs,attacks:=x2.e.attacks }:=by
  have a:=h2.eq
  have b:=h1.eq
  rw [← hx2] at a
  rw [← he5] at b a
  generalize En.pair1 t n m e5=x1 at *
  have:x2.e.attacks=x1.e.attacks:=by rw [a]
  rw [this,a,b]
  rfl
 have e2m:x2.e.marks=e5.marks∧x2.e.told=e5.told:=by
  have a:=h2.eq
  have b:=h1.eq
  rw [← hx2] at a
  rw [← he5] at b a
  generalize En.pair1 t n m e5=x1 at *
  rw [a,b]
  exact ⟨rfl,rfl⟩
 rw [← hx2] at h2
 rw [← he5] at h r1 r2 r3 r5
 have hsame:∀ (p:Int),0≤p→p < npL t n m facts→(x2.e.pair p).1=pqL t n m facts p∧(x2.e.pair p).2.1=psL t n m facts p∧(x2.e.pair p).2.2.1=false:=fun p p0 p1=>by
  obtain ⟨a,b,c⟩:=h2.same p p0 p1
  refine ⟨a,b,c.trans ?_⟩
  have:=(h1.src p p0 p1).2.2
  exact congrArg Prod.fst this
 have hpr2:PrOk n (npL t n m facts) (pqL t n m facts) (psL t n m facts) x2.e.core:=by
  have hat:x2.e.attacks=(En.pair1 t n m (En.layE t n m facts)).e.attacks:=by rw [h2.eq]
  refine ⟨h2.len,by show x2.e.attacks.length=n;rw [hat];exact h1.lat,fun p p0 p1=>⟨(hsame p p0 p1).1,(hsame p p0 p1).2.1⟩,fun q q0 q1=>?_⟩
  show gi x2.e.attacks q=_
  rw [hat,h1.att q q0 q1]
  refine cN_congr fun p p0 p1=>?_
  rw [show x2.e.core.sett p=false from (hsame p p0 p1).2.2]
  simp
 -- rules without a body
 have h6:=upto_ind (f:=En.lay6 t (En.layS t n m facts).of (En.layS t n m facts).beats) (fun i e=>L6 n m (npL t n m facts) (En.layS t n m facts) (pqL t n m facts) (psL t n m facts) x2.e i e) m 0 x2.e (fun i e _ hi hh=>lay6_step hc (by omega) hh) (by
  have b1:x2.e.backed=List.replicate n false:=(congrArg Cr.backed e2c).trans r3
  have b2:x2.e.standing=List.replicate n false:=(congrArg Cr.standing e2c).trans r5
  refine ⟨⟨rfl,rfl⟩,rfl,hpr2,by rw [b1];simp,by rw [b2];simp,fun q q0 q1=>?_,fun p p0 p1=>?_,fun p _ _=>rfl,fun q q0 q1=>?_⟩
  ·rw [b1,gb_rep]
   exact ⟨fun k=>(by cases k),fun ⟨r,a,_⟩=>by omega⟩
  ·rw [show x2.e.core.sett p=false from (hsame p p0 p1).2.2]
   exact ⟨fun k=>(by cases k),fun ⟨r,a,_⟩=>by omega⟩
  ·rw [b2,gb_rep]
   exact ⟨fun k=>(by cases k),fun ⟨r,a,b,c,_⟩=>by omega⟩)
 rw [Nat.zero_add] at h6
 have hD:En.layD t n m facts={ upto (En.lay6 t (En.layS t n m facts).of (En.layS t n m facts).beats) m 0 x2.e with up:=0 }:=by rw [hx2];rfl
 generalize upto (En.lay6 t (En.layS t n m facts).of (En.layS t n m facts).beats) m 0 x2.e=e6 at *
 have hcore:(En.layD t n m facts).core=e6.core:=by rw [hD];rfl
 have hmk:(En.layD t n m facts).marks=e5.marks:=by rw [hD];exact h6.mt.1.trans e2m.1
 have htd:(En.layD t n m facts).told=e5.told:=by rw [hD];exact h6.mt.2.trans e2m.2
 have hh:∀ x j,(En.layD t n m facts).has x j=e5.has x j:=fun x j=>has_same hmk
 have htm:TM n (En.layD t n m facts):=h.tm.same hmk htd
 -- the counters,one by one
 have c6:e6.core={ e5.core with backed:=e6.backed,pairs:=e6.pairs,attacks:=e6.attacks,standing:=e6.standing }:=by rw [h6.eq,e2c]
 have w1:e6.needD=e5.needD:=congrArg Cr.needD c6
 have w2:e6.need=e5.need:=congrArg Cr.need c6
 have w3:e6.deadD=List.replicate m false:=(congrArg Cr.deadD c6).trans r1
 have w4:e6.dead=List.replicate m false:=(congrArg Cr.dead c6).trans r2
 have w5:e6.strict=e5.strict:=congrArg Cr.strict c6
 have w6:e6.backs=e5.backs:=congrArg Cr.backs c6
 have w7:e6.opn=e5.opn:=congrArg Cr.opn c6
 have w8:e6.clash=e5.clash:=congrArg Cr.clash c6
 have hok6:e6.needD.length=m∧e6.need.length=m∧e6.opn.length=n∧e6.clash.length=n∧e6.strict.length=n∧e6.backs.length=n:=by
  rw [hD] at hok
  exact ⟨hok.needD,hok.need,hok.opn,hok.clash,hok.strict,hok.backs⟩
 have hlaid:∀ (f j:Int),0≤f→f < n→1≤j→j≤4→laidB t n m facts f j=e5.has f j:=fun f j f0 f1 j0 j1=>by
  refine Bool.eq_iff_iff.2 ?_
  rw [decide_eq_true_iff,← hh,htm.has f j f0 f1 j0 j1]
 have hleft:∀ (p:Int),0≤p→p < npL t n m facts→e6.core.left p=cN m (fun r=>decide (p∈rowAt (En.layS t n m facts).beats r)):=fun p p0 p1=>by
  rw [h6.left p p0 p1]
  have:=h2.left p p0 p1
  rw [hx2] at this ⊢
  exact this
 have hneed:∀ (r:Int),0≤r→r < m→(gi e6.need r=0↔bdT t r=[]):=fun r r0 r1=>by
  rw [w2,h.need r r0 r1]
  rw [← List.length_eq_zero_iff]
  omega
 refine ⟨hc,hcp,hok,htm,⟨?_,?_⟩,?_,fun x j x0 x1 j0 j1=>by rw [hh];exact h.h34 x j x0 x1 j0 j1,fun q q0 q1=>?_,fun q q0 q1=>?_,by rw [hD],fun r r0 r1=>by rw [show (En.layD t n m facts).needD=e5.needD by rw [hD];exact w1];exact h.needD r r0 r1⟩
 ·rw [hcore]
  refine ⟨hok6.1,by show e6.deadD.length=m;rw [w3];simp,hok6.2.2.2.2.1,fun r r0 r1 hs=>?_,fun r r0 r1=>?_,fun q q0 q1 hf=>?_,fun q q0 q1 hf=>?_⟩
  ·show gi e6.needD r=(((bd (En.layS t n m facts) r).countP (fun _=>!false):Nat):Int)
   rw [countP_all,w1];exact h.needD r r0 r1
  ·show gb e6.deadD r=_
   rw [w3,gb_rep]
   simp
  ·show gi e6.strict q=cN m (fun r=>isSt (En.layS t n m facts) r&&(hd (En.layS t n m facts) r == q)&&!gb e6.deadD r)
   rw [w5,h.strict q q0 q1,if_neg (by rw [show decide (q∈facts)=false from hf];simp)]
   refine cN_congr fun i i0 i1=>?_
   rw [w3,gb_rep]
   simp only [Bool.not_false,Bool.and_true]
   rfl
  ·show gi e6.strict q=-1 - cN m (fun r=>isSt (En.layS t n m facts) r&&(hd (En.layS t n m facts) r == q)&&gb e6.deadD r)
   rw [w5,h.strict q q0 q1,if_pos hf]
   have:cN m (fun r=>isSt (En.layS t n m facts) r&&(hd (En.layS t n m facts) r == q)&&gb e6.deadD r)=0:=cN_zero.2 fun i i0 i1=>by rw [w3,gb_rep,Bool.and_false]
   omega
 ·rw [hcore]
  have hcnt:∀ (q:Int),0≤q→q < n→(rowAt (tFoes (En.layS t n m facts).t) q).countP (fun f=>!(noPr f 2 || laidB t n m facts f 2))=(foT t q).countP (fun f=>!e5.has f 2):=fun q q0 q1=>by
   refine countP_same fun f hf=>?_
   obtain ⟨f0,f1⟩:=(ht.foe q0 q1).2 f hf
   rw [hlaid f 2 f0 f1 (by omega) (by omega)]
   rfl
  have ho:∀ (q:Int),0≤q→q < n→gi e6.opn q=(((rowAt (tFoes (En.layS t n m facts).t) q).countP (fun f=>!(noPr f 2 || laidB t n m facts f 2)):Nat):Int):=fun q q0 q1=>by
   rw [w7,h.opn q q0 q1,hcnt q q0 q1]
  have hcl:∀ (q:Int),0≤q→q < n→(gb e6.clash q=true↔∃ f∈foT t q,laidB t n m facts f 1=true):=fun q q0 q1=>by
   rw [w8,h.clash q q0 q1,List.any_eq_true]
   refine ⟨fun ⟨f,hf,k⟩=>⟨f,hf,?_⟩,fun ⟨f,hf,k⟩=>⟨f,hf,?_⟩⟩
   ·obtain ⟨f0,f1⟩:=(ht.foe q0 q1).2 f hf
    rw [hlaid f 1 f0 f1 (by omega) (by omega)];exact k
   ·obtain ⟨f0,f1⟩:=(ht.foe q0 q1).2 f hf
    rw [← hlaid f 1 f0 f1 (by omega) (by omega)];exact k
  refine ⟨hok6.2.1,by show e6.dead.length=m;rw [w4];simp,hok6.2.2.2.2.2,h6.lbd,hok6.2.2.1,hok6.2.2.2.1,h6.lsd,h6.pr,fun r r0 r1=>?_,fun r r0 r1=>?_,fun q q0 q1=>?_,fun q q0 q1=>?_,fun q q0 q1=>?_,fun q q0 q1=>.inl (ho q q0 q1),fun q q0 q1 hq=>?_,fun q q0 q1 f hf hq=>?_,fun p p0 p1=>?_,fun p p0 p1=>?_,fun q q0 q1=>?_⟩
  ·show gi e6.need r=(((bd (En.layS t n m facts) r).countP (fun _=>!false):Nat):Int)
   rw [countP_all,w2];exact h.need r r0 r1
  ·show gb e6.dead r=_
   rw [w4,gb_rep]
   simp
  ·show gi e6.backs q=cN m (fun r=>supD (En.layS t n m facts).t r&&(hd (En.layS t n m facts) r == q)&&!gb e6.dead r)
   rw [w6,h.backs q q0 q1]
   refine cN_congr fun i i0 i1=>?_
   rw [w4,gb_rep]
   simp only [Bool.not_false,Bool.and_true]
   rfl
  ·show gb e6.backed q=true↔∃ r,_∧_∧_∧gi e6.need r=0
   rw [h6.backed q q0 q1]
   exact ⟨fun ⟨r,a,b,c,d⟩=>⟨r,a,b,c,(hneed r a.1 a.2).2 d⟩,fun ⟨r,a,b,c,d⟩=>⟨r,a,b,c,(hneed r a.1 a.2).1 d⟩⟩
  ·show _≤gi e6.opn q∧gi e6.opn q≤64
   rw [ho q q0 q1]
   have:=(ht.foe q0 q1).1
   have:=countP_le_len (l:=rowAt (tFoes (En.layS t n m facts).t) q) (f:=fun f=>!(noPr f 2 || laidB t n m facts f 2))
   have e3:rowAt (tFoes (En.layS t n m facts).t) q=rowAt (tFoes t) q:=rfl
   rw [e3] at this ⊢
   omega
  ·obtain ⟨f,hf,k⟩:=(hcl q q0 q1).1 hq
   exact ⟨f,hf,by rw [k];rfl⟩
  ·exact .inl ((hcl q q0 q1).2 ⟨f,hf,hq⟩)
  ·show e6.core.sett p=true↔gb e6.dead (psL t n m facts p)=true∨∃ t',_∧_∧gi e6.need t'=0
   rw [h6.sett p p0 p1,w4,gb_rep]
   constructor
   ·rintro ⟨r,a,b,c⟩
    exact .inr ⟨r,a,b,(hneed r a.1 a.2).2 c⟩
   ·rintro (k | ⟨r,a,b,c⟩)
    ·cases k
    ·exact ⟨r,a,b,(hneed r a.1 a.2).1 c⟩
  ·show e6.core.left p=cN m (fun t'=>decide (p∈rowAt (En.layS t n m facts).beats t')&&!gb e6.dead t')
   rw [hleft p p0 p1]
   refine cN_congr fun i i0 i1=>?_
   rw [w4,gb_rep]
   simp only [Bool.not_false,Bool.and_true]
  ·show gb e6.standing q=true↔∃ p,_∧_∧gi e6.need (psL t n m facts p)=0∧e6.core.left p=0
   rw [h6.stand q q0 q1]
   constructor
   ·rintro ⟨p,a,b,c,d,g⟩
    exact ⟨p,a,b,(hneed _ c.1 c.2).2 d,by rw [h6.left p a.1 a.2];exact g⟩
   ·rintro ⟨p,a,b,c,d⟩
    have hps:=(hc.pr p a.1 a.2).2
    exact ⟨p,a,b,hps,(hneed _ hps.1 hps.2).1 c,by rw [← h6.left p a.1 a.2];exact d⟩
 ·refine ⟨fun q q0 q1 hq=>?_,fun q q0 q1 hq=>?_,fun q q0 q1 hf=>?_,fun r r0 r1 hs hb=>?_,fun q q0 q1 hf hb=>?_⟩
  ·rw [hh] at hq
   rcases (h.h1 q q0 q1).1 hq with k | ⟨r,a,b,c,d⟩
   ·exact .inl k
   ·refine .inr ⟨r,a,b,c,fun x hx=>?_⟩
    have hx2:x∈bdT t r:=hx
    rw [d] at hx2
    cases hx2
  ·rw [hh] at hq
   obtain ⟨a,b⟩:=(h.h2 q q0 q1).1 hq
   refine ⟨a,fun r r0 r1 hs hr=>?_⟩
   have:=cN_zero.1 b r r0 r1
   rw [show stT t r=true from hs,show (hdT t r == q)=true from beq_iff_eq.2 hr] at this
   cases this
  ·rw [hh];exact (h.h1 q q0 q1).2 (.inl hf)
  ·rw [hh]
   obtain ⟨h0,h1'⟩:=(ht.rule r0 r1).1
   refine (h.h1 _ h0 h1').2 (.inr ⟨r,⟨r0,r1⟩,hs,rfl,List.eq_nil_iff_forall_not_mem.2 fun b hb2=>?_⟩)
   have:=hb b hb2
   cases this
  ·rw [hh]
   refine (h.h2 q q0 q1).2 ⟨hf,cN_zero.2 fun r r0 r1=>?_⟩
   cases hs:stT t r with
   | false=>rfl
   | true=>
    by_cases hr:hdT t r=q
    ·obtain ⟨x,_,hx⟩:=hb r r0 r1 hs hr
     cases hx
    ·rw [beq_eq_false_iff_ne.2 hr];rfl
 ·rw [show (En.layD t n m facts).opn=e5.opn by rw [hD];exact w7,h.opn q q0 q1]
  simp only [hh]
 ·rw [show (En.layD t n m facts).clash=e5.clash by rw [hD];exact w8,h.clash q q0 q1]
  simp only [hh]
end
end Go.Proofs.YtbcdgcodnkgdoaaGreat
namespace Go.Proofs.YtbcdgcodnkgdoaaGreat
open Go Go.RowKit
section
variable {n m:Nat} {t:ThV} {facts:List Int}
structure RunOk (n m:Nat) (t:ThV) (facts:List Int) (e:En):Prop where
 lay:LayOk n m t facts
 inv:Inv n m (npL t n m facts) (En.layS t n m facts) (pqL t n m facts) (psL t n m facts) (factB facts) (laidB t n m facts) (PrI e.told.length e.told) e
 sound:∀ x∈e.told,Lf t n m (factB facts) x.1 x.2
 pre:(En.layD t n m facts).told <+: e.told
 all:∀ (q k:Int),0≤q→q < n→1≤k→k≤4→(e.has q k=true↔Lf t n m (factB facts) q k)
 up:Cg e.up (3 * (e.told.length:Nat) - 2 * ((En.layD t n m facts).told.length:Nat) + V n m (npL t n m facts) (En.layS t n m facts) e.core - V n m (npL t n m facts) (En.layS t n m facts) (En.layD t n m facts).core)
 rg:Ri e.up
theorem looks_ok {np:Nat} {s:Es} {pq ps:Int→Int} {fact:Int→Bool} {Pr:Int→Int→Bool} {e:En} (hc:Con n m np s pq ps) (hok:EnOk n m np e) (hks:Ks n m s fact (fun _ b k=>Pr b k) e) (hkp:Kp n Pr (fun x=>0≤x) e):
 ∃ e',upto (fun e q=>e.look q) n 0 e=e'∧Tk n m np s e e'∧e'.core=e.core∧Ks n m s fact (fun _ b k=>Pr b k) e'∧Kp n Pr (fun _=>False) e':=by
 have hn:=hc.ok.small.1
 have:=upto_ind (f:=fun e q=>e.look q) (fun i e'=>Tk n m np s e e'∧e'.core=e.core∧Ks n m s fact (fun _ b k=>Pr b k) e'∧Kp n Pr (fun x=>i≤x) e') n 0 e (fun i e2 _ hi ⟨a,b,c,d⟩=>?_) ⟨Tk.refl hok,rfl,hks,hkp⟩
 ·rw [Nat.zero_add] at this
  obtain ⟨a,b,c,d⟩:=this
  exact ⟨_,rfl,a,b,c,d.tm,d.j,fun q q0 q1 _=>d.cl q q0 q1 (by omega),d.p1,d.p2⟩
 ·have i0:(0:Int)≤i:=by omega
  have i1:(i:Int) < n:=by omega
  refine ⟨a.trans (Tk.look hn a.ok i0 i1),core_look.trans b,c.same hc (Same12.look d.tm i0 i1) (fun _ _ _ _ _=>rfl) (fun _ _ _ _ _=>rfl),(d.look i0 i1).weaken (fun x hx=>by omega)⟩
theorem runD_all {Q:Cr→Prop} (hk:THk n m t) (hfr:∀ q∈facts,0≤q∧q < n) (hQ:LayOk n m t facts→Kept n m (npL t n m facts) (En.layS t n m facts) (pqL t n m facts) (psL t n m facts) (factB facts) (laidB t n m facts) (En.layD t n m facts).told.length Q) (h0:Q (En.layD t n m facts).core):RunOk n m t facts (En.runD t n m facts)∧Q (En.runD t n m facts).core:=by
 have h:=layD_all hk hfr
 have hc:=h.con
 have hkp:Kp n noPr (fun x=>0≤x) (En.layD t n m facts):=by
  refine ⟨h.tm,fun q q0 q1=>⟨fun k=>?_,fun k=>?_⟩,fun q q0 _ hq=>absurd q0 hq,fun q _ _ k=>(by cases k),fun q _ _ k=>(by cases k)⟩
  ·rw [h.h34 q 3 q0 q1 (by omega) (by omega)] at k;cases k
  ·rw [h.h34 q 4 q0 q1 (by omega) (by omega)] at k;cases k
 obtain ⟨e1,he1,hT,hcore,hks,hkp1⟩:=looks_ok hc h.ok h.ks hkp
 have hlaid:∀ x∈(En.layD t n m facts).told,Lf t n m (factB facts) x.1 x.2:=fun x hx=>by
  obtain ⟨⟨x0,x1⟩,y0,y1⟩:=h.tm.rng x hx
  have hh:=(h.tm.has x.1 x.2 x0 x1 y0 y1).2 hx
  obtain ⟨q,k⟩:=x
  dsimp only at x0 x1 y0 y1 hh ⊢
  obtain rfl | rfl | k3:k=1∨k=2∨3≤k:=by omega
  ·refine lf_closed.k1 q x0 x1 ?_
   rcases h.ks.s1 q x0 x1 hh with k | ⟨r,a,b,c,d⟩
   ·exact .inl k
   ·exact .inr ⟨r,a,b,c,fun y hy=>by have:=d y hy;cases this⟩
  ·refine lf_closed.k2 q x0 x1 ?_
   obtain ⟨a,b⟩:=h.ks.s2 q x0 x1 hh
   exact ⟨a,fun r r0 r1 c d=>by obtain ⟨y,hy,k⟩:=b r r0 r1 c d;cases k⟩
  ·rw [h.h34 q k x0 x1 k3 y1] at hh;cases hh
 have hP0:PrI 0 e1.told=noPr:=by
  funext q k
  refine Bool.eq_false_iff.2 fun hx=>?_
  rw [pri_iff] at hx
  cases hx
 have hI:Inv n m (npL t n m facts) (En.layS t n m facts) (pqL t n m facts) (psL t n m facts) (factB facts) (laidB t n m facts) (PrI 0 e1.told) e1:=by
  rw [hP0]
  exact ⟨hT.ok,by rw [hcore];exact h.can,hkp1,hks⟩
 have hS:=hI.sound hc h.conp (fun q k hx=>by rw [hP0] at hx;cases hx) (fun q k hx=>hlaid _ (decide_eq_true_iff.1 hx))
 have hm:=hT.ok.most
 obtain ⟨e',h1,h2,h3,h4,hq,hr,h5⟩:=work_inv (laidL:=(En.layD t n m facts).told) (hQ h) hc h.conp hlaid (4 * n) 0 (e:=e1) (by omega) (Nat.zero_le _) hT.pre hI (fun x hx=>by
  obtain ⟨⟨x0,x1⟩,y0,y1⟩:=hkp1.tm.rng x hx
  exact hS x.1 x.2 x0 x1 y0 y1 ((hkp1.tm.has x.1 x.2 x0 x1 y0 y1).2 hx)) (by rw [hcore];exact h0)
 have hrun:En.runD t n m facts=e':=by
  rw [← h1,← he1];rfl
 rw [hrun]
 have hcl:=h2.complete hc h.conp (fun q k q0 q1 k0 k1 hh=>by
  rw [pri_iff,List.take_length]
  exact (h2.kp.tm.has q k q0 q1 k0 k1).1 hh)
 refine ⟨⟨h,h2,h3,h4,fun q k q0 q1 k0 k1=>⟨fun hh=>h3 _ ((h2.kp.tm.has q k q0 q1 k0 k1).1 hh),fun hl=>(lf_le hcl q k hl).2.2⟩,?_,hr (hT.rg (by rw [h.up];exact ⟨by omega,by omega⟩))⟩,hq⟩
 obtain ⟨a,ha⟩:=h5
 obtain ⟨b,hb⟩:=hT.up
 rw [h.up] at hb
 exact ⟨a + b,by omega⟩
end
end Go.Proofs.YtbcdgcodnkgdoaaGreat
namespace Go.Proofs.YtbcdgcodnkgdoaaGreat
open Go Go.RowKit
section
variable {n m np:Nat} {s:Es} {pq ps:Int→Int} {fact:Int→Bool} {dl df:Int→Int→Int→Bool} {laid Pr:Int→Int→Bool} {c c' c0 c1:Cr} {q r k p f:Int}
def Sup (m:Nat) (s:Es) (q:Int):Prop:=∃ (r:Int),(0≤r∧r < m)∧supD s.t r=true∧hd s r=q
structure Mo (n m:Nat) (s:Es) (c0 c:Cr):Prop where
 opn:∀ (q:Int),0≤q→q < n→gi c.opn q≤gi c0.opn q∧(gi c.opn q=gi c0.opn q∨Sup m s q)
 clash:∀ (q:Int),0≤q→q < n→(gb c0.clash q=true→gb c.clash q=true)∧(gb c.clash q=true→gb c0.clash q=true∨Sup m s q)
 needD:∀ (r:Int),0≤r→r < m→isSt s r=false→gi c.needD r=gi c0.needD r
theorem Mo.refl:Mo n m s c c:=⟨fun q _ _=>⟨Int.le_refl _,.inl rfl⟩,fun q _ _=>⟨id,.inl⟩,fun _ _ _ _=>rfl⟩
def Oc (c c':Cr):Prop:=c'.opn=c.opn∧c'.clash=c.clash∧c'.needD=c.needD
theorem Oc.refl:Oc c c:=⟨rfl,rfl,rfl⟩
theorem Oc.trans (h:Oc c c') (h2:Oc c' c1):Oc c c1:=⟨h2.1.trans h.1,h2.2.1.trans h.2.1,h2.2.2.trans h.2.2⟩
theorem Mo.oc (h:Mo n m s c0 c) (ho:Oc c c'):Mo n m s c0 c':=⟨by rw [ho.1];exact h.opn,by rw [ho.2.1];exact h.clash,by rw [ho.2.2];exact h.needD⟩
theorem Oc.fold {g:Cr→Int→Cr} (hg:∀ c r,Oc c (g c r)):∀ {L:List Int} {c:Cr},Oc c (L.foldl g c)
 | [],c=>Oc.refl
 | r::L,c=>(hg c r).trans (Oc.fold hg (L:=L))
theorem oc_settle:Oc c (c.settle p):=by unfold Cr.settle;split <;> exact ⟨rfl,rfl,rfl⟩
theorem oc_stand:Oc c (c.stand p):=by unfold Cr.stand;split <;> exact ⟨rfl,rfl,rfl⟩
theorem oc_back:Oc c (c.back q):=by unfold Cr.back;split <;> exact ⟨rfl,rfl,rfl⟩
theorem oc_fire:Oc c (Cr.fire s c r):=by
 unfold Cr.fire
 have h1:Oc c (Cr.fire1 s c r):=by
  unfold Cr.fire1
  split
  ·exact oc_back.trans (Oc.fold (fun _ _=>oc_settle))
  ·exact Oc.refl
 exact h1.trans (Oc.fold (fun _ _=>oc_stand))
theorem oc_plus1:Oc c (Cr.onPlus1 s c r):=by
 unfold Cr.onPlus1
 dsimp only
 have h1:Oc c { c with need:=En.dec c.need r }:=⟨rfl,rfl,rfl⟩
 split
 ·exact h1.trans oc_fire
 ·exact h1
theorem oc_minus2:Oc c (Cr.onMinus2 c p):=by
 unfold Cr.onMinus2
 exact Oc.trans ⟨rfl,rfl,rfl⟩ oc_stand
theorem oc_minus1:Oc c (Cr.onMinus1 s c r):=by
 unfold Cr.onMinus1
 split
 ·exact Oc.refl
 ·dsimp only
  have h1:Oc c ((rowAt s.of r).foldl Cr.settle { c with dead:=c.dead.set r.toNat true }):=Oc.trans ⟨rfl,rfl,rfl⟩ (Oc.fold (fun _ _=>oc_settle))
  split
  ·exact h1.trans (Oc.trans ⟨rfl,rfl,rfl⟩ (Oc.fold (fun _ _=>oc_minus2)))
  ·exact h1
theorem oc_noD1:Oc c (Cr.onNoD1 s c r):=by unfold Cr.onNoD1;split <;> exact ⟨rfl,rfl,rfl⟩
theorem sup_backs (h:CanS n m np s pq ps dl df c) (q0:0≤q) (q1:q < n) (hb:0 < gi c.backs q):Sup m s q:=by
 rw [h.backs q q0 q1] at hb
 obtain ⟨r,hr,hf⟩:=cN_ex (by omega:cN m (fun r=>supD s.t r&&(hd s r == q)&&!gb c.dead r)≠0)
 rw [Bool.and_eq_true,Bool.and_eq_true,beq_iff_eq] at hf
 exact ⟨r,hr,hf.1.1,hf.1.2⟩
theorem sup_backed (h:CanS n m np s pq ps dl df c) (q0:0≤q) (q1:q < n) (hb:gb c.backed q=true):Sup m s q:=by
 obtain ⟨r,hr,a,b,_⟩:=(h.backed q q0 q1).1 hb
 exact ⟨r,hr,a,b⟩
theorem Mo.late1 (h:CanS n m np s pq ps dl df c) (hm:Mo n m s c0 c) (f0:0≤f) (f1:f < n):Mo n m s c0 (Cr.onLate1 c f):=by
 obtain ⟨o1,o2⟩:=h.opn1 f f0 f1
 unfold Cr.onLate1
 split
 ·rename_i hb
  have hs:Sup m s f:=by
   rw [Bool.or_eq_true,decide_eq_true_iff] at hb
   exact hb.elim (sup_backs h f0 f1) (sup_backed h f0 f1)
  have hset:∀ (x:Int),0≤x→gi (En.dec c.opn f) x=if x=f then gi c.opn f - 1 else gi c.opn x:=fun x x0=>gi_dec h.lop f0 f1 x0 (by omega) (by omega)
  refine ⟨fun q q0 q1=>?_,hm.clash,hm.needD⟩
  show gi (En.dec c.opn f) q≤_∧(gi (En.dec c.opn f) q=_∨_)
  rw [hset q q0]
  have:=hm.opn q q0 q1
  by_cases e:q=f
  ·subst e
   rw [if_pos rfl]
   exact ⟨by omega,.inr hs⟩
  ·rw [if_neg e];exact this
 ·exact hm
theorem Mo.plusD2 (hs:0 < gi c.backs f→Sup m s f) (hl:c.clash.length=n) (hm:Mo n m s c0 c) (f0:0≤f) (f1:f < n):Mo n m s c0 (Cr.onPlusD2 c f):=by
 unfold Cr.onPlusD2
 split
 ·rename_i hb
  rw [Bool.and_eq_true,decide_eq_true_iff] at hb
  have hset:∀ (x:Int),0≤x→gb (c.clash.set f.toNat true) x=if x=f then true else gb c.clash x:=fun x x0=>getD_setAt hl f0 f1 x0
  refine ⟨hm.opn,fun q q0 q1=>?_,hm.needD⟩
  show (_→gb (c.clash.set f.toNat true) q=true)∧(gb (c.clash.set f.toNat true) q=true→_)
  rw [hset q q0]
  by_cases e:q=f
  ·subst e
   rw [if_pos rfl]
   exact ⟨fun _=>rfl,fun _=>.inr (hs hb.1)⟩
  ·rw [if_neg e];exact hm.clash q q0 q1
 ·exact hm
theorem Mo.plusD1 (hl:c.needD.length=m) (hm:Mo n m s c0 c) (r0:0≤r) (r1:r < m):Mo n m s c0 (Cr.onPlusD1 s c r):=by
 unfold Cr.onPlusD1
 split
 ·rename_i hb
  refine ⟨hm.opn,hm.clash,fun x x0 x1 hx=>?_⟩
  show gi (En.dec c.needD r) x=_
  rw [(dec_cg hl r0 r1).1 x x0 (fun e=>by subst e;rw [show isSt s x=true from hb] at hx;cases hx)]
  exact hm.needD x x0 x1 hx
 ·exact hm
theorem Mo.does {first i:Nat} (hc:Con n m np s pq ps) (hsym:∀ (q:Int),0≤q→q < n→∀ f∈foT s.t q,q∈foT s.t f) (h:Can n m np s pq ps fact laid Pr c) (q0:0≤q) (q1:q < n) (k0:1≤k) (k1:k≤4) (hP:Pr q k=false) (hl:k=2→(laid q 2=true↔i < first)) (hm:Mo n m s c0 c):Mo n m s c0 (Cr.does s first i c (q,k)):=by
 obtain ⟨hn1,hi⟩:=hc.inn q q0 q1
 obtain ⟨hn2,_,hf⟩:=hc.foes q q0 q1
 obtain rfl | rfl | rfl | rfl:k=1∨k=2∨k=3∨k=4:=by omega
 ·show Mo n m s c0 (Cr.onPlusD s c q)
  unfold Cr.onPlusD
  have h1:∀ (L:List Int) (c1:Cr),(∀ r∈L,0≤r∧r < m)→c1.needD.length=m→Mo n m s c0 c1→Mo n m s c0 (L.foldl (Cr.onPlusD1 s) c1)∧(L.foldl (Cr.onPlusD1 s) c1).backs=c1.backs∧(L.foldl (Cr.onPlusD1 s) c1).clash=c1.clash:=fun L=>by
   induction L with
   | nil=>intro c1 _ _ h;exact ⟨h,rfl,rfl⟩
   | cons r L ih=>
    intro c1 hL hl1 h
    rw [List.foldl_cons]
    obtain ⟨r0,r1⟩:=hL r (List.mem_cons_self ..)
    have hb:(Cr.onPlusD1 s c1 r).backs=c1.backs∧(Cr.onPlusD1 s c1 r).clash=c1.clash:=by unfold Cr.onPlusD1;split <;> exact ⟨rfl,rfl⟩
    obtain ⟨a,b,d⟩:=ih (Cr.onPlusD1 s c1 r) (fun x hx=>hL x (List.mem_cons_of_mem _ hx)) (by unfold Cr.onPlusD1;split <;> first | (show (En.dec _ _).length=m;rw [dec_len];exact hl1) | exact hl1) (h.plusD1 hl1 r0 r1)
    exact ⟨a,b.trans hb.1,d.trans hb.2⟩
  obtain ⟨a,b,d⟩:=h1 (rowAt s.inn q) c (fun r hr=>((hi r).1 hr).1) h.d.lnD hm
  generalize (rowAt s.inn q).foldl (Cr.onPlusD1 s) c=c1 at *
  have h2:∀ (L:List Int) (c2:Cr),(∀ f∈L,0≤f∧f < n)→c2.backs=c.backs→c2.clash.length=n→Mo n m s c0 c2→Mo n m s c0 (L.foldl Cr.onPlusD2 c2):=fun L=>by
   induction L with
   | nil=>intro c2 _ _ _ h;exact h
   | cons f L ih=>
    intro c2 hL hb hl2 h'
    rw [List.foldl_cons]
    obtain ⟨f0,f1⟩:=hL f (List.mem_cons_self ..)
    refine ih _ (fun x hx=>hL x (List.mem_cons_of_mem _ hx)) ?_ ?_ (h'.plusD2 (fun hz=>sup_backs h.s f0 f1 (by rw [← hb];exact hz)) hl2 f0 f1)
    ·refine Eq.trans ?_ hb
     unfold Cr.onPlusD2;split <;> rfl
    ·unfold Cr.onPlusD2;split <;> first | (show (c2.clash.set _ _).length=n;rw [List.length_set];exact hl2) | exact hl2
  exact h2 _ c1 hf b (by rw [d];exact h.s.lcl) a
 ·have hno:∀ c,Oc c (Cr.onNoD s c q):=fun c=>Oc.fold (fun _ _=>oc_noD1)
  by_cases hii:first≤i
  ·have e:Cr.does s first i c (q,2)=Cr.onLate s c q:=by simp [Cr.does,hii]
   rw [e]
   unfold Cr.onLate
   refine Mo.oc ?_ (hno _)
   have hlaid:laid q 2=false:=by
    cases hh:laid q 2 with
    | false=>rfl
    | true=>have:=(hl rfl).1 hh;omega
   exact (fold_upd (q:=q) (k:=2) (P:=fun df c=>CanS n m np s pq ps (fun _ b k=>Pr b k) df c∧Mo n m s c0 c) (g:=Cr.onLate1) (dl:=fun _ f k=>Pr f k || laid f k) (ok:=fun f=>(0≤f∧f < n)∧q∈rowAt (tFoes s.t) f)
    (fun df c f hr hd ⟨a1,a2⟩=>⟨a1.lateS hc hr.1.1 hr.1.2 hr.2 hd,a2.late1 a1 hr.1.1 hr.1.2⟩) (L:=rowAt (tFoes s.t) q) hn2 (fun f hff=>⟨⟨hf f hff,hsym q q0 q1 f hff⟩,by rw [hP,hlaid];rfl⟩) ⟨h.s,hm⟩).2
  ·have e:Cr.does s first i c (q,2)=Cr.onNoD s c q:=by simp only [Cr.does,if_neg hii];rfl
   rw [e]
   exact hm.oc (hno _)
 ·exact hm.oc (Oc.fold (fun _ _=>oc_plus1))
 ·exact hm.oc (Oc.fold (fun _ _=>oc_minus1))
end
section
variable {n m:Nat} {t:ThV} {facts:List Int}
theorem runD_mo (hk:THk n m t) (hfr:∀ q∈facts,0≤q∧q < n):RunOk n m t facts (En.runD t n m facts)∧Mo n m (En.layS t n m facts) (En.layD t n m facts).core (En.runD t n m facts).core:=
 runD_all hk hfr (fun h Pr c i q k hC q0 q1 k0 k1 hP hl hm=>Mo.does h.con h.conp.sym hC q0 q1 k0 k1 hP hl hm) Mo.refl
end
end Go.Proofs.YtbcdgcodnkgdoaaGreat
namespace Go.Proofs.YtbcdgcodnkgdoaaGreat
open Go Go.RowKit
section
variable {n m np:Nat} {f g:Int→Bool} {w v:Int→Int} {x y:Int}
theorem cN_sm:∀ {m:Nat},cN m f=sm m (fun r=>b1 (f r))
 | 0=>rfl
 | m + 1=>by
  rw [cN_succ,cN_sm (m:=m)]
  show _=sm m _ + b1 (f m)
  cases f m <;> rfl
theorem sm_zero' (h:∀ (i:Int),0≤i→i < n→w i=0):sm n w=0:=by rw [sm_congr (f:=fun _=>0) h,sm_zero]
theorem sm_single (x0:0≤x) (x1:x < n) {a:Int}:sm n (fun q=>if x=q then a else 0)=a:=by
 rw [sm_at (f:=fun _=>0) x0 x1 (fun i _ _ hi=>if_neg (fun k=>hi k.symm)),sm_zero,if_pos rfl]
 omega
theorem sm_by {h:Int→Int}:∀ {m:Nat},(∀ (r:Int),0≤r→r < m→0≤h r∧h r < n)→sm n (fun q=>sm m (fun r=>if h r=q then w r else 0))=sm m w
 | 0,_=>sm_zero
 | m + 1,hh=>by
  have h1:=sm_by (m:=m) (fun r r0 r1=>hh r r0 (by omega))
  obtain ⟨a,b⟩:=hh m (by omega) (by omega)
  show sm n (fun q=>sm m (fun r=>if h r=q then w r else 0) + (if h m=q then w m else 0))=sm m w + w m
  rw [sm_add,h1,sm_single a b]
theorem sm_one (h:∀ (i:Int),0≤i→i < n→0≤w i) (x0:0≤x) (x1:x < n):w x≤sm n w:=by
 have h1:=sm_le (n:=n) (f:=w) (g:=fun q=>if x=q then w x else 0) (fun i i0 i1=>by
  split
  ·rename_i e;subst e;exact Int.le_refl _
  ·exact h i i0 i1)
 rw [sm_single x0 x1] at h1
 exact h1
theorem sm_two (h:∀ (i:Int),0≤i→i < n→0≤w i) (x0:0≤x) (x1:x < n) (y0:0≤y) (y1:y < n) (hxy:x≠y):w x + w y≤sm n w:=by
 have h1:=sm_le (n:=n) (f:=w) (g:=fun q=>(if x=q then w x else 0) + (if y=q then w y else 0)) (fun i i0 i1=>by
  by_cases e:x=i
  ·subst e;rw [if_pos rfl,if_neg (fun k=>hxy k.symm)];omega
  ·rw [if_neg e]
   by_cases e2:y=i
   ·subst e2;rw [if_pos rfl];omega
   ·rw [if_neg e2];have:=h i i0 i1;omega)
 rw [sm_add,sm_single x0 x1,sm_single y0 y1] at h1
 exact h1
theorem cN_split (g:Int→Bool):∀ {m:Nat},cN m f=cN m (fun r=>f r&&g r) + cN m (fun r=>f r&&!g r)
 | 0=>rfl
 | m + 1=>by
  rw [cN_succ,cN_succ,cN_succ,cN_split g (m:=m)]
  cases f m <;> cases g m <;> simp <;> omega
theorem cN_mono:∀ {m:Nat},(∀ (i:Int),0≤i→i < m→f i=true→g i=true)→cN m f≤cN m g
 | 0,_=>Int.le_refl _
 | m + 1,h=>by
  have h1:=cN_mono (m:=m) (fun i i0 i1=>h i i0 (by omega))
  rw [cN_succ,cN_succ]
  have h2:=h m (by omega) (by omega)
  cases hf:f m with
  | false=>simp only [Bool.false_eq_true,if_false];split <;> omega
  | true=>rw [h2 hf,if_pos rfl];omega
theorem cN_or (h:∀ (i:Int),0≤i→i < m→¬ (f i=true∧g i=true)):cN m (fun r=>f r || g r)=cN m f + cN m g:=by
 rw [cN_split (f:=fun r=>f r || g r) f]
 congr 1
 ·exact cN_congr fun i i0 i1=>by cases f i <;> cases g i <;> rfl
 ·refine cN_congr fun i i0 i1=>?_
  have:=h i i0 i1
  cases hf:f i <;> cases hg:g i <;> simp_all
theorem cN_inj {h:Int→Int}:∀ {np:Nat} {g:Int→Bool},(∀ (p:Int),0≤p→p < np→f p=true→(0≤h p∧h p < m)∧g (h p)=true)→(∀ (p p':Int),0≤p→p < np→0≤p'→p' < np→f p=true→f p'=true→h p=h p'→p=p')→cN np f≤cN m g
 | 0,g,_,_=>cN_nonneg m g
 | np + 1,g,h1,h2=>by
  rw [cN_succ]
  by_cases hf:f np=true
  ·rw [if_pos hf]
   obtain ⟨⟨a,b⟩,c⟩:=h1 np (by omega) (by omega) hf
   have h3:=cN_inj (np:=np) (g:=fun r=>g r&&!(r == h np)) (fun p p0 p1 hp=>by
    obtain ⟨d,e⟩:=h1 p p0 (by omega) hp
    refine ⟨d,?_⟩
    have:h p≠h np:=fun k=>by
     have:=h2 p np p0 (by omega) (by omega) (by omega) hp hf k
     omega
    rw [e,beq_eq_false_iff_ne.2 this]
    rfl) (fun p p' a0 a1 b0 b1=>h2 p p' a0 (by omega) b0 (by omega))
   have h4:=cN_less (m:=m) (f:=g) (g:=fun r=>g r&&!(r == h np)) a b c (by simp) (fun i i0 i1 hi=>by rw [beq_eq_false_iff_ne.2 hi];simp)
   omega
  ·rw [if_neg hf]
   have:=cN_inj (np:=np) (g:=g) (fun p p0 p1 hp=>h1 p p0 (by omega) hp) (fun p p' a0 a1 b0 b1=>h2 p p' a0 (by omega) b0 (by omega))
   omega
def lsum (l:List Int) (w:Int→Int):Int:=match l with
 | []=>0
 | f::l=>w f + lsum l w
theorem cN_lsum {h:Int→Int}:∀ {l:List Int},l.Nodup→cN m (fun x=>decide (h x∈l))=lsum l (fun f=>cN m (fun x=>h x == f))
 | [],_=>cN_zero.2 fun i _ _=>by simp
 | a::l,hn=>by
  rw [List.nodup_cons] at hn
  have h1:cN m (fun x=>decide (h x∈a::l))=cN m (fun x=>(h x == a) || decide (h x∈l)):=cN_congr fun i _ _=>by
   refine Bool.eq_iff_iff.2 ?_
   rw [decide_eq_true_iff,Bool.or_eq_true,beq_iff_eq,decide_eq_true_iff,List.mem_cons]
  rw [h1,cN_or (fun i _ _ ⟨a1,a2⟩=>hn.1 (by rw [beq_iff_eq] at a1;rw [← a1];exact decide_eq_true_iff.1 a2)),cN_lsum hn.2]
  rfl
theorem lsum_nonneg:∀ {l:List Int},(∀ f∈l,0≤w f)→0≤lsum l w
 | [],_=>Int.le_refl _
 | a::l,h=>by
  have:=lsum_nonneg (l:=l) (fun f hf=>h f (List.mem_cons_of_mem _ hf))
  have:=h a (List.mem_cons_self ..)
  show 0≤w a + lsum l w
  omega
theorem countP_lsum:∀ {l:List Int},(∀ f∈l,0≤w f∧(g f=true→1≤w f))→((l.countP g:Nat):Int)≤lsum l w
 | [],_=>Int.le_refl _
 | a::l,h=>by
  have h1:=countP_lsum (l:=l) (fun f hf=>h f (List.mem_cons_of_mem _ hf))
  obtain ⟨h2,h3⟩:=h a (List.mem_cons_self ..)
  show _≤w a + lsum l w
  rw [List.countP_cons]
  split
  ·rename_i hg
   have:=h3 hg
   omega
  ·omega
theorem countP_le {l:List Int} (h:∀ i∈l,f i=true→g i=true):l.countP f≤l.countP g:=List.countP_mono_left h
theorem countP_lt {a:Int}:∀ {l:List Int},(∀ i∈l,f i=true→g i=true)→a∈l→f a=false→g a=true→l.countP f + 1≤l.countP g
 | [],_,ha,_,_=>by cases ha
 | b::l,h,ha,h1,h2=>by
  have h3:=countP_le (l:=l) (fun i hi=>h i (List.mem_cons_of_mem _ hi))
  rw [List.countP_cons,List.countP_cons]
  rcases List.mem_cons.1 ha with rfl | ha
  ·rw [h1,h2];simp;omega
  ·have h4:=countP_lt (l:=l) (fun i hi=>h i (List.mem_cons_of_mem _ hi)) ha h1 h2
   have h5:=h b (List.mem_cons_self ..)
   cases hf:f b with
   | false=>simp only [Bool.false_eq_true,if_false];split <;> omega
   | true=>rw [h5 hf];simp;omega
theorem countP_and {l:List Int}:l.countP (fun i=>!g i)=l.countP (fun i=>f i&&!g i) + l.countP (fun i=>!(f i || g i)):=by
 induction l with
 | nil=>rfl
 | cons a l ih=>
  rw [List.countP_cons,List.countP_cons,List.countP_cons,ih]
  cases f a <;> cases g a <;> simp <;> omega
end
structure Fin (n m np:Nat) (s:Es) (pq ps:Int→Int) (fact:Int→Bool) (laid Pr:Int→Int→Bool) (c0 c:Cr):Prop where
 con:Con n m np s pq ps
 conp:ConP n m np s pq ps
 can0:Can n m np s pq ps fact laid noPr c0
 can:Can n m np s pq ps fact laid Pr c
 mo:Mo n m s c0 c
 coh1:∀ q,¬ (Pr q 1=true∧Pr q 2=true)
 coh3:∀ q,¬ (Pr q 3=true∧Pr q 4=true)
 up3:∀ (q:Int),0≤q→q < n→Pr q 1=true→Pr q 3=true
 needD:∀ (r:Int),0≤r→r < m→gi c0.needD r=((bd s r).length:Nat)
 late1:∀ (q:Int),0≤q→q < n→Pr q 1=true→laid q 1=false→∃ (r:Int),(0≤r∧r < m)∧isSt s r=true∧hd s r=q∧bd s r≠[]∧∀ b∈bd s r,Pr b 1=true
 late2:∀ (q:Int),0≤q→q < n→Pr q 2=true→laid q 2=false→∃ (r:Int),(0≤r∧r < m)∧isSt s r=true∧hd s r=q∧gb c.deadD r=true
 lp:∀ (q k:Int),0≤q→q < n→1≤k→k≤2→laid q k=true→Pr q k=true
 l34:∀ (q:Int),0≤q→q < n→laid q 3=false∧laid q 4=false
 opn0:∀ (q:Int),0≤q→q < n→gi c0.opn q=(((foT s.t q).countP (fun f=>!laid f 2):Nat):Int)
 clash0:∀ (q:Int),0≤q→q < n→gb c0.clash q=(foT s.t q).any (fun f=>laid f 1)
section
variable {n m np:Nat} {s:Es} {pq ps:Int→Int} {fact:Int→Bool} {laid Pr:Int→Int→Bool} {c0 c:Cr} {q r p f:Int}
def slack (s:Es) (c:Cr) (r:Int):Int:=if bd s r≠[]∧gi c.need r=0 then 3 else if (isSt s r&&gb c.deadD r)=true then 2 else 0
def costR (s:Es) (c0 c:Cr) (r:Int):Int:=vr s c r - vr s c0 r + b1 (isSt s r&&gb c.deadD r) + b1 (supD s.t r&&gb c.dead r)
theorem slack_nonneg:0≤slack s c r:=by unfold slack;split <;> first | omega | (split <;> omega)
theorem b1_le {b:Bool}:0≤b1 b∧b1 b≤1:=by cases b <;> decide
theorem costR_le (h:Fin n m np s pq ps fact laid Pr c0 c) (r0:0≤r) (r1:r < m):0≤costR s c0 c r∧costR s c0 c r + slack s c r≤4 * ((bd s r).length:Nat):=by
 have hS:=h.can.s
 have n3:=hS.need r r0 r1
 have n3le:=countP_le_len (l:=bd s r) (f:=fun b=>!Pr b 3)
 have n30:gi c0.need r=((bd s r).length:Nat):=by rw [h.can0.s.need r r0 r1];exact congrArg _ countP_all
 have d0:gb c0.dead r=false:=by rw [h.can0.s.dead r r0 r1];simp
 have dD0:gb c0.deadD r=false:=by rw [h.can0.d.deadD r r0 r1];simp
 have hdead:gb c.dead r=true→1≤(bd s r).countP (fun b=>!Pr b 3):=fun hd=>by
  obtain ⟨b,hb,hp⟩:=(dead_iff hS r0 r1).1 hd
  refine List.countP_pos_iff.2 ⟨b,hb,?_⟩
  cases h3:Pr b 3 with
  | false=>rfl
  | true=>exact absurd ⟨h3,hp⟩ (h.coh3 b)
 have hnD:=h.needD r r0 r1
 have hlong:(En.long s r=true↔1 < (bd s r).length):=decide_eq_true_iff
 have hnil:bd s r=[]↔(bd s r).length=0:=List.length_eq_zero_iff.symm
 have hk0:(bd s r).length=0→gb c.dead r=false∧gb c.deadD r=false:=fun hz=>by
  have hz2:=hnil.2 hz
  rw [hS.dead r r0 r1,h.can.d.deadD r r0 r1,hz2]
  simp
 have hd1:=b1_le (b:=gb c.dead r)
 have hsl:slack s c r≤3:=by unfold slack;split <;> first | omega | (split <;> omega)
 have hfz:gi c.need r=0→gb c.dead r=false:=fun hz=>by
  cases hd:gb c.dead r with
  | false=>rfl
  | true=>have:=hdead hd;omega
 cases hst:isSt s r with
 | false=>
  have hdd:gb c.deadD r=false:=by rw [h.can.d.deadD r r0 r1,hst];rfl
  have hnd:=h.mo.needD r r0 r1 hst
  unfold costR vr slack
  rw [hst,hdd,d0,dD0,n30,hnd,hnD]
  simp only [Bool.false_and,Bool.false_eq_true,if_false,b1_false]
  cases hl:En.long s r with
  | false=>
   have hk:(bd s r).length≤1:=by
    have:¬ 1 < (bd s r).length:=fun k=>by rw [hlong.2 k] at hl;cases hl
    omega
   simp only [cond_false]
   cases hd:gb c.dead r with
   | false=>
    simp only [Bool.and_false,b1_false]
    by_cases hz:bd s r≠[]∧gi c.need r=0
    ·rw [if_pos hz]
     have:(bd s r).length≠0:=fun k=>hz.1 (hnil.2 k)
     omega
    ·rw [if_neg hz];omega
   | true=>
    have h1:(bd s r).length≠0:=fun k=>by rw [(hk0 k).1] at hd;cases hd
    rw [if_neg (fun k=>by rw [hfz k.2] at hd;cases hd)]
    have:=b1_le (b:=supD s.t r&&true)
    omega
  | true=>
   have hk:=hlong.1 hl
   simp only [cond_true]
   cases hd:gb c.dead r with
   | false=>
    simp only [Bool.and_false,b1_false]
    split <;> omega
   | true=>
    have:=hdead hd
    rw [if_neg (fun k=>by rw [hfz k.2] at hd;cases hd)]
    have:=b1_le (b:=supD s.t r&&true)
    simp only [b1_true]
    omega
 | true=>
  have n1:=h.can.d.needD r r0 r1 hst
  have n1le:=countP_le_len (l:=bd s r) (f:=fun b=>!Pr b 1)
  have hdeadD:gb c.deadD r=true→1≤(bd s r).countP (fun b=>!Pr b 1):=fun hd=>by
   rw [h.can.d.deadD r r0 r1,hst,Bool.true_and] at hd
   obtain ⟨b,hb,hp⟩:=List.any_eq_true.1 hd
   refine List.countP_pos_iff.2 ⟨b,hb,?_⟩
   cases h3:Pr b 1 with
   | false=>rfl
   | true=>exact absurd ⟨h3,hp⟩ (h.coh1 b)
  unfold costR vr slack
  rw [hst,d0,dD0,n30,hnD]
  simp only [Bool.true_and]
  cases hdd:gb c.deadD r with
  | false=>
   simp only [Bool.false_eq_true,if_false,b1_false]
   cases hl:En.long s r with
   | false=>
    have hk:(bd s r).length≤1:=by
     have:¬ 1 < (bd s r).length:=fun k=>by rw [hlong.2 k] at hl;cases hl
     omega
    simp only [cond_false]
    cases hd:gb c.dead r with
    | false=>
     simp only [Bool.and_false,b1_false]
     by_cases hz:bd s r≠[]∧gi c.need r=0
     ·rw [if_pos hz]
      have:(bd s r).length≠0:=fun k=>hz.1 (hnil.2 k)
      omega
     ·rw [if_neg hz];omega
    | true=>
     have h1:(bd s r).length≠0:=fun k=>by rw [(hk0 k).1] at hd;cases hd
     rw [if_neg (fun k=>by rw [hfz k.2] at hd;cases hd)]
     have:=b1_le (b:=supD s.t r&&true)
     omega
   | true=>
    have hk:=hlong.1 hl
    simp only [cond_true]
    cases hd:gb c.dead r with
    | false=>
     simp only [Bool.and_false,b1_false]
     split <;> omega
    | true=>
     have:=hdead hd
     rw [if_neg (fun k=>by rw [hfz k.2] at hd;cases hd)]
     have:=b1_le (b:=supD s.t r&&true)
     simp only [b1_true]
     omega
  | true=>
   have hk1:(bd s r).length≠0:=fun k=>by rw [(hk0 k).2] at hdd;cases hdd
   have:=hdeadD hdd
   simp only [if_true,b1_true,b1_false]
   cases hl:En.long s r with
   | false=>
    simp only [cond_false]
    cases hd:gb c.dead r with
    | false=>
     simp only [Bool.and_false,b1_false]
     split <;> omega
    | true=>
     rw [if_neg (fun k=>by rw [hfz k.2] at hd;cases hd)]
     have:=b1_le (b:=supD s.t r&&true)
     omega
   | true=>
    have hk:=hlong.1 hl
    simp only [cond_true]
    cases hd:gb c.dead r with
    | false=>
     simp only [Bool.and_false,b1_false]
     by_cases hz:bd s r≠[]∧gi c.need r=0
     ·rw [if_pos hz];omega
     ·rw [if_neg hz];omega
    | true=>
     have:=hdead hd
     rw [if_neg (fun k=>by rw [hfz k.2] at hd;cases hd)]
     have:=b1_le (b:=supD s.t r&&true)
     simp only [b1_true]
     omega
end
end Go.Proofs.YtbcdgcodnkgdoaaGreat
namespace Go.Proofs.YtbcdgcodnkgdoaaGreat
open Go Go.RowKit
section
variable {n m np:Nat} {s:Es} {pq ps:Int→Int} {fact:Int→Bool} {laid Pr:Int→Int→Bool} {c0 c:Cr} {q r p f:Int}
def popP (P:Int→Int→Bool) (q:Int):Int:=b1 (P q 1) + b1 (P q 2) + b1 (P q 3) + b1 (P q 4)
def costA (laid Pr:Int→Int→Bool) (c0 c:Cr) (q:Int):Int:=3 * popP Pr q - 2 * popP laid q + (b1 (gb c.backed q) - b1 (gb c0.backed q))
def SL (m:Nat) (s:Es) (c:Cr) (q:Int):Int:=sm m (fun r=>if hd s r=q then slack s c r else 0)
theorem sl_term {r:Int}:0≤(if hd s r=q then slack s c r else 0):=by split <;> first | exact slack_nonneg | omega
theorem sl_one (r0:0≤r) (r1:r < m) (hr:hd s r=q):slack s c r≤SL m s c q:=by
 have:=sm_one (n:=m) (w:=fun r=>if hd s r=q then slack s c r else 0) (fun i _ _=>sl_term) r0 r1
 rw [if_pos hr] at this
 exact this
theorem sl_two {x:Int} (r0:0≤r) (r1:r < m) (hr:hd s r=q) (x0:0≤x) (x1:x < m) (hx:hd s x=q) (hne:r≠x):slack s c r + slack s c x≤SL m s c q:=by
 have:=sm_two (n:=m) (w:=fun r=>if hd s r=q then slack s c r else 0) (fun i _ _=>sl_term) r0 r1 x0 x1 hne
 rw [if_pos hr,if_pos hx] at this
 exact this
theorem b1_mono {a b:Bool} (h:a=true→b=true):b1 a≤b1 b:=by cases a <;> cases b <;> simp_all
theorem b1_not {a b:Bool} (h:¬ (a=true∧b=true)):b1 a + b1 b≤1:=by cases a <;> cases b <;> simp_all
theorem new_of {a b:Bool} (h:¬ (a=true∧b=false)):b1 a≤b1 b:=b1_mono (fun ha=>by cases hb:b with | true=>rfl | false=>exact absurd ⟨ha,hb⟩ h)
theorem costA_le (h:Fin n m np s pq ps fact laid Pr c0 c) (q0:0≤q) (q1:q < n):0≤costA laid Pr c0 c q∧costA laid Pr c0 c q≤4 + SL m s c q:=by
 have hS:=h.can.s
 have k1:=b1_not (h.coh1 q)
 have k3:=b1_not (h.coh3 q)
 have l1:=b1_mono (h.lp q 1 q0 q1 (by omega) (by omega))
 have l2:=b1_mono (h.lp q 2 q0 q1 (by omega) (by omega))
 obtain ⟨l3,l4⟩:=h.l34 q q0 q1
 have hb:b1 (gb c0.backed q)≤b1 (gb c.backed q):=b1_mono (fun hb=>by
  obtain ⟨r,hr,a,b,d⟩:=(h.can0.s.backed q q0 q1).1 hb
  refine (hS.backed q q0 q1).2 ⟨r,hr,a,b,(need_zero hS hr.1 hr.2).2 fun x hx=>?_⟩
  have:=(need_zero h.can0.s hr.1 hr.2).1 d x hx
  cases this)
 have c1:=b1_le (b:=gb c.backed q)
 have c2:=b1_le (b:=gb c0.backed q)
 have c3:=b1_le (b:=laid q 1)
 have c4:=b1_le (b:=laid q 2)
 have c5:=b1_le (b:=Pr q 3)
 have c6:=b1_le (b:=Pr q 4)
 have hSL:0≤SL m s c q:=sm_nonneg fun i _ _=>sl_term
 have hnewb:gb c.backed q=true∧gb c0.backed q=false→∃ (r:Int),(0≤r∧r < m)∧hd s r=q∧slack s c r=3:=fun ⟨h1,h2⟩=>by
  obtain ⟨r,hr,a,b,d⟩:=(hS.backed q q0 q1).1 h1
  have hne:bd s r≠[]:=fun hz=>by
   have:gb c0.backed q=true:=(h.can0.s.backed q q0 q1).2 ⟨r,hr,a,b,(need_zero h.can0.s hr.1 hr.2).2 fun x hx=>by rw [hz] at hx;cases hx⟩
   rw [h2] at this
   cases this
  refine ⟨r,hr,b,?_⟩
  unfold slack
  rw [if_pos ⟨hne,d⟩]
 have hL:2 * (b1 (Pr q 1) + b1 (Pr q 2) - b1 (laid q 1) - b1 (laid q 2)) + (b1 (gb c.backed q) - b1 (gb c0.backed q))≤SL m s c q:=by
  by_cases e1:Pr q 1=true∧laid q 1=false
  ·obtain ⟨r,hr,a,b,d,g⟩:=h.late1 q q0 q1 e1.1 e1.2
   have hs3:slack s c r=3:=by
    unfold slack
    rw [if_pos ⟨d,(need_zero hS hr.1 hr.2).2 fun x hx=>h.up3 x ((h.con.body r hr.1 hr.2).2.2 x hx).1 ((h.con.body r hr.1 hr.2).2.2 x hx).2 (g x hx)⟩]
   have:=sl_one (c:=c) hr.1 hr.2 b
   omega
  ·have e1':=new_of e1
   by_cases e2:Pr q 2=true∧laid q 2=false
   ·obtain ⟨r,hr,a,b,d⟩:=h.late2 q q0 q1 e2.1 e2.2
    have hs2:2≤slack s c r:=by
     unfold slack
     split
     ·omega
     ·rw [if_pos (by rw [a,d];rfl)];omega
    have h1:=sl_one (c:=c) hr.1 hr.2 b
    by_cases e3:gb c.backed q=true∧gb c0.backed q=false
    ·obtain ⟨x,hx,hxq,hx3⟩:=hnewb e3
     by_cases e4:r=x
     ·subst e4;omega
     ·have:=sl_two (c:=c) hr.1 hr.2 b hx.1 hx.2 hxq e4
      omega
    ·have:=new_of e3
     omega
   ·have e2':=new_of e2
    by_cases e3:gb c.backed q=true∧gb c0.backed q=false
    ·obtain ⟨x,hx,hxq,hx3⟩:=hnewb e3
     have:=sl_one (c:=c) hx.1 hx.2 hxq
     omega
    ·have:=new_of e3
     omega
 unfold costA popP
 rw [l3,l4]
 simp only [b1_false]
 omega
def cntR (m:Nat) (s:Es) (q:Int):Int:=cN m (fun r=>hd s r == q)
def cntF (m:Nat) (s:Es) (q:Int):Int:=lsum (foT s.t q) (cntR m s)
def costQ (c0 c:Cr) (q:Int):Int:=(b1 (gb c.clash q) - b1 (gb c0.clash q)) + (b1 (gb c.standing q) - b1 (gb c0.standing q)) + (gi c0.opn q - gi c.opn q)
def costP (np:Nat) (pq:Int→Int) (c0 c:Cr) (q:Int):Int:=sm np (fun p=>if pq p=q then vp c p - vp c0 p else 0)
theorem sett_mono (h:Fin n m np s pq ps fact laid Pr c0 c) (p0:0≤p) (p1:p < np):c0.sett p=true→c.sett p=true:=fun hs=>by
 rcases (h.can0.s.sett p p0 p1).1 hs with k | ⟨x,hx,a,b⟩
 ·obtain ⟨hps0,hps1⟩:=(h.con.pr p p0 p1).2
  rw [h.can0.s.dead _ hps0 hps1] at k
  simp at k
 ·refine (h.can.s.sett p p0 p1).2 (.inr ⟨x,hx,a,(need_zero h.can.s hx.1 hx.2).2 fun y hy=>?_⟩)
  have:=(need_zero h.can0.s hx.1 hx.2).1 b y hy
  cases this
theorem left_diff (h:Fin n m np s pq ps fact laid Pr c0 c) (p0:0≤p) (p1:p < np):c0.left p - c.left p=cN m (fun x=>decide (p∈rowAt s.beats x)&&gb c.dead x):=by
 have h1:=h.can0.s.left p p0 p1
 have h2:=h.can.s.left p p0 p1
 have h3:cN m (fun t=>decide (p∈rowAt s.beats t)&&!gb c0.dead t)=cN m (fun t=>decide (p∈rowAt s.beats t)):=cN_congr fun i i0 i1=>by
  rw [h.can0.s.dead i i0 i1]
  simp
 have h4:=cN_split (m:=m) (f:=fun t=>decide (p∈rowAt s.beats t)) (fun t=>gb c.dead t)
 omega
theorem vp_diff (h:Fin n m np s pq ps fact laid Pr c0 c) (p0:0≤p) (p1:p < np):0≤vp c p - vp c0 p∧vp c p - vp c0 p≤2 * b1 (c.sett p) + cntR m s (pq p):=by
 have h1:=left_diff h p0 p1
 have h2:=b1_mono (sett_mono h p0 p1)
 have h3:=cN_nonneg m (fun x=>decide (p∈rowAt s.beats x)&&gb c.dead x)
 have h4:cN m (fun x=>decide (p∈rowAt s.beats x)&&gb c.dead x)≤cntR m s (pq p):=cN_mono fun x x0 x1 hx=>by
  rw [Bool.and_eq_true,decide_eq_true_iff] at hx
  rw [beq_iff_eq]
  exact ((h.conp.bts x p x0 x1 p0 p1).1 hx.1).2.1
 have h5:=b1_le (b:=c0.sett p)
 unfold vp
 omega
theorem stand_mono (h:Fin n m np s pq ps fact laid Pr c0 c) (q0:0≤q) (q1:q < n):gb c0.standing q=true→gb c.standing q=true:=fun hs=>by
 obtain ⟨p,hp,a,b,d⟩:=(h.can0.s.stand q q0 q1).1 hs
 obtain ⟨hps0,hps1⟩:=(h.con.pr p hp.1 hp.2).2
 refine (h.can.s.stand q q0 q1).2 ⟨p,hp,a,(need_zero h.can.s hps0 hps1).2 fun y hy=>?_,?_⟩
 ·have:=(need_zero h.can0.s hps0 hps1).1 b y hy
  cases this
 ·have h1:=left_diff h hp.1 hp.2
  have h2:=cN_nonneg m (fun x=>decide (p∈rowAt s.beats x)&&gb c.dead x)
  have h3:=h.can.s.left p hp.1 hp.2
  have h4:=cN_nonneg m (fun t=>decide (p∈rowAt s.beats t)&&!gb c.dead t)
  omega
theorem costQ_nonneg (h:Fin n m np s pq ps fact laid Pr c0 c) (q0:0≤q) (q1:q < n):0≤costQ c0 c q:=by
 have h1:=b1_mono (h.mo.clash q q0 q1).1
 have h2:=b1_mono (stand_mono h q0 q1)
 have h3:=(h.mo.opn q q0 q1).1
 unfold costQ
 omega
theorem costP_nonneg (h:Fin n m np s pq ps fact laid Pr c0 c):0≤costP np pq c0 c q:=sm_nonneg fun p p0 p1=>by
 split
 ·exact (vp_diff h p0 p1).1
 ·omega
theorem costPQ_zero (h:Fin n m np s pq ps fact laid Pr c0 c) (q0:0≤q) (q1:q < n) (hs:¬ Sup m s q):costQ c0 c q + costP np pq c0 c q≤0:=by
 have hp:∀ (p:Int),0≤p→p < np→pq p≠q:=fun p p0 p1 e=>hs (by
  obtain ⟨r,hr,a,b⟩:=h.conp.psup p p0 p1
  exact ⟨r,hr,a,by rw [← e];exact b⟩)
 have h1:costP np pq c0 c q=0:=sm_zero' fun p p0 p1=>if_neg (hp p p0 p1)
 have h2:b1 (gb c.clash q)≤b1 (gb c0.clash q):=b1_mono (fun k=>((h.mo.clash q q0 q1).2 k).elim id (fun k=>absurd k hs))
 have h3:gi c.opn q=gi c0.opn q:=((h.mo.opn q q0 q1).2).elim id (fun k=>absurd k hs)
 have h4:gb c.standing q=false:=by
  refine Bool.eq_false_iff.2 fun k=>?_
  obtain ⟨p,hp2,a,_⟩:=(h.can.s.stand q q0 q1).1 k
  exact hp p hp2.1 hp2.2 a
 have h5:=b1_le (b:=gb c0.standing q)
 unfold costQ
 rw [h1,h4,b1_false]
 omega
theorem np_le (h:Fin n m np s pq ps fact laid Pr c0 c) (q0:0≤q) (q1:q < n):cN np (fun p=>pq p == q)≤cntF m s q:=by
 have h1:=cN_inj (np:=np) (m:=m) (f:=fun p=>pq p == q) (g:=fun x=>decide (hd s x∈foT s.t q)) (h:=ps) (fun p p0 p1 hp=>by
  rw [beq_iff_eq] at hp
  refine ⟨(h.con.pr p p0 p1).2,decide_eq_true ?_⟩
  rw [← hp]
  exact h.conp.pin p p0 p1) (fun p p' a0 a1 b0 b1 hp hp' e=>by
  rw [beq_iff_eq] at hp hp'
  exact h.conp.one p p' a0 a1 b0 b1 (by rw [hp,hp']) e)
 rw [cN_lsum (h:=hd s) (h.con.foes q q0 q1).1] at h1
 exact h1
theorem cntR_nonneg:0≤cntR m s q:=cN_nonneg _ _
theorem open_le (h:Fin n m np s pq ps fact laid Pr c0 c) (q0:0≤q) (q1:q < n):(b1 (gb c.clash q) - b1 (gb c0.clash q)) + (gi c0.opn q - gi c.opn q)≤cntF m s q:=by
 have hfr:=(h.con.foes q q0 q1).2.2
 have h1:=h.opn0 q q0 q1
 have h2:=(h.can.s.opn1 q q0 q1).1
 have h3:=countP_and (l:=foT s.t q) (f:=fun f=>Pr f 2) (g:=fun f=>laid f 2)
 have hlate:∀ f∈foT s.t q,0≤cntR m s f∧((Pr f 2&&!laid f 2 || Pr f 1&&!laid f 1)=true→1≤cntR m s f):=fun f hf=>by
  obtain ⟨f0,f1⟩:=hfr f hf
  refine ⟨cntR_nonneg,fun k=>?_⟩
  rw [Bool.or_eq_true,Bool.and_eq_true,Bool.and_eq_true,Bool.not_eq_true',Bool.not_eq_true'] at k
  have:∃ (r:Int),(0≤r∧r < m)∧hd s r=f:=by
   rcases k with k | k
   ·obtain ⟨r,hr,_,b,_⟩:=h.late2 f f0 f1 k.1 k.2
    exact ⟨r,hr,b⟩
   ·obtain ⟨r,hr,_,b,_⟩:=h.late1 f f0 f1 k.1 k.2
    exact ⟨r,hr,b⟩
  obtain ⟨r,hr,b⟩:=this
  exact cN_pos hr.1 hr.2 (beq_iff_eq.2 b)
 have h4:=countP_lsum (l:=foT s.t q) (g:=fun f=>Pr f 2&&!laid f 2 || Pr f 1&&!laid f 1) (w:=cntR m s) hlate
 have h5:=countP_le (l:=foT s.t q) (f:=fun f=>Pr f 2&&!laid f 2) (g:=fun f=>Pr f 2&&!laid f 2 || Pr f 1&&!laid f 1) (fun i _ hi=>by rw [hi];rfl)
 show _≤lsum (foT s.t q) (cntR m s)
 by_cases hc:gb c.clash q=true∧gb c0.clash q=false
 ·obtain ⟨f,hf,hfc⟩:=h.can.s.clash1 q q0 q1 hc.1
  have hl0:laid f 1=false:=by
   have:=hc.2
   rw [h.clash0 q q0 q1,List.any_eq_false] at this
   exact Bool.eq_false_iff.2 (this f hf)
  have hf1:Pr f 1=true:=by
   rw [hl0,Bool.or_false] at hfc
   exact hfc
  have hf2:Pr f 2=false:=by
   cases h6:Pr f 2 with
   | false=>rfl
   | true=>exact absurd ⟨hf1,h6⟩ (h.coh1 f)
  have h6:=countP_lt (l:=foT s.t q) (f:=fun f=>Pr f 2&&!laid f 2) (g:=fun f=>Pr f 2&&!laid f 2 || Pr f 1&&!laid f 1) (a:=f) (fun i _ hi=>by rw [hi];rfl) hf (by rw [hf2];rfl) (by rw [hf1,hl0];simp)
  have h7:=b1_le (b:=gb c.clash q)
  have h8:=b1_le (b:=gb c0.clash q)
  have e3:rowAt (tFoes s.t) q=foT s.t q:=rfl
  rw [e3] at h2
  omega
 ·have h7:=new_of hc
  have e3:rowAt (tFoes s.t) q=foT s.t q:=rfl
  rw [e3] at h2
  omega
theorem standP_le (h:Fin n m np s pq ps fact laid Pr c0 c) (q0:0≤q) (q1:q < n):(b1 (gb c.standing q) - b1 (gb c0.standing q)) + sm np (fun p=>if pq p=q then 2 * b1 (c.sett p) else 0)≤2 * cN np (fun p=>pq p == q):=by
 have e1:2 * cN np (fun p=>pq p == q)=sm np (fun p=>if pq p=q then 2 else 0):=by
  rw [cN_sm]
  have:∀ k:Nat,2 * sm k (fun r=>b1 (pq r == q))=sm k (fun p=>if pq p=q then 2 else 0):=fun k=>by
   induction k with
   | zero=>rfl
   | succ k ih=>
    show 2 * (sm k _ + b1 (pq k == q))=sm k _ + (if pq k=q then 2 else 0)
    rw [Int.mul_add,ih]
    by_cases e:pq k=q
    ·rw [if_pos e,beq_iff_eq.2 e];rfl
    ·rw [if_neg e,beq_eq_false_iff_ne.2 e];rfl
  exact this np
 have hb0:=b1_le (b:=gb c0.standing q)
 rw [e1]
 cases hst:gb c.standing q with
 | false=>
  have:=sm_le (n:=np) (f:=fun p=>if pq p=q then 2 else 0) (g:=fun p=>if pq p=q then 2 * b1 (c.sett p) else 0) (fun p _ _=>by
   have:=b1_le (b:=c.sett p)
   split <;> omega)
  rw [b1_false]
  omega
 | true=>
  obtain ⟨p,hp,a,b,d⟩:=(h.can.s.stand q q0 q1).1 hst
  obtain ⟨hps0,hps1⟩:=(h.con.pr p hp.1 hp.2).2
  have hn:c.sett p=false:=by
   refine Bool.eq_false_iff.2 fun k=>?_
   rcases (h.can.s.sett p hp.1 hp.2).1 k with k | ⟨x,hx,k,k2⟩
   ·obtain ⟨y,hy,hy4⟩:=(dead_iff h.can.s hps0 hps1).1 k
    exact h.coh3 y ⟨(need_zero h.can.s hps0 hps1).1 b y hy,hy4⟩
   ·rw [h.can.s.left p hp.1 hp.2] at d
    have:=cN_zero.1 d x hx.1 hx.2
    rw [decide_eq_true k,Bool.true_and,Bool.not_eq_false'] at this
    obtain ⟨y,hy,hy4⟩:=(dead_iff h.can.s hx.1 hx.2).1 this
    exact h.coh3 y ⟨(need_zero h.can.s hx.1 hx.2).1 k2 y hy,hy4⟩
  have h1:=sm_le (n:=np) (f:=fun x=>(if pq x=q then 2 else 0) - (if p=x then 2 else 0)) (g:=fun p=>if pq p=q then 2 * b1 (c.sett p) else 0) (fun x _ _=>by
   have:=b1_le (b:=c.sett x)
   by_cases e:p=x
   ·subst e
    rw [if_pos a,if_pos a,if_pos rfl,hn,b1_false]
    omega
   ·rw [if_neg e]
    split <;> omega)
  rw [sm_sub,sm_single hp.1 hp.2] at h1
  rw [b1_true]
  omega
theorem costP_le (h:Fin n m np s pq ps fact laid Pr c0 c):costP np pq c0 c q≤sm np (fun p=>if pq p=q then 2 * b1 (c.sett p) else 0) + cN np (fun p=>pq p == q) * cntR m s q:=by
 have h1:=sm_le (n:=np) (f:=fun p=>(if pq p=q then 2 * b1 (c.sett p) else 0) + (if pq p=q then cntR m s q else 0)) (g:=fun p=>if pq p=q then vp c p - vp c0 p else 0) (fun p p0 p1=>by
  have:=(vp_diff h p0 p1).2
  by_cases e:pq p=q
  ·rw [if_pos e,if_pos e,if_pos e]
   rw [e] at this
   exact this
  ·rw [if_neg e,if_neg e,if_neg e];omega)
 rw [sm_add] at h1
 have h2:∀ k:Nat,sm k (fun p=>if pq p=q then cntR m s q else 0)=cN k (fun p=>pq p == q) * cntR m s q:=fun k=>by
  induction k with
  | zero=>show (0:Int)=0 * _;omega
  | succ k ih=>
   show sm k _ + (if pq k=q then cntR m s q else 0)=_
   rw [ih,cN_succ,Int.add_mul]
   by_cases e:pq k=q
   ·rw [if_pos e,if_pos (beq_iff_eq.2 e)];omega
   ·rw [if_neg e,if_neg (fun k=>e (beq_iff_eq.1 k))];omega
 rw [h2] at h1
 exact h1
theorem costPQ_le (h:Fin n m np s pq ps fact laid Pr c0 c) (q0:0≤q) (q1:q < n):costQ c0 c q + costP np pq c0 c q≤4 * (cntR m s q * cntF m s q):=by
 have hF:0≤cntF m s q:=lsum_nonneg fun _ _=>cntR_nonneg
 have hR:0≤cntR m s q:=cntR_nonneg
 have hRF:=Int.mul_nonneg hR hF
 by_cases hs:Sup m s q
 ·obtain ⟨r,hr,_,hq⟩:=hs
  have hR1:1≤cntR m s q:=cN_pos hr.1 hr.2 (beq_iff_eq.2 hq)
  have h1:=np_le h q0 q1
  have h2:=open_le h q0 q1
  have h3:=standP_le h q0 q1
  have h4:=costP_le (q:=q) h
  have h5:cN np (fun p=>pq p == q) * cntR m s q≤cntF m s q * cntR m s q:=Int.mul_le_mul_of_nonneg_right h1 hR
  have h6:cntF m s q * 1≤cntF m s q * cntR m s q:=Int.mul_le_mul_of_nonneg_left hR1 hF
  rw [Int.mul_comm (cntR m s q)]
  unfold costQ
  omega
 ·have:=costPQ_zero h q0 q1 hs
  omega
end
end Go.Proofs.YtbcdgcodnkgdoaaGreat
namespace Go.Proofs.YtbcdgcodnkgdoaaGreat
open Go Go.RowKit
section
variable {n m:Nat} {t:ThV} {facts:List Int} {f g:Int→Int}
theorem sm_mul (c:Int):∀ {n:Nat},sm n (fun i=>c * f i)=c * sm n f
 | 0=>by show (0:Int)=c * 0;omega
 | n + 1=>by
  show sm n (fun i=>c * f i) + c * f n=c * (sm n f + f n)
  rw [sm_mul c (n:=n),Int.mul_add]
theorem pops_app:∀ {a b:List Int},pops (a++b)=pops a + pops b
 | [],b=>by simp [pops]
 | x::a,b=>by
  rw [List.cons_append]
  show pop4 x + pops (a++b)=pop4 x + pops a + pops b
  rw [pops_app (a:=a)]
  omega
theorem pops_sm {l:List Int}:∀ {k:Nat},k≤l.length→((pops (l.take k):Nat):Int)=sm k (fun q=>((pop4 (l.getD q.toNat 0):Nat):Int))
 | 0,_=>by simp [pops,sm]
 | k + 1,h=>by
  have e1:=pops_sm (l:=l) (k:=k) (by omega)
  rw [List.take_add_one,pops_app,List.getElem?_eq_getElem (by omega)]
  show ((pops (List.take k l) + pops [l[k]]:Nat):Int)=sm k _ + ((pop4 (l.getD k 0):Nat):Int)
  have e2:l.getD k 0=l[k]:=by rw [List.getD_eq_getElem?_getD,List.getElem?_eq_getElem (by omega)];rfl
  rw [e2,← e1]
  show ((pops (List.take k l) + (pop4 l[k] + 0):Nat):Int)=_
  omega
theorem cond_b1 (b:Bool):((cond b 1 0:Nat):Int)=b1 b:=by cases b <;> rfl
theorem told_sm {np:Nat} {e:En} (h:EnOk n m np e):((e.told.length:Nat):Int)=sm n (popP e.has):=by
 rw [h.cnt]
 have:=pops_sm (l:=e.marks) (k:=n) (by rw [h.marks];exact Nat.le_refl _)
 rw [List.take_of_length_le (by rw [h.marks];exact Nat.le_refl _)] at this
 rw [this]
 refine sm_congr fun q q0 q1=>?_
 unfold popP pop4
 rw [Int.natCast_add,Int.natCast_add,Int.natCast_add,cond_b1,cond_b1,cond_b1,cond_b1]
 rfl
theorem pri_all {e:En} {q k:Int}:PrI e.told.length e.told q k=true↔(q,k)∈e.told:=by
 rw [pri_iff,List.take_length]
theorem fin_of (hk:THk n m t) {e:En} (h:RunOk n m t facts e) (hm:Mo n m (En.layS t n m facts) (En.layD t n m facts).core e.core):Fin n m (npL t n m facts) (En.layS t n m facts) (pqL t n m facts) (psL t n m facts) (factB facts) (laidB t n m facts) (PrI e.told.length e.told) (En.layD t n m facts).core e.core:=by
 have hlf:∀ q k,PrI e.told.length e.told q k=true→Lf t n m (factB facts) q k:=fun q k hp=>h.sound _ (pri_all.1 hp)
 have hlaid:∀ (q k:Int),0≤q→q < n→1≤k→k≤4→(laidB t n m facts q k=true↔(En.layD t n m facts).has q k=true):=fun q k q0 q1 k0 k1=>by
  rw [decide_eq_true_iff,h.lay.tm.has q k q0 q1 k0 k1]
 have hlaid2:∀ (q k:Int),0≤q→q < n→1≤k→k≤4→laidB t n m facts q k=(En.layD t n m facts).has q k:=fun q k q0 q1 k0 k1=>Bool.eq_iff_iff.2 (hlaid q k q0 q1 k0 k1)
 have hhas:∀ (q k:Int),PrI e.told.length e.told q k=true→e.has q k=true:=fun q k hp=>by
  have hp:=pri_all.1 hp
  obtain ⟨⟨q0,q1⟩,k0,k1⟩:=h.inv.kp.tm.rng _ hp
  exact (h.inv.kp.tm.has q k q0 q1 k0 k1).2 hp
 refine ⟨h.lay.con,h.lay.conp,h.lay.can,h.inv.can,hm,fun q hq=>lf_coh1 ⟨hlf q 1 hq.1,hlf q 2 hq.2⟩,fun q hq=>lf_coh3 ⟨hlf q 3 hq.1,hlf q 4 hq.2⟩,fun q q0 q1 hq=>?_,h.lay.needD,fun q q0 q1 hq hl=>?_,fun q q0 q1 hq hl=>?_,fun q k q0 q1 k0 k1 hl=>?_,fun q q0 q1=>?_,fun q q0 q1=>?_,fun q q0 q1=>?_⟩
 ·refine pri_all.2 ((h.inv.kp.tm.has q 3 q0 q1 (by omega) (by omega)).1 ((h.all q 3 q0 q1 (by omega) (by omega)).2 ?_))
  exact lf_closed.k3 q q0 q1 (.inl (hlf q 1 hq))
 ·rcases h.inv.ks.s1 q q0 q1 (hhas q 1 hq) with k | ⟨r,hr,a,b,d⟩
  ·have:=(hlaid q 1 q0 q1 (by omega) (by omega)).2 (h.lay.ks.c0 q q0 q1 k)
   rw [hl] at this;cases this
  ·refine ⟨r,hr,a,b,fun hz=>?_,d⟩
   have h1:=h.lay.ks.c1 r hr.1 hr.2 a (fun x hx=>by rw [hz] at hx;cases hx)
   rw [b] at h1
   have:=(hlaid q 1 q0 q1 (by omega) (by omega)).2 h1
   rw [hl] at this;cases this
 ·obtain ⟨a,b⟩:=h.inv.ks.s2 q q0 q1 (hhas q 2 hq)
  refine Classical.byContradiction fun hno=>?_
  have h1:=h.lay.ks.c2 q q0 q1 a (fun r r0 r1 hs hr=>by
   refine absurd ⟨r,⟨r0,r1⟩,hs,hr,?_⟩ hno
   rw [h.inv.can.d.deadD r r0 r1,hs,Bool.true_and,List.any_eq_true]
   exact b r r0 r1 hs hr)
  have:=(hlaid q 2 q0 q1 (by omega) (by omega)).2 h1
  rw [hl] at this;cases this
 ·refine pri_all.2 ?_
  obtain ⟨l,hl2⟩:=h.pre
  rw [← hl2]
  exact List.mem_append_left _ (decide_eq_true_iff.1 hl)
 ·rw [hlaid2 q 3 q0 q1 (by omega) (by omega),hlaid2 q 4 q0 q1 (by omega) (by omega)]
  exact ⟨h.lay.h34 q 3 q0 q1 (by omega) (by omega),h.lay.h34 q 4 q0 q1 (by omega) (by omega)⟩
 ·show gi (En.layD t n m facts).opn q=_
  rw [h.lay.opn q q0 q1]
  congr 1
  refine countP_same fun f hf=>?_
  obtain ⟨f0,f1⟩:=(hk.tok.foe q0 q1).2 f hf
  rw [hlaid2 f 2 f0 f1 (by omega) (by omega)]
 ·show gb (En.layD t n m facts).clash q=_
  rw [h.lay.clash q q0 q1]
  refine Bool.eq_iff_iff.2 ?_
  rw [List.any_eq_true,List.any_eq_true]
  refine exists_congr fun f=>⟨fun ⟨hf,k⟩=>⟨hf,?_⟩,fun ⟨hf,k⟩=>⟨hf,?_⟩⟩
  ·obtain ⟨f0,f1⟩:=(hk.tok.foe q0 q1).2 f hf
   rw [hlaid2 f 1 f0 f1 (by omega) (by omega)];exact k
  ·obtain ⟨f0,f1⟩:=(hk.tok.foe q0 q1).2 f hf
   rw [← hlaid2 f 1 f0 f1 (by omega) (by omega)];exact k
end
section
variable {n m np:Nat} {s:Es} {pq ps:Int→Int} {fact:Int→Bool} {laid Pr:Int→Int→Bool} {c0 c:Cr} {q r p f:Int}
theorem strict_diff (h:Fin n m np s pq ps fact laid Pr c0 c) (q0:0≤q) (q1:q < n):gi c0.strict q - gi c.strict q=sm m (fun r=>if hd s r=q then b1 (isSt s r&&gb c.deadD r) else 0):=by
 have h0:∀ (r:Int),0≤r→r < m→gb c0.deadD r=false:=fun r r0 r1=>by rw [h.can0.d.deadD r r0 r1];simp
 have e1:sm m (fun r=>if hd s r=q then b1 (isSt s r&&gb c.deadD r) else 0)=cN m (fun r=>isSt s r&&(hd s r == q)&&gb c.deadD r):=by
  rw [cN_sm]
  refine sm_congr fun r r0 r1=>?_
  by_cases e:hd s r=q
  ·rw [if_pos e,beq_iff_eq.2 e,Bool.and_true]
  ·rw [if_neg e,beq_eq_false_iff_ne.2 e];simp
 rw [e1]
 cases hf:fact q with
 | false=>
  rw [h.can0.d.strict q q0 q1 hf,h.can.d.strict q q0 q1 hf]
  have e2:cN m (fun r=>isSt s r&&(hd s r == q)&&!gb c0.deadD r)=cN m (fun r=>isSt s r&&(hd s r == q)):=cN_congr fun i i0 i1=>by rw [h0 i i0 i1];simp
  have:=cN_split (m:=m) (f:=fun r=>isSt s r&&(hd s r == q)) (fun r=>gb c.deadD r)
  omega
 | true=>
  rw [h.can0.d.strictF q q0 q1 hf,h.can.d.strictF q q0 q1 hf]
  have e2:cN m (fun r=>isSt s r&&(hd s r == q)&&gb c0.deadD r)=0:=cN_zero.2 fun i i0 i1=>by rw [h0 i i0 i1];simp
  omega
theorem backs_diff (h:Fin n m np s pq ps fact laid Pr c0 c) (q0:0≤q) (q1:q < n):gi c0.backs q - gi c.backs q=sm m (fun r=>if hd s r=q then b1 (supD s.t r&&gb c.dead r) else 0):=by
 have h0:∀ (r:Int),0≤r→r < m→gb c0.dead r=false:=fun r r0 r1=>by rw [h.can0.s.dead r r0 r1];simp
 have e1:sm m (fun r=>if hd s r=q then b1 (supD s.t r&&gb c.dead r) else 0)=cN m (fun r=>supD s.t r&&(hd s r == q)&&gb c.dead r):=by
  rw [cN_sm]
  refine sm_congr fun r r0 r1=>?_
  by_cases e:hd s r=q
  ·rw [if_pos e,beq_iff_eq.2 e,Bool.and_true]
  ·rw [if_neg e,beq_eq_false_iff_ne.2 e];simp
 rw [e1,h.can0.s.backs q q0 q1,h.can.s.backs q q0 q1]
 have e2:cN m (fun r=>supD s.t r&&(hd s r == q)&&!gb c0.dead r)=cN m (fun r=>supD s.t r&&(hd s r == q)):=cN_congr fun i i0 i1=>by rw [h0 i i0 i1];simp
 have:=cN_split (m:=m) (f:=fun r=>supD s.t r&&(hd s r == q)) (fun r=>gb c.dead r)
 omega
def sizeB (m:Nat) (s:Es):Int:=sm m (fun r=>((bd s r).length:Nat))
def sizeP (n m:Nat) (s:Es):Int:=sm n (fun q=>cntR m s q * cntF m s q)
theorem cost_all (h:Fin n m np s pq ps fact laid Pr c0 c):3 * sm n (popP Pr) - 2 * sm n (popP laid) + V n m np s c - V n m np s c0=sm n (costA laid Pr c0 c) + (sm n (costQ c0 c) + sm n (costP np pq c0 c)) + sm m (costR s c0 c):=by
 have e1:sm np (vp c) - sm np (vp c0)=sm n (costP np pq c0 c):=by
  rw [← sm_sub,← sm_by (n:=n) (h:=pq) (m:=np) (w:=fun p=>vp c p - vp c0 p) (fun p p0 p1=>(h.con.pr p p0 p1).1)]
  rfl
 have e2:sm n (fun q=>sm m (fun r=>if hd s r=q then b1 (isSt s r&&gb c.deadD r) else 0))=sm m (fun r=>b1 (isSt s r&&gb c.deadD r)):=sm_by (h:=hd s) (fun r r0 r1=>h.con.head r r0 r1)
 have e3:sm n (fun q=>sm m (fun r=>if hd s r=q then b1 (supD s.t r&&gb c.dead r) else 0))=sm m (fun r=>b1 (supD s.t r&&gb c.dead r)):=sm_by (h:=hd s) (fun r r0 r1=>h.con.head r r0 r1)
 have e4:3 * sm n (popP Pr) - 2 * sm n (popP laid) + (sm n (vq c) - sm n (vq c0))=sm n (costA laid Pr c0 c) + sm n (costQ c0 c) + (sm n (fun q=>sm m (fun r=>if hd s r=q then b1 (isSt s r&&gb c.deadD r) else 0)) + sm n (fun q=>sm m (fun r=>if hd s r=q then b1 (supD s.t r&&gb c.dead r) else 0))):=by
  rw [← sm_mul,← sm_mul,← sm_sub,← sm_sub,← sm_add,← sm_add,← sm_add,← sm_add]
  refine sm_congr fun q q0 q1=>?_
  rw [← strict_diff h q0 q1,← backs_diff h q0 q1]
  unfold costA costQ vq
  omega
 have e5:sm m (vr s c) - sm m (vr s c0) + sm m (fun r=>b1 (isSt s r&&gb c.deadD r)) + sm m (fun r=>b1 (supD s.t r&&gb c.dead r))=sm m (costR s c0 c):=by
  rw [← sm_sub,← sm_add,← sm_add]
  rfl
 unfold V
 omega
theorem cost_le (h:Fin n m np s pq ps fact laid Pr c0 c):0≤3 * sm n (popP Pr) - 2 * sm n (popP laid) + V n m np s c - V n m np s c0∧3 * sm n (popP Pr) - 2 * sm n (popP laid) + V n m np s c - V n m np s c0≤4 * (n + sizeB m s + sizeP n m s):=by
 rw [cost_all h]
 have a0:0≤sm n (costA laid Pr c0 c):=sm_nonneg fun q q0 q1=>(costA_le h q0 q1).1
 have b0:0≤sm n (costQ c0 c):=sm_nonneg fun q q0 q1=>costQ_nonneg h q0 q1
 have d0:0≤sm n (costP np pq c0 c):=sm_nonneg fun q q0 q1=>costP_nonneg h
 have r0:0≤sm m (costR s c0 c):=sm_nonneg fun r r0 r1=>(costR_le h r0 r1).1
 have a1:sm n (costA laid Pr c0 c)≤sm n (fun q=>4 + SL m s c q):=sm_le fun q q0 q1=>(costA_le h q0 q1).2
 have a2:sm n (SL m s c)=sm m (slack s c):=sm_by (h:=hd s) (fun r r0 r1=>h.con.head r r0 r1)
 rw [sm_add,sm_const,show sm n (fun q=>SL m s c q)=sm n (SL m s c) from rfl,a2] at a1
 have r1:sm m (fun r=>costR s c0 c r + slack s c r)≤sm m (fun r=>4 * ((bd s r).length:Nat)):=sm_le fun r r0 r1=>(costR_le h r0 r1).2
 rw [sm_add,sm_mul] at r1
 have q1:sm n (fun q=>costQ c0 c q + costP np pq c0 c q)≤sm n (fun q=>4 * (cntR m s q * cntF m s q)):=sm_le fun q q0 q1=>costPQ_le h q0 q1
 rw [sm_add,sm_mul] at q1
 have e1:sm m (fun r=>costR s c0 c r)=sm m (costR s c0 c):=rfl
 have e2:sm m (fun r=>slack s c r)=sm m (slack s c):=rfl
 have e3:sm n (fun q=>costQ c0 c q)=sm n (costQ c0 c):=rfl
 have e4:sm n (fun q=>costP np pq c0 c q)=sm n (costP np pq c0 c):=rfl
 unfold sizeB sizeP
 refine ⟨by omega,?_⟩
 rw [e1,e2] at r1
 rw [e3,e4] at q1
 omega
theorem size_small (hc:Con n m np s pq ps):sizeB m s≤65536∧sizeP n m s≤4398046511104:=by
 obtain ⟨hn,hm⟩:=hc.ok.small
 have h1:sizeB m s≤sm m (fun _=>16):=sm_le fun r r0 r1=>by have:=(hc.body r r0 r1).2.1;omega
 rw [sm_const] at h1
 have hR:∀ q,cntR m s q≤4096:=fun q=>by
  have:=cN_le m (fun r=>hd s r == q)
  unfold cntR
  omega
 have hL:∀ (l:List Int),lsum l (cntR m s)≤l.length * 4096:=fun l=>by
  induction l with
  | nil=>show (0:Int)≤_;simp
  | cons a l ih=>
   show cntR m s a + lsum l (cntR m s)≤_
   have:=hR a
   rw [List.length_cons,Int.natCast_add,Int.add_mul]
   omega
 have h2:sizeP n m s≤sm n (fun _=>1073741824):=sm_le fun q q0 q1=>by
  have h3:=(hc.foes q q0 q1).2.1
  have h4:=hL (foT s.t q)
  have h5:cntF m s q≤262144:=by
   have e3:rowAt (tFoes s.t) q=foT s.t q:=rfl
   rw [e3] at h3
   unfold cntF
   omega
  have h6:0≤cntF m s q:=lsum_nonneg fun _ _=>cntR_nonneg
  have h7:=Int.mul_le_mul_of_nonneg_right (hR q) h6
  omega
 rw [sm_const] at h2
 omega
end
section
variable {n m:Nat} {t:ThV} {facts:List Int}
theorem runD_up (hk:THk n m t) (hfr:∀ q∈facts,0≤q∧q < n):0≤(En.runD t n m facts).up∧(En.runD t n m facts).up≤4 * (n + sizeB m (En.layS t n m facts) + sizeP n m (En.layS t n m facts)):=by
 obtain ⟨h,hm⟩:=runD_mo hk hfr
 have hF:=fin_of hk h hm
 have hc:=cost_le hF
 have hs:=size_small hF.con
 have hn:=hF.con.ok.small.1
 have e1:sm n (popP (PrI (En.runD t n m facts).told.length (En.runD t n m facts).told))=(((En.runD t n m facts).told.length:Nat):Int):=by
  rw [told_sm h.inv.ok]
  refine sm_congr fun q q0 q1=>?_
  have:∀ k,1≤k→k≤4→PrI (En.runD t n m facts).told.length (En.runD t n m facts).told q k=(En.runD t n m facts).has q k:=fun k k0 k1=>Bool.eq_iff_iff.2 (by rw [pri_all,h.inv.kp.tm.has q k q0 q1 k0 k1])
  unfold popP
  rw [this 1 (by omega) (by omega),this 2 (by omega) (by omega),this 3 (by omega) (by omega),this 4 (by omega) (by omega)]
 have e2:sm n (popP (laidB t n m facts))=(((En.layD t n m facts).told.length:Nat):Int):=by
  rw [told_sm h.lay.ok]
  refine sm_congr fun q q0 q1=>?_
  have:∀ k,1≤k→k≤4→laidB t n m facts q k=(En.layD t n m facts).has q k:=fun k k0 k1=>Bool.eq_iff_iff.2 (by rw [decide_eq_true_iff,h.lay.tm.has q k q0 q1 k0 k1])
  unfold popP
  rw [this 1 (by omega) (by omega),this 2 (by omega) (by omega),this 3 (by omega) (by omega),this 4 (by omega) (by omega)]
 rw [e1,e2] at hc
 obtain ⟨j,hj⟩:=h.up
 obtain ⟨g1,g2⟩:=h.rg
 generalize (En.runD t n m facts).up=u at *
 generalize 3 * (((En.runD t n m facts).told.length:Nat):Int) - 2 * (((En.layD t n m facts).told.length:Nat):Int) + V n m (npL t n m facts) (En.layS t n m facts) (En.runD t n m facts).core - V n m (npL t n m facts) (En.layS t n m facts) (En.layD t n m facts).core=T at *
 omega
end
end Go.Proofs.YtbcdgcodnkgdoaaGreat
set_option maxRecDepth 10000
namespace Go.Proofs.YtbcdgcodnkgdoaaGreat
open Go Go.RowKit
def sizesGo:List Int→List Int→List Int
 | [],l=>l
 | w::r,l=>sizesGo r (incAt l w)
def sizesD (k:KN):List Int:=sizesGo k.of (List.replicate k.kn.toNat 0)
def circleD (t:ThV):Int:=idxF (fun w=>decide (1 < hdAt (sizesD (knotD (beatAt t) (tBeats t).length)) w)) (knotD (beatAt t) (tBeats t).length).of
theorem knotGo_ok {n:Nat} {nx:Int→List Int} (hnx:∀ v:Int,0≤v→v < n→∀ w∈nx v,0≤w∧w < n):∀ (r i:Nat) (k:KN),i + r=n→KOk n 0 k→KOk n 0 (knotGo nx n r i k)
 | 0,i,k,_,h=>h
 | r + 1,i,k,hi,h=>by
  unfold knotGo
  exact knotGo_ok hnx r (i + 1) _ (by omega) (knot_ok hnx h (by omega))
theorem knotD_ok {n:Nat} {nx:Int→List Int} (hnx:∀ v:Int,0≤v→v < n→∀ w∈nx v,0≤w∧w < n):KOk n 0 (knotD nx n):=knotGo_ok hnx n 0 _ (by omega) (KOk.new n)
attribute [local irreducible] RW CW
set_option maxHeartbeats 8000000 in
theorem circle_ret {t:ThV} {x:TC} {w:World} (h:ThOn (mem w (fun b=>¬ No b)) t x) (hB:(tBeats t).length=(tRules t).length) (hn:(tBeats t).length≤4096) (hnx:∀ v:Int,0≤v→v < (tBeats t).length→∀ w∈beatAt t v,0≤w∧w < (tBeats t).length)
 (hof:∀ w∈(knotD (beatAt t) (tBeats t).length).of,0≤w∧w < (knotD (beatAt t) (tBeats t).length).kn):Ret Tryz.prog 77 [.agg (x.th t).toArray] w (.int .i64 (circleD t)):=by
 have hle:Mem.le (mem w (fun b=>¬ No b)) (mem w (fun b=>¬ No b)):=Mem.le_refl _
 have hko:=knotD_ok hnx
 unfold circleD
 generalize hnn:(tBeats t).length=n at *
 refine Calls.enter Tryz.func77 rfl _ rfl rfl (S:=No) (H:=[]) trivial ?_
 refine CW.seqR ?_
 refine RW.box_agg (l:=x.th t) rfl rfl fun b1 _=>?_
 refine Jd ?_;refine Jb ?_;refine Ja ?_;refine Je ?_;refine JA ?_;refine Jg ?_;refine Jx ?_
 refine RW.callN Tryz.call117 (show _=some [.int .i64 n,nextV b1] by rw [hB];rfl) (fun w2 hw=>knot_ret hnn hn hnx (blk_mem (fun k=>k) (St.blk (pre:=[]) hw)) (h.mono (ro_call hw))) rfl fun ⟨bk,a,sv⟩=>?_
 generalize knotD (beatAt t) n=k at *
 have hkn:=hko.kn
 have hkc:=hko.ct
 have hk0:=hko.kn0
 obtain ⟨m,hm⟩:∃ m:Nat,k.kn=m:=⟨k.kn.toNat,by omega⟩
 refine Jd ?_;refine Jb ?_;refine Ja ?_;refine Jc ?_;refine Jf ?_;refine Je ?_;refine JA ?_
 refine RW.make (n:=m) (zc:=[.int .i64 0]) rfl rfl hm rfl rfl (by unfold maxN;omega) (by omega) rfl fun Bz=>?_
 refine RW.alloc (c:=[.slice none 0 0]) rfl rfl fun b4 _=>?_
 refine RW.store_blk [] rfl rfl rfl rfl rfl (Nat.zero_lt_succ _) ?_
 refine Jb ?_
 refine CW.seq ?_
 refine Ja ?_;refine Jc ?_;refine Jf ?_;refine Je ?_;refine JC ?_;refine Jg ?_;refine Jc ?_;refine Jb ?_
 refine CW.sep [blk b4 [.slice (some ⟨Bz,0,none⟩) m m] 26,ownHP 3 1 (.slice (some ⟨Bz,0,none⟩) m m) (List.replicate m [.int .i64 0]),blk bk (knC b1 a n sv k.ct k.kn) 190,ownHP 3 1 (.slice (some ⟨a.B5,0,none⟩) n n) (k.of.map intE)] (fun w A h=>Sep.take [0,1,2,7] h) ?_
 refine CW.block ?_
 refine CW.loop (ι:={ q:Nat × List Int // q.1≤n∧Counts m q.1 q.2∧sizesD k=sizesGo (k.of.drop q.1) q.2 }) (fun q=>[(3,ptrV bk),(4,ptrV b4),(20,.slice (some ⟨a.B5,0,none⟩) n n),(21,.int .i64 n),(22,.int .i64 q.1.1)])
  (fun q=>[blk b4 [.slice (some ⟨Bz,0,none⟩) m m] 26,ownHP 3 1 (.slice (some ⟨Bz,0,none⟩) m m) (q.1.2.map intE),blk bk (knC b1 a n sv k.ct k.kn) 190,ownHP 3 1 (.slice (some ⟨a.B5,0,none⟩) n n) (k.of.map intE)]) (fun q=>n - q.1.1)
  ⟨(0,List.replicate m 0),Nat.zero_le _,⟨by simp,fun v hv=>by rw [List.eq_of_mem_replicate hv];exact ⟨Int.le_refl _,Int.le_refl _⟩⟩,by unfold sizesD;rw [hm];rfl⟩ ⟨rfl,rfl,rfl,rfl,rfl,trivial⟩ (fun h=>by rw [List.map_replicate];exact h) ?_
 intro ⟨⟨i,sz⟩,hi,hCt,hS⟩
 dsimp only at hi hCt hS ⊢
 refine Ja ?_;refine Jk ?_;refine Jb ?_
 refine CW.seq ?_
 refine CW.ite rfl (fun hlt=>?_) (fun hge=>?_)
 ·have hlt':i < k.of.length:=by rw [hko.of];omega
  rw [List.drop_eq_getElem_cons hlt',sizesGo] at hS
  have go:k.of[i]?=some k.of[i]:=List.getElem?_eq_getElem hlt'
  obtain ⟨u0,u1⟩:=hof _ (List.getElem_mem hlt')
  generalize k.of[i]=u at *
  have gz:=hd_get (q:=u) hCt.1 u0 (by omega)
  have hb:=hCt.at (by omega) u
  refine CW.skip ?_
  refine PW.code ?_
  refine CW.seq ?_
  refine CW.block ?_
  refine CW.seq ?_
  refine CW.region ?_
  refine RW.indexAddr rfl rfl (by omega) hlt rfl ?_
  refine RW.loadOwn1 [_,_,_] (i:=i) (j:=0) rfl (by simp) (mapE_get go) rfl rfl rfl ?_
  refine Jd ?_;refine Jb ?_
  refine CW.region ?_
  refine JA ?_;refine Jc ?_
  refine RW.indexAddr rfl rfl u0 (by omega) rfl ?_
  refine RW.loadOwn1 [_] (i:=u.toNat) (j:=0) rfl (by simp) (mapE_get gz) rfl rfl rfl ?_
  refine RW.add rfl rfl (w64 (by omega) (by omega)) rfl ?_
  refine RW.indexAddr rfl rfl u0 (by omega) rfl ?_
  refine RW.storeOwn [_] (v:=.int .i64 (hdAt sz u + 1)) (i:=u.toNat) (j:=0) rfl (by simp) rfl rfl rfl (mapE_get gz) (Nat.zero_lt_succ _) ?_
  refine RW.nil ?_
  refine PW.code ?_
  refine CW.region ?_
  refine RW.add rfl rfl (w64 (by omega) (by omega)) rfl ?_
  refine Jc ?_
  refine RW.nil ?_
  refine PW.again ⟨(i + 1,incAt sz u),by dsimp only;omega,hCt.inc (by omega) _,hS⟩ ⟨rfl,rfl,rfl,rfl,rfl,trivial⟩ (fun hw=>?_) (by show n - (i + 1) < n - i;omega)
  unfold incAt
  rw [List.map_set]
  exact hw
 have hge':k.of.length≤i:=by rw [hko.of];omega
 rw [List.drop_eq_nil_of_le hge',sizesGo] at hS
 refine CW.exit rfl ?_
 refine PW.code ?_
 refine Ja ?_;refine Jc ?_;refine Jf ?_;refine Je ?_;refine JC ?_;refine Jx ?_
 have hofl:k.of.length=n:=hko.of
 refine RW.call Tryz.call119 (show _=some [.slice (some ⟨a.B5,0,none⟩) k.of.length n,.func (.func 120) #[] [ptrV b4].toArray] by rw [hofl];rfl) (fun w2 hw=>indexFunc_ret (p:=fun w=>decide (1 < hdAt (sizesD k) w)) Tryz.call120 (by omega) (own_ints (pre:=[_,_,_]) hw) (fun w3 y hy hk3=>?_)) rfl ?_
 ·obtain ⟨y0,y1⟩:=hof y hy
  have hmt:Mem.le (mem w2 (fun b=>¬ No b)) (mem w3 (fun b=>¬ No b)):=mem_to hk3 (fun b hb hl=>⟨hb,hb⟩)
  rw [hS]
  exact circle2_ret (hmt _ _ _ (blk_mem (fun k=>k) (St.blk (pre:=[]) hw) 0 _ rfl)) ((own_ints (pre:=[_]) hw).mono hmt) hCt.1 y0 (by omega)
 refine Jd ?_;refine Jb ?_
 exact CW.ret1 rfl Tryz.results77 rfl rfl fun w hw=>⟨rfl,hw.kp⟩
end Go.Proofs.YtbcdgcodnkgdoaaGreat
