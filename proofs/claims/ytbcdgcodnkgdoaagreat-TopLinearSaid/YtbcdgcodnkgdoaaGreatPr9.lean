/- Parts of the proof: fast's beginning: who has what in its body; the pairs. · fast's beginning: who beats whom; what is only read is right. · fast's beginning: rules without a body; the counters are right, and what is laid is just. · fast's run, from beginning to end: just what follows is told. · fast's run: just what follows is told. · What goes one way alone in fast's counters. · How much fast's run costs: counting; what each rule costs. · How much fast's run costs: literals, and pairs. · How much fast's run costs: all of it. · A chain of rules, as data: it may be; what follows of it. · A chain of rules: what fast tells of it, and in how many updates. · The document's rounds end with what follows. · Knots: each edge leads to a knot that is no later; without circles each node is a knot of its own. · The circle's place is there just if a way leads from a node back to it. Conditions: none. -/
import Derived.Test.YtbcdgcodnkgdoaaGreatPr8
/- fast's beginning: who has what in its body; the pairs. Conditions: none. -/
set_option linter.unusedVariables false
set_option linter.unusedSimpArgs false
namespace Go.Proofs.YtbcdgcodnkgdoaaGreat
open Go Go.RowKit
section
section
variable {n m:Nat} {t:ThV} {e:En} {q r x k:Int} {i:Nat} {facts:List Int} {L:List (List Int)}
theorem oQ {b:Int}:(bV L b r).length=L.length:=by unfold bV;rw [List.length_set]
theorem lu {b:Int} (hL:L.length=n) (b0:0≤b) (b1:b < n) (x0:0≤x):ap (bV L b r) x=if x=b then ap L b++[r] else ap L x:=aV hL b0 b1 x0
theorem nS:∀ {l:List Int} {L:List (List Int)},L.length=n→l.Nodup→(∀ b∈l,0≤b∧b < n)→(l.foldl (fun l b=>bV l b r) L).length=n∧∀ (x:Int),0≤x→ap (l.foldl (fun l b=>bV l b r) L) x=if x∈l then ap L x++[r] else ap L x
 | [],L,hL,_,_=>⟨hL,fun x _=>by simp⟩
 | b::l,L,hL,hn,hl=>by
  rw [List.nodup_cons] at hn;obtain ⟨b0,b1⟩:=hl b (List.mem_cons_self ..);obtain ⟨h1,h2⟩:=nS (l:=l) (L:=bV L b r) (by rw [oQ];exact hL) hn.2 (fun u hu=>hl u (List.mem_cons_of_mem _ hu));rw [List.foldl_cons];refine ⟨h1,fun x x0=>?_⟩;rw [h2 x x0,lu hL b0 b1 x0];by_cases e:x=b
  ·subst e
   rw [if_neg hn.1,if_pos rfl,if_pos (by simp)]
  ·rw [if_neg e]
   by_cases hx:x∈l
   ·rw [if_pos hx,if_pos (by simp [hx])]
   ·rw [if_neg hx,if_neg (by simp [hx,e])]
theorem kD:ap (List.replicate n []) q=[]:=by
 show (List.replicate n []).getD q.toNat []=[];rw [List.getD_eq_getElem?_getD,List.getElem?_replicate];split <;> rfl
theorem xA (hk:THk n m t):∀ (q:Int),0≤q→q < n→(ap (En.layIn t n m) q).Nodup∧∀ r,r∈ap (En.layIn t n m) q↔(0≤r∧r < m)∧q∈bdT t r:=by
 have ht:=hk.tok;have:=co (f:=En.lay1I t) (fun i L=>L.length=n∧∀ (q:Int),0≤q→q < n→(ap L q).Nodup∧∀ r,r∈ap L q↔(0≤r∧r < i)∧q∈bdT t r) m 0 (List.replicate n []) (fun i L _ hi ⟨a,b⟩=>?_) ⟨by simp,fun q q0 q1=>by rw [kD];exact ⟨List.nodup_nil,fun r=>⟨fun k=>(by cases k),fun k=>by omega⟩⟩⟩
 ·rw [Nat.zero_add] at this
  exact this.2
 ·have i0:(0:Int)≤i:=by omega
  have i1:(i:Int) < m:=by omega
  obtain ⟨_,_,hb⟩:=ht.rule i0 i1;obtain ⟨h1,h2⟩:=nS (r:=(i:Int)) (l:=bdT t i) a (hk.body i i0 i1) hb;refine ⟨h1,fun q q0 q1=>?_⟩;obtain ⟨b1,b2⟩:=b q q0 q1;show (ap ((bdT t i).foldl (fun l b=>bV l b i) L) q).Nodup∧_;unfold En.lay1I;rw [h2 q q0];by_cases hq:q∈bdT t i
  ·rw [if_pos hq]
   refine ⟨?_,fun r=>?_⟩
   ·rw [List.nodup_append]
    refine ⟨b1,by simp,fun u hu v hv=>?_⟩;rw [List.mem_singleton] at hv;subst hv;have:=((b2 u).1 hu).1.2;omega
   ·rw [List.mem_append,List.mem_singleton,b2 r]
    constructor
    ·rintro (⟨k,k2⟩ | k)
     ·exact ⟨by omega,k2⟩
     ·subst k;exact ⟨by omega,hq⟩
    ·rintro ⟨k,k2⟩
     by_cases e:r=i
     ·exact .inr e
     ·exact .inl ⟨by omega,k2⟩
  ·rw [if_neg hq]
   refine ⟨b1,fun r=>?_⟩;rw [b2 r];constructor
   ·rintro ⟨k,k2⟩;exact ⟨by omega,k2⟩
   ·rintro ⟨k,k2⟩
    by_cases e:r=i
    ·subst e;exact absurd k2 hq
    ·exact ⟨by omega,k2⟩
end
abbrev iC (x:En):Int:=(x.pairs.length:Nat)
structure P1 (n m K:Nat) (e:En) (D:Int→Int→Prop) (x:En.PS):Prop where
 eq:x.e={ e with pairs:=x.e.pairs,attacks:=x.e.attacks }
 most:x.e.pairs.length≤K
 lat:x.e.attacks.length=n
 ld:x.d.length=n
 lof:x.of.length=m
 att:∀ (q:Int),0≤q→q < n→gi x.e.attacks q=cN x.e.pairs.length (fun p=>(x.e.pair p).1 == q)
 of:∀ (s:Int),0≤s→s < m→(ap x.of s).Nodup∧∀ p,p∈ap x.of s↔(0≤p∧p < iC x.e)∧(x.e.pair p).2.1=s
 src:∀ (p:Int),0≤p→p < iC x.e→D (x.e.pair p).1 (x.e.pair p).2.1∧gi e.backs (x.e.pair p).1≠0∧(x.e.pair p).2.2=(false,0)
 get:∀ (q s p:Int),0≤q→q < n→0≤s→s < m→i2 (x.d.getD q.toNat []) s=some p→(0≤p∧p < iC x.e)∧(x.e.pair p).1=q∧(x.e.pair p).2.1=s
 cov:∀ (q s:Int),0≤q→q < n→0≤s→s < m→D q s→gi e.backs q≠0→∃ p,i2 (x.d.getD q.toNat []) s=some p
 one:∀ (p p':Int),0≤p→p < iC x.e→0≤p'→p' < iC x.e→(x.e.pair p).1=(x.e.pair p').1→(x.e.pair p).2.1=(x.e.pair p').2.1→p=p'
section
variable {n m K:Nat} {t:ThV} {e:En} {q s p:Int} {D D':Int→Int→Prop} {x:En.PS}
theorem P1.cg (h:P1 n m K e D x) (hD:∀ q s,D' q s↔D q s):P1 n m K e D' x:=by
 have:D'=D:=by funext q s;exact propext (hD q s)
 rw [this];exact h
theorem P1.up {K':Nat} (h:P1 n m K e D x) (hK:K≤K'):P1 n m K' e D x:=⟨h.eq,Nat.le_trans h.most hK,h.lat,h.ld,h.lof,h.att,h.of,h.src,h.get,h.cov,h.one⟩
theorem Au {α:Type} {l:List α} {v d:α} {p:Int} (p0:0≤p) (p1:p≤l.length):(l++[v]).getD p.toNat d=if p=l.length then v else l.getD p.toNat d:=by
 rw [List.getD_eq_getElem?_getD,List.getD_eq_getElem?_getD];by_cases e:p=l.length
 ·rw [if_pos e,List.getElem?_append_right (by omega),show p.toNat - l.length=0 by omega]
  rfl
 ·rw [if_neg e,List.getElem?_append_left (by omega)]
theorem P1.step {s:Nat} (hK:K≤1000000) (h:P1 n m K e D x) (q0:0≤q) (q1:q < n) (s1:s < m) (hn:¬ D q s):P1 n m (K + 1) e (fun q' s'=>D q' s'∨(q'=q∧s'=s)) (En.pairA s x q):=by
 have hbk:x.e.backs=e.backs:=by rw [h.eq]
 unfold En.pairA;by_cases hz:(x.e.backs.getD q.toNat 0 == 0)=true
 ·rw [if_pos hz]
  rw [hbk] at hz;have hz2:gi e.backs q=0:=beq_iff_eq.1 hz;refine ⟨h.eq,Nat.le_succ_of_le h.most,h.lat,h.ld,h.lof,h.att,h.of,fun p p0 p1=>⟨.inl (h.src p p0 p1).1,(h.src p p0 p1).2⟩,h.get,fun q' s' a b c d hD hb=>?_,h.one⟩;rcases hD with hD | ⟨rfl,rfl⟩
  ·exact h.cov q' s' a b c d hD hb
  ·exact absurd hz2 hb
 ·rw [if_neg hz]
  have hz2:gi e.backs q≠0:=fun k=>hz (by rw [hbk];exact beq_iff_eq.2 k);obtain ⟨N,hN⟩:∃ N,N=x.e.pairs.length:=⟨_,rfl⟩;have hmost:=h.most;have hpx:∀ (p:Int),0≤p→p≤N→(x.e.pairs++[(q,(s:Int),false,0)]).getD p.toNat (0,0,false,0)=if p=N then (q,(s:Int),false,0) else x.e.pair p:=fun p p0 p1=>by rw [hN];exact Au p0 (by rw [← hN];exact p1)
  have hlen:(x.e.pairs++[(q,(s:Int),false,0)]).length=N + 1:=by rw [hN];simp
  have hR:=h.att q q0 q1;have c1:=ci x.e.pairs.length (fun p=>(x.e.pair p).1 == q);have c2:=nu x.e.pairs.length (fun p=>(x.e.pair p).1 == q);refine ⟨?_,by rw [hlen];omega,by show (En.inc _ _).length=n;rw [xO];exact h.lat,by simp [h.ld],by show (bV _ _ _).length=m;rw [oQ];exact h.lof,fun y y0 y1=>?_,fun s' s0' s1'=>?_,fun p p0 p1=>?_,fun q' s' p a0 a1 b0 b1 hg=>?_,fun q' s' a0 a1 b0 b1 hD hb=>?_,fun p p' a0 a1 b0 b1 e1 e2=>?_⟩
  ·show ({ x.e with pairs:=_,attacks:=_ }:En)=_
   rw [h.eq]
  ·show gi (En.inc x.e.attacks q) y=cN (x.e.pairs++[(q,(s:Int),false,0)]).length (fun p=>((x.e.pairs++[(q,(s:Int),false,0)]).getD p.toNat (0,0,false,0)).1 == y)
   rw [tR h.lat q0 q1 y0 (by omega) (by omega),hlen,dM,hpx N (by omega) (by omega),if_pos rfl];have hc:cN N (fun p=>((x.e.pairs++[(q,(s:Int),false,0)]).getD p.toNat (0,0,false,0)).1 == y)=cN N (fun p=>(x.e.pair p).1 == y):=bL fun p p0 p1=>by rw [hpx p p0 (by omega),if_neg (by omega)]
   rw [hc];have ha:=h.att y y0 y1;rw [← hN] at ha;by_cases ey:y=q
   ·subst ey
    rw [if_pos rfl,if_pos (by simp),ha]
   ·rw [if_neg ey,if_neg (by rw [beq_iff_eq];exact fun k=>ey k.symm),ha]
    omega
  ·show (ap (bV x.of s _) s').Nodup∧∀ p,p∈ap (bV x.of s _) s'↔(0≤p∧p < ((x.e.pairs++[(q,(s:Int),false,0)]).length:Nat))∧((x.e.pairs++[(q,(s:Int),false,0)]).getD p.toNat (0,0,false,0)).2.1=s'
   rw [lu h.lof (by omega) (by omega) s0',hlen,← hN];obtain ⟨o1,o2⟩:=h.of s' s0' s1';by_cases es:s'=s
   ·subst es
    rw [if_pos rfl];refine ⟨?_,fun p=>?_⟩
    ·rw [List.nodup_append]
     refine ⟨o1,by simp,fun u hu v hv=>?_⟩;rw [List.mem_singleton] at hv;subst hv;have:=((o2 u).1 hu).1.2;dsimp only [iC] at this;omega
    ·rw [List.mem_append,List.mem_singleton,o2 p]
     dsimp only [iC];constructor
     ·rintro (⟨k,k2⟩ | k)
      ·exact ⟨by omega,by rw [hpx p k.1 (by omega),if_neg (by omega)];exact k2⟩
      ·subst k;exact ⟨by omega,by rw [hpx N (by omega) (by omega),if_pos rfl]⟩
     ·rintro ⟨k,k2⟩
      by_cases e1:p=N
      ·exact .inr e1
      ·rw [hpx p k.1 (by omega),if_neg e1] at k2
       exact .inl ⟨by omega,k2⟩
   ·rw [if_neg es]
    refine ⟨o1,fun p=>?_⟩;rw [o2 p];dsimp only [iC];constructor
    ·rintro ⟨k,k2⟩
     exact ⟨by omega,by rw [hpx p k.1 (by omega),if_neg (by omega)];exact k2⟩
    ·rintro ⟨k,k2⟩
     rw [hpx p k.1 (by omega)] at k2;by_cases e1:p=N
     ·rw [if_pos e1] at k2
      exact absurd k2.symm es
     ·rw [if_neg e1] at k2
      exact ⟨by omega,k2⟩
  ·have p1':p < ((x.e.pairs++[(q,(s:Int),false,0)]).length:Nat):=p1
   rw [hlen] at p1';show (D ((x.e.pairs++[(q,(s:Int),false,0)]).getD p.toNat (0,0,false,0)).1 ((x.e.pairs++[(q,(s:Int),false,0)]).getD p.toNat (0,0,false,0)).2.1∨((x.e.pairs++[(q,(s:Int),false,0)]).getD p.toNat (0,0,false,0)).1=q∧((x.e.pairs++[(q,(s:Int),false,0)]).getD p.toNat (0,0,false,0)).2.1=(s:Int))∧gi e.backs ((x.e.pairs++[(q,(s:Int),false,0)]).getD p.toNat (0,0,false,0)).1≠0∧((x.e.pairs++[(q,(s:Int),false,0)]).getD p.toNat (0,0,false,0)).2.2=(false,0);rw [hpx p p0 (by omega)];by_cases e1:p=N
   ·rw [if_pos e1]
    exact ⟨.inr ⟨rfl,rfl⟩,hz2,rfl⟩
   ·rw [if_neg e1]
    obtain ⟨k1,k2⟩:=h.src p p0 (by dsimp only [iC];omega);exact ⟨.inl k1,k2⟩
  ·show (0≤p∧p < ((x.e.pairs++[(q,(s:Int),false,0)]).length:Nat))∧((x.e.pairs++[(q,(s:Int),false,0)]).getD p.toNat (0,0,false,0)).1=q'∧((x.e.pairs++[(q,(s:Int),false,0)]).getD p.toNat (0,0,false,0)).2.1=s'
   have hg2:i2 ((x.d.set q.toNat (m9 (x.d.getD q.toNat []) (s:Int) (x.e.pairs.length:Int))).getD q'.toNat []) s'=some p:=hg;rw [aV h.ld q0 q1 a0] at hg2;rw [hlen]
   have old:i2 (x.d.getD q'.toNat []) s'=some p→(0≤p∧p < ((N + 1:Nat):Int))∧((x.e.pairs++[(q,(s:Int),false,0)]).getD p.toNat (0,0,false,0)).1=q'∧((x.e.pairs++[(q,(s:Int),false,0)]).getD p.toNat (0,0,false,0)).2.1=s':=fun hg3=>by
    obtain ⟨k1,k2,k3⟩:=h.get q' s' p a0 a1 b0 b1 hg3;dsimp only [iC] at k1;refine ⟨by omega,?_⟩;rw [hpx p k1.1 (by omega),if_neg (by omega)];exact ⟨k2,k3⟩
   by_cases eq:q'=q
   ·rw [if_pos eq,tS] at hg2
    by_cases es:(s:Int)=s'
    ·rw [if_pos es] at hg2
     injection hg2 with hg2;rw [← hN] at hg2;subst hg2;refine ⟨by omega,?_⟩;rw [hpx N (by omega) (by omega),if_pos rfl];exact ⟨eq.symm,es⟩
    ·rw [if_neg es] at hg2
     exact old (by rw [eq];exact hg2)
   ·rw [if_neg eq] at hg2
    exact old hg2
  ·show ∃ p,i2 ((x.d.set q.toNat (m9 (x.d.getD q.toNat []) (s:Int) (x.e.pairs.length:Int))).getD q'.toNat []) s'=some p
   rw [aV h.ld q0 q1 a0];by_cases eq:q'=q
   ·rw [if_pos eq,tS]
    by_cases es:(s:Int)=s'
    ·rw [if_pos es];exact ⟨_,rfl⟩
    ·rw [if_neg es]
     rcases hD with hD | hD
     ·rw [← eq];exact h.cov q' s' a0 a1 b0 b1 hD hb
     ·exact absurd hD.2.symm es
   ·rw [if_neg eq]
    rcases hD with hD | hD
    ·exact h.cov q' s' a0 a1 b0 b1 hD hb
    ·exact absurd hD.1 eq
  ·have a1':p < ((x.e.pairs++[(q,(s:Int),false,0)]).length:Nat):=a1
   have b1':p' < ((x.e.pairs++[(q,(s:Int),false,0)]).length:Nat):=b1;rw [hlen] at a1' b1';have e1':((x.e.pairs++[(q,(s:Int),false,0)]).getD p.toNat (0,0,false,0)).1=((x.e.pairs++[(q,(s:Int),false,0)]).getD p'.toNat (0,0,false,0)).1:=e1;have e2':((x.e.pairs++[(q,(s:Int),false,0)]).getD p.toNat (0,0,false,0)).2.1=((x.e.pairs++[(q,(s:Int),false,0)]).getD p'.toNat (0,0,false,0)).2.1:=e2;rw [hpx p a0 (by omega),hpx p' b0 (by omega)] at e1' e2';by_cases c1:p=N
   ·by_cases c2:p'=N
    ·omega
    ·rw [if_pos c1,if_neg c2] at e1' e2'
     obtain ⟨k1,_⟩:=h.src p' b0 (by dsimp only [iC];omega);rw [← e1',← e2'] at k1;exact absurd k1 hn
   ·by_cases c2:p'=N
    ·rw [if_neg c1,if_pos c2] at e1' e2'
     obtain ⟨k1,_⟩:=h.src p a0 (by dsimp only [iC];omega);rw [e1',e2'] at k1;exact absurd k1 hn
    ·rw [if_neg c1,if_neg c2] at e1' e2'
     exact h.one p p' a0 (by dsimp only [iC];omega) b0 (by dsimp only [iC];omega) e1' e2'
theorem P1.steps {s:Nat} (s1:s < m):∀ {l:List Int} {K:Nat} {D:Int→Int→Prop} {x:En.PS},K + l.length≤1000000→l.Nodup→(∀ q∈l,(0≤q∧q < n)∧¬ D q s)→P1 n m K e D x→P1 n m (K + l.length) e (fun q' s'=>D q' s'∨(q'∈l∧s'=s)) (l.foldl (En.pairA s) x)
 | [],K,D,x,_,_,_,h=>h.cg (fun q s=>by simp)
 | q::l,K,D,x,hK,hn,hl,h=>by
  rw [List.nodup_cons] at hn;rw [List.length_cons] at hK;obtain ⟨⟨q0,q1⟩,hq⟩:=hl q (List.mem_cons_self ..);have:=P1.steps s1 (l:=l) (K:=K + 1) (by omega) hn.2 (fun u hu=>⟨(hl u (List.mem_cons_of_mem _ hu)).1,fun k=>k.elim (hl u (List.mem_cons_of_mem _ hu)).2 (fun k=>hn.1 (k.1 ▸ hu))⟩) (h.step (s:=s) (by omega) q0 q1 s1 hq);rw [List.foldl_cons,List.length_cons,show K + (l.length + 1)=K + 1 + l.length by omega];refine this.cg fun q' s'=>?_;rw [List.mem_cons];constructor
  ·rintro (k | ⟨k | k,k2⟩)
   ·exact .inl (.inl k)
   ·exact .inl (.inr ⟨k,k2⟩)
   ·exact .inr ⟨k,k2⟩
  ·rintro ((k | k) | k)
   ·exact .inl k
   ·exact .inr ⟨.inl k.1,k.2⟩
   ·exact .inr ⟨.inr k.1,k.2⟩
theorem jy (hk:THk n m t) {e:En} (ha:e.attacks=List.replicate n 0) (hp:e.pairs=[]):P1 n m (64 * m) e (fun q s=>(0≤s∧s < m)∧q∈foT t (hdT t s)) (En.pair1 t n m e):=by
 have ht:=hk.tok;have hm:=ht.small.2
 have hpr:∀ (p:Int),0≤p→p < iC e→False:=fun p p0 p1=>by
  dsimp only [iC] at p1;rw [hp] at p1;simp only [List.length_nil] at p1;omega
 have:=co (f:=En.pairAs t) (fun i x=>P1 n m (64 * i) e (fun q s=>(0≤s∧s < i)∧q∈foT t (hdT t s)) x) m 0 ⟨List.replicate n [],List.replicate m [],e⟩ (fun i x _ hi h=>?_) ?_
 ·rw [Nat.zero_add] at this
  exact this
 ·obtain ⟨⟨h0,h1⟩,_⟩:=ht.rule (r:=(i:Int)) (by omega) (by omega)
  obtain ⟨f1,f2⟩:=ht.foe h0 h1;have:=P1.steps (s:=i) (by omega) (l:=foT t (hdT t i)) (K:=64 * i) (by show 64 * i + (ap (aH t) (ai t i).2.1).length≤_;omega) (hk.foes _ h0 h1) (fun q hq=>⟨f2 q hq,fun k=>by omega⟩) h;refine P1.cg (P1.up this (by show 64 * i + (ap (aH t) (ai t i).2.1).length≤_;omega)) (fun q s=>?_);constructor
  ·rintro ⟨k,k2⟩
   by_cases e1:s=i
   ·subst e1;exact .inr ⟨k2,rfl⟩
   ·exact .inl ⟨by omega,k2⟩
  ·rintro (⟨k,k2⟩ | ⟨k,k2⟩)
   ·exact ⟨by omega,k2⟩
   ·subst k2;exact ⟨by omega,k⟩
 ·refine ⟨rfl,by rw [hp];simp,by rw [ha];simp,by simp,by simp,fun q q0 q1=>?_,fun s s0 s1=>?_,fun p p0 p1=>(hpr p p0 p1).elim,fun q s p _ _ _ _ hg=>?_,fun q s _ _ _ _ hD _=>by omega,fun p p' p0 p1 _ _ _ _=>(hpr p p0 p1).elim⟩
  ·show gi e.attacks q=cN e.pairs.length _
   rw [ha,qF,hp];rfl
  ·show (ap (List.replicate m []) s).Nodup∧∀ p,p∈ap (List.replicate m []) s↔_
   rw [kD];exact ⟨List.nodup_nil,fun p=>⟨fun k=>(by cases k),fun k=>(hpr p k.1.1 k.1.2).elim⟩⟩
  ·have hg2:i2 ((List.replicate n []).getD q.toNat []) s=some p:=hg
   rw [show (List.replicate n ([]:List (Int × Int))).getD q.toNat []=[] by rw [List.getD_eq_getElem?_getD,List.getElem?_replicate];split <;> rfl] at hg2;cases hg2
end
end
section
structure P2 (n m np:Nat) (e:En) (hd':Int→Int) (D:Int→Int→Prop) (x:En.PT):Prop where
 eq:x.e={ e with pairs:=x.e.pairs }
 len:x.e.pairs.length=np
 lb:x.bts.length=m
 same:∀ (p:Int),0≤p→p < np→(x.e.pair p).1=(e.pair p).1∧(x.e.pair p).2.1=(e.pair p).2.1∧(x.e.pair p).2.2.1=(e.pair p).2.2.1
 nd:∀ (r:Int),0≤r→r < m→(ap x.bts r).Nodup
 mem:∀ (r p:Int),0≤r→r < m→(p∈ap x.bts r↔(0≤p∧p < np)∧(e.pair p).1=hd' r∧D r (e.pair p).2.1)
 left:∀ (p:Int),0≤p→p < np→(x.e.pair p).2.2.2=cN m (fun r=>decide (p∈ap x.bts r))
section
variable {n m np:Nat} {t:ThV} {e:En} {q s p:Int} {D D':Int→Int→Prop} {x:En.PT} {hd':Int→Int} {d:List (List (Int × Int))}
theorem P2.cg (h:P2 n m np e hd' D x) (hD:∀ q s,D' q s↔D q s):P2 n m np e hd' D' x:=by
 have:D'=D:=by funext q s;exact propext (hD q s)
 rw [this];exact h
theorem P2.step {r:Nat} (hm:m≤4096) (h:P2 n m np e hd' D x) (r1:r < m) (hp:∃ p,En.pairP d (hd' r) s=p∧(0≤p∧p < np)∧(e.pair p).1=hd' r∧(e.pair p).2.1=s)
 (hone:∀ (p p':Int),0≤p→p < np→0≤p'→p' < np→(e.pair p).1=(e.pair p').1→(e.pair p).2.1=(e.pair p').2.1→p=p') (hn:¬ D r s):P2 n m np e hd' (fun r' s'=>D r' s'∨(r'=r∧s'=s)) (En.pairB d (hd' r) r x s):=by
 obtain ⟨p,hpe,⟨p0,p1⟩,hpq,hps⟩:=hp;unfold En.pairB;rw [hpe];have hnot:p∉ap x.bts r:=fun k=>hn (by have:=((h.mem r p (by omega) (by omega)).1 k).2.2;rw [hps] at this;exact this);have hrow:∀ (r':Int),0≤r'→ap (bV x.bts r p) r'=if r'=r then ap x.bts r++[p] else ap x.bts r':=fun r' r0'=>lu h.lb (by omega) (by omega) r0'
 have hl:=h.left p p0 p1;have c1:=ci m (fun r=>decide (p∈ap x.bts r));have c2:=nu m (fun r=>decide (p∈ap x.bts r));have hw:En.w64 ((x.e.pair p).2.2.2 + 1)=(x.e.pair p).2.2.2 + 1:=ny (by omega) (by omega);rw [hw];have hpx:∀ (y:Int),0≤y→(x.e.pairs.set p.toNat ((x.e.pair p).1,(x.e.pair p).2.1,(x.e.pair p).2.2.1,(x.e.pair p).2.2.2 + 1)).getD y.toNat (0,0,false,0)=if y=p then ((x.e.pair p).1,(x.e.pair p).2.1,(x.e.pair p).2.2.1,(x.e.pair p).2.2.2 + 1) else x.e.pair y:=fun y y0=>gS h.len p0 p1 y0
 refine ⟨?_,by simp [h.len],by show (bV _ _ _).length=m;rw [oQ];exact h.lb,fun y y0 y1=>?_,fun r' r0' r1'=>?_,fun r' y r0' r1'=>?_,fun y y0 y1=>?_⟩
 ·show ({ x.e with pairs:=_ }:En)=_
  rw [h.eq]
 ·show ((x.e.pairs.set p.toNat _).getD y.toNat (0,0,false,0)).1=_∧((x.e.pairs.set p.toNat _).getD y.toNat (0,0,false,0)).2.1=_∧((x.e.pairs.set p.toNat _).getD y.toNat (0,0,false,0)).2.2.1=_
  rw [hpx y y0];split
  ·rename_i ey;subst ey;exact h.same y y0 y1
  ·exact h.same y y0 y1
 ·show (ap (bV x.bts r p) r').Nodup
  rw [hrow r' r0'];split
  ·rename_i er
   rw [List.nodup_append];refine ⟨er ▸ h.nd r' r0' r1',by simp,fun u hu v hv=>?_⟩;rw [List.mem_singleton] at hv;subst hv;exact fun k=>hnot (k ▸ hu)
  ·exact h.nd r' r0' r1'
 ·show y∈ap (bV x.bts r p) r'↔_
  rw [hrow r' r0'];by_cases er:r'=r
  ·rw [if_pos er,List.mem_append,List.mem_singleton,← er,h.mem r' y r0' r1']
   constructor
   ·rintro (⟨k,k2,k3⟩ | k)
    ·exact ⟨k,k2,.inl k3⟩
    ·subst k;exact ⟨⟨p0,p1⟩,by rw [hpq,er],.inr ⟨rfl,hps⟩⟩
   ·rintro ⟨k,k2,k3 | k3⟩
    ·exact .inl ⟨k,k2,k3⟩
    ·exact .inr (hone y p k.1 k.2 p0 p1 (by rw [k2,hpq,er]) (by rw [k3.2,hps]))
  ·rw [if_neg er,h.mem r' y r0' r1']
   refine and_congr Iff.rfl (and_congr Iff.rfl ⟨.inl,fun k=>k.elim id (fun k=>absurd k.1 er)⟩)
 ·show ((x.e.pairs.set p.toNat _).getD y.toNat (0,0,false,0)).2.2.2=cN m (fun r'=>decide (y∈ap (bV x.bts r p) r'))
  rw [hpx y y0];by_cases ey:y=p
  ·subst ey
   rw [if_pos rfl];show (x.e.pair y).2.2.2 + 1=_;rw [hl];have:=jl (m:=m) (r:=(r:Int)) (f:=fun r'=>decide (y∈ap (bV x.bts r y) r')) (g:=fun r'=>decide (y∈ap x.bts r')) (by omega) (by omega) (by simp only [hrow r (by omega)];simp) (by simp only [decide_eq_false hnot]) (fun i i0 i1 hi=>by simp only [hrow i i0,if_neg hi]);omega
  ·rw [if_neg ey,h.left y y0 y1]
   refine bL fun i i0 i1=>?_;rw [hrow i i0];split
   ·rename_i ei
    rw [ei];refine Bool.eq_iff_iff.2 ?_;rw [decide_eq_true_iff,decide_eq_true_iff,List.mem_append,List.mem_singleton];exact ⟨.inl,fun k=>k.elim id (fun k=>absurd k ey)⟩
   ·rfl
theorem P2.steps {r:Nat} (hm:m≤4096) (r1:r < m)
 (hone:∀ (p p':Int),0≤p→p < np→0≤p'→p' < np→(e.pair p).1=(e.pair p').1→(e.pair p).2.1=(e.pair p').2.1→p=p'):∀ {l:List Int} {D:Int→Int→Prop} {x:En.PT},l.Nodup→(∀ s∈l,(∃ p,En.pairP d (hd' r) s=p∧(0≤p∧p < np)∧(e.pair p).1=hd' r∧(e.pair p).2.1=s)∧¬ D r s)→P2 n m np e hd' D x→P2 n m np e hd' (fun r' s'=>D r' s'∨(r'=r∧s'∈l)) (l.foldl (En.pairB d (hd' r) r) x)
 | [],D,x,_,_,h=>h.cg (fun q s=>by simp)
 | s::l,D,x,hn,hl,h=>by
  rw [List.nodup_cons] at hn;obtain ⟨h1,h2⟩:=hl s (List.mem_cons_self ..);have:=P2.steps hm r1 hone (l:=l) hn.2 (fun u hu=>⟨(hl u (List.mem_cons_of_mem _ hu)).1,fun k=>k.elim (hl u (List.mem_cons_of_mem _ hu)).2 (fun k=>hn.1 (k.2 ▸ hu))⟩) (h.step hm r1 h1 hone h2);rw [List.foldl_cons];refine this.cg fun q' s'=>?_;rw [List.mem_cons];constructor
  ·rintro (k | ⟨k,k2 | k2⟩)
   ·exact .inl (.inl k)
   ·exact .inl (.inr ⟨k,k2⟩)
   ·exact .inr ⟨k,k2⟩
  ·rintro ((k | k) | k)
   ·exact .inl k
   ·exact .inr ⟨k.1,.inl k.2⟩
   ·exact .inr ⟨k.1,.inr k.2⟩
variable {fact:Int→Bool}
theorem tQ {e:En} (h:L5 n m t fact e) {r:Int} (hk:THk n m t) (r0:0≤r) (r1:r < m) (hs:cZ t r=true):gi e.backs (hdT t r)≠0:=by
 obtain ⟨⟨h0,h1⟩,_⟩:=hk.tok.rule r0 r1;rw [h.backs _ h0 h1];have:=ue (m:=m) (r:=r) (f:=fun r'=>cZ t r'&&(hdT t r' == hdT t r)) r0 r1 (by simp only [hs];simp);intro hz;rw [hz] at this;omega
theorem nY {e:En} (h:L5 n m t fact e) (hk:THk n m t) {r:Int} (r0:0≤r) (r1:r < m) (hs:cZ t r=true) (hx:s∈btT t r):∃ p,i2 ((En.pair1 t n m e).d.getD (hdT t r).toNat []) s=some p∧(0≤p∧p < iC (En.pair1 t n m e).e)∧((En.pair1 t n m e).e.pair p).1=hdT t r∧((En.pair1 t n m e).e.pair p).2.1=s:=by
 have ht:=hk.tok;obtain ⟨_,_,_,ha,_,hp⟩:=h.rest;have h1:=jy hk ha hp;obtain ⟨⟨g0,g1⟩,_⟩:=ht.rule r0 r1;obtain ⟨s0,s1⟩:=(ht.beat r0 r1).2 s hx;obtain ⟨⟨f0,f1⟩,_⟩:=ht.rule s0 s1;obtain ⟨p,hp⟩:=h1.cov (hdT t r) s g0 g1 s0 s1 ⟨⟨s0,s1⟩,hk.sym _ g0 g1 _ (hk.beatf r r0 r1 s hx)⟩ (tQ h hk r0 r1 hs);exact ⟨p,hp,h1.get _ _ _ g0 g1 s0 s1 hp⟩
theorem p9 {e:En} (h:L5 n m t fact e) (hk:THk n m t):P2 n m (En.pair1 t n m e).e.pairs.length (En.pair1 t n m e).e (hdT t) (fun r s=>cZ t r=true∧s∈btT t r) (En.pair2 t n m e):=by
 have ht:=hk.tok;have hm:=ht.small.2;obtain ⟨_,_,_,ha,_,hp⟩:=h.rest;have h1:=jy hk ha hp;have:=co (f:=En.pairBs t (En.pair1 t n m e).d) (fun i x=>P2 n m (En.pair1 t n m e).e.pairs.length (En.pair1 t n m e).e (hdT t) (fun r s=>r < i∧cZ t r=true∧s∈btT t r) x) m 0 ⟨List.replicate m [],(En.pair1 t n m e).e⟩ (fun i x _ hi h2=>?_) ?_
 ·rw [Nat.zero_add] at this
  unfold En.pair2;generalize dN (En.pairBs t (En.pair1 t n m e).d) m 0 ⟨List.replicate m [],(En.pair1 t n m e).e⟩=x at *;refine ⟨this.eq,this.len,this.lb,this.same,this.nd,fun r p r0 r1=>?_,this.left⟩;rw [this.mem r p r0 r1];exact and_congr Iff.rfl (and_congr Iff.rfl ⟨fun k=>k.2,fun k=>⟨r1,k⟩⟩)
 ·have i0:(0:Int)≤i:=by omega
  have i1:(i:Int) < m:=by omega
  unfold En.pairBs;by_cases hs:cZ t i=true
  ·rw [if_pos hs]
   have:=P2.steps (d:=(En.pair1 t n m e).d) (hd':=hdT t) (r:=i) hm (by omega) h1.one (l:=btT t i) (hk.beats i i0 i1) (fun s hs2=>⟨?_,fun k=>by omega⟩) h2
   ·refine P2.cg this (fun r s=>?_)
    constructor
    ·rintro ⟨k,k2,k3⟩
     by_cases er:r=i
     ·subst er;exact .inr ⟨rfl,k3⟩
     ·exact .inl ⟨by omega,k2,k3⟩
    ·rintro (⟨k,k2⟩ | ⟨k,k2⟩)
     ·exact ⟨by omega,k2⟩
     ·subst k;exact ⟨by omega,hs,k2⟩
   ·obtain ⟨p,hp1,hp2⟩:=nY h hk i0 i1 hs hs2
    refine ⟨p,?_,hp2⟩;unfold En.pairP;rw [hp1];rfl
  ·rw [if_neg hs]
   refine P2.cg h2 (fun r s=>⟨fun ⟨k,k2,k3⟩=>⟨?_,k2,k3⟩,fun ⟨k,k2⟩=>⟨by omega,k2⟩⟩);by_cases er:r=i
   ·subst er;exact absurd k2 hs
   ·omega
 ·refine ⟨rfl,rfl,by simp,fun p _ _=>⟨rfl,rfl,rfl⟩,fun r r0 r1=>?_,fun r p r0 r1=>?_,fun p p0 p1=>?_⟩
  ·show (ap (List.replicate m []) r).Nodup
   rw [kD];exact List.nodup_nil
  ·show p∈ap (List.replicate m []) r↔_
   rw [kD];exact ⟨fun k=>(by cases k),fun k=>by omega⟩
  ·show ((En.pair1 t n m e).e.pair p).2.2.2=cN m (fun r=>decide (p∈ap (List.replicate m []) r))
   rw [(h1.src p p0 p1).2.2];refine (cz.2 fun i i0 i1=>?_).symm;rw [kD];rfl
variable {facts:List Int}
theorem o5 (hk:THk n m t) (hfr:∀ q∈facts,0≤q∧q < n):A8 t n m facts:=fun r r1 hs s hx=>by
 obtain ⟨p,h1,h2,_⟩:=nY (oY hk.tok hfr) hk (r:=(r:Int)) (by omega) (by omega) hs hx;exact ⟨p,h1,h2⟩
abbrev pqL (t:ThV) (n m:Nat) (facts:List Int) (p:Int):Int:=((En.pair1 t n m (En.layE t n m facts)).e.pair p).1
abbrev psL (t:ThV) (n m:Nat) (facts:List Int) (p:Int):Int:=((En.pair1 t n m (En.layE t n m facts)).e.pair p).2.1
abbrev npL (t:ThV) (n m:Nat) (facts:List Int):Nat:=(En.pair1 t n m (En.layE t n m facts)).e.pairs.length
theorem CX (hk:THk n m t) (hfr:∀ q∈facts,0≤q∧q < n):Con n m (npL t n m facts) (En.layS t n m facts) (pqL t n m facts) (psL t n m facts)∧DV n m (npL t n m facts) (En.layS t n m facts) (pqL t n m facts) (psL t n m facts):=by
 have ht:=hk.tok;have h:=oY ht hfr;obtain ⟨_,_,_,ha,_,hp⟩:=h.rest;have h1:=jy hk ha hp;have h2:=p9 h hk;obtain ⟨np,hnp,hnpe,hof,hbt,hkD⟩:=r6 ht hfr (o5 hk hfr);have hes:=xz (facts:=facts) ht hof hbt;have hin:=xA hk;have hpr:=lv ht (rZ ht hfr);have hnp2:npL t n m facts=np:=hnpe.symm;have hrange:∀ (p:Int),0≤p→p < npL t n m facts→(0≤pqL t n m facts p∧pqL t n m facts p < n)∧0≤psL t n m facts p∧psL t n m facts p < m:=fun p p0 p1=>hpr.e.pair p0 p1;refine ⟨⟨by rw [hnp2];exact hes,by rw [hnp2];exact hnp,fun r r0 r1=>⟨hk.body r r0 r1,(ht.rule r0 r1).2⟩,fun r r0 r1=>(ht.rule r0 r1).1,hin,fun r r0 r1=>h1.of r r0 r1,fun r r0 r1=>⟨h2.nd r r0 r1,fun p hp=>?_⟩,hrange,fun q q0 q1=>⟨hk.foes q q0 q1,ht.foe q0 q1⟩⟩,⟨hk.sym,fun p p0 p1=>?_,fun q x q0 q1 x0 x1 hx ⟨r,hr,hs,hq⟩=>?_,fun x p x0 x1 p0 p1=>?_,h1.one,fun p p0 p1=>?_⟩⟩
 ·obtain ⟨k1,k2,k3,k4⟩:=(h2.mem r p r0 r1).1 hp
  exact ⟨k1,k3,k2⟩
 ·obtain ⟨⟨_,k⟩,_⟩:=h1.src p p0 p1
  have hr:=hrange p p0 p1;have hh:=(ht.rule hr.2.1 hr.2.2).1;exact hk.sym _ hh.1 hh.2 _ k
 ·have hb:=tQ h hk hr.1 hr.2 hs
  rw [show hdT t r=q from hq] at hb;have hh:=(ht.rule x0 x1).1;obtain ⟨p,hp⟩:=h1.cov q x q0 q1 x0 x1 ⟨⟨x0,x1⟩,hk.sym q q0 q1 _ hx⟩ hb;exact ⟨p,h1.get _ _ _ q0 q1 x0 x1 hp⟩
 ·have:=h2.mem x p x0 x1
  show p∈ap (En.pair2 t n m (En.layE t n m facts)).bts x↔_;rw [this];exact ⟨fun ⟨_,k2,k3,k4⟩=>⟨k3,k2.symm,k4⟩,fun ⟨k1,k2,k3⟩=>⟨⟨p0,p1⟩,k2.symm,k1,k3⟩⟩
 ·have hb:=(h1.src p p0 p1).2.1
  have hr:=hrange p p0 p1;rw [h.backs _ hr.1.1 hr.1.2] at hb;obtain ⟨r,hr,hf⟩:=ER hb;rw [Bool.and_eq_true,beq_iff_eq] at hf;exact ⟨r,hr,hf.1,hf.2⟩
end
end
section
section
variable {n m np:Nat} {t:ThV} {e e1 e2:En} {q s p r x:Int} {S:Es} {pq ps:Int→Int} {i:Nat} {c2:Cr}
theorem vk:(En.lay6p e p).core=e.core.settle p:=by
 unfold En.lay6p Cr.settle;show (if (e.core.pair p).2.2.1=true then e else _).core=_;split <;> rfl
theorem z8:(En.lay6p e p).marks=e.marks∧(En.lay6p e p).told=e.told:=by unfold En.lay6p;split <;> exact ⟨rfl,rfl⟩
theorem qr:∀ {l:List Int} {e:En},(l.foldl En.lay6p e).marks=e.marks∧(l.foldl En.lay6p e).told=e.told
 | [],e=>⟨rfl,rfl⟩
 | p::l,e=>by
  obtain ⟨h1,h2⟩:=qr (l:=l) (e:=En.lay6p e p);obtain ⟨g1,g2⟩:=z8 (e:=e) (p:=p);exact ⟨h1.trans g1,h2.trans g2⟩
theorem BA:∀ {l:List Int} {e:En},e.standing.length=n→gk n np pq ps e.core→(∀ p∈l,(0≤p∧p < np)∧(0≤pq p∧pq p < n))→(l.foldl En.lay6q e).marks=e.marks∧(l.foldl En.lay6q e).told=e.told∧(l.foldl En.lay6q e).core={ e.core with standing:=(l.foldl En.lay6q e).standing }∧(l.foldl En.lay6q e).standing.length=n∧∀ (q:Int),0≤q→q < n→(gb (l.foldl En.lay6q e).standing q=true↔gb e.standing q=true∨∃ p,p∈l∧pq p=q∧e.core.left p=0)
 | [],e,h,_,_=>⟨rfl,rfl,rfl,h,fun q _ _=>⟨.inl,fun k=>k.elim id (fun ⟨p,hp,_⟩=>by cases hp)⟩⟩
 | p::l,e,h,hp,hl=>by
  obtain ⟨⟨p0,p1⟩,q0,q1⟩:=hl p (List.mem_cons_self ..);have hpp:=(hp.prq p p0 p1).1
  have key:∃ e2,En.lay6q e p=e2∧e2.marks=e.marks∧e2.told=e.told∧e2.core={ e.core with standing:=e2.standing }∧e2.standing.length=n∧∀ (q:Int),0≤q→q < n→(gb e2.standing q=true↔gb e.standing q=true∨(pq p=q∧e.core.left p=0)):=by
   refine ⟨_,rfl,?_⟩;unfold En.lay6q;rw [show (e.pair p).1=pq p from hpp];by_cases hz:((e.pair p).2.2.2 == 0)=true
   ·rw [if_pos hz]
    have hz2:e.core.left p=0:=beq_iff_eq.1 hz;refine ⟨rfl,rfl,rfl,by simp [h],fun q g0 g1=>?_⟩;show gb (e.standing.set (pq p).toNat true) q=true↔_;rw [show gb (e.standing.set (pq p).toNat true) q=if q=pq p then true else gb e.standing q from aV h q0 q1 g0];split
    ·rename_i e3;exact ⟨fun _=>.inr ⟨e3.symm,hz2⟩,fun _=>rfl⟩
    ·rename_i e3;exact ⟨.inl,fun k=>k.elim id (fun k=>absurd k.1.symm e3)⟩
   ·rw [if_neg hz]
    exact ⟨rfl,rfl,rfl,h,fun q g0 g1=>⟨.inl,fun k=>k.elim id (fun k=>absurd (beq_iff_eq.2 k.2) hz)⟩⟩
  obtain ⟨e2,he,k1,k2,k3,k4,k5⟩:=key;rw [List.foldl_cons,he];have hpr:e2.core.pairs=e.core.pairs:=by rw [k3]
  have hl2:∀ x,e2.core.left x=e.core.left x:=fun x=>by unfold Cr.left Cr.pair;rw [hpr]
  obtain ⟨g1,g2,g3,g4,g5⟩:=BA (l:=l) (e:=e2) k4 (hp.congr hpr (by rw [k3])) (fun p hp=>hl p (List.mem_cons_of_mem _ hp));refine ⟨g1.trans k1,g2.trans k2,by rw [g3,k3],g4,fun q a0 a1=>?_⟩;rw [g5 q a0 a1,k5 q a0 a1];constructor
  ·rintro ((k | k) | ⟨y,hy,k,k'⟩)
   ·exact .inl k
   ·exact .inr ⟨p,List.mem_cons_self ..,k⟩
   ·exact .inr ⟨y,List.mem_cons_of_mem _ hy,k,by rw [← hl2];exact k'⟩
  ·rintro (k | ⟨y,hy,k,k'⟩)
   ·exact .inl (.inl k)
   ·rcases List.mem_cons.1 hy with rfl | hy
    ·exact .inl (.inr ⟨k,k'⟩)
    ·exact .inr ⟨y,hy,k,by rw [hl2];exact k'⟩
structure L6 (n m np:Nat) (S:Es) (pq ps:Int→Int) (e2:En) (i:Nat) (e:En):Prop where
 mt:e.marks=e2.marks∧e.told=e2.told
 eq:e.core={ e2.core with backed:=e.backed,pairs:=e.pairs,attacks:=e.attacks,standing:=e.standing }
 pr:gk n np pq ps e.core
 lbd:e.backed.length=n
 lsd:e.standing.length=n
 backed:∀ (q:Int),0≤q→q < n→(gb e.backed q=true↔∃ (r:Int),(0≤r∧r < i)∧cZ S.t r=true∧hdT S.t r=q∧bdT S.t r=[])
 sett:∀ (p:Int),0≤p→p < np→(e.core.sett p=true↔∃ (r:Int),(0≤r∧r < i)∧p∈ap S.beats r∧bdT S.t r=[])
 left:∀ (p:Int),0≤p→p < np→e.core.left p=e2.core.left p
 stand:∀ (q:Int),0≤q→q < n→(gb e.standing q=true↔∃ (p:Int),(0≤p∧p < np)∧pq p=q∧(0≤ps p∧ps p < i)∧bdT S.t (ps p)=[]∧e2.core.left p=0)
theorem xB (hc:Con n m np S pq ps) (hi:i < m) (h:L6 n m np S pq ps e2 i e):L6 n m np S pq ps e2 (i + 1) (En.lay6 S.t S.of S.beats e i):=by
 have i0:(0:Int)≤i:=by omega
 have i1:(i:Int) < m:=by omega
 obtain ⟨h0,h1⟩:=hc.head i i0 i1;have hof:=(hc.of i i0 i1).2;have hbt:=(hc.beats i i0 i1).2;unfold En.lay6;by_cases hb:0 < (bdT S.t i).length
 ·rw [if_pos (decide_eq_true hb)]
  have hne:bdT S.t i≠[]:=fun k=>by rw [k] at hb;simp at hb
  have hnot:∀ {P:Int→Prop} {r:Int},(0≤r∧r < (i + 1:Nat))→bdT S.t r=[]→(0≤r∧r < i):=fun {P} {r} hr hz=>by
   by_cases er:r=i
   ·subst er;exact absurd hz hne
   ·omega
  refine ⟨h.mt,h.eq,h.pr,h.lbd,h.lsd,fun q q0 q1=>?_,fun p p0 p1=>?_,h.left,fun q q0 q1=>?_⟩
  ·rw [h.backed q q0 q1]
   exact ⟨fun ⟨r,a,b⟩=>⟨r,by omega,b⟩,fun ⟨r,a,b⟩=>⟨r,hnot (P:=fun _=>True) a b.2.2,b⟩⟩
  ·rw [h.sett p p0 p1]
   exact ⟨fun ⟨r,a,b⟩=>⟨r,by omega,b⟩,fun ⟨r,a,b⟩=>⟨r,hnot (P:=fun _=>True) a b.2,b⟩⟩
  ·rw [h.stand q q0 q1]
   exact ⟨fun ⟨p,a,b,c,d⟩=>⟨p,a,b,by omega,d⟩,fun ⟨p,a,b,c,d⟩=>⟨p,a,b,hnot (P:=fun _=>True) c d.1,d⟩⟩
 ·rw [if_neg (by rw [decide_eq_true_iff];exact hb)]
  have hz:bdT S.t i=[]:=List.length_eq_zero_iff.1 (by omega)
  -- those that it beats are settled
  have key:∃ e3,(if cZ S.t i=true then (ap S.beats i).foldl En.lay6p { e with backed:=e.backed.set (ai S.t i).2.1.toNat true } else e)=e3∧(e3.marks=e.marks∧e3.told=e.told)∧e3.core={ e.core with backed:=e3.backed,pairs:=e3.pairs,attacks:=e3.attacks }∧gk n np pq ps e3.core∧e3.backed.length=n ∧
   (∀ (q:Int),0≤q→q < n→(gb e3.backed q=true↔gb e.backed q=true∨(cZ S.t i=true∧hdT S.t i=q)))∧(∀ (p:Int),0≤p→p < np→(e3.core.sett p=true↔e.core.sett p=true∨p∈ap S.beats i))∧∀ (p:Int),0≤p→p < np→e3.core.left p=e.core.left p:=by
   refine ⟨_,rfl,?_⟩;by_cases hs:cZ S.t i=true
   ·rw [if_pos hs]
    have hset:∀ (x:Int),0≤x→gb (e.backed.set (ai S.t i).2.1.toNat true) x=if x=(ai S.t i).2.1 then true else gb e.backed x:=fun x x0=>aV h.lbd h0 h1 x0
    obtain ⟨g1,g2⟩:=qr (l:=ap S.beats i) (e:={ e with backed:=e.backed.set (ai S.t i).2.1.toNat true });have hcs:=cw (f:=En.lay6p) (g:=Cr.settle) (fun _ _=>vk) (l:=ap S.beats i) (e:={ e with backed:=e.backed.set (ai S.t i).2.1.toNat true });obtain ⟨k1,k2⟩:=fo hc (L:=ap S.beats i) (c:=({ e with backed:=e.backed.set (ai S.t i).2.1.toNat true }:En).core) (h.pr.congr rfl rfl) (fun p hp=>(hbt p hp).1);rw [← hcs] at k1 k2;generalize (ap S.beats i).foldl En.lay6p { e with backed:=e.backed.set (ai S.t i).2.1.toNat true }=e3 at *;have ke:=k2.eq;have kb:e3.backed=e.backed.set (ai S.t i).2.1.toNat true:=congrArg Cr.backed ke;refine ⟨⟨g1,g2⟩,by rw [kb];exact ke,k1,by rw [kb];simp [h.lbd],fun q q0 q1=>?_,fun p p0 p1=>?_,fun p p0 p1=>k2.left p p0 p1⟩
    ·rw [kb,hset q q0]
     split
     ·rename_i eq;exact ⟨fun _=>.inr ⟨hs,eq.symm⟩,fun _=>rfl⟩
     ·rename_i eq;exact ⟨.inl,fun k=>k.elim id (fun k=>absurd k.2.symm eq)⟩
    ·rw [k2.sett p p0 p1,Bool.or_eq_true,List.contains_iff_mem]
     exact Iff.rfl
   ·rw [if_neg hs]
    exact ⟨⟨rfl,rfl⟩,rfl,h.pr,h.lbd,fun q q0 q1=>⟨.inl,fun k=>k.elim id (fun k=>absurd k.1 hs)⟩,fun p p0 p1=>⟨.inl,fun k=>k.elim id (fun k=>absurd (hbt p k).2.1 hs)⟩,fun p p0 p1=>rfl⟩
  obtain ⟨e3,he,k1,k2,k3,k4,k5,k6,k7⟩:=key;rw [he];have hsd:e3.standing=e.standing:=congrArg Cr.standing k2;obtain ⟨g1,g2,g3,g4,g5⟩:=BA (l:=ap S.of i) (e:=e3) (by rw [hsd];exact h.lsd) k3 (fun p hp=>⟨((hof p).1 hp).1,(hc.pr p ((hof p).1 hp).1.1 ((hof p).1 hp).1.2).1⟩);generalize (ap S.of i).foldl En.lay6q e3=e4 at *;have hp4:e4.core.pairs=e3.core.pairs:=by rw [g3]
  have hs4:∀ x,e4.core.sett x=e3.core.sett x:=fun x=>by unfold Cr.sett Cr.pair;rw [hp4]
  have hl4:∀ x,e4.core.left x=e3.core.left x:=fun x=>by unfold Cr.left Cr.pair;rw [hp4]
  have hb4:e4.backed=e3.backed:=congrArg Cr.backed g3;have x1:e4.pairs=e3.pairs:=hp4;have x2:e4.attacks=e3.attacks:=congrArg Cr.attacks g3;refine ⟨⟨g1.trans (k1.1.trans h.mt.1),g2.trans (k1.2.trans h.mt.2)⟩,?_,k3.congr hp4 (by rw [g3]),by rw [hb4];exact k4,g4,fun q q0 q1=>?_,fun p p0 p1=>?_,fun p p0 p1=>by rw [hl4,k7 p p0 p1];exact h.left p p0 p1,fun q q0 q1=>?_⟩
  ·rw [g3,k2,h.eq,hb4,x1,x2]
  ·rw [hb4,k5 q q0 q1,h.backed q q0 q1]
   constructor
   ·rintro (⟨r,a,b⟩ | ⟨a,b⟩)
    ·exact ⟨r,by omega,b⟩
    ·exact ⟨i,by omega,a,b,hz⟩
   ·rintro ⟨r,a,b,c,d⟩
    by_cases er:r=i
    ·subst er;exact .inr ⟨b,c⟩
    ·exact .inl ⟨r,by omega,b,c,d⟩
  ·rw [hs4,k6 p p0 p1,h.sett p p0 p1]
   constructor
   ·rintro (⟨r,a,b⟩ | a)
    ·exact ⟨r,by omega,b⟩
    ·exact ⟨i,by omega,a,hz⟩
   ·rintro ⟨r,a,b,c⟩
    by_cases er:r=i
    ·subst er;exact .inr b
    ·exact .inl ⟨r,by omega,b,c⟩
  ·rw [g5 q q0 q1,hsd,h.stand q q0 q1]
   constructor
   ·rintro (⟨p,a,b,c,d⟩ | ⟨p,a,b,c⟩)
    ·exact ⟨p,a,b,by omega,d⟩
    ·have hpr:=(hof p).1 a
     rw [k7 p hpr.1.1 hpr.1.2,h.left p hpr.1.1 hpr.1.2] at c;exact ⟨p,hpr.1,b,by omega,by rw [hpr.2];exact hz,c⟩
   ·rintro ⟨p,a,b,c,d,g⟩
    by_cases er:ps p=i
    ·exact .inr ⟨p,(hof p).2 ⟨a,er⟩,b,by rw [k7 p a.1 a.2,h.left p a.1 a.2];exact g⟩
    ·exact .inl ⟨p,a,b,by omega,d,g⟩
end
end
section
section
variable {n m:Nat} {t:ThV} {facts:List Int}
abbrev gV (facts:List Int) (q:Int):Bool:=decide (q∈facts)
abbrev jH (t:ThV) (n m:Nat) (facts:List Int) (q k:Int):Bool:=decide ((q,k)∈(En.layD t n m facts).told)
abbrev Br:Int→Int→Bool:=fun _ _=>false
theorem kK {l:List Int}:l.countP (fun _=>!false)=l.length:=by
 rw [List.countP_eq_length];intro a _;rfl
structure DH (n m:Nat) (t:ThV) (facts:List Int):Prop where
 con:Con n m (npL t n m facts) (En.layS t n m facts) (pqL t n m facts) (psL t n m facts)
 conp:DV n m (npL t n m facts) (En.layS t n m facts) (pqL t n m facts) (psL t n m facts)
 ok:aE n m (npL t n m facts) (En.layD t n m facts)
 tm:TM n (En.layD t n m facts)
 can:Can n m (npL t n m facts) (En.layS t n m facts) (pqL t n m facts) (psL t n m facts) (gV facts) (jH t n m facts) Br (En.layD t n m facts).core
 ks:Ks n m (En.layS t n m facts) (gV facts) (fun _ b k=>Br b k) (En.layD t n m facts)
 h34:∀ (x j:Int),0≤x→x < n→3≤j→j≤4→(En.layD t n m facts).has x j=false
 opn:∀ (q:Int),0≤q→q < n→gi (En.layD t n m facts).opn q=(((foT t q).countP (fun f=>!(En.layD t n m facts).has f 2):Nat):Int)
 clash:∀ (q:Int),0≤q→q < n→gb (En.layD t n m facts).clash q=(foT t q).any (fun f=>(En.layD t n m facts).has f 1)
 up:(En.layD t n m facts).up=0
 needD:∀ (r:Int),0≤r→r < m→gi (En.layD t n m facts).needD r=((bdT t r).length:Nat)
theorem z7 (hk:THk n m t) (hfr:∀ q∈facts,0≤q∧q < n):DH n m t facts:=by
 have ht:=hk.tok;have h:=oY ht hfr;obtain ⟨r1,r2,r3,ha,r5,hp⟩:=h.rest;have h1:=jy hk ha hp;have h2:=p9 h hk;obtain ⟨np,hnp,hnpe,_,_,hok⟩:=r6 ht hfr (o5 hk hfr);obtain ⟨hc,hcp⟩:=CX hk hfr;rw [hnpe] at hok;change aE n m (npL t n m facts) _ at hok;obtain ⟨e5,he5⟩:∃ e5,e5=En.layE t n m facts:=⟨_,rfl⟩;obtain ⟨x2,hx2⟩:∃ x2,x2=En.pair2 t n m (En.layE t n m facts):=⟨_,rfl⟩
 have e2c:x2.e.core={ e5.core with pairs:=x2.e.pairs,attacks:=x2.e.attacks }:=by
  have a:=h2.eq;have b:=h1.eq;rw [← hx2] at a;rw [← he5] at b a;generalize En.pair1 t n m e5=x1 at *;have:x2.e.attacks=x1.e.attacks:=by rw [a]
  rw [this,a,b]
  rfl
 have e2m:x2.e.marks=e5.marks∧x2.e.told=e5.told:=by
  have a:=h2.eq;have b:=h1.eq;rw [← hx2] at a;rw [← he5] at b a;generalize En.pair1 t n m e5=x1 at *;rw [a,b];exact ⟨rfl,rfl⟩
 rw [← hx2] at h2;rw [← he5] at h r1 r2 r3 r5
 have hsame:∀ (p:Int),0≤p→p < npL t n m facts→(x2.e.pair p).1=pqL t n m facts p∧(x2.e.pair p).2.1=psL t n m facts p∧(x2.e.pair p).2.2.1=false:=fun p p0 p1=>by
  obtain ⟨a,b,c⟩:=h2.same p p0 p1;refine ⟨a,b,c.trans ?_⟩;have:=(h1.src p p0 p1).2.2;exact congrArg Prod.fst this
 have hpr2:gk n (npL t n m facts) (pqL t n m facts) (psL t n m facts) x2.e.core:=by
  have hat:x2.e.attacks=(En.pair1 t n m (En.layE t n m facts)).e.attacks:=by rw [h2.eq]
  refine ⟨h2.len,by show x2.e.attacks.length=n;rw [hat];exact h1.lat,fun p p0 p1=>⟨(hsame p p0 p1).1,(hsame p p0 p1).2.1⟩,fun q q0 q1=>?_⟩;show gi x2.e.attacks q=_;rw [hat,h1.att q q0 q1];refine bL fun p p0 p1=>?_;rw [show x2.e.core.sett p=false from (hsame p p0 p1).2.2];simp
 -- rules without a body
 have h6:=co (f:=En.lay6 t (En.layS t n m facts).of (En.layS t n m facts).beats) (fun i e=>L6 n m (npL t n m facts) (En.layS t n m facts) (pqL t n m facts) (psL t n m facts) x2.e i e) m 0 x2.e (fun i e _ hi hh=>xB hc (by omega) hh) (by
  have b1:x2.e.backed=List.replicate n false:=(congrArg Cr.backed e2c).trans r3;have b2:x2.e.standing=List.replicate n false:=(congrArg Cr.standing e2c).trans r5;refine ⟨⟨rfl,rfl⟩,rfl,hpr2,by rw [b1];simp,by rw [b2];simp,fun q q0 q1=>?_,fun p p0 p1=>?_,fun p _ _=>rfl,fun q q0 q1=>?_⟩
  ·rw [b1,iD]
   exact ⟨fun k=>(by cases k),fun ⟨r,a,_⟩=>by omega⟩
  ·rw [show x2.e.core.sett p=false from (hsame p p0 p1).2.2]
   exact ⟨fun k=>(by cases k),fun ⟨r,a,_⟩=>by omega⟩
  ·rw [b2,iD]
   exact ⟨fun k=>(by cases k),fun ⟨r,a,b,c,_⟩=>by omega⟩)
 rw [Nat.zero_add] at h6;have hD:En.layD t n m facts={ dN (En.lay6 t (En.layS t n m facts).of (En.layS t n m facts).beats) m 0 x2.e with up:=0 }:=by rw [hx2];rfl
 generalize dN (En.lay6 t (En.layS t n m facts).of (En.layS t n m facts).beats) m 0 x2.e=e6 at *;have hcore:(En.layD t n m facts).core=e6.core:=by rw [hD];rfl
 have hmk:(En.layD t n m facts).marks=e5.marks:=by rw [hD];exact h6.mt.1.trans e2m.1
 have htd:(En.layD t n m facts).told=e5.told:=by rw [hD];exact h6.mt.2.trans e2m.2
 have hh:∀ x j,(En.layD t n m facts).has x j=e5.has x j:=fun x j=>cQ hmk;have htm:TM n (En.layD t n m facts):=h.tm.same hmk htd
 -- the counters,one by one
 have c6:e6.core={ e5.core with backed:=e6.backed,pairs:=e6.pairs,attacks:=e6.attacks,standing:=e6.standing }:=by rw [h6.eq,e2c]
 have w1:e6.needD=e5.needD:=congrArg Cr.needD c6;have w2:e6.need=e5.need:=congrArg Cr.need c6;have w3:e6.deadD=List.replicate m false:=(congrArg Cr.deadD c6).trans r1;have w4:e6.dead=List.replicate m false:=(congrArg Cr.dead c6).trans r2;have w5:e6.strict=e5.strict:=congrArg Cr.strict c6;have w6:e6.backs=e5.backs:=congrArg Cr.backs c6;have w7:e6.opn=e5.opn:=congrArg Cr.opn c6;have w8:e6.clash=e5.clash:=congrArg Cr.clash c6
 have hok6:e6.needD.length=m∧e6.need.length=m∧e6.opn.length=n∧e6.clash.length=n∧e6.strict.length=n∧e6.backs.length=n:=by
  rw [hD] at hok;exact ⟨hok.needD,hok.need,hok.opn,hok.clash,hok.strict,hok.backs⟩
 have hlaid:∀ (f j:Int),0≤f→f < n→1≤j→j≤4→jH t n m facts f j=e5.has f j:=fun f j f0 f1 j0 j1=>by
  refine Bool.eq_iff_iff.2 ?_;rw [decide_eq_true_iff,← hh,htm.has f j f0 f1 j0 j1]
 have hleft:∀ (p:Int),0≤p→p < npL t n m facts→e6.core.left p=cN m (fun r=>decide (p∈ap (En.layS t n m facts).beats r)):=fun p p0 p1=>by
  rw [h6.left p p0 p1];have:=h2.left p p0 p1;rw [hx2] at this ⊢;exact this
 have hneed:∀ (r:Int),0≤r→r < m→(gi e6.need r=0↔bdT t r=[]):=fun r r0 r1=>by
  rw [w2,h.need r r0 r1];rw [← List.length_eq_zero_iff];omega
 refine ⟨hc,hcp,hok,htm,⟨?_,?_⟩,?_,fun x j x0 x1 j0 j1=>by rw [hh];exact h.h34 x j x0 x1 j0 j1,fun q q0 q1=>?_,fun q q0 q1=>?_,by rw [hD],fun r r0 r1=>by rw [show (En.layD t n m facts).needD=e5.needD by rw [hD];exact w1];exact h.needD r r0 r1⟩
 ·rw [hcore]
  refine ⟨hok6.1,by show e6.deadD.length=m;rw [w3];simp,hok6.2.2.2.2.1,fun r r0 r1 hs=>?_,fun r r0 r1=>?_,fun q q0 q1 hf=>?_,fun q q0 q1 hf=>?_⟩
  ·show gi e6.needD r=(((bd (En.layS t n m facts) r).countP (fun _=>!false):Nat):Int)
   rw [kK,w1];exact h.needD r r0 r1
  ·show gb e6.deadD r=_
   rw [w3,iD];simp
  ·show gi e6.strict q=cN m (fun r=>fC (En.layS t n m facts) r&&(hd (En.layS t n m facts) r == q)&&!gb e6.deadD r)
   rw [w5,h.strict q q0 q1,if_neg (by rw [show decide (q∈facts)=false from hf];simp)];refine bL fun i i0 i1=>?_;rw [w3,iD];simp only [Bool.not_false,Bool.and_true]
   rfl
  ·show gi e6.strict q=-1 - cN m (fun r=>fC (En.layS t n m facts) r&&(hd (En.layS t n m facts) r == q)&&gb e6.deadD r)
   rw [w5,h.strict q q0 q1,if_pos hf];have:cN m (fun r=>fC (En.layS t n m facts) r&&(hd (En.layS t n m facts) r == q)&&gb e6.deadD r)=0:=cz.2 fun i i0 i1=>by rw [w3,iD,Bool.and_false]
   omega
 ·rw [hcore]
  have hcnt:∀ (q:Int),0≤q→q < n→(ap (aH (En.layS t n m facts).t) q).countP (fun f=>!(Br f 2 || jH t n m facts f 2))=(foT t q).countP (fun f=>!e5.has f 2):=fun q q0 q1=>by
   refine c9 fun f hf=>?_;obtain ⟨f0,f1⟩:=(ht.foe q0 q1).2 f hf;rw [hlaid f 2 f0 f1 (by omega) (by omega)]
   rfl
  have ho:∀ (q:Int),0≤q→q < n→gi e6.opn q=(((ap (aH (En.layS t n m facts).t) q).countP (fun f=>!(Br f 2 || jH t n m facts f 2)):Nat):Int):=fun q q0 q1=>by
   rw [w7,h.opn q q0 q1,hcnt q q0 q1]
  have hcl:∀ (q:Int),0≤q→q < n→(gb e6.clash q=true↔∃ f∈foT t q,jH t n m facts f 1=true):=fun q q0 q1=>by
   rw [w8,h.clash q q0 q1,List.any_eq_true];refine ⟨fun ⟨f,hf,k⟩=>⟨f,hf,?_⟩,fun ⟨f,hf,k⟩=>⟨f,hf,?_⟩⟩
   ·obtain ⟨f0,f1⟩:=(ht.foe q0 q1).2 f hf
    rw [hlaid f 1 f0 f1 (by omega) (by omega)];exact k
   ·obtain ⟨f0,f1⟩:=(ht.foe q0 q1).2 f hf
    rw [← hlaid f 1 f0 f1 (by omega) (by omega)];exact k
  refine ⟨hok6.2.1,by show e6.dead.length=m;rw [w4];simp,hok6.2.2.2.2.2,h6.lbd,hok6.2.2.1,hok6.2.2.2.1,h6.lsd,h6.pr,fun r r0 r1=>?_,fun r r0 r1=>?_,fun q q0 q1=>?_,fun q q0 q1=>?_,fun q q0 q1=>?_,fun q q0 q1=>.inl (ho q q0 q1),fun q q0 q1 hq=>?_,fun q q0 q1 f hf hq=>?_,fun p p0 p1=>?_,fun p p0 p1=>?_,fun q q0 q1=>?_⟩
  ·show gi e6.need r=(((bd (En.layS t n m facts) r).countP (fun _=>!false):Nat):Int)
   rw [kK,w2];exact h.need r r0 r1
  ·show gb e6.dead r=_
   rw [w4,iD];simp
  ·show gi e6.backs q=cN m (fun r=>cZ (En.layS t n m facts).t r&&(hd (En.layS t n m facts) r == q)&&!gb e6.dead r)
   rw [w6,h.backs q q0 q1];refine bL fun i i0 i1=>?_;rw [w4,iD];simp only [Bool.not_false,Bool.and_true]
   rfl
  ·show gb e6.backed q=true↔∃ r,_∧_∧_∧gi e6.need r=0
   rw [h6.backed q q0 q1];exact ⟨fun ⟨r,a,b,c,d⟩=>⟨r,a,b,c,(hneed r a.1 a.2).2 d⟩,fun ⟨r,a,b,c,d⟩=>⟨r,a,b,c,(hneed r a.1 a.2).1 d⟩⟩
  ·show _≤gi e6.opn q∧gi e6.opn q≤64
   rw [ho q q0 q1];have:=(ht.foe q0 q1).1;have:=eA (l:=ap (aH (En.layS t n m facts).t) q) (f:=fun f=>!(Br f 2 || jH t n m facts f 2));have e3:ap (aH (En.layS t n m facts).t) q=ap (aH t) q:=rfl;rw [e3] at this ⊢;omega
  ·obtain ⟨f,hf,k⟩:=(hcl q q0 q1).1 hq
   exact ⟨f,hf,by rw [k];rfl⟩
  ·exact .inl ((hcl q q0 q1).2 ⟨f,hf,hq⟩)
  ·show e6.core.sett p=true↔gb e6.dead (psL t n m facts p)=true∨∃ t',_∧_∧gi e6.need t'=0
   rw [h6.sett p p0 p1,w4,iD];constructor
   ·rintro ⟨r,a,b,c⟩
    exact .inr ⟨r,a,b,(hneed r a.1 a.2).2 c⟩
   ·rintro (k | ⟨r,a,b,c⟩)
    ·cases k
    ·exact ⟨r,a,b,(hneed r a.1 a.2).1 c⟩
  ·show e6.core.left p=cN m (fun t'=>decide (p∈ap (En.layS t n m facts).beats t')&&!gb e6.dead t')
   rw [hleft p p0 p1];refine bL fun i i0 i1=>?_;rw [w4,iD];simp only [Bool.not_false,Bool.and_true]
  ·show gb e6.standing q=true↔∃ p,_∧_∧gi e6.need (psL t n m facts p)=0∧e6.core.left p=0
   rw [h6.stand q q0 q1];constructor
   ·rintro ⟨p,a,b,c,d,g⟩
    exact ⟨p,a,b,(hneed _ c.1 c.2).2 d,by rw [h6.left p a.1 a.2];exact g⟩
   ·rintro ⟨p,a,b,c,d⟩
    have hps:=(hc.pr p a.1 a.2).2;exact ⟨p,a,b,hps,(hneed _ hps.1 hps.2).1 c,by rw [← h6.left p a.1 a.2];exact d⟩
 ·refine ⟨fun q q0 q1 hq=>?_,fun q q0 q1 hq=>?_,fun q q0 q1 hf=>?_,fun r r0 r1 hs hb=>?_,fun q q0 q1 hf hb=>?_⟩
  ·rw [hh] at hq
   rcases (h.h1 q q0 q1).1 hq with k | ⟨r,a,b,c,d⟩
   ·exact .inl k
   ·refine .inr ⟨r,a,b,c,fun x hx=>?_⟩
    have hx2:x∈bdT t r:=hx;rw [d] at hx2;cases hx2
  ·rw [hh] at hq
   obtain ⟨a,b⟩:=(h.h2 q q0 q1).1 hq;refine ⟨a,fun r r0 r1 hs hr=>?_⟩;have:=cz.1 b r r0 r1;rw [show stT t r=true from hs,show (hdT t r == q)=true from beq_iff_eq.2 hr] at this;cases this
  ·rw [hh];exact (h.h1 q q0 q1).2 (.inl hf)
  ·rw [hh]
   obtain ⟨h0,h1'⟩:=(ht.rule r0 r1).1;refine (h.h1 _ h0 h1').2 (.inr ⟨r,⟨r0,r1⟩,hs,rfl,List.eq_nil_iff_forall_not_mem.2 fun b hb2=>?_⟩);have:=hb b hb2;cases this
  ·rw [hh]
   refine (h.h2 q q0 q1).2 ⟨hf,cz.2 fun r r0 r1=>?_⟩;cases hs:stT t r with
   | false=>rfl
   | true=>
    by_cases hr:hdT t r=q
    ·obtain ⟨x,_,hx⟩:=hb r r0 r1 hs hr
     cases hx
    ·rw [beq_eq_false_iff_ne.2 hr];rfl
 ·rw [show (En.layD t n m facts).opn=e5.opn by rw [hD];exact w7,h.opn q q0 q1]
  simp only [hh]
 ·rw [show (En.layD t n m facts).clash=e5.clash by rw [hD];exact w8,h.clash q q0 q1]
  simp only [hh]
end
end
section
section
variable {n m:Nat} {t:ThV} {facts:List Int}
structure AV (n m:Nat) (t:ThV) (facts:List Int) (e:En):Prop where
 lay:DH n m t facts
 inv:Inv n m (npL t n m facts) (En.layS t n m facts) (pqL t n m facts) (psL t n m facts) (gV facts) (jH t n m facts) (PrI e.told.length e.told) e
 sound:∀ x∈e.told,Lf t n m (gV facts) x.1 x.2
 pre:(En.layD t n m facts).told <+: e.told
 all:∀ (q k:Int),0≤q→q < n→1≤k→k≤4→(e.has q k=true↔Lf t n m (gV facts) q k)
 up:Cg e.up (3 * (e.told.length:Nat) - 2 * ((En.layD t n m facts).told.length:Nat) + V n m (npL t n m facts) (En.layS t n m facts) e.core - V n m (npL t n m facts) (En.layS t n m facts) (En.layD t n m facts).core)
 rg:Ri e.up
theorem z4 {np:Nat} {s:Es} {pq ps:Int→Int} {fact:Int→Bool} {Pr:Int→Int→Bool} {e:En} (hc:Con n m np s pq ps) (hok:aE n m np e) (hks:Ks n m s fact (fun _ b k=>Pr b k) e) (hkp:Kp n Pr (fun x=>0≤x) e):
 ∃ e',dN (fun e q=>e.look q) n 0 e=e'∧Tk n m np s e e'∧e'.core=e.core∧Ks n m s fact (fun _ b k=>Pr b k) e'∧Kp n Pr (fun _=>False) e':=by
 have hn:=hc.ok.small.1;have:=co (f:=fun e q=>e.look q) (fun i e'=>Tk n m np s e e'∧e'.core=e.core∧Ks n m s fact (fun _ b k=>Pr b k) e'∧Kp n Pr (fun x=>i≤x) e') n 0 e (fun i e2 _ hi ⟨a,b,c,d⟩=>?_) ⟨Tk.refl hok,rfl,hks,hkp⟩
 ·rw [Nat.zero_add] at this
  obtain ⟨a,b,c,d⟩:=this;exact ⟨_,rfl,a,b,c,d.tm,d.j,fun q q0 q1 _=>d.cl q q0 q1 (by omega),d.p1,d.p2⟩
 ·have i0:(0:Int)≤i:=by omega
  have i1:(i:Int) < n:=by omega
  refine ⟨a.trans (Tk.look hn a.ok i0 i1),dD.trans b,c.same hc (eB.look d.tm i0 i1) (fun _ _ _ _ _=>rfl) (fun _ _ _ _ _=>rfl),(d.look i0 i1).weaken (fun x hx=>by omega)⟩
theorem zx {Q:Cr→Prop} (hk:THk n m t) (hfr:∀ q∈facts,0≤q∧q < n) (hQ:DH n m t facts→GF n m (npL t n m facts) (En.layS t n m facts) (pqL t n m facts) (psL t n m facts) (gV facts) (jH t n m facts) (En.layD t n m facts).told.length Q) (h0:Q (En.layD t n m facts).core):AV n m t facts (En.runD t n m facts)∧Q (En.runD t n m facts).core:=by
 have h:=z7 hk hfr;have hc:=h.con
 have hkp:Kp n Br (fun x=>0≤x) (En.layD t n m facts):=by
  refine ⟨h.tm,fun q q0 q1=>⟨fun k=>?_,fun k=>?_⟩,fun q q0 _ hq=>absurd q0 hq,fun q _ _ k=>(by cases k),fun q _ _ k=>(by cases k)⟩
  ·rw [h.h34 q 3 q0 q1 (by omega) (by omega)] at k;cases k
  ·rw [h.h34 q 4 q0 q1 (by omega) (by omega)] at k;cases k
 obtain ⟨e1,he1,hT,hcore,hks,hkp1⟩:=z4 hc h.ok h.ks hkp
 have hlaid:∀ x∈(En.layD t n m facts).told,Lf t n m (gV facts) x.1 x.2:=fun x hx=>by
  obtain ⟨⟨x0,x1⟩,y0,y1⟩:=h.tm.rng x hx;have hh:=(h.tm.has x.1 x.2 x0 x1 y0 y1).2 hx;obtain ⟨q,k⟩:=x;dsimp only at x0 x1 y0 y1 hh ⊢;obtain rfl | rfl | k3:k=1∨k=2∨3≤k:=by omega
  ·refine bK.k1 q x0 x1 ?_
   rcases h.ks.s1 q x0 x1 hh with k | ⟨r,a,b,c,d⟩
   ·exact .inl k
   ·exact .inr ⟨r,a,b,c,fun y hy=>by have:=d y hy;cases this⟩
  ·refine bK.k2 q x0 x1 ?_
   obtain ⟨a,b⟩:=h.ks.s2 q x0 x1 hh;exact ⟨a,fun r r0 r1 c d=>by obtain ⟨y,hy,k⟩:=b r r0 r1 c d;cases k⟩
  ·rw [h.h34 q k x0 x1 k3 y1] at hh;cases hh
 have hP0:PrI 0 e1.told=Br:=by
  funext q k
  refine Bool.eq_false_iff.2 fun hx=>?_;rw [jc] at hx;cases hx
 have hI:Inv n m (npL t n m facts) (En.layS t n m facts) (pqL t n m facts) (psL t n m facts) (gV facts) (jH t n m facts) (PrI 0 e1.told) e1:=by
  rw [hP0];exact ⟨hT.ok,by rw [hcore];exact h.can,hkp1,hks⟩
 have hS:=hI.sound hc h.conp (fun q k hx=>by rw [hP0] at hx;cases hx) (fun q k hx=>hlaid _ (decide_eq_true_iff.1 hx));have hm:=hT.ok.most
 obtain ⟨e',h1,h2,h3,h4,hq,hr,h5⟩:=sU (laidL:=(En.layD t n m facts).told) (hQ h) hc h.conp hlaid (4 * n) 0 (e:=e1) (by omega) (Nat.zero_le _) hT.pre hI (fun x hx=>by
  obtain ⟨⟨x0,x1⟩,y0,y1⟩:=hkp1.tm.rng x hx;exact hS x.1 x.2 x0 x1 y0 y1 ((hkp1.tm.has x.1 x.2 x0 x1 y0 y1).2 hx)) (by rw [hcore];exact h0)
 have hrun:En.runD t n m facts=e':=by
  rw [← h1,← he1];rfl
 rw [hrun]
 have hcl:=h2.complete hc h.conp (fun q k q0 q1 k0 k1 hh=>by
  rw [jc,List.take_length];exact (h2.kp.tm.has q k q0 q1 k0 k1).1 hh)
 refine ⟨⟨h,h2,h3,h4,fun q k q0 q1 k0 k1=>⟨fun hh=>h3 _ ((h2.kp.tm.has q k q0 q1 k0 k1).1 hh),fun hl=>(rY hcl q k hl).2.2⟩,?_,hr (hT.rg (by rw [h.up];exact ⟨by omega,by omega⟩))⟩,hq⟩;obtain ⟨a,ha⟩:=h5;obtain ⟨b,hb⟩:=hT.up;rw [h.up] at hb;exact ⟨a + b,by omega⟩
end
end
section
section
variable {n m np:Nat} {s:Es} {pq ps:Int→Int} {fact:Int→Bool} {dl df:Int→Int→Int→Bool} {laid Pr:Int→Int→Bool} {c c' c0 c1:Cr} {q r k p f:Int}
def Sup (m:Nat) (s:Es) (q:Int):Prop:=∃ (r:Int),(0≤r∧r < m)∧cZ s.t r=true∧hd s r=q
structure Mo (n m:Nat) (s:Es) (c0 c:Cr):Prop where
 opn:∀ (q:Int),0≤q→q < n→gi c.opn q≤gi c0.opn q∧(gi c.opn q=gi c0.opn q∨Sup m s q)
 clash:∀ (q:Int),0≤q→q < n→(gb c0.clash q=true→gb c.clash q=true)∧(gb c.clash q=true→gb c0.clash q=true∨Sup m s q)
 needD:∀ (r:Int),0≤r→r < m→fC s r=false→gi c.needD r=gi c0.needD r
theorem Mo.refl:Mo n m s c c:=⟨fun q _ _=>⟨Int.le_refl _,.inl rfl⟩,fun q _ _=>⟨id,.inl⟩,fun _ _ _ _=>rfl⟩
def Oc (c c':Cr):Prop:=c'.opn=c.opn∧c'.clash=c.clash∧c'.needD=c.needD
theorem Oc.refl:Oc c c:=⟨rfl,rfl,rfl⟩
theorem Oc.trans (h:Oc c c') (h2:Oc c' c1):Oc c c1:=⟨h2.1.trans h.1,h2.2.1.trans h.2.1,h2.2.2.trans h.2.2⟩
theorem Mo.oc (h:Mo n m s c0 c) (ho:Oc c c'):Mo n m s c0 c':=⟨by rw [ho.1];exact h.opn,by rw [ho.2.1];exact h.clash,by rw [ho.2.2];exact h.needD⟩
theorem Oc.fold {g:Cr→Int→Cr} (hg:∀ c r,Oc c (g c r)):∀ {L:List Int} {c:Cr},Oc c (L.foldl g c)
 | [],c=>Oc.refl
 | r::L,c=>(hg c r).trans (Oc.fold hg (L:=L))
theorem qc:Oc c (c.settle p):=by unfold Cr.settle;split <;> exact ⟨rfl,rfl,rfl⟩
theorem tz:Oc c (c.stand p):=by unfold Cr.stand;split <;> exact ⟨rfl,rfl,rfl⟩
theorem CK:Oc c (c.back q):=by unfold Cr.back;split <;> exact ⟨rfl,rfl,rfl⟩
theorem CJ:Oc c (Cr.fire s c r):=by
 unfold Cr.fire
 have h1:Oc c (Cr.fire1 s c r):=by
  unfold Cr.fire1;split
  ·exact CK.trans (Oc.fold (fun _ _=>qc))
  ·exact Oc.refl
 exact h1.trans (Oc.fold (fun _ _=>tz))
theorem zS:Oc c (Cr.onPlus1 s c r):=by
 unfold Cr.onPlus1;dsimp only;have h1:Oc c { c with need:=En.dec c.need r }:=⟨rfl,rfl,rfl⟩;split
 ·exact h1.trans CJ
 ·exact h1
theorem wT:Oc c (Cr.onMinus2 c p):=by
 unfold Cr.onMinus2;exact Oc.trans ⟨rfl,rfl,rfl⟩ tz
theorem wU:Oc c (Cr.onMinus1 s c r):=by
 unfold Cr.onMinus1;split
 ·exact Oc.refl
 ·dsimp only
  have h1:Oc c ((ap s.of r).foldl Cr.settle { c with dead:=c.dead.set r.toNat true }):=Oc.trans ⟨rfl,rfl,rfl⟩ (Oc.fold (fun _ _=>qc));split
  ·exact h1.trans (Oc.trans ⟨rfl,rfl,rfl⟩ (Oc.fold (fun _ _=>wT)))
  ·exact h1
theorem CH:Oc c (Cr.onNoD1 s c r):=by unfold Cr.onNoD1;split <;> exact ⟨rfl,rfl,rfl⟩
theorem pJ (h:gq n m np s pq ps dl df c) (q0:0≤q) (q1:q < n) (hb:0 < gi c.backs q):Sup m s q:=by
 rw [h.backs q q0 q1] at hb;obtain ⟨r,hr,hf⟩:=ER (by omega:cN m (fun r=>cZ s.t r&&(hd s r == q)&&!gb c.dead r)≠0);rw [Bool.and_eq_true,Bool.and_eq_true,beq_iff_eq] at hf;exact ⟨r,hr,hf.1.1,hf.1.2⟩
theorem uC (h:gq n m np s pq ps dl df c) (q0:0≤q) (q1:q < n) (hb:gb c.backed q=true):Sup m s q:=by
 obtain ⟨r,hr,a,b,_⟩:=(h.backed q q0 q1).1 hb;exact ⟨r,hr,a,b⟩
theorem Mo.late1 (h:gq n m np s pq ps dl df c) (hm:Mo n m s c0 c) (f0:0≤f) (f1:f < n):Mo n m s c0 (Cr.onLate1 c f):=by
 obtain ⟨o1,o2⟩:=h.opn1 f f0 f1;unfold Cr.onLate1;split
 ·rename_i hb
  have hs:Sup m s f:=by
   rw [Bool.or_eq_true,decide_eq_true_iff] at hb;exact hb.elim (pJ h f0 f1) (uC h f0 f1)
  have hset:∀ (x:Int),0≤x→gi (En.dec c.opn f) x=if x=f then gi c.opn f - 1 else gi c.opn x:=fun x x0=>i8 h.lop f0 f1 x0 (by omega) (by omega)
  refine ⟨fun q q0 q1=>?_,hm.clash,hm.needD⟩;show gi (En.dec c.opn f) q≤_∧(gi (En.dec c.opn f) q=_∨_);rw [hset q q0];have:=hm.opn q q0 q1;by_cases e:q=f
  ·subst e
   rw [if_pos rfl];exact ⟨by omega,.inr hs⟩
  ·rw [if_neg e];exact this
 ·exact hm
theorem Mo.plusD2 (hs:0 < gi c.backs f→Sup m s f) (hl:c.clash.length=n) (hm:Mo n m s c0 c) (f0:0≤f) (f1:f < n):Mo n m s c0 (Cr.onPlusD2 c f):=by
 unfold Cr.onPlusD2;split
 ·rename_i hb
  rw [Bool.and_eq_true,decide_eq_true_iff] at hb;have hset:∀ (x:Int),0≤x→gb (c.clash.set f.toNat true) x=if x=f then true else gb c.clash x:=fun x x0=>aV hl f0 f1 x0
  refine ⟨hm.opn,fun q q0 q1=>?_,hm.needD⟩;show (_→gb (c.clash.set f.toNat true) q=true)∧(gb (c.clash.set f.toNat true) q=true→_);rw [hset q q0];by_cases e:q=f
  ·subst e
   rw [if_pos rfl];exact ⟨fun _=>rfl,fun _=>.inr (hs hb.1)⟩
  ·rw [if_neg e];exact hm.clash q q0 q1
 ·exact hm
theorem Mo.plusD1 (hl:c.needD.length=m) (hm:Mo n m s c0 c) (r0:0≤r) (r1:r < m):Mo n m s c0 (Cr.onPlusD1 s c r):=by
 unfold Cr.onPlusD1;split
 ·rename_i hb
  refine ⟨hm.opn,hm.clash,fun x x0 x1 hx=>?_⟩;show gi (En.dec c.needD r) x=_;rw [(ov hl r0 r1).1 x x0 (fun e=>by subst e;rw [show fC s x=true from hb] at hx;cases hx)];exact hm.needD x x0 x1 hx
 ·exact hm
theorem Mo.does {first i:Nat} (hc:Con n m np s pq ps) (hsym:∀ (q:Int),0≤q→q < n→∀ f∈foT s.t q,q∈foT s.t f) (h:Can n m np s pq ps fact laid Pr c) (q0:0≤q) (q1:q < n) (k0:1≤k) (k1:k≤4) (hP:Pr q k=false) (hl:k=2→(laid q 2=true↔i < first)) (hm:Mo n m s c0 c):Mo n m s c0 (Cr.does s first i c (q,k)):=by
 obtain ⟨hn1,hi⟩:=hc.inn q q0 q1;obtain ⟨hn2,_,hf⟩:=hc.foes q q0 q1;obtain rfl | rfl | rfl | rfl:k=1∨k=2∨k=3∨k=4:=by omega
 ·show Mo n m s c0 (Cr.onPlusD s c q)
  unfold Cr.onPlusD
  have h1:∀ (L:List Int) (c1:Cr),(∀ r∈L,0≤r∧r < m)→c1.needD.length=m→Mo n m s c0 c1→Mo n m s c0 (L.foldl (Cr.onPlusD1 s) c1)∧(L.foldl (Cr.onPlusD1 s) c1).backs=c1.backs∧(L.foldl (Cr.onPlusD1 s) c1).clash=c1.clash:=fun L=>by
   induction L with
   | nil=>intro c1 _ _ h;exact ⟨h,rfl,rfl⟩
   | cons r L ih=>
    intro c1 hL hl1 h;rw [List.foldl_cons];obtain ⟨r0,r1⟩:=hL r (List.mem_cons_self ..);have hb:(Cr.onPlusD1 s c1 r).backs=c1.backs∧(Cr.onPlusD1 s c1 r).clash=c1.clash:=by unfold Cr.onPlusD1;split <;> exact ⟨rfl,rfl⟩
    obtain ⟨a,b,d⟩:=ih (Cr.onPlusD1 s c1 r) (fun x hx=>hL x (List.mem_cons_of_mem _ hx)) (by unfold Cr.onPlusD1;split <;> first | (show (En.dec _ _).length=m;rw [ji];exact hl1) | exact hl1) (h.plusD1 hl1 r0 r1);exact ⟨a,b.trans hb.1,d.trans hb.2⟩
  obtain ⟨a,b,d⟩:=h1 (ap s.inn q) c (fun r hr=>((hi r).1 hr).1) h.d.lnD hm;generalize (ap s.inn q).foldl (Cr.onPlusD1 s) c=c1 at *
  have h2:∀ (L:List Int) (c2:Cr),(∀ f∈L,0≤f∧f < n)→c2.backs=c.backs→c2.clash.length=n→Mo n m s c0 c2→Mo n m s c0 (L.foldl Cr.onPlusD2 c2):=fun L=>by
   induction L with
   | nil=>intro c2 _ _ _ h;exact h
   | cons f L ih=>
    intro c2 hL hb hl2 h';rw [List.foldl_cons];obtain ⟨f0,f1⟩:=hL f (List.mem_cons_self ..);refine ih _ (fun x hx=>hL x (List.mem_cons_of_mem _ hx)) ?_ ?_ (h'.plusD2 (fun hz=>pJ h.s f0 f1 (by rw [← hb];exact hz)) hl2 f0 f1)
    ·refine Eq.trans ?_ hb
     unfold Cr.onPlusD2;split <;> rfl
    ·unfold Cr.onPlusD2;split <;> first | (show (c2.clash.set _ _).length=n;rw [List.length_set];exact hl2) | exact hl2
  exact h2 _ c1 hf b (by rw [d];exact h.s.lcl) a
 ·have hno:∀ c,Oc c (Cr.onNoD s c q):=fun c=>Oc.fold (fun _ _=>CH)
  by_cases hii:first≤i
  ·have e:Cr.does s first i c (q,2)=Cr.onLate s c q:=by simp [Cr.does,hii]
   rw [e];unfold Cr.onLate;refine Mo.oc ?_ (hno _)
   have hlaid:laid q 2=false:=by
    cases hh:laid q 2 with
    | false=>rfl
    | true=>have:=(hl rfl).1 hh;omega
   exact (jL (q:=q) (k:=2) (P:=fun df c=>gq n m np s pq ps (fun _ b k=>Pr b k) df c∧Mo n m s c0 c) (g:=Cr.onLate1) (dl:=fun _ f k=>Pr f k || laid f k) (ok:=fun f=>(0≤f∧f < n)∧q∈ap (aH s.t) f)
    (fun df c f hr hd ⟨a1,a2⟩=>⟨a1.lateS hc hr.1.1 hr.1.2 hr.2 hd,a2.late1 a1 hr.1.1 hr.1.2⟩) (L:=ap (aH s.t) q) hn2 (fun f hff=>⟨⟨hf f hff,hsym q q0 q1 f hff⟩,by rw [hP,hlaid];rfl⟩) ⟨h.s,hm⟩).2
  ·have e:Cr.does s first i c (q,2)=Cr.onNoD s c q:=by simp only [Cr.does,if_neg hii];rfl
   rw [e];exact hm.oc (hno _)
 ·exact hm.oc (Oc.fold (fun _ _=>zS))
 ·exact hm.oc (Oc.fold (fun _ _=>wU))
end
section
variable {n m:Nat} {t:ThV} {facts:List Int}
theorem wo (hk:THk n m t) (hfr:∀ q∈facts,0≤q∧q < n):AV n m t facts (En.runD t n m facts)∧Mo n m (En.layS t n m facts) (En.layD t n m facts).core (En.runD t n m facts).core:=
 zx hk hfr (fun h Pr c i q k hC q0 q1 k0 k1 hP hl hm=>Mo.does h.con h.conp.sym hC q0 q1 k0 k1 hP hl hm) Mo.refl
end
end
section
section
variable {n m np:Nat} {f g:Int→Bool} {w v:Int→Int} {x y:Int}
theorem AK:∀ {m:Nat},cN m f=sm m (fun r=>b1 (f r))
 | 0=>rfl
 | m + 1=>by
  rw [dM,AK (m:=m)];show _=sm m _ + b1 (f m);cases f m <;> rfl
theorem zu (h:∀ (i:Int),0≤i→i < n→w i=0):sm n w=0:=by rw [cP (f:=fun _=>0) h,lQ]
theorem im (x0:0≤x) (x1:x < n) {a:Int}:sm n (fun q=>if x=q then a else 0)=a:=by
 rw [wb (f:=fun _=>0) x0 x1 (fun i _ _ hi=>if_neg (fun k=>hi k.symm)),lQ,if_pos rfl];omega
theorem wa {h:Int→Int}:∀ {m:Nat},(∀ (r:Int),0≤r→r < m→0≤h r∧h r < n)→sm n (fun q=>sm m (fun r=>if h r=q then w r else 0))=sm m w
 | 0,_=>lQ
 | m + 1,hh=>by
  have h1:=wa (m:=m) (fun r r0 r1=>hh r r0 (by omega));obtain ⟨a,b⟩:=hh m (by omega) (by omega);show sm n (fun q=>sm m (fun r=>if h r=q then w r else 0) + (if h m=q then w m else 0))=sm m w + w m;rw [gx,h1,im a b]
theorem D3 (h:∀ (i:Int),0≤i→i < n→0≤w i) (x0:0≤x) (x1:x < n):w x≤sm n w:=by
 have h1:=lh (n:=n) (f:=w) (g:=fun q=>if x=q then w x else 0) (fun i i0 i1=>by
  split
  ·rename_i e;subst e;exact Int.le_refl _
  ·exact h i i0 i1)
 rw [im x0 x1] at h1;exact h1
theorem D2 (h:∀ (i:Int),0≤i→i < n→0≤w i) (x0:0≤x) (x1:x < n) (y0:0≤y) (y1:y < n) (hxy:x≠y):w x + w y≤sm n w:=by
 have h1:=lh (n:=n) (f:=w) (g:=fun q=>(if x=q then w x else 0) + (if y=q then w y else 0)) (fun i i0 i1=>by
  by_cases e:x=i
  ·subst e;rw [if_pos rfl,if_neg (fun k=>hxy k.symm)];omega
  ·rw [if_neg e]
   by_cases e2:y=i
   ·subst e2;rw [if_pos rfl];omega
   ·rw [if_neg e2];have:=h i i0 i1;omega)
 rw [gx,im x0 x1,im y0 y1] at h1;exact h1
theorem j4 (g:Int→Bool):∀ {m:Nat},cN m f=cN m (fun r=>f r&&g r) + cN m (fun r=>f r&&!g r)
 | 0=>rfl
 | m + 1=>by
  rw [dM,dM,dM,j4 g (m:=m)];cases f m <;> cases g m <;> simp <;> omega
theorem yp:∀ {m:Nat},(∀ (i:Int),0≤i→i < m→f i=true→g i=true)→cN m f≤cN m g
 | 0,_=>Int.le_refl _
 | m + 1,h=>by
  have h1:=yp (m:=m) (fun i i0 i1=>h i i0 (by omega));rw [dM,dM];have h2:=h m (by omega) (by omega);cases hf:f m with
  | false=>simp only [Bool.false_eq_true,if_false];split <;> omega
  | true=>rw [h2 hf,if_pos rfl];omega
theorem Gk (h:∀ (i:Int),0≤i→i < m→¬ (f i=true∧g i=true)):cN m (fun r=>f r || g r)=cN m f + cN m g:=by
 rw [j4 (f:=fun r=>f r || g r) f]
 congr 1
 ·exact bL fun i i0 i1=>by cases f i <;> cases g i <;> rfl
 ·refine bL fun i i0 i1=>?_
  have:=h i i0 i1;cases hf:f i <;> cases hg:g i <;> simp_all
theorem yr {h:Int→Int}:∀ {np:Nat} {g:Int→Bool},(∀ (p:Int),0≤p→p < np→f p=true→(0≤h p∧h p < m)∧g (h p)=true)→(∀ (p p':Int),0≤p→p < np→0≤p'→p' < np→f p=true→f p'=true→h p=h p'→p=p')→cN np f≤cN m g
 | 0,g,_,_=>ci m g
 | np + 1,g,h1,h2=>by
  rw [dM];by_cases hf:f np=true
  ·rw [if_pos hf]
   obtain ⟨⟨a,b⟩,c⟩:=h1 np (by omega) (by omega) hf
   have h3:=yr (np:=np) (g:=fun r=>g r&&!(r == h np)) (fun p p0 p1 hp=>by
    obtain ⟨d,e⟩:=h1 p p0 (by omega) hp;refine ⟨d,?_⟩
    have:h p≠h np:=fun k=>by
     have:=h2 p np p0 (by omega) (by omega) (by omega) hp hf k;omega
    rw [e,beq_eq_false_iff_ne.2 this]
    rfl) (fun p p' a0 a1 b0 b1=>h2 p p' a0 (by omega) b0 (by omega))
   have h4:=jl (m:=m) (f:=g) (g:=fun r=>g r&&!(r == h np)) a b c (by simp) (fun i i0 i1 hi=>by rw [beq_eq_false_iff_ne.2 hi];simp);omega
  ·rw [if_neg hf]
   have:=yr (np:=np) (g:=g) (fun p p0 p1 hp=>h1 p p0 (by omega) hp) (fun p p' a0 a1 b0 b1=>h2 p p' a0 (by omega) b0 (by omega));omega
def pw (l:List Int) (w:Int→Int):Int:=match l with
 | []=>0
 | f::l=>w f + pw l w
theorem yq {h:Int→Int}:∀ {l:List Int},l.Nodup→cN m (fun x=>decide (h x∈l))=pw l (fun f=>cN m (fun x=>h x == f))
 | [],_=>cz.2 fun i _ _=>by simp
 | a::l,hn=>by
  rw [List.nodup_cons] at hn
  have h1:cN m (fun x=>decide (h x∈a::l))=cN m (fun x=>(h x == a) || decide (h x∈l)):=bL fun i _ _=>by
   refine Bool.eq_iff_iff.2 ?_;rw [decide_eq_true_iff,Bool.or_eq_true,beq_iff_eq,decide_eq_true_iff,List.mem_cons]
  rw [h1,Gk (fun i _ _ ⟨a1,a2⟩=>hn.1 (by rw [beq_iff_eq] at a1;rw [← a1];exact decide_eq_true_iff.1 a2)),yq hn.2]
  rfl
theorem jd:∀ {l:List Int},(∀ f∈l,0≤w f)→0≤pw l w
 | [],_=>Int.le_refl _
 | a::l,h=>by
  have:=jd (l:=l) (fun f hf=>h f (List.mem_cons_of_mem _ hf));have:=h a (List.mem_cons_self ..);show 0≤w a + pw l w;omega
theorem mH:∀ {l:List Int},(∀ f∈l,0≤w f∧(g f=true→1≤w f))→((l.countP g:Nat):Int)≤pw l w
 | [],_=>Int.le_refl _
 | a::l,h=>by
  have h1:=mH (l:=l) (fun f hf=>h f (List.mem_cons_of_mem _ hf));obtain ⟨h2,h3⟩:=h a (List.mem_cons_self ..);show _≤w a + pw l w;rw [List.countP_cons];split
  ·rename_i hg
   have:=h3 hg;omega
  ·omega
theorem qS {l:List Int} (h:∀ i∈l,f i=true→g i=true):l.countP f≤l.countP g:=List.countP_mono_left h
theorem qR {a:Int}:∀ {l:List Int},(∀ i∈l,f i=true→g i=true)→a∈l→f a=false→g a=true→l.countP f + 1≤l.countP g
 | [],_,ha,_,_=>by cases ha
 | b::l,h,ha,h1,h2=>by
  have h3:=qS (l:=l) (fun i hi=>h i (List.mem_cons_of_mem _ hi));rw [List.countP_cons,List.countP_cons];rcases List.mem_cons.1 ha with rfl | ha
  ·rw [h1,h2];simp;omega
  ·have h4:=qR (l:=l) (fun i hi=>h i (List.mem_cons_of_mem _ hi)) ha h1 h2
   have h5:=h b (List.mem_cons_self ..);cases hf:f b with
   | false=>simp only [Bool.false_eq_true,if_false];split <;> omega
   | true=>rw [h5 hf];simp;omega
theorem vj {l:List Int}:l.countP (fun i=>!g i)=l.countP (fun i=>f i&&!g i) + l.countP (fun i=>!(f i || g i)):=by
 induction l with
 | nil=>rfl
 | cons a l ih=>
  rw [List.countP_cons,List.countP_cons,List.countP_cons,ih];cases f a <;> cases g a <;> simp <;> omega
end
structure Fin (n m np:Nat) (s:Es) (pq ps:Int→Int) (fact:Int→Bool) (laid Pr:Int→Int→Bool) (c0 c:Cr):Prop where
 con:Con n m np s pq ps
 conp:DV n m np s pq ps
 can0:Can n m np s pq ps fact laid Br c0
 can:Can n m np s pq ps fact laid Pr c
 mo:Mo n m s c0 c
 coh1:∀ q,¬ (Pr q 1=true∧Pr q 2=true)
 coh3:∀ q,¬ (Pr q 3=true∧Pr q 4=true)
 up3:∀ (q:Int),0≤q→q < n→Pr q 1=true→Pr q 3=true
 needD:∀ (r:Int),0≤r→r < m→gi c0.needD r=((bd s r).length:Nat)
 late1:∀ (q:Int),0≤q→q < n→Pr q 1=true→laid q 1=false→∃ (r:Int),(0≤r∧r < m)∧fC s r=true∧hd s r=q∧bd s r≠[]∧∀ b∈bd s r,Pr b 1=true
 late2:∀ (q:Int),0≤q→q < n→Pr q 2=true→laid q 2=false→∃ (r:Int),(0≤r∧r < m)∧fC s r=true∧hd s r=q∧gb c.deadD r=true
 lp:∀ (q k:Int),0≤q→q < n→1≤k→k≤2→laid q k=true→Pr q k=true
 l34:∀ (q:Int),0≤q→q < n→laid q 3=false∧laid q 4=false
 opn0:∀ (q:Int),0≤q→q < n→gi c0.opn q=(((foT s.t q).countP (fun f=>!laid f 2):Nat):Int)
 clash0:∀ (q:Int),0≤q→q < n→gb c0.clash q=(foT s.t q).any (fun f=>laid f 1)
section
variable {n m np:Nat} {s:Es} {pq ps:Int→Int} {fact:Int→Bool} {laid Pr:Int→Int→Bool} {c0 c:Cr} {q r p f:Int}
def eY (s:Es) (c:Cr) (r:Int):Int:=if bd s r≠[]∧gi c.need r=0 then 3 else if (fC s r&&gb c.deadD r)=true then 2 else 0
def nr (s:Es) (c0 c:Cr) (r:Int):Int:=vr s c r - vr s c0 r + b1 (fC s r&&gb c.deadD r) + b1 (cZ s.t r&&gb c.dead r)
theorem pQ:0≤eY s c r:=by unfold eY;split <;> first | omega | (split <;> omega)
theorem gK {b:Bool}:0≤b1 b∧b1 b≤1:=by cases b <;> decide
theorem t9 (h:Fin n m np s pq ps fact laid Pr c0 c) (r0:0≤r) (r1:r < m):0≤nr s c0 c r∧nr s c0 c r + eY s c r≤4 * ((bd s r).length:Nat):=by
 have hS:=h.can.s;have n3:=hS.need r r0 r1;have n3le:=eA (l:=bd s r) (f:=fun b=>!Pr b 3);have n30:gi c0.need r=((bd s r).length:Nat):=by rw [h.can0.s.need r r0 r1];exact congrArg _ kK
 have d0:gb c0.dead r=false:=by rw [h.can0.s.dead r r0 r1];simp
 have dD0:gb c0.deadD r=false:=by rw [h.can0.d.deadD r r0 r1];simp
 have hdead:gb c.dead r=true→1≤(bd s r).countP (fun b=>!Pr b 3):=fun hd=>by
  obtain ⟨b,hb,hp⟩:=(jW hS r0 r1).1 hd;refine List.countP_pos_iff.2 ⟨b,hb,?_⟩;cases h3:Pr b 3 with
  | false=>rfl
  | true=>exact absurd ⟨h3,hp⟩ (h.coh3 b)
 have hnD:=h.needD r r0 r1;have hlong:(En.long s r=true↔1 < (bd s r).length):=decide_eq_true_iff;have hnil:bd s r=[]↔(bd s r).length=0:=List.length_eq_zero_iff.symm
 have hk0:(bd s r).length=0→gb c.dead r=false∧gb c.deadD r=false:=fun hz=>by
  have hz2:=hnil.2 hz;rw [hS.dead r r0 r1,h.can.d.deadD r r0 r1,hz2];simp
 have hd1:=gK (b:=gb c.dead r);have hsl:eY s c r≤3:=by unfold eY;split <;> first | omega | (split <;> omega)
 have hfz:gi c.need r=0→gb c.dead r=false:=fun hz=>by
  cases hd:gb c.dead r with
  | false=>rfl
  | true=>have:=hdead hd;omega
 cases hst:fC s r with
 | false=>
  have hdd:gb c.deadD r=false:=by rw [h.can.d.deadD r r0 r1,hst];rfl
  have hnd:=h.mo.needD r r0 r1 hst;unfold nr vr eY;rw [hst,hdd,d0,dD0,n30,hnd,hnD];simp only [Bool.false_and,Bool.false_eq_true,if_false,cE];cases hl:En.long s r with
  | false=>
   have hk:(bd s r).length≤1:=by
    have:¬ 1 < (bd s r).length:=fun k=>by rw [hlong.2 k] at hl;cases hl
    omega
   simp only [cond_false];cases hd:gb c.dead r with
   | false=>
    simp only [Bool.and_false,cE];by_cases hz:bd s r≠[]∧gi c.need r=0
    ·rw [if_pos hz]
     have:(bd s r).length≠0:=fun k=>hz.1 (hnil.2 k);omega
    ·rw [if_neg hz];omega
   | true=>
    have h1:(bd s r).length≠0:=fun k=>by rw [(hk0 k).1] at hd;cases hd
    rw [if_neg (fun k=>by rw [hfz k.2] at hd;cases hd)];have:=gK (b:=cZ s.t r&&true);omega
  | true=>
   have hk:=hlong.1 hl;simp only [cond_true];cases hd:gb c.dead r with
   | false=>
    simp only [Bool.and_false,cE];split <;> omega
   | true=>
    have:=hdead hd;rw [if_neg (fun k=>by rw [hfz k.2] at hd;cases hd)];have:=gK (b:=cZ s.t r&&true);simp only [hJ];omega
 | true=>
  have n1:=h.can.d.needD r r0 r1 hst;have n1le:=eA (l:=bd s r) (f:=fun b=>!Pr b 1)
  have hdeadD:gb c.deadD r=true→1≤(bd s r).countP (fun b=>!Pr b 1):=fun hd=>by
   rw [h.can.d.deadD r r0 r1,hst,Bool.true_and] at hd;obtain ⟨b,hb,hp⟩:=List.any_eq_true.1 hd;refine List.countP_pos_iff.2 ⟨b,hb,?_⟩;cases h3:Pr b 1 with
   | false=>rfl
   | true=>exact absurd ⟨h3,hp⟩ (h.coh1 b)
  unfold nr vr eY;rw [hst,d0,dD0,n30,hnD];simp only [Bool.true_and];cases hdd:gb c.deadD r with
  | false=>
   simp only [Bool.false_eq_true,if_false,cE];cases hl:En.long s r with
   | false=>
    have hk:(bd s r).length≤1:=by
     have:¬ 1 < (bd s r).length:=fun k=>by rw [hlong.2 k] at hl;cases hl
     omega
    simp only [cond_false];cases hd:gb c.dead r with
    | false=>
     simp only [Bool.and_false,cE];by_cases hz:bd s r≠[]∧gi c.need r=0
     ·rw [if_pos hz]
      have:(bd s r).length≠0:=fun k=>hz.1 (hnil.2 k);omega
     ·rw [if_neg hz];omega
    | true=>
     have h1:(bd s r).length≠0:=fun k=>by rw [(hk0 k).1] at hd;cases hd
     rw [if_neg (fun k=>by rw [hfz k.2] at hd;cases hd)];have:=gK (b:=cZ s.t r&&true);omega
   | true=>
    have hk:=hlong.1 hl;simp only [cond_true];cases hd:gb c.dead r with
    | false=>
     simp only [Bool.and_false,cE];split <;> omega
    | true=>
     have:=hdead hd;rw [if_neg (fun k=>by rw [hfz k.2] at hd;cases hd)];have:=gK (b:=cZ s.t r&&true);simp only [hJ];omega
  | true=>
   have hk1:(bd s r).length≠0:=fun k=>by rw [(hk0 k).2] at hdd;cases hdd
   have:=hdeadD hdd;simp only [if_true,hJ,cE];cases hl:En.long s r with
   | false=>
    simp only [cond_false];cases hd:gb c.dead r with
    | false=>
     simp only [Bool.and_false,cE];split <;> omega
    | true=>
     rw [if_neg (fun k=>by rw [hfz k.2] at hd;cases hd)];have:=gK (b:=cZ s.t r&&true);omega
   | true=>
    have hk:=hlong.1 hl;simp only [cond_true];cases hd:gb c.dead r with
    | false=>
     simp only [Bool.and_false,cE];by_cases hz:bd s r≠[]∧gi c.need r=0
     ·rw [if_pos hz];omega
     ·rw [if_neg hz];omega
    | true=>
     have:=hdead hd;rw [if_neg (fun k=>by rw [hfz k.2] at hd;cases hd)];have:=gK (b:=cZ s.t r&&true);simp only [hJ];omega
end
end
section
section
variable {n m np:Nat} {s:Es} {pq ps:Int→Int} {fact:Int→Bool} {laid Pr:Int→Int→Bool} {c0 c:Cr} {q r p f:Int}
def pY (P:Int→Int→Bool) (q:Int):Int:=b1 (P q 1) + b1 (P q 2) + b1 (P q 3) + b1 (P q 4)
def qV (laid Pr:Int→Int→Bool) (c0 c:Cr) (q:Int):Int:=3 * pY Pr q - 2 * pY laid q + (b1 (gb c.backed q) - b1 (gb c0.backed q))
def SL (m:Nat) (s:Es) (c:Cr) (q:Int):Int:=sm m (fun r=>if hd s r=q then eY s c r else 0)
theorem rE {r:Int}:0≤(if hd s r=q then eY s c r else 0):=by split <;> first | exact pQ | omega
theorem wc (r0:0≤r) (r1:r < m) (hr:hd s r=q):eY s c r≤SL m s c q:=by
 have:=D3 (n:=m) (w:=fun r=>if hd s r=q then eY s c r else 0) (fun i _ _=>rE) r0 r1;rw [if_pos hr] at this;exact this
theorem D4 {x:Int} (r0:0≤r) (r1:r < m) (hr:hd s r=q) (x0:0≤x) (x1:x < m) (hx:hd s x=q) (hne:r≠x):eY s c r + eY s c x≤SL m s c q:=by
 have:=D2 (n:=m) (w:=fun r=>if hd s r=q then eY s c r else 0) (fun i _ _=>rE) r0 r1 x0 x1 hne;rw [if_pos hr,if_pos hx] at this;exact this
theorem iG {a b:Bool} (h:a=true→b=true):b1 a≤b1 b:=by cases a <;> cases b <;> simp_all
theorem BR {a b:Bool} (h:¬ (a=true∧b=true)):b1 a + b1 b≤1:=by cases a <;> cases b <;> simp_all
theorem qi {a b:Bool} (h:¬ (a=true∧b=false)):b1 a≤b1 b:=iG (fun ha=>by cases hb:b with | true=>rfl | false=>exact absurd ⟨ha,hb⟩ h)
theorem ua (h:Fin n m np s pq ps fact laid Pr c0 c) (q0:0≤q) (q1:q < n):0≤qV laid Pr c0 c q∧qV laid Pr c0 c q≤4 + SL m s c q:=by
 have hS:=h.can.s;have k1:=BR (h.coh1 q);have k3:=BR (h.coh3 q);have l1:=iG (h.lp q 1 q0 q1 (by omega) (by omega));have l2:=iG (h.lp q 2 q0 q1 (by omega) (by omega));obtain ⟨l3,l4⟩:=h.l34 q q0 q1
 have hb:b1 (gb c0.backed q)≤b1 (gb c.backed q):=iG (fun hb=>by
  obtain ⟨r,hr,a,b,d⟩:=(h.can0.s.backed q q0 q1).1 hb;refine (hS.backed q q0 q1).2 ⟨r,hr,a,b,(dh hS hr.1 hr.2).2 fun x hx=>?_⟩;have:=(dh h.can0.s hr.1 hr.2).1 d x hx;cases this)
 have c1:=gK (b:=gb c.backed q);have c2:=gK (b:=gb c0.backed q);have c3:=gK (b:=laid q 1);have c4:=gK (b:=laid q 2);have c5:=gK (b:=Pr q 3);have c6:=gK (b:=Pr q 4);have hSL:0≤SL m s c q:=gv fun i _ _=>rE
 have hnewb:gb c.backed q=true∧gb c0.backed q=false→∃ (r:Int),(0≤r∧r < m)∧hd s r=q∧eY s c r=3:=fun ⟨h1,h2⟩=>by
  obtain ⟨r,hr,a,b,d⟩:=(hS.backed q q0 q1).1 h1
  have hne:bd s r≠[]:=fun hz=>by
   have:gb c0.backed q=true:=(h.can0.s.backed q q0 q1).2 ⟨r,hr,a,b,(dh h.can0.s hr.1 hr.2).2 fun x hx=>by rw [hz] at hx;cases hx⟩;rw [h2] at this;cases this
  refine ⟨r,hr,b,?_⟩;unfold eY;rw [if_pos ⟨hne,d⟩]
 have hL:2 * (b1 (Pr q 1) + b1 (Pr q 2) - b1 (laid q 1) - b1 (laid q 2)) + (b1 (gb c.backed q) - b1 (gb c0.backed q))≤SL m s c q:=by
  by_cases e1:Pr q 1=true∧laid q 1=false
  ·obtain ⟨r,hr,a,b,d,g⟩:=h.late1 q q0 q1 e1.1 e1.2
   have hs3:eY s c r=3:=by
    unfold eY;rw [if_pos ⟨d,(dh hS hr.1 hr.2).2 fun x hx=>h.up3 x ((h.con.body r hr.1 hr.2).2.2 x hx).1 ((h.con.body r hr.1 hr.2).2.2 x hx).2 (g x hx)⟩]
   have:=wc (c:=c) hr.1 hr.2 b;omega
  ·have e1':=qi e1
   by_cases e2:Pr q 2=true∧laid q 2=false
   ·obtain ⟨r,hr,a,b,d⟩:=h.late2 q q0 q1 e2.1 e2.2
    have hs2:2≤eY s c r:=by
     unfold eY;split
     ·omega
     ·rw [if_pos (by rw [a,d];rfl)];omega
    have h1:=wc (c:=c) hr.1 hr.2 b;by_cases e3:gb c.backed q=true∧gb c0.backed q=false
    ·obtain ⟨x,hx,hxq,hx3⟩:=hnewb e3
     by_cases e4:r=x
     ·subst e4;omega
     ·have:=D4 (c:=c) hr.1 hr.2 b hx.1 hx.2 hxq e4
      omega
    ·have:=qi e3
     omega
   ·have e2':=qi e2
    by_cases e3:gb c.backed q=true∧gb c0.backed q=false
    ·obtain ⟨x,hx,hxq,hx3⟩:=hnewb e3
     have:=wc (c:=c) hx.1 hx.2 hxq;omega
    ·have:=qi e3
     omega
 unfold qV pY;rw [l3,l4];simp only [cE];omega
def kO (m:Nat) (s:Es) (q:Int):Int:=cN m (fun r=>hd s r == q)
def vO (m:Nat) (s:Es) (q:Int):Int:=pw (foT s.t q) (kO m s)
def kL (c0 c:Cr) (q:Int):Int:=(b1 (gb c.clash q) - b1 (gb c0.clash q)) + (b1 (gb c.standing q) - b1 (gb c0.standing q)) + (gi c0.opn q - gi c.opn q)
def mI (np:Nat) (pq:Int→Int) (c0 c:Cr) (q:Int):Int:=sm np (fun p=>if pq p=q then vp c p - vp c0 p else 0)
theorem wh (h:Fin n m np s pq ps fact laid Pr c0 c) (p0:0≤p) (p1:p < np):c0.sett p=true→c.sett p=true:=fun hs=>by
 rcases (h.can0.s.sett p p0 p1).1 hs with k | ⟨x,hx,a,b⟩
 ·obtain ⟨hps0,hps1⟩:=(h.con.pr p p0 p1).2
  rw [h.can0.s.dead _ hps0 hps1] at k;simp at k
 ·refine (h.can.s.sett p p0 p1).2 (.inr ⟨x,hx,a,(dh h.can.s hx.1 hx.2).2 fun y hy=>?_⟩)
  have:=(dh h.can0.s hx.1 hx.2).1 b y hy;cases this
theorem qo (h:Fin n m np s pq ps fact laid Pr c0 c) (p0:0≤p) (p1:p < np):c0.left p - c.left p=cN m (fun x=>decide (p∈ap s.beats x)&&gb c.dead x):=by
 have h1:=h.can0.s.left p p0 p1;have h2:=h.can.s.left p p0 p1
 have h3:cN m (fun t=>decide (p∈ap s.beats t)&&!gb c0.dead t)=cN m (fun t=>decide (p∈ap s.beats t)):=bL fun i i0 i1=>by
  rw [h.can0.s.dead i i0 i1];simp
 have h4:=j4 (m:=m) (f:=fun t=>decide (p∈ap s.beats t)) (fun t=>gb c.dead t);omega
theorem vW (h:Fin n m np s pq ps fact laid Pr c0 c) (p0:0≤p) (p1:p < np):0≤vp c p - vp c0 p∧vp c p - vp c0 p≤2 * b1 (c.sett p) + kO m s (pq p):=by
 have h1:=qo h p0 p1;have h2:=iG (wh h p0 p1);have h3:=ci m (fun x=>decide (p∈ap s.beats x)&&gb c.dead x)
 have h4:cN m (fun x=>decide (p∈ap s.beats x)&&gb c.dead x)≤kO m s (pq p):=yp fun x x0 x1 hx=>by
  rw [Bool.and_eq_true,decide_eq_true_iff] at hx;rw [beq_iff_eq];exact ((h.conp.bts x p x0 x1 p0 p1).1 hx.1).2.1
 have h5:=gK (b:=c0.sett p);unfold vp;omega
theorem uD (h:Fin n m np s pq ps fact laid Pr c0 c) (q0:0≤q) (q1:q < n):gb c0.standing q=true→gb c.standing q=true:=fun hs=>by
 obtain ⟨p,hp,a,b,d⟩:=(h.can0.s.stand q q0 q1).1 hs;obtain ⟨hps0,hps1⟩:=(h.con.pr p hp.1 hp.2).2;refine (h.can.s.stand q q0 q1).2 ⟨p,hp,a,(dh h.can.s hps0 hps1).2 fun y hy=>?_,?_⟩
 ·have:=(dh h.can0.s hps0 hps1).1 b y hy
  cases this
 ·have h1:=qo h hp.1 hp.2
  have h2:=ci m (fun x=>decide (p∈ap s.beats x)&&gb c.dead x);have h3:=h.can.s.left p hp.1 hp.2;have h4:=ci m (fun t=>decide (p∈ap s.beats t)&&!gb c.dead t);omega
theorem qT (h:Fin n m np s pq ps fact laid Pr c0 c) (q0:0≤q) (q1:q < n):0≤kL c0 c q:=by
 have h1:=iG (h.mo.clash q q0 q1).1;have h2:=iG (uD h q0 q1);have h3:=(h.mo.opn q q0 q1).1;unfold kL;omega
theorem qU (h:Fin n m np s pq ps fact laid Pr c0 c):0≤mI np pq c0 c q:=gv fun p p0 p1=>by
 split
 ·exact (vW h p0 p1).1
 ·omega
theorem sA (h:Fin n m np s pq ps fact laid Pr c0 c) (q0:0≤q) (q1:q < n) (hs:¬ Sup m s q):kL c0 c q + mI np pq c0 c q≤0:=by
 have hp:∀ (p:Int),0≤p→p < np→pq p≠q:=fun p p0 p1 e=>hs (by
  obtain ⟨r,hr,a,b⟩:=h.conp.psup p p0 p1;exact ⟨r,hr,a,by rw [← e];exact b⟩)
 have h1:mI np pq c0 c q=0:=zu fun p p0 p1=>if_neg (hp p p0 p1);have h2:b1 (gb c.clash q)≤b1 (gb c0.clash q):=iG (fun k=>((h.mo.clash q q0 q1).2 k).elim id (fun k=>absurd k hs));have h3:gi c.opn q=gi c0.opn q:=((h.mo.opn q q0 q1).2).elim id (fun k=>absurd k hs)
 have h4:gb c.standing q=false:=by
  refine Bool.eq_false_iff.2 fun k=>?_;obtain ⟨p,hp2,a,_⟩:=(h.can.s.stand q q0 q1).1 k;exact hp p hp2.1 hp2.2 a
 have h5:=gK (b:=gb c0.standing q);unfold kL;rw [h1,h4,cE];omega
theorem FZ (h:Fin n m np s pq ps fact laid Pr c0 c) (q0:0≤q) (q1:q < n):cN np (fun p=>pq p == q)≤vO m s q:=by
 have h1:=yr (np:=np) (m:=m) (f:=fun p=>pq p == q) (g:=fun x=>decide (hd s x∈foT s.t q)) (h:=ps) (fun p p0 p1 hp=>by
  rw [beq_iff_eq] at hp;refine ⟨(h.con.pr p p0 p1).2,decide_eq_true ?_⟩;rw [← hp];exact h.conp.pin p p0 p1) (fun p p' a0 a1 b0 b1 hp hp' e=>by
  rw [beq_iff_eq] at hp hp';exact h.conp.one p p' a0 a1 b0 b1 (by rw [hp,hp']) e)
 rw [yq (h:=hd s) (h.con.foes q q0 q1).1] at h1;exact h1
theorem gX:0≤kO m s q:=ci _ _
theorem CE (h:Fin n m np s pq ps fact laid Pr c0 c) (q0:0≤q) (q1:q < n):(b1 (gb c.clash q) - b1 (gb c0.clash q)) + (gi c0.opn q - gi c.opn q)≤vO m s q:=by
 have hfr:=(h.con.foes q q0 q1).2.2;have h1:=h.opn0 q q0 q1;have h2:=(h.can.s.opn1 q q0 q1).1;have h3:=vj (l:=foT s.t q) (f:=fun f=>Pr f 2) (g:=fun f=>laid f 2)
 have hlate:∀ f∈foT s.t q,0≤kO m s f∧((Pr f 2&&!laid f 2 || Pr f 1&&!laid f 1)=true→1≤kO m s f):=fun f hf=>by
  obtain ⟨f0,f1⟩:=hfr f hf;refine ⟨gX,fun k=>?_⟩;rw [Bool.or_eq_true,Bool.and_eq_true,Bool.and_eq_true,Bool.not_eq_true',Bool.not_eq_true'] at k
  have:∃ (r:Int),(0≤r∧r < m)∧hd s r=f:=by
   rcases k with k | k
   ·obtain ⟨r,hr,_,b,_⟩:=h.late2 f f0 f1 k.1 k.2
    exact ⟨r,hr,b⟩
   ·obtain ⟨r,hr,_,b,_⟩:=h.late1 f f0 f1 k.1 k.2
    exact ⟨r,hr,b⟩
  obtain ⟨r,hr,b⟩:=this;exact ue hr.1 hr.2 (beq_iff_eq.2 b)
 have h4:=mH (l:=foT s.t q) (g:=fun f=>Pr f 2&&!laid f 2 || Pr f 1&&!laid f 1) (w:=kO m s) hlate;have h5:=qS (l:=foT s.t q) (f:=fun f=>Pr f 2&&!laid f 2) (g:=fun f=>Pr f 2&&!laid f 2 || Pr f 1&&!laid f 1) (fun i _ hi=>by rw [hi];rfl);show _≤pw (foT s.t q) (kO m s);by_cases hc:gb c.clash q=true∧gb c0.clash q=false
 ·obtain ⟨f,hf,hfc⟩:=h.can.s.clash1 q q0 q1 hc.1
  have hl0:laid f 1=false:=by
   have:=hc.2;rw [h.clash0 q q0 q1,List.any_eq_false] at this;exact Bool.eq_false_iff.2 (this f hf)
  have hf1:Pr f 1=true:=by
   rw [hl0,Bool.or_false] at hfc;exact hfc
  have hf2:Pr f 2=false:=by
   cases h6:Pr f 2 with
   | false=>rfl
   | true=>exact absurd ⟨hf1,h6⟩ (h.coh1 f)
  have h6:=qR (l:=foT s.t q) (f:=fun f=>Pr f 2&&!laid f 2) (g:=fun f=>Pr f 2&&!laid f 2 || Pr f 1&&!laid f 1) (a:=f) (fun i _ hi=>by rw [hi];rfl) hf (by rw [hf2];rfl) (by rw [hf1,hl0];simp);have h7:=gK (b:=gb c.clash q);have h8:=gK (b:=gb c0.clash q);have e3:ap (aH s.t) q=foT s.t q:=rfl;rw [e3] at h2;omega
 ·have h7:=qi hc
  have e3:ap (aH s.t) q=foT s.t q:=rfl;rw [e3] at h2;omega
theorem v9 (h:Fin n m np s pq ps fact laid Pr c0 c) (q0:0≤q) (q1:q < n):(b1 (gb c.standing q) - b1 (gb c0.standing q)) + sm np (fun p=>if pq p=q then 2 * b1 (c.sett p) else 0)≤2 * cN np (fun p=>pq p == q):=by
 have e1:2 * cN np (fun p=>pq p == q)=sm np (fun p=>if pq p=q then 2 else 0):=by
  rw [AK]
  have:∀ k:Nat,2 * sm k (fun r=>b1 (pq r == q))=sm k (fun p=>if pq p=q then 2 else 0):=fun k=>by
   induction k with
   | zero=>rfl
   | succ k ih=>
    show 2 * (sm k _ + b1 (pq k == q))=sm k _ + (if pq k=q then 2 else 0);rw [Int.mul_add,ih];by_cases e:pq k=q
    ·rw [if_pos e,beq_iff_eq.2 e];rfl
    ·rw [if_neg e,beq_eq_false_iff_ne.2 e];rfl
  exact this np
 have hb0:=gK (b:=gb c0.standing q);rw [e1];cases hst:gb c.standing q with
 | false=>
  have:=lh (n:=np) (f:=fun p=>if pq p=q then 2 else 0) (g:=fun p=>if pq p=q then 2 * b1 (c.sett p) else 0) (fun p _ _=>by
   have:=gK (b:=c.sett p);split <;> omega)
  rw [cE];omega
 | true=>
  obtain ⟨p,hp,a,b,d⟩:=(h.can.s.stand q q0 q1).1 hst;obtain ⟨hps0,hps1⟩:=(h.con.pr p hp.1 hp.2).2
  have hn:c.sett p=false:=by
   refine Bool.eq_false_iff.2 fun k=>?_;rcases (h.can.s.sett p hp.1 hp.2).1 k with k | ⟨x,hx,k,k2⟩
   ·obtain ⟨y,hy,hy4⟩:=(jW h.can.s hps0 hps1).1 k
    exact h.coh3 y ⟨(dh h.can.s hps0 hps1).1 b y hy,hy4⟩
   ·rw [h.can.s.left p hp.1 hp.2] at d
    have:=cz.1 d x hx.1 hx.2;rw [decide_eq_true k,Bool.true_and,Bool.not_eq_false'] at this;obtain ⟨y,hy,hy4⟩:=(jW h.can.s hx.1 hx.2).1 this;exact h.coh3 y ⟨(dh h.can.s hx.1 hx.2).1 k2 y hy,hy4⟩
  have h1:=lh (n:=np) (f:=fun x=>(if pq x=q then 2 else 0) - (if p=x then 2 else 0)) (g:=fun p=>if pq p=q then 2 * b1 (c.sett p) else 0) (fun x _ _=>by
   have:=gK (b:=c.sett x);by_cases e:p=x
   ·subst e
    rw [if_pos a,if_pos a,if_pos rfl,hn,cE];omega
   ·rw [if_neg e]
    split <;> omega)
  rw [nF,im hp.1 hp.2] at h1;rw [hJ];omega
theorem AE (h:Fin n m np s pq ps fact laid Pr c0 c):mI np pq c0 c q≤sm np (fun p=>if pq p=q then 2 * b1 (c.sett p) else 0) + cN np (fun p=>pq p == q) * kO m s q:=by
 have h1:=lh (n:=np) (f:=fun p=>(if pq p=q then 2 * b1 (c.sett p) else 0) + (if pq p=q then kO m s q else 0)) (g:=fun p=>if pq p=q then vp c p - vp c0 p else 0) (fun p p0 p1=>by
  have:=(vW h p0 p1).2;by_cases e:pq p=q
  ·rw [if_pos e,if_pos e,if_pos e]
   rw [e] at this;exact this
  ·rw [if_neg e,if_neg e,if_neg e];omega)
 rw [gx] at h1
 have h2:∀ k:Nat,sm k (fun p=>if pq p=q then kO m s q else 0)=cN k (fun p=>pq p == q) * kO m s q:=fun k=>by
  induction k with
  | zero=>show (0:Int)=0 * _;omega
  | succ k ih=>
   show sm k _ + (if pq k=q then kO m s q else 0)=_;rw [ih,dM,Int.add_mul];by_cases e:pq k=q
   ·rw [if_pos e,if_pos (beq_iff_eq.2 e)];omega
   ·rw [if_neg e,if_neg (fun k=>e (beq_iff_eq.1 k))];omega
 rw [h2] at h1;exact h1
theorem yi (h:Fin n m np s pq ps fact laid Pr c0 c) (q0:0≤q) (q1:q < n):kL c0 c q + mI np pq c0 c q≤4 * (kO m s q * vO m s q):=by
 have hF:0≤vO m s q:=jd fun _ _=>gX;have hR:0≤kO m s q:=gX;have hRF:=Int.mul_nonneg hR hF;by_cases hs:Sup m s q
 ·obtain ⟨r,hr,_,hq⟩:=hs
  have hR1:1≤kO m s q:=ue hr.1 hr.2 (beq_iff_eq.2 hq);have h1:=FZ h q0 q1;have h2:=CE h q0 q1;have h3:=v9 h q0 q1;have h4:=AE (q:=q) h;have h5:cN np (fun p=>pq p == q) * kO m s q≤vO m s q * kO m s q:=Int.mul_le_mul_of_nonneg_right h1 hR;have h6:vO m s q * 1≤vO m s q * kO m s q:=Int.mul_le_mul_of_nonneg_left hR1 hF;rw [Int.mul_comm (kO m s q)];unfold kL;omega
 ·have:=sA h q0 q1 hs
  omega
end
end
section
section
variable {n m:Nat} {t:ThV} {facts:List Int} {f g:Int→Int}
theorem pO (c:Int):∀ {n:Nat},sm n (fun i=>c * f i)=c * sm n f
 | 0=>by show (0:Int)=c * 0;omega
 | n + 1=>by
  show sm n (fun i=>c * f i) + c * f n=c * (sm n f + f n);rw [pO c (n:=n),Int.mul_add]
theorem tg:∀ {a b:List Int},gn (a++b)=gn a + gn b
 | [],b=>by simp [gn]
 | x::a,b=>by
  rw [List.cons_append];show mW x + gn (a++b)=mW x + gn a + gn b;rw [tg (a:=a)];omega
theorem wH {l:List Int}:∀ {k:Nat},k≤l.length→((gn (l.take k):Nat):Int)=sm k (fun q=>((mW (l.getD q.toNat 0):Nat):Int))
 | 0,_=>by simp [gn,sm]
 | k + 1,h=>by
  have e1:=wH (l:=l) (k:=k) (by omega);rw [List.take_add_one,tg,List.getElem?_eq_getElem (by omega)];show ((gn (List.take k l) + gn [l[k]]:Nat):Int)=sm k _ + ((mW (l.getD k 0):Nat):Int);have e2:l.getD k 0=l[k]:=by rw [List.getD_eq_getElem?_getD,List.getElem?_eq_getElem (by omega)];rfl
  rw [e2,← e1];show ((gn (List.take k l) + (mW l[k] + 0):Nat):Int)=_;omega
theorem o9 (b:Bool):((cond b 1 0:Nat):Int)=b1 b:=by cases b <;> rfl
theorem v6 {np:Nat} {e:En} (h:aE n m np e):((e.told.length:Nat):Int)=sm n (pY e.has):=by
 rw [h.cnt];have:=wH (l:=e.marks) (k:=n) (by rw [h.marks];exact Nat.le_refl _);rw [List.take_of_length_le (by rw [h.marks];exact Nat.le_refl _)] at this;rw [this];refine cP fun q q0 q1=>?_;unfold pY mW;rw [Int.natCast_add,Int.natCast_add,Int.natCast_add,o9,o9,o9,o9]
 rfl
theorem l9 {e:En} {q k:Int}:PrI e.told.length e.told q k=true↔(q,k)∈e.told:=by
 rw [jc,List.take_length]
theorem EE (hk:THk n m t) {e:En} (h:AV n m t facts e) (hm:Mo n m (En.layS t n m facts) (En.layD t n m facts).core e.core):Fin n m (npL t n m facts) (En.layS t n m facts) (pqL t n m facts) (psL t n m facts) (gV facts) (jH t n m facts) (PrI e.told.length e.told) (En.layD t n m facts).core e.core:=by
 have hlf:∀ q k,PrI e.told.length e.told q k=true→Lf t n m (gV facts) q k:=fun q k hp=>h.sound _ (l9.1 hp)
 have hlaid:∀ (q k:Int),0≤q→q < n→1≤k→k≤4→(jH t n m facts q k=true↔(En.layD t n m facts).has q k=true):=fun q k q0 q1 k0 k1=>by
  rw [decide_eq_true_iff,h.lay.tm.has q k q0 q1 k0 k1]
 have hlaid2:∀ (q k:Int),0≤q→q < n→1≤k→k≤4→jH t n m facts q k=(En.layD t n m facts).has q k:=fun q k q0 q1 k0 k1=>Bool.eq_iff_iff.2 (hlaid q k q0 q1 k0 k1)
 have hhas:∀ (q k:Int),PrI e.told.length e.told q k=true→e.has q k=true:=fun q k hp=>by
  have hp:=l9.1 hp;obtain ⟨⟨q0,q1⟩,k0,k1⟩:=h.inv.kp.tm.rng _ hp;exact (h.inv.kp.tm.has q k q0 q1 k0 k1).2 hp
 refine ⟨h.lay.con,h.lay.conp,h.lay.can,h.inv.can,hm,fun q hq=>CU ⟨hlf q 1 hq.1,hlf q 2 hq.2⟩,fun q hq=>xw ⟨hlf q 3 hq.1,hlf q 4 hq.2⟩,fun q q0 q1 hq=>?_,h.lay.needD,fun q q0 q1 hq hl=>?_,fun q q0 q1 hq hl=>?_,fun q k q0 q1 k0 k1 hl=>?_,fun q q0 q1=>?_,fun q q0 q1=>?_,fun q q0 q1=>?_⟩
 ·refine l9.2 ((h.inv.kp.tm.has q 3 q0 q1 (by omega) (by omega)).1 ((h.all q 3 q0 q1 (by omega) (by omega)).2 ?_))
  exact bK.k3 q q0 q1 (.inl (hlf q 1 hq))
 ·rcases h.inv.ks.s1 q q0 q1 (hhas q 1 hq) with k | ⟨r,hr,a,b,d⟩
  ·have:=(hlaid q 1 q0 q1 (by omega) (by omega)).2 (h.lay.ks.c0 q q0 q1 k)
   rw [hl] at this;cases this
  ·refine ⟨r,hr,a,b,fun hz=>?_,d⟩
   have h1:=h.lay.ks.c1 r hr.1 hr.2 a (fun x hx=>by rw [hz] at hx;cases hx);rw [b] at h1;have:=(hlaid q 1 q0 q1 (by omega) (by omega)).2 h1;rw [hl] at this;cases this
 ·obtain ⟨a,b⟩:=h.inv.ks.s2 q q0 q1 (hhas q 2 hq)
  refine Classical.byContradiction fun hno=>?_
  have h1:=h.lay.ks.c2 q q0 q1 a (fun r r0 r1 hs hr=>by
   refine absurd ⟨r,⟨r0,r1⟩,hs,hr,?_⟩ hno;rw [h.inv.can.d.deadD r r0 r1,hs,Bool.true_and,List.any_eq_true];exact b r r0 r1 hs hr)
  have:=(hlaid q 2 q0 q1 (by omega) (by omega)).2 h1;rw [hl] at this;cases this
 ·refine l9.2 ?_
  obtain ⟨l,hl2⟩:=h.pre;rw [← hl2];exact List.mem_append_left _ (decide_eq_true_iff.1 hl)
 ·rw [hlaid2 q 3 q0 q1 (by omega) (by omega),hlaid2 q 4 q0 q1 (by omega) (by omega)]
  exact ⟨h.lay.h34 q 3 q0 q1 (by omega) (by omega),h.lay.h34 q 4 q0 q1 (by omega) (by omega)⟩
 ·show gi (En.layD t n m facts).opn q=_
  rw [h.lay.opn q q0 q1]
  congr 1
  refine c9 fun f hf=>?_;obtain ⟨f0,f1⟩:=(hk.tok.foe q0 q1).2 f hf;rw [hlaid2 f 2 f0 f1 (by omega) (by omega)]
 ·show gb (En.layD t n m facts).clash q=_
  rw [h.lay.clash q q0 q1];refine Bool.eq_iff_iff.2 ?_;rw [List.any_eq_true,List.any_eq_true];refine exists_congr fun f=>⟨fun ⟨hf,k⟩=>⟨hf,?_⟩,fun ⟨hf,k⟩=>⟨hf,?_⟩⟩
  ·obtain ⟨f0,f1⟩:=(hk.tok.foe q0 q1).2 f hf
   rw [hlaid2 f 1 f0 f1 (by omega) (by omega)];exact k
  ·obtain ⟨f0,f1⟩:=(hk.tok.foe q0 q1).2 f hf
   rw [← hlaid2 f 1 f0 f1 (by omega) (by omega)];exact k
end
section
variable {n m np:Nat} {s:Es} {pq ps:Int→Int} {fact:Int→Bool} {laid Pr:Int→Int→Bool} {c0 c:Cr} {q r p f:Int}
theorem rz (h:Fin n m np s pq ps fact laid Pr c0 c) (q0:0≤q) (q1:q < n):gi c0.strict q - gi c.strict q=sm m (fun r=>if hd s r=q then b1 (fC s r&&gb c.deadD r) else 0):=by
 have h0:∀ (r:Int),0≤r→r < m→gb c0.deadD r=false:=fun r r0 r1=>by rw [h.can0.d.deadD r r0 r1];simp
 have e1:sm m (fun r=>if hd s r=q then b1 (fC s r&&gb c.deadD r) else 0)=cN m (fun r=>fC s r&&(hd s r == q)&&gb c.deadD r):=by
  rw [AK];refine cP fun r r0 r1=>?_;by_cases e:hd s r=q
  ·rw [if_pos e,beq_iff_eq.2 e,Bool.and_true]
  ·rw [if_neg e,beq_eq_false_iff_ne.2 e];simp
 rw [e1];cases hf:fact q with
 | false=>
  rw [h.can0.d.strict q q0 q1 hf,h.can.d.strict q q0 q1 hf];have e2:cN m (fun r=>fC s r&&(hd s r == q)&&!gb c0.deadD r)=cN m (fun r=>fC s r&&(hd s r == q)):=bL fun i i0 i1=>by rw [h0 i i0 i1];simp
  have:=j4 (m:=m) (f:=fun r=>fC s r&&(hd s r == q)) (fun r=>gb c.deadD r);omega
 | true=>
  rw [h.can0.d.strictF q q0 q1 hf,h.can.d.strictF q q0 q1 hf];have e2:cN m (fun r=>fC s r&&(hd s r == q)&&gb c0.deadD r)=0:=cz.2 fun i i0 i1=>by rw [h0 i i0 i1];simp
  omega
theorem vw (h:Fin n m np s pq ps fact laid Pr c0 c) (q0:0≤q) (q1:q < n):gi c0.backs q - gi c.backs q=sm m (fun r=>if hd s r=q then b1 (cZ s.t r&&gb c.dead r) else 0):=by
 have h0:∀ (r:Int),0≤r→r < m→gb c0.dead r=false:=fun r r0 r1=>by rw [h.can0.s.dead r r0 r1];simp
 have e1:sm m (fun r=>if hd s r=q then b1 (cZ s.t r&&gb c.dead r) else 0)=cN m (fun r=>cZ s.t r&&(hd s r == q)&&gb c.dead r):=by
  rw [AK];refine cP fun r r0 r1=>?_;by_cases e:hd s r=q
  ·rw [if_pos e,beq_iff_eq.2 e,Bool.and_true]
  ·rw [if_neg e,beq_eq_false_iff_ne.2 e];simp
 rw [e1,h.can0.s.backs q q0 q1,h.can.s.backs q q0 q1];have e2:cN m (fun r=>cZ s.t r&&(hd s r == q)&&!gb c0.dead r)=cN m (fun r=>cZ s.t r&&(hd s r == q)):=bL fun i i0 i1=>by rw [h0 i i0 i1];simp
 have:=j4 (m:=m) (f:=fun r=>cZ s.t r&&(hd s r == q)) (fun r=>gb c.dead r);omega
def wg (m:Nat) (s:Es):Int:=sm m (fun r=>((bd s r).length:Nat))
def we (n m:Nat) (s:Es):Int:=sm n (fun q=>kO m s q * vO m s q)
theorem AC (h:Fin n m np s pq ps fact laid Pr c0 c):3 * sm n (pY Pr) - 2 * sm n (pY laid) + V n m np s c - V n m np s c0=sm n (qV laid Pr c0 c) + (sm n (kL c0 c) + sm n (mI np pq c0 c)) + sm m (nr s c0 c):=by
 have e1:sm np (vp c) - sm np (vp c0)=sm n (mI np pq c0 c):=by
  rw [← nF,← wa (n:=n) (h:=pq) (m:=np) (w:=fun p=>vp c p - vp c0 p) (fun p p0 p1=>(h.con.pr p p0 p1).1)]
  rfl
 have e2:sm n (fun q=>sm m (fun r=>if hd s r=q then b1 (fC s r&&gb c.deadD r) else 0))=sm m (fun r=>b1 (fC s r&&gb c.deadD r)):=wa (h:=hd s) (fun r r0 r1=>h.con.head r r0 r1);have e3:sm n (fun q=>sm m (fun r=>if hd s r=q then b1 (cZ s.t r&&gb c.dead r) else 0))=sm m (fun r=>b1 (cZ s.t r&&gb c.dead r)):=wa (h:=hd s) (fun r r0 r1=>h.con.head r r0 r1)
 have e4:3 * sm n (pY Pr) - 2 * sm n (pY laid) + (sm n (vq c) - sm n (vq c0))=sm n (qV laid Pr c0 c) + sm n (kL c0 c) + (sm n (fun q=>sm m (fun r=>if hd s r=q then b1 (fC s r&&gb c.deadD r) else 0)) + sm n (fun q=>sm m (fun r=>if hd s r=q then b1 (cZ s.t r&&gb c.dead r) else 0))):=by
  rw [← pO,← pO,← nF,← nF,← gx,← gx,← gx,← gx];refine cP fun q q0 q1=>?_;rw [← rz h q0 q1,← vw h q0 q1];unfold qV kL vq;omega
 have e5:sm m (vr s c) - sm m (vr s c0) + sm m (fun r=>b1 (fC s r&&gb c.deadD r)) + sm m (fun r=>b1 (cZ s.t r&&gb c.dead r))=sm m (nr s c0 c):=by
  rw [← nF,← gx,← gx]
  rfl
 unfold V;omega
theorem Db (h:Fin n m np s pq ps fact laid Pr c0 c):0≤3 * sm n (pY Pr) - 2 * sm n (pY laid) + V n m np s c - V n m np s c0∧3 * sm n (pY Pr) - 2 * sm n (pY laid) + V n m np s c - V n m np s c0≤4 * (n + wg m s + we n m s):=by
 rw [AC h];have a0:0≤sm n (qV laid Pr c0 c):=gv fun q q0 q1=>(ua h q0 q1).1;have b0:0≤sm n (kL c0 c):=gv fun q q0 q1=>qT h q0 q1;have d0:0≤sm n (mI np pq c0 c):=gv fun q q0 q1=>qU h;have r0:0≤sm m (nr s c0 c):=gv fun r r0 r1=>(t9 h r0 r1).1;have a1:sm n (qV laid Pr c0 c)≤sm n (fun q=>4 + SL m s c q):=lh fun q q0 q1=>(ua h q0 q1).2;have a2:sm n (SL m s c)=sm m (eY s c):=wa (h:=hd s) (fun r r0 r1=>h.con.head r r0 r1);rw [gx,ln,show sm n (fun q=>SL m s c q)=sm n (SL m s c) from rfl,a2] at a1;have r1:sm m (fun r=>nr s c0 c r + eY s c r)≤sm m (fun r=>4 * ((bd s r).length:Nat)):=lh fun r r0 r1=>(t9 h r0 r1).2;rw [gx,pO] at r1;have q1:sm n (fun q=>kL c0 c q + mI np pq c0 c q)≤sm n (fun q=>4 * (kO m s q * vO m s q)):=lh fun q q0 q1=>yi h q0 q1;rw [gx,pO] at q1;have e1:sm m (fun r=>nr s c0 c r)=sm m (nr s c0 c):=rfl;have e2:sm m (fun r=>eY s c r)=sm m (eY s c):=rfl;have e3:sm n (fun q=>kL c0 c q)=sm n (kL c0 c):=rfl;have e4:sm n (fun q=>mI np pq c0 c q)=sm n (mI np pq c0 c):=rfl;unfold wg we;refine ⟨by omega,?_⟩;rw [e1,e2] at r1;rw [e3,e4] at q1;omega
theorem uE (hc:Con n m np s pq ps):wg m s≤65536∧we n m s≤4398046511104:=by
 obtain ⟨hn,hm⟩:=hc.ok.small;have h1:wg m s≤sm m (fun _=>16):=lh fun r r0 r1=>by have:=(hc.body r r0 r1).2.1;omega
 rw [ln] at h1
 have hR:∀ q,kO m s q≤4096:=fun q=>by
  have:=nu m (fun r=>hd s r == q);unfold kO;omega
 have hL:∀ (l:List Int),pw l (kO m s)≤l.length * 4096:=fun l=>by
  induction l with
  | nil=>show (0:Int)≤_;simp
  | cons a l ih=>
   show kO m s a + pw l (kO m s)≤_;have:=hR a;rw [List.length_cons,Int.natCast_add,Int.add_mul];omega
 have h2:we n m s≤sm n (fun _=>1073741824):=lh fun q q0 q1=>by
  have h3:=(hc.foes q q0 q1).2.1;have h4:=hL (foT s.t q)
  have h5:vO m s q≤262144:=by
   have e3:ap (aH s.t) q=foT s.t q:=rfl;rw [e3] at h3;unfold vO;omega
  have h6:0≤vO m s q:=jd fun _ _=>gX;have h7:=Int.mul_le_mul_of_nonneg_right (hR q) h6;omega
 rw [ln] at h2;omega
end
section
variable {n m:Nat} {t:ThV} {facts:List Int}
theorem Ct (hk:THk n m t) (hfr:∀ q∈facts,0≤q∧q < n):0≤(En.runD t n m facts).up∧(En.runD t n m facts).up≤4 * (n + wg m (En.layS t n m facts) + we n m (En.layS t n m facts)):=by
 obtain ⟨h,hm⟩:=wo hk hfr;have hF:=EE hk h hm;have hc:=Db hF;have hs:=uE hF.con;have hn:=hF.con.ok.small.1
 have e1:sm n (pY (PrI (En.runD t n m facts).told.length (En.runD t n m facts).told))=(((En.runD t n m facts).told.length:Nat):Int):=by
  rw [v6 h.inv.ok];refine cP fun q q0 q1=>?_;have:∀ k,1≤k→k≤4→PrI (En.runD t n m facts).told.length (En.runD t n m facts).told q k=(En.runD t n m facts).has q k:=fun k k0 k1=>Bool.eq_iff_iff.2 (by rw [l9,h.inv.kp.tm.has q k q0 q1 k0 k1]);unfold pY;rw [this 1 (by omega) (by omega),this 2 (by omega) (by omega),this 3 (by omega) (by omega),this 4 (by omega) (by omega)]
 have e2:sm n (pY (jH t n m facts))=(((En.layD t n m facts).told.length:Nat):Int):=by
  rw [v6 h.lay.ok];refine cP fun q q0 q1=>?_;have:∀ k,1≤k→k≤4→jH t n m facts q k=(En.layD t n m facts).has q k:=fun k k0 k1=>Bool.eq_iff_iff.2 (by rw [decide_eq_true_iff,h.lay.tm.has q k q0 q1 k0 k1]);unfold pY;rw [this 1 (by omega) (by omega),this 2 (by omega) (by omega),this 3 (by omega) (by omega),this 4 (by omega) (by omega)]
 rw [e1,e2] at hc;obtain ⟨j,hj⟩:=h.up;obtain ⟨g1,g2⟩:=h.rg;generalize (En.runD t n m facts).up=u at *;generalize 3 * (((En.runD t n m facts).told.length:Nat):Int) - 2 * (((En.layD t n m facts).told.length:Nat):Int) + V n m (npL t n m facts) (En.layS t n m facts) (En.runD t n m facts).core - V n m (npL t n m facts) (En.layS t n m facts) (En.layD t n m facts).core=T at *;omega
end
end
section
abbrev chR (n:Nat) (k:Int):List i3:=(List.range n).map (fun (i:Nat)=>(k,(i:Int) + 1,[(i:Int)]))
abbrev chT (n:Nat) (k:Int):ThV:=((n:Int) + 1,List.replicate (n + 1) [],chR n k,List.replicate n [])
section
variable {n:Nat} {k q r:Int}
/-! ### it passes the checks -/
theorem oh {p:Int→Bool}:∀ {l:List Int} {i:Int},(∀ x∈l,p x=false)→qC p l i=-1
 | [],_,_=>rfl
 | x::l,i,h=>by
  unfold qC;rw [h x (List.mem_cons_self ..)];exact oh (fun y hy=>h y (List.mem_cons_of_mem _ hy))
theorem nH {w:Int}:∀ {l L:List Int},(∀ x∈l,0≤x∧x < L.length)→0≤w→w < L.length→aF (io l L) w=aF L w + ((l.count w:Nat):Int)
 | [],L,_,_,_=>by simp [io]
 | x::l,L,h,w0,w1=>by
  obtain ⟨x0,x1⟩:=h x (List.mem_cons_self ..);have hl:(gH L x).length=L.length:=by unfold gH;rw [List.length_set]
  unfold io;rw [nH (l:=l) (L:=gH L x) (fun y hy=>by rw [hl];exact h y (List.mem_cons_of_mem _ hy)) w0 (by rw [hl];exact w1)];have e:aF (gH L x) w=if x=w then aF L x + 1 else aF L w:=b7 x0 (by omega) w0
  rw [e,List.count_cons];by_cases hx:x=w
  ·subst hx;rw [if_pos rfl];simp;omega
  ·rw [if_neg hx];simp [hx]
end
end
section
abbrev chF (fact:Bool):List Int:=if fact=true then [0] else []
section
variable {n:Nat} {k q j r:Int} {fact:Bool}
abbrev chL (n:Nat) (k:Int) (fact:Bool):Int→Int→Prop:=Lf (chT n k) (n + 1) n (gV (chF fact))
def GE (x:Nat):Bool:=(x:Int) == (cond (En.bit x 1) 1 0) + (cond (En.bit x 2) 2 0) + (cond (En.bit x 3) 4 0) + (cond (En.bit x 4) 8 0)
set_option maxRecDepth 100000 in
theorem GZ:((List.range 16).all GE)=true:=by decide +kernel
theorem n8 {x:Int} (x0:0≤x) (x1:x < 16):x=(cond (En.bit x 1) 1 0) + (cond (En.bit x 2) 2 0) + (cond (En.bit x 3) 4 0) + (cond (En.bit x 4) 8 0):=by
 have h:=List.all_eq_true.1 GZ x.toNat (List.mem_range.2 (by omega));unfold GE at h;rw [show ((x.toNat:Nat):Int)=x by omega] at h;exact eq_of_beq h
end
end
section
section
variable {t:ThV} {fs:List Int} {m:List Int} {q:Int} {n:Nat}
theorem dB (hk:j6 t) (hn:t.1=n) (q0:0≤q) (q1:q < n):∀ {i:Nat},i≤(ao t).length→∀ r:Int,r∈ap (cv t n i) q↔(0≤r∧r < i)∧hdT t r=q
 | 0,_,r=>by
  have:ap (cv t n 0) q=[]:=kD;rw [this];exact ⟨fun h=>(by cases h),fun ⟨⟨h1,h2⟩,_⟩=>by omega⟩
 | i + 1,hi,r=>by
  have ih:=dB hk hn q0 q1 (i:=i) (by omega) r;obtain ⟨u0,u1⟩:=Ap hk (i:=i) (by omega);have hl:=(ol hk hn i (by omega)).len;show r∈ap (bV (cv t n i) (ai t i).2.1 i) q↔_;rw [lu hl u0 (by omega) q0];by_cases e:q=(ai t i).2.1
  ·rw [if_pos e,List.mem_append,List.mem_singleton,← e,ih]
   constructor
   ·rintro (⟨h1,h2⟩ | rfl)
    ·exact ⟨by omega,h2⟩
    ·exact ⟨by omega,e.symm⟩
   ·intro ⟨h1,h2⟩
    by_cases er:r=i
    ·exact .inr er
    ·exact .inl ⟨by omega,h2⟩
  ·rw [if_neg e,ih]
   constructor
   ·rintro ⟨h1,h2⟩;exact ⟨by omega,h2⟩
   ·intro ⟨h1,h2⟩
    by_cases er:r=i
    ·subst er;exact absurd h2.symm e
    ·exact ⟨by omega,h2⟩
abbrev Pm (n:Nat) (m:List Int) (q k:Int):Prop:=(0≤q∧q < n)∧(1≤k∧k≤4)∧En.bit (aF m q) k=true
theorem nR (hm:sS n m) {k:Int} (q0:0≤q) (q1:q < n) (k0:1≤k) (k1:k≤4):qM m q k=true↔Pm n m q k:=by
 rw [D9 (hm.at q0 q1) k0 k1];exact ⟨fun h=>⟨⟨q0,q1⟩,⟨k0,k1⟩,h⟩,fun h=>h.2.2⟩
theorem fX (hm:sS n m) {l:List Int} {k:Int} (hl:∀ b∈l,0≤b∧b < n) (k0:1≤k) (k1:k≤4):oC m l k=true↔∀ b∈l,Pm n m b k:=by
 unfold oC;rw [List.all_eq_true];exact ⟨fun h b hb=>(nR hm (hl b hb).1 (hl b hb).2 k0 k1).1 (h b hb),fun h b hb=>(nR hm (hl b hb).1 (hl b hb).2 k0 k1).2 (h b hb)⟩
theorem fW (hm:sS n m) {l:List Int} {k:Int} (hl:∀ b∈l,0≤b∧b < n) (k0:1≤k) (k1:k≤4):kR m l k=true↔∃ b∈l,Pm n m b k:=by
 unfold kR;rw [List.any_eq_true];exact ⟨fun ⟨b,hb,h⟩=>⟨b,hb,(nR hm (hl b hb).1 (hl b hb).2 k0 k1).1 h⟩,fun ⟨b,hb,h⟩=>⟨b,hb,(nR hm (hl b hb).1 (hl b hb).2 k0 k1).2 h⟩⟩
theorem ik {r:Int}:decide (¬ (ai t r).1=3)=cZ t r:=by
 unfold cZ;by_cases h:(ai t r).1=3
 ·rw [decide_eq_false (by simpa using h),h];rfl
 ·rw [decide_eq_true h,beq_eq_false_iff_ne.2 h];rfl
theorem jO:cq t q=foT t q:=by
 unfold cq foT ap;rw [List.getD_eq_getElem?_getD]
theorem kQ:aQ t q=btT t q:=by
 unfold aQ btT ap;rw [List.getD_eq_getElem?_getD]
variable (qk:QOk t (cv t n (ao t).length) m) (hm:sS n m) (hn:t.1=n)
include qk hm hn
theorem uQ (q0:0≤q) (q1:q < n):p6 t fs (cv t n (ao t).length) m q=true↔K1 t (ao t).length (gV fs) (Pm n m) q:=by
 have hb:∀ {r:Int},0≤r→r < (ao t).length→∀ b∈bdT t r,0≤b∧b < n:=fun r0 r1 b h=>by have:=qk.body r0 r1 b h;have:=hm.len;omega
 unfold p6 K1;rw [Bool.or_eq_true,List.any_eq_true];refine or_congr Iff.rfl ⟨fun ⟨r,h1,h2⟩=>?_,fun ⟨r,h1,h2,h3,h4⟩=>?_⟩
 ·obtain ⟨h3,h4⟩:=(dB qk.ok hn q0 q1 (Nat.le_refl _) r).1 h1
  rw [Bool.and_eq_true,fX hm (hb h3.1 h3.2) (by decide) (by decide)] at h2;exact ⟨r,h3,h2.1,h4,h2.2⟩
 ·refine ⟨r,(dB qk.ok hn q0 q1 (Nat.le_refl _) r).2 ⟨h1,h3⟩,?_⟩
  rw [Bool.and_eq_true,fX hm (hb h1.1 h1.2) (by decide) (by decide)];exact ⟨h2,h4⟩
theorem rX (q0:0≤q) (q1:q < n):mh t fs (cv t n (ao t).length) m q=true↔K2 t (ao t).length (gV fs) (Pm n m) q:=by
 have hb:∀ {r:Int},0≤r→r < (ao t).length→∀ b∈bdT t r,0≤b∧b < n:=fun r0 r1 b h=>by have:=qk.body r0 r1 b h;have:=hm.len;omega
 unfold mh K2;rw [Bool.and_eq_true,List.all_eq_true];refine and_congr (by rw [Bool.not_eq_true']) ⟨fun h r r0 r1 hs hh=>?_,fun h r h1=>?_⟩
 ·have h2:=h r ((dB qk.ok hn q0 q1 (Nat.le_refl _) r).2 ⟨⟨r0,r1⟩,hh⟩)
  rw [show decide ((ai t r).1=1)=true from hs,Bool.true_and,Bool.not_not,fW hm (hb r0 r1) (by decide) (by decide)] at h2;exact h2
 ·obtain ⟨h3,h4⟩:=(dB qk.ok hn q0 q1 (Nat.le_refl _) r).1 h1
  cases hs:decide ((ai t r).1=1) with
  | false=>rfl
  | true=>
   rw [Bool.true_and,Bool.not_not,fW hm (hb h3.1 h3.2) (by decide) (by decide)];exact h r h3.1 h3.2 hs h4
theorem vT {s:Int} (s0:0≤s) (s1:s < (ao t).length) (q0:0≤q) (q1:q < n):(kR m (ai t s).2.2 4 || eV t (cv t n (ao t).length) m q s)=true↔Won t (ao t).length (Pm n m) q s:=by
 have hb:∀ {r:Int},0≤r→r < (ao t).length→∀ b∈bdT t r,0≤b∧b < n:=fun r0 r1 b h=>by have:=qk.body r0 r1 b h;have:=hm.len;omega
 unfold eV Won;rw [Bool.or_eq_true,fW hm (hb s0 s1) (by decide) (by decide),List.any_eq_true];refine or_congr Iff.rfl ⟨fun ⟨r,h1,h2⟩=>?_,fun ⟨r,h1,h2,h3,h4,h5⟩=>?_⟩
 ·obtain ⟨h3,h4⟩:=(dB qk.ok hn q0 q1 (Nat.le_refl _) r).1 h1
  rw [Bool.and_eq_true,Bool.and_eq_true,ik,fX hm (hb h3.1 h3.2) (by decide) (by decide),decide_eq_true_iff,kQ] at h2;exact ⟨r,h3,h2.1.1,h4,h2.2,h2.1.2⟩
 ·refine ⟨r,(dB qk.ok hn q0 q1 (Nat.le_refl _) r).2 ⟨h1,h3⟩,?_⟩
  rw [Bool.and_eq_true,Bool.and_eq_true,ik,fX hm (hb h1.1 h1.2) (by decide) (by decide),decide_eq_true_iff,kQ];exact ⟨⟨h2,h5⟩,h4⟩
theorem pM {s:Int} (s0:0≤s) (s1:s < (ao t).length) (q0:0≤q) (q1:q < n):eT t (cv t n (ao t).length) m q s=true↔vz t (ao t).length (Pm n m) q s:=by
 have hb:∀ {r:Int},0≤r→r < (ao t).length→∀ b∈bdT t r,0≤b∧b < n:=fun r0 r1 b h=>by have:=qk.body r0 r1 b h;have:=hm.len;omega
 unfold eT vz;rw [Bool.and_eq_true,fX hm (hb s0 s1) (by decide) (by decide),List.all_eq_true];refine and_congr Iff.rfl ⟨fun h r r0 r1 hs hh hx=>?_,fun h r h1=>?_⟩
 ·have h2:=h r ((dB qk.ok hn q0 q1 (Nat.le_refl _) r).2 ⟨⟨r0,r1⟩,hh⟩)
  rw [ik,hs,kQ,decide_eq_true hx,Bool.true_and,Bool.and_true,Bool.not_not,fW hm (hb r0 r1) (by decide) (by decide)] at h2;exact h2
 ·obtain ⟨h3,h4⟩:=(dB qk.ok hn q0 q1 (Nat.le_refl _) r).1 h1
  rw [ik,kQ];cases hs:cZ t r with
  | false=>rfl
  | true=>
   by_cases hx:s∈btT t r
   ·rw [Bool.true_and,decide_eq_true hx,Bool.and_true,Bool.not_not,fW hm (hb h3.1 h3.2) (by decide) (by decide)]
    exact h r h3.1 h3.2 hs h4 hx
   ·rw [decide_eq_false hx,Bool.and_false];rfl
theorem uP (q0:0≤q) (q1:q < n):pZ t (cv t n (ao t).length) m q=true↔K3 t (ao t).length (Pm n m) q:=by
 have hb:∀ {r:Int},0≤r→r < (ao t).length→∀ b∈bdT t r,0≤b∧b < n:=fun r0 r1 b h=>by have:=qk.body r0 r1 b h;have:=hm.len;omega
 have hf:∀ g∈cq t q,0≤g∧g < n:=fun g h=>by have:=qk.foe g h;omega
 unfold pZ K3;rw [Bool.or_eq_true,Bool.and_eq_true,Bool.and_eq_true,nR hm q0 q1 (by decide) (by decide),fX hm hf (by decide) (by decide),List.any_eq_true,List.all_eq_true,jO];rw [jO] at hf;refine or_congr Iff.rfl (and_congr ⟨fun ⟨r,h1,h2⟩=>?_,fun ⟨r,h1,h2,h3,h4⟩=>?_⟩ (and_congr Iff.rfl ⟨fun h s s0 s1 hs=>?_,fun h g hg=>?_⟩))
 ·obtain ⟨h3,h4⟩:=(dB qk.ok hn q0 q1 (Nat.le_refl _) r).1 h1
  rw [Bool.and_eq_true,ik,fX hm (hb h3.1 h3.2) (by decide) (by decide)] at h2;exact ⟨r,h3,h2.1,h4,h2.2⟩
 ·refine ⟨r,(dB qk.ok hn q0 q1 (Nat.le_refl _) r).2 ⟨h1,h3⟩,?_⟩
  rw [Bool.and_eq_true,ik,fX hm (hb h1.1 h1.2) (by decide) (by decide)];exact ⟨h2,h4⟩
 ·have h2:=List.all_eq_true.1 (h _ hs) s ((dB qk.ok hn (hf _ hs).1 (hf _ hs).2 (Nat.le_refl _) s).2 ⟨⟨s0,s1⟩,rfl⟩)
  exact (vT qk hm hn s0 s1 q0 q1).1 h2
 ·rw [List.all_eq_true]
  intro s hs;obtain ⟨h3,h4⟩:=(dB qk.ok hn (hf _ hg).1 (hf _ hg).2 (Nat.le_refl _) s).1 hs;exact (vT qk hm hn h3.1 h3.2 q0 q1).2 (h s h3.1 h3.2 (by rw [h4];exact hg))
theorem rW (q0:0≤q) (q1:q < n):mg t (cv t n (ao t).length) m q=true↔K4 t (ao t).length (Pm n m) q:=by
 have hb:∀ {r:Int},0≤r→r < (ao t).length→∀ b∈bdT t r,0≤b∧b < n:=fun r0 r1 b h=>by have:=qk.body r0 r1 b h;have:=hm.len;omega
 have hf:∀ g∈cq t q,0≤g∧g < n:=fun g h=>by have:=qk.foe g h;omega
 unfold mg K4;rw [Bool.and_eq_true,Bool.or_eq_true,Bool.or_eq_true,nR hm q0 q1 (by decide) (by decide),fW hm hf (by decide) (by decide),List.any_eq_true,List.all_eq_true,jO];rw [jO] at hf;refine and_congr Iff.rfl (or_congr ⟨fun h r r0 r1 hs hh=>?_,fun h r h1=>?_⟩ (or_congr Iff.rfl ⟨fun ⟨g,hg,h⟩=>?_,fun ⟨s,h1,hs,h⟩=>?_⟩))
 ·have h2:=h r ((dB qk.ok hn q0 q1 (Nat.le_refl _) r).2 ⟨⟨r0,r1⟩,hh⟩)
  rw [ik,hs,Bool.not_true,Bool.false_or,fW hm (hb r0 r1) (by decide) (by decide)] at h2;exact h2
 ·obtain ⟨h3,h4⟩:=(dB qk.ok hn q0 q1 (Nat.le_refl _) r).1 h1
  rw [ik];cases hs:cZ t r with
  | false=>rfl
  | true=>
   rw [Bool.not_true,Bool.false_or,fW hm (hb h3.1 h3.2) (by decide) (by decide)];exact h r h3.1 h3.2 hs h4
 ·obtain ⟨s,hs,h2⟩:=List.any_eq_true.1 h
  obtain ⟨h3,h4⟩:=(dB qk.ok hn (hf _ hg).1 (hf _ hg).2 (Nat.le_refl _) s).1 hs;exact ⟨s,h3,by rw [h4];exact hg,(pM qk hm hn h3.1 h3.2 q0 q1).1 h2⟩
 ·refine ⟨_,hs,List.any_eq_true.2 ⟨s,(dB qk.ok hn (hf _ hs).1 (hf _ hs).2 (Nat.le_refl _) s).2 ⟨h1,rfl⟩,(pM qk hm hn h1.1 h1.2 q0 q1).2 h⟩⟩
theorem va {k:Int} (k0:1≤k) (k1:k≤4) (q0:0≤q) (q1:q < n):jJ t fs (cv t n (ao t).length) m k q=true↔Ks4 t (ao t).length (gV fs) (Pm n m) q k:=by
 unfold jJ Ks4;have hk:k=1∨k=2∨k=3∨k=4:=by omega
 rcases hk with rfl | rfl | rfl | rfl
 ·rw [if_pos rfl,uQ qk hm hn q0 q1];simp
 ·rw [if_neg (by decide),if_pos rfl,rX qk hm hn q0 q1];simp
 ·rw [if_neg (by decide),if_neg (by decide),if_pos rfl,uP qk hm hn q0 q1];simp
 ·rw [if_neg (by decide),if_neg (by decide),if_neg (by decide),rW qk hm hn q0 q1];simp
theorem pT {k:Int} (k0:1≤k) (k1:k≤4) (q0:0≤q) (q1:q < n):Pm n (eF t fs (cv t n (ao t).length) m) q k↔Pm n m q k∨Ks4 t (ao t).length (gV fs) (Pm n m) q k:=by
 rw [← va qk hm hn k0 k1 q0 q1];unfold Pm;rw [zB hm.len q0 q1,Bg (hm.at q0 q1) k0 k1 (Nat.le_refl 4),decide_eq_true (show k≤((4:Nat):Int) from k1),Bool.true_and,Bool.or_eq_true];constructor
 ·rintro ⟨h1,h2,h3 | h3⟩
  ·exact .inl ⟨h1,h2,h3⟩
  ·exact .inr h3
 ·rintro (⟨h1,h2,h3⟩ | h3)
  ·exact ⟨h1,h2,.inl h3⟩
  ·exact ⟨⟨q0,q1⟩,⟨k0,k1⟩,.inr h3⟩
end
section
variable {t:ThV} {fs:List Int} {m:List Int} {n:Nat}
theorem Af {P P':Int→Int→Prop} {q k:Int} {M:Nat} {fact:Int→Bool} (hP:∀ q k,P q k→P' q k) (h:Ks4 t M fact P q k):Ks4 t M fact P' q k:=by
 rcases h with ⟨e,h⟩ | ⟨e,h⟩ | ⟨e,h⟩ | ⟨e,h⟩
 ·exact .inl ⟨e,h.mono hP⟩
 ·exact .inr (.inl ⟨e,h.mono hP⟩)
 ·exact .inr (.inr (.inl ⟨e,h.mono hP⟩))
 ·exact .inr (.inr (.inr ⟨e,h.mono hP⟩))
theorem Ez {q k:Int} {M:Nat} {fact:Int→Bool} (q0:0≤q) (q1:q < n) (h:Ks4 t M fact (Lf t n M fact) q k):Lf t n M fact q k:=by
 rcases h with ⟨rfl,h⟩ | ⟨rfl,h⟩ | ⟨rfl,h⟩ | ⟨rfl,h⟩
 ·exact bK.k1 q q0 q1 h
 ·exact bK.k2 q q0 q1 h
 ·exact bK.k3 q q0 q1 h
 ·exact bK.k4 q q0 q1 h
theorem G5 {k:Int} (k0:1≤k) (k1:k≤4):En.bit 0 k=false:=by
 have hk:k=1∨k=2∨k=3∨k=4:=by omega
 rcases hk with rfl | rfl | rfl | rfl <;> decide
theorem r9 (hk:j6 t) (hn:t.1=n) (hb:(aN t).length=(ao t).length):∀ {j:Nat} (q k:Int),Pm n (o0 t fs (cv t n (ao t).length) n j) q k→Lf t n (ao t).length (gV fs) q k
 | 0,q,k,⟨⟨q0,q1⟩,⟨k0,k1⟩,h⟩=>by
  have e:aF (o0 t fs (cv t n (ao t).length) n 0) q=0:=by
   unfold aF o0;rw [List.getElem?_replicate,if_pos (by omega)];rfl
  rw [e,G5 k0 k1] at h;cases h
 | j + 1,q,k,hp=>by
  have hp2:=hp;obtain ⟨⟨q0,q1⟩,⟨k0,k1⟩,_⟩:=hp2;have ok:sS n (o0 t fs (cv t n (ao t).length) n j):=mr;rcases (pT (fs:=fs) (Cx hk hn hb ok.len) ok hn k0 k1 q0 q1).1 hp with h | h
  ·exact r9 hk hn hb (j:=j) q k h
  ·exact Ez q0 q1 (Af (r9 hk hn hb (j:=j)) h)
theorem ED (hk:j6 t) (hn:t.1=n) (hb:(aN t).length=(ao t).length) (p:EX t fs n) {q k:Int} (q0:0≤q) (q1:q < n) (k0:1≤k) (k1:k≤4):En.bit (aF p.1.2.2 q) k=true↔Lf t n (ao t).length (gV fs) q k:=by
 obtain ⟨⟨b,c,m⟩,hfix,j,hj⟩:=p;dsimp only at hfix hj ⊢;have ok:sS n m:=by rw [hj];exact mr
 have qk:=Cx (m:=m) hk hn hb ok.len;refine ⟨fun h=>?_,fun h=>?_⟩
 ·have h2:Pm n m q k:=⟨⟨q0,q1⟩,⟨k0,k1⟩,h⟩
  rw [hj] at h2;exact r9 hk hn hb q k h2
 ·have hc:DW t (ao t).length (gV fs) (Pm n m) n:=by
   have go:∀ (q:Int),0≤q→q < n→∀ k:Int,1≤k→k≤4→Ks4 t (ao t).length (gV fs) (Pm n m) q k→Pm n m q k:=fun q q0 q1 k k0 k1 h=>by
    have:=(pT (fs:=fs) qk ok hn k0 k1 q0 q1).2 (.inr h);rw [hfix] at this;exact this
   exact ⟨fun q q0 q1 h=>go q q0 q1 1 (by decide) (by decide) (.inl ⟨rfl,h⟩),fun q q0 q1 h=>go q q0 q1 2 (by decide) (by decide) (.inr (.inl ⟨rfl,h⟩)),fun q q0 q1 h=>go q q0 q1 3 (by decide) (by decide) (.inr (.inr (.inl ⟨rfl,h⟩))),fun q q0 q1 h=>go q q0 q1 4 (by decide) (by decide) (.inr (.inr (.inr ⟨rfl,h⟩)))⟩
  exact (rY hc q k h).2.2
theorem Bi (p:EX t fs n):sS n p.1.2.2:=by
 obtain ⟨⟨b,c,m⟩,hfix,j,hj⟩:=p;dsimp only at hj ⊢;rw [hj];exact mr
theorem uW (hk:j6 t) (hn:t.1=n) (hb:(aN t).length=(ao t).length) (p:EX t fs n) {e:En} (h:AV n (ao t).length t fs e):e.marks=p.1.2.2:=by
 have ok:=Bi p;have hl:e.marks.length=n:=h.inv.ok.marks;refine List.ext_getElem? fun i=>?_;by_cases hi:i < n
 ·have a0:(0:Int)≤i:=by omega
  have a1:(i:Int) < n:=by omega
  have e1:=cM (l:=p.1.2.2) (q:=(i:Int)) ok.len a0 a1;have e2:=cM (l:=e.marks) (q:=(i:Int)) hl a0 a1;rw [show ((i:Int)).toNat=i by omega] at e1 e2;rw [e1,e2];have m1:=ok.at a0 a1;have m2:=h.inv.ok.mks _ (xP hl a0 a1)
  have hbit:∀ k:Int,1≤k→k≤4→En.bit (aF e.marks i) k=En.bit (aF p.1.2.2 i) k:=fun k k0 k1=>by
   rw [Bool.eq_iff_iff,ED hk hn hb p a0 a1 k0 k1,← h.all i k a0 a1 k0 k1];unfold En.has aF;rw [List.getD_eq_getElem?_getD]
  rw [n8 m1.1 m1.2,n8 m2.1 m2.2,hbit 1 (by decide) (by decide),hbit 2 (by decide) (by decide),hbit 3 (by decide) (by decide),hbit 4 (by decide) (by decide)]
 ·rw [List.getElem?_eq_none (by omega),List.getElem?_eq_none (by have:=ok.len;omega)]
end
end
section
structure KI (n:Nat) (nx:Int→List Int) (A:Int→Prop) (k:KN):Prop where
 nd:k.st.Nodup
 on:∀ w:Int,0≤w→w < n→(eO k.on w=true↔w∈k.st)
 met:∀ w∈k.st,aF k.ix w≠0
 up:∀ w:Int,0≤w→w < n→aF k.ix w≠0→aF k.lo w≤aF k.ix w
 pos:∀ w:Int,0≤w→w < n→0≤aF k.ix w∧aF k.ix w≤k.ct
 ofk:∀ w:Int,0≤w→w < n→aF k.ix w≠0→w∉k.st→aF k.of w < k.kn
 e1:∀ u:Int,0≤u→u < n→aF k.ix u≠0→u∉k.st→∀ x∈nx u,aF k.ix x≠0∧x∉k.st∧aF k.of x≤aF k.of u
 e2:∀ u∈k.st,¬ A u→∀ x∈nx u,aF k.ix x≠0∧(x∉k.st∨aF k.lo u≤aF k.ix x)
structure KS (n:Nat) (X:Int→Prop) (k k2:KN):Prop where
 ix:∀ w:Int,0≤w→w < n→aF k.ix w≠0→aF k2.ix w=aF k.ix w
 lo:∀ w:Int,0≤w→w < n→aF k.ix w≠0→¬ X w→aF k2.lo w=aF k.lo w
 of:∀ w:Int,0≤w→w < n→aF k.ix w≠0→w∉k.st→aF k2.of w=aF k.of w
 st:∀ w:Int,0≤w→w < n→aF k.ix w≠0→w∈k2.st→w∈k.st
section
variable {n d:Nat} {nx:Int→List Int} {A X:Int→Prop} {k k2 k3:KN} {v a:Int}
theorem KS.refl:KS n X k k:=⟨fun _ _ _ _=>rfl,fun _ _ _ _ _=>rfl,fun _ _ _ _ _=>rfl,fun _ _ _ _ h=>h⟩
theorem KS.trans (h:KS n X k k2) (h2:KS n X k2 k3):KS n X k k3:=by
 have m:∀ w:Int,0≤w→w < n→aF k.ix w≠0→aF k2.ix w≠0:=fun w w0 w1 hw=>by rw [h.ix w w0 w1 hw];exact hw
 exact ⟨fun w w0 w1 hw=>by rw [h2.ix w w0 w1 (m w w0 w1 hw),h.ix w w0 w1 hw],fun w w0 w1 hw hx=>by rw [h2.lo w w0 w1 (m w w0 w1 hw) hx,h.lo w w0 w1 hw hx],
  fun w w0 w1 hw hs=>by rw [h2.of w w0 w1 (m w w0 w1 hw) (fun e=>hs (h.st w w0 w1 hw e)),h.of w w0 w1 hw hs],fun w w0 w1 hw hs=>h.st w w0 w1 hw (h2.st w w0 w1 (m w w0 w1 hw) hs)⟩
theorem KS.wide (h:KS n (fun _=>False) k k2):KS n X k k2:=⟨h.ix,fun w w0 w1 hw _=>h.lo w w0 w1 hw (fun h=>h),h.of,h.st⟩
theorem tF (hk:KOk n d k) (v0:0≤v) (v1:v < n):KS n (fun u=>u=v) k (k.lower v a):=by
 have el:∀ w:Int,0≤w→aF (k.lower v a).lo w=if v=w then nj (aF k.lo v) a else aF k.lo w:=fun w hw=>b7 v0 (by rw [hk.lo];omega) hw
 exact ⟨fun _ _ _ _=>rfl,fun w w0 w1 hw hx=>by rw [el w w0,if_neg (fun e=>hx e.symm)],fun _ _ _ _ _=>rfl,fun _ _ _ _ h=>h⟩
theorem CR (hk:KOk n d k) (v0:0≤v) (v1:v < n) (hz:aF k.ix v=0):KS n X k (k.meet v):=by
 have ne:∀ w:Int,aF k.ix w≠0→¬ v=w:=fun w hw e=>hw (by rw [← e];exact hz);refine ⟨fun w w0 w1 hw=>?_,fun w w0 w1 hw _=>?_,fun _ _ _ _ _=>rfl,fun w w0 w1 hw hs=>?_⟩
 ·rw [show aF (k.meet v).ix w=if v=w then k.ct + 1 else aF k.ix w from b7 v0 (by rw [hk.ix];omega) w0,if_neg (ne w hw)]
 ·rw [show aF (k.meet v).lo w=if v=w then k.ct + 1 else aF k.lo w from b7 v0 (by rw [hk.lo];omega) w0,if_neg (ne w hw)]
 ·rcases List.mem_append.1 hs with h | h
  ·exact h
  ·exact absurd (List.mem_singleton.1 h).symm (ne w hw)
theorem KI.meet (h:KI n nx A k) (hk:KOk n d k) (hnx:∀ v:Int,0≤v→v < n→∀ w∈nx v,0≤w∧w < n) (v0:0≤v) (v1:v < n) (hz:aF k.ix v=0):KI n nx (fun u=>A u∨u=v) (k.meet v):=by
 have h0:=hk.ct0;have ex:∀ w:Int,0≤w→aF (k.meet v).ix w=if v=w then k.ct + 1 else aF k.ix w:=fun w hw=>b7 v0 (by rw [hk.ix];omega) hw
 have el:∀ w:Int,0≤w→aF (k.meet v).lo w=if v=w then k.ct + 1 else aF k.lo w:=fun w hw=>b7 v0 (by rw [hk.lo];omega) hw
 have eo:∀ w:Int,0≤w→eO (k.meet v).on w=if v=w then true else eO k.on w:=fun w hw=>jA v0 (by rw [hk.on];omega) hw
 have es:(k.meet v).st=k.st++[v]:=rfl;have ne:∀ w:Int,aF k.ix w≠0→¬ v=w:=fun w hw e=>hw (by rw [← e];exact hz);have hvs:v∉k.st:=fun hv=>h.met v hv hz;have hin:∀ w:Int,w∈(k.meet v).st↔w∈k.st∨w=v:=fun w=>by rw [es,List.mem_append,List.mem_singleton]
 refine ⟨?_,fun w w0 w1=>?_,fun w hw=>?_,fun w w0 w1 hw=>?_,fun w w0 w1=>?_,fun w w0 w1 hw hs=>?_,fun u u0 u1 hu hs x hx=>?_,fun u hu hA x hx=>?_⟩
 ·rw [es]
  exact List.nodup_append.2 ⟨h.nd,by simp,fun a ha b hb e=>hvs (by rw [← List.mem_singleton.1 hb,← e];exact ha)⟩
 ·rw [eo w w0,hin]
  by_cases e:v=w
  ·rw [if_pos e];simp [e]
  ·rw [if_neg e,h.on w w0 w1]
   exact ⟨.inl,fun h=>h.elim id (fun k=>absurd k.symm e)⟩
 ·rcases (hin w).1 hw with h2 | rfl
  ·have:=hk.st w h2
   rw [ex w this.1,if_neg (ne w (h.met w h2))];exact h.met w h2
  ·rw [ex w v0,if_pos rfl];omega
 ·rw [el w w0,ex w w0]
  rw [ex w w0] at hw;split
  ·omega
  ·rename_i e;rw [if_neg e] at hw;exact h.up w w0 w1 hw
 ·rw [ex w w0]
  have:=h.pos w w0 w1;show 0≤_∧_≤k.ct + 1;split <;> omega
 ·have e:¬ v=w:=fun e=>hs ((hin w).2 (.inr e.symm))
  rw [ex w w0,if_neg e] at hw;exact h.ofk w w0 w1 hw (fun k=>hs ((hin w).2 (.inl k)))
 ·have e:¬ v=u:=fun e=>hs ((hin u).2 (.inr e.symm))
  rw [ex u u0,if_neg e] at hu;obtain ⟨a1,a2,a3⟩:=h.e1 u u0 u1 hu (fun k=>hs ((hin u).2 (.inl k))) x hx;have hx0:=hnx u u0 u1 x hx;exact ⟨by rw [ex x hx0.1,if_neg (ne x a1)];exact a1,fun k=>((hin x).1 k).elim a2 (fun e=>ne x a1 e.symm),a3⟩
 ·have hus:u∈k.st:=((hin u).1 hu).elim id (fun e=>absurd (.inr e) hA)
  obtain ⟨u0,u1⟩:=hk.st u hus;obtain ⟨a1,a2⟩:=h.e2 u hus (fun k=>hA (.inl k)) x hx;have hx0:=hnx u u0 u1 x hx;rw [ex x hx0.1,if_neg (ne x a1),el u u0,if_neg (ne u (h.met u hus))];exact ⟨a1,a2.imp (fun k2 k3=>((hin x).1 k3).elim k2 (fun e=>ne x a1 e.symm)) id⟩
theorem KI.lower (h:KI n nx A k) (hk:KOk n d k) (v0:0≤v) (v1:v < n) (hv:A v):KI n nx A (k.lower v a):=by
 have el:∀ w:Int,0≤w→aF (k.lower v a).lo w=if v=w then nj (aF k.lo v) a else aF k.lo w:=fun w hw=>b7 v0 (by rw [hk.lo];omega) hw
 refine ⟨h.nd,h.on,h.met,fun w w0 w1 hw=>?_,h.pos,h.ofk,h.e1,fun u hu hA x hx=>?_⟩
 ·rw [el w w0]
  have:=h.up w w0 w1 hw;show _≤aF k.ix w;split
  ·rename_i e
   subst e;unfold nj;split <;> omega
  ·exact this
 ·obtain ⟨u0,u1⟩:=hk.st u hu
  rw [el u u0,if_neg (fun e=>hA (by rw [← e];exact hv))];exact h.e2 u hu hA x hx
theorem ma (P:List Int):∀ (f:Nat) (k:KN) (E:List Int),KOk n d k→k.st=P++[v]++E→k.st.Nodup→E.length < f→(popGo v f k).st=P∧(∀ w:Int,0≤w→w < n→aF (popGo v f k).of w=if w∈v::E then k.kn else aF k.of w)∧(∀ w:Int,0≤w→w < n→eO (popGo v f k).on w=if w∈v::E then false else eO k.on w)
 | 0,k,E,_,_,_,hf=>absurd hf (Nat.not_lt_zero _)
 | f + 1,k,E,hk,he,hnd,hf=>by
  unfold popGo;rcases List.eq_nil_or_concat E with rfl | ⟨E',x,rfl⟩
  ·rw [List.append_nil] at he
   have hl:k.st.getLastD (-1)=v:=by rw [he];simp
   obtain ⟨v0,v1⟩:=hk.st v (by rw [he];simp);rw [if_pos hl];refine ⟨by show k.st.dropLast=_;rw [he];simp,fun w w0 w1=>?_,fun w w0 w1=>?_⟩
   ·show aF (k.of.set (k.st.getLastD (-1)).toNat k.kn) w=_
    rw [hl,b7 v0 (by rw [hk.of];omega) w0];by_cases e:v=w
    ·rw [if_pos e,if_pos (by simp [e])]
    ·rw [if_neg e,if_neg (by simp;exact fun k=>e k.symm)]
   ·show eO (k.on.set (k.st.getLastD (-1)).toNat false) w=_
    rw [hl,jA v0 (by rw [hk.on];omega) w0];by_cases e:v=w
    ·rw [if_pos e,if_pos (by simp [e])]
    ·rw [if_neg e,if_neg (by simp;exact fun k=>e k.symm)]
  ·rw [List.concat_eq_append] at he hf ⊢
   rw [List.length_append,List.length_singleton] at hf;rw [← List.append_assoc] at he;have hl:k.st.getLastD (-1)=x:=by rw [he,List.getLastD_concat]
   have hd:k.pop.st=P++[v]++E':=by show k.st.dropLast=_;rw [he,List.dropLast_concat]
   obtain ⟨x0,x1⟩:=hk.st x (by rw [he];simp);have hnd2:=hnd;rw [he] at hnd2;obtain ⟨nd1,_,nd3⟩:=List.nodup_append.1 hnd2;have hxv:¬ x=v:=fun e=>nd3 v (by simp) x (by simp) e.symm;rw [if_neg (by rw [hl];exact hxv)];obtain ⟨a1,a2,a3⟩:=ma P f k.pop E' hk.pop hd (by rw [hd];exact nd1) (by omega);refine ⟨a1,fun w w0 w1=>?_,fun w w0 w1=>?_⟩
   ·rw [a2 w w0 w1,show aF k.pop.of w=if x=w then k.kn else aF k.of w by
     show aF (k.of.set (k.st.getLastD (-1)).toNat k.kn) w=_;rw [hl];exact b7 x0 (by rw [hk.of];omega) w0]
    show (if w∈v::E' then k.kn else _)=_;by_cases h1:w∈v::E'
    ·rw [if_pos h1,if_pos (by rcases List.mem_cons.1 h1 with e | e <;> simp [e])]
    ·rw [if_neg h1]
     by_cases e:x=w
     ·rw [if_pos e,if_pos (by simp [e])]
     ·rw [if_neg e,if_neg (by
       intro k;rcases List.mem_cons.1 k with e2 | e2
       ·exact h1 (by simp [e2])
       ·rcases List.mem_append.1 e2 with e3 | e3
        ·exact h1 (List.mem_cons_of_mem _ e3)
        ·exact e (List.mem_singleton.1 e3).symm)]
   ·rw [a3 w w0 w1,show eO k.pop.on w=if x=w then false else eO k.on w by
     show eO (k.on.set (k.st.getLastD (-1)).toNat false) w=_;rw [hl];exact jA x0 (by rw [hk.on];omega) w0]
    by_cases h1:w∈v::E'
    ·rw [if_pos h1,if_pos (by rcases List.mem_cons.1 h1 with e | e <;> simp [e])]
    ·rw [if_neg h1]
     by_cases e:x=w
     ·rw [if_pos e,if_pos (by simp [e])]
     ·rw [if_neg e,if_neg (by
       intro k;rcases List.mem_cons.1 k with e2 | e2
       ·exact h1 (by simp [e2])
       ·rcases List.mem_append.1 e2 with e3 | e3
        ·exact h1 (List.mem_cons_of_mem _ e3)
        ·exact e (List.mem_singleton.1 e3).symm)]
structure KJ (n:Nat) (nx:Int→List Int) (A:Int→Prop) (v:Int) (km k:KN) (P l0:List Int):Prop where
 ki:KI n nx (fun u=>A u∨u=v) k
 ks:KS n (fun u=>u=v) km k
 st:∃ E,k.st=P++[v]++E∧∀ u∈E,aF k.lo v≤aF k.lo u
 pr:∀ x∈l0,aF k.ix x≠0∧(x∉k.st∨aF k.lo v≤aF k.ix x)
structure KV (n:Nat) (nx:Int→List Int) (A:Int→Prop) (v:Int) (k k2:KN):Prop where
 ki:KI n nx A k2
 ks:KS n (fun _=>False) k k2
 ix:aF k2.ix v=k.ct + 1
 st:∃ Q,k2.st=k.st++Q∧(∀ u∈Q,aF k2.lo v≤aF k2.lo u)∧(aF k2.lo v=aF k2.ix v→Q=[])
theorem xI {z:Nat} {vis:KN→Int→KN} {km:KN} {P:List Int} (v0:0≤v) (v1:v < n) (hA:∀ u,A u→u∈P)
 (hv:∀ (k:KN) (w:Int),KOk n d k→KI n nx (fun u=>A u∨u=v) k→(∀ u,(A u∨u=v)→u∈k.st)→0≤w→w < n→aF k.ix w=0→da k.ix≤z→KOk n d (vis k w)∧eH k (vis k w)∧KV n nx (fun u=>A u∨u=v) w k (vis k w)):
 ∀ (l l0:List Int) (k:KN),(∀ w∈l,0≤w∧w < n)→(∀ w∈l0,0≤w∧w < n)→KOk n d k→da k.ix≤z→KJ n nx A v km k P l0→KJ n nx A v km (dA vis v l k) P (l0++l)
 | [],l0,k,_,_,_,_,h=>by rw [List.append_nil];exact h
 | w::r,l0,k,hin,hin0,hk,hz,h=>by
  obtain ⟨w0,w1⟩:=hin w (List.mem_cons_self ..);have hr:∀ u∈r,0≤u∧u < (n:Int):=fun u hu=>hin u (List.mem_cons_of_mem _ hu)
  have hr0:∀ u∈l0++[w],0≤u∧u < (n:Int):=fun u hu=>by
   rcases List.mem_append.1 hu with hu | hu
   ·exact hin0 u hu
   ·rw [List.mem_singleton.1 hu];exact ⟨w0,w1⟩
  have happ:l0++w::r=(l0++[w])++r:=by simp
  rw [happ];have go:=xI (km:=km) v0 v1 hA hv r (l0++[w]);obtain ⟨E,hE,hEl⟩:=h.st;have hvst:v∈k.st:=by rw [hE];simp
  have hAst:∀ u,(A u∨u=v)→u∈k.st:=fun u hu=>by
   rcases hu with hu | rfl
   ·rw [hE];simp [hA u hu]
   ·exact hvst
  have hEr:∀ u∈E,0≤u∧u < (n:Int):=fun u hu=>hk.st u (by rw [hE];simp [hu]);have hEm:∀ u∈E,aF k.ix u≠0:=fun u hu=>h.ki.met u (by rw [hE];simp [hu]);have hvm:=h.ki.met v hvst
  have hEv:∀ u∈E,¬ v=u:=fun u hu e=>by
   have:=h.ki.nd;rw [hE] at this;exact (List.nodup_append.1 this).2.2 v (by simp) u hu e
  unfold dA;split
  ·rename_i h0
   obtain ⟨a1,a2,a3⟩:=hv k w hk h.ki hAst w0 w1 h0 hz;generalize vis k w=k2 at *;obtain ⟨Q,hQ,hQl,_⟩:=a3.st;have el:∀ u:Int,0≤u→aF (k2.lower v (aF k2.lo w)).lo u=if v=u then nj (aF k2.lo v) (aF k2.lo w) else aF k2.lo u:=fun u hu=>b7 v0 (by rw [a1.lo];omega) hu
   have hlv:=a3.ks.lo v v0 v1 hvm (fun h=>h);have hvw:¬ v=w:=fun e=>hvm (by rw [e];exact h0);have m1:nj (aF k2.lo v) (aF k2.lo w)≤aF k2.lo v∧nj (aF k2.lo v) (aF k2.lo w)≤aF k2.lo w:=by unfold nj;split <;> omega
   have hwm:aF k2.ix w≠0:=by rw [a3.ix];have:=hk.ct0;omega
   refine go _ hr hr0 a1.lower (Nat.le_trans a2.ze hz) ⟨a3.ki.lower a1 v0 v1 (.inr rfl),(h.ks.trans a3.ks.wide).trans (tF a1 v0 v1),⟨E++Q,by show k2.st=_;rw [hQ,hE];simp,fun u hu=>?_⟩,fun x hx=>?_⟩
   ·rcases List.mem_append.1 hu with hu | hu
    ·rw [el v v0,if_pos rfl,el u (hEr u hu).1,if_neg (hEv u hu),a3.ks.lo u (hEr u hu).1 (hEr u hu).2 (hEm u hu) (fun h=>h)]
     have:=hEl u hu;omega
    ·have hu2:u∈k2.st:=by rw [hQ];simp [hu]
     have hnv:¬ v=u:=fun e=>by
      have:=a3.ki.nd;rw [hQ] at this;exact (List.nodup_append.1 this).2.2 v hvst u hu e
     rw [el v v0,if_pos rfl,el u (a1.st u hu2).1,if_neg hnv];have:=hQl u hu;omega
   ·show aF k2.ix x≠0∧(x∉k2.st∨_≤aF k2.ix x)
    rw [el v v0,if_pos rfl];rcases List.mem_append.1 hx with hx | hx
    ·obtain ⟨x0,x1⟩:=hin0 x hx
     obtain ⟨b1,b2⟩:=h.pr x hx;rw [a3.ks.ix x x0 x1 b1];refine ⟨b1,b2.imp (fun b3 b4=>b3 (a3.ks.st x x0 x1 b1 b4)) (fun b3=>by omega)⟩
    ·rw [List.mem_singleton.1 hx]
     have:=a3.ki.up w w0 w1 hwm;exact ⟨hwm,.inr (by omega)⟩
  ·rename_i h0
   split
   ·rename_i hon
    have el:∀ u:Int,0≤u→aF (k.lower v (aF k.ix w)).lo u=if v=u then nj (aF k.lo v) (aF k.ix w) else aF k.lo u:=fun u hu=>b7 v0 (by rw [hk.lo];omega) hu
    have m1:nj (aF k.lo v) (aF k.ix w)≤aF k.lo v∧nj (aF k.lo v) (aF k.ix w)≤aF k.ix w:=by unfold nj;split <;> omega
    refine go _ hr hr0 hk.lower hz ⟨h.ki.lower hk v0 v1 (.inr rfl),h.ks.trans (tF hk v0 v1),⟨E,hE,fun u hu=>?_⟩,fun x hx=>?_⟩
    ·rw [el v v0,if_pos rfl,el u (hEr u hu).1,if_neg (hEv u hu)]
     have:=hEl u hu;omega
    ·show aF k.ix x≠0∧(x∉k.st∨_≤aF k.ix x)
     rw [el v v0,if_pos rfl];rcases List.mem_append.1 hx with hx | hx
     ·obtain ⟨b1,b2⟩:=h.pr x hx
      exact ⟨b1,b2.imp id (fun b3=>by omega)⟩
     ·rw [List.mem_singleton.1 hx]
      exact ⟨h0,.inr (by omega)⟩
   ·rename_i hoff
    refine go _ hr hr0 hk hz ⟨h.ki,h.ks,⟨E,hE,hEl⟩,fun x hx=>?_⟩;rcases List.mem_append.1 hx with hx | hx
    ·exact h.pr x hx
    ·rw [List.mem_singleton.1 hx]
     exact ⟨h0,.inl (fun k=>hoff ((h.ki.on w w0 w1).2 k))⟩
theorem AH {k0:KN} (hnx:∀ v:Int,0≤v→v < n→∀ w∈nx v,0≤w∧w < n) (h0:KI n nx A k0) (hk0:KOk n d k0) (hA:∀ u,A u→u∈k0.st) (v0:0≤v) (v1:v < n) (hz:aF k0.ix v=0) (hk:KOk n (d + 1) k) (h:KJ n nx A v (k0.meet v) k k0.st (nx v)):KV n nx A v k0 (k.close v):=by
 obtain ⟨E,hE,hEl⟩:=h.st;have hc0:=hk0.ct0;have hvs:v∉k0.st:=fun hv=>h0.met v hv hz
 have hix:aF k.ix v=k0.ct + 1:=by
  have e:aF (k0.meet v).ix v=k0.ct + 1:=by rw [show aF (k0.meet v).ix v=if v=v then k0.ct + 1 else aF k0.ix v from b7 v0 (by rw [hk0.ix];omega) v0,if_pos rfl]
  rw [h.ks.ix v v0 v1 (by rw [e];omega),e]
 have hks0:KS n (fun _=>False) k0 (k0.meet v):=CR hk0 v0 v1 hz;have mk:∀ w:Int,0≤w→w < n→aF k0.ix w≠0→aF (k0.meet v).ix w≠0:=fun w w0 w1 hw=>by rw [hks0.ix w w0 w1 hw];exact hw
 have hks:KS n (fun _=>False) k0 k:=by
  have a:=h.ks;refine ⟨fun w w0 w1 hw=>by rw [a.ix w w0 w1 (mk w w0 w1 hw),hks0.ix w w0 w1 hw],fun w w0 w1 hw _=>by rw [a.lo w w0 w1 (mk w w0 w1 hw) (fun e=>hw (by rw [e];exact hz)),hks0.lo w w0 w1 hw (fun h=>h)],fun w w0 w1 hw hs=>by rw [a.of w w0 w1 (mk w w0 w1 hw) (fun e=>hs (hks0.st w w0 w1 hw e)),hks0.of w w0 w1 hw hs],fun w w0 w1 hw hs=>hks0.st w w0 w1 hw (a.st w w0 w1 (mk w w0 w1 hw) hs)⟩
 have hvA:¬ A v:=fun e=>hvs (hA v e);have hnd:=h.ki.nd;have hnd2:=hnd;rw [hE] at hnd2;obtain ⟨nd1,nd2,nd3⟩:=List.nodup_append.1 hnd2;have hinE:∀ w:Int,w∈k.st↔w∈k0.st∨w∈v::E:=fun w=>by rw [hE];simp [or_assoc]
 have hdisj:∀ w∈k0.st,w∉v::E:=fun w hw hw2=>by
  rcases List.mem_cons.1 hw2 with rfl | hw2
  ·exact hvs hw
  ·exact nd3 w (by simp [hw]) w hw2 rfl
 have hvst:v∈k.st:=(hinE v).2 (.inr (List.mem_cons_self ..))
 have hEA:∀ u∈E,¬ (A u∨u=v):=fun u hu k2=>by
  rcases k2 with k2 | rfl
  ·exact hdisj u (hA u k2) (List.mem_cons_of_mem _ hu)
  ·exact nd3 u (by simp) u hu rfl
 -- what leads out of those from v on
 have hout:∀ u∈v::E,∀ x∈nx u,aF k.ix x≠0∧(x∉k.st∨aF k.lo v≤aF k.ix x):=fun u hu x hx=>by
  rcases List.mem_cons.1 hu with rfl | hu
  ·exact h.pr x hx
  ·obtain ⟨b1,b2⟩:=h.ki.e2 u ((hinE u).2 (.inr (List.mem_cons_of_mem _ hu))) (hEA u hu) x hx
   exact ⟨b1,b2.imp id (fun b3=>Int.le_trans (hEl u hu) b3)⟩
 unfold KN.close;split
 ·rename_i heq
  obtain ⟨p1,p2,p3⟩:=ma k0.st k.st.length k E hk hE hnd (by rw [hE];simp;omega);obtain ⟨q1,q2,q3,q4⟩:=gR v k.st.length k;generalize popGo v k.st.length k=k2 at *
  have hlow:∀ x∈k0.st,aF k.ix x < aF k.lo v:=fun x hx=>by
   obtain ⟨x0,x1⟩:=hk0.st x hx;rw [hks.ix x x0 x1 (h0.met x hx),heq,hix];have:=(h0.pos x x0 x1).2;omega
  refine ⟨⟨?_,fun w w0 w1=>?_,fun w hw=>?_,fun w w0 w1 hw=>?_,fun w w0 w1=>?_,fun w w0 w1 hw hs=>?_,fun u u0 u1 hu hs x hx=>?_,fun u hu hAu x hx=>?_⟩,⟨fun w w0 w1 hw=>?_,fun w w0 w1 hw hx=>?_,fun w w0 w1 hw hs=>?_,fun w w0 w1 hw hs=>?_⟩,?_,[],?_,fun u hu=>(by cases hu),fun _=>rfl⟩
  ·show k2.st.Nodup
   rw [p1];exact h0.nd
  ·show eO k2.on w=true↔w∈k2.st
   rw [p3 w w0 w1,p1];by_cases e:w∈v::E
   ·rw [if_pos e];exact ⟨fun h=>(by cases h),fun h=>absurd e (hdisj w h)⟩
   ·rw [if_neg e,h.ki.on w w0 w1,hinE]
    exact ⟨fun h=>h.elim id (fun h=>absurd h e),.inl⟩
  ·show aF k2.ix w≠0
   rw [q1];exact h.ki.met w ((hinE w).2 (.inl (by rw [← p1];exact hw)))
  ·show aF k2.lo w≤aF k2.ix w
   rw [q1,q2];exact h.ki.up w w0 w1 (by rw [← q1];exact hw)
  ·show 0≤aF k2.ix w∧aF k2.ix w≤k2.ct
   rw [q1,q3];exact h.ki.pos w w0 w1
  ·show aF k2.of w < k.kn + 1
   rw [p2 w w0 w1];by_cases e:w∈v::E
   ·rw [if_pos e];omega
   ·rw [if_neg e]
    have:=h.ki.ofk w w0 w1 (by rw [← q1];exact hw) (fun k3=>((hinE w).1 k3).elim (fun k4=>hs (by show w∈k2.st;rw [p1];exact k4)) e);omega
  ·have hx0:=hnx u u0 u1 x hx
   show aF k2.ix x≠0∧x∉k2.st∧aF k2.of x≤aF k2.of u;rw [q1,p1,p2 x hx0.1 hx0.2,p2 u u0 u1];have hu2:aF k.ix u≠0:=by rw [← q1];exact hu
   by_cases e:u∈v::E
   ·rw [if_pos e]
    obtain ⟨b1,b2⟩:=hout u e x hx
    have hx3:x∉k0.st:=fun k3=>by
     rcases b2 with b2 | b2
     ·exact b2 ((hinE x).2 (.inl k3))
     ·have:=hlow x k3;omega
    refine ⟨b1,hx3,?_⟩;by_cases ex:x∈v::E
    ·rw [if_pos ex];exact Int.le_refl _
    ·rw [if_neg ex]
     have:=h.ki.ofk x hx0.1 hx0.2 b1 (fun k3=>((hinE x).1 k3).elim hx3 ex);omega
   ·rw [if_neg e]
    have hus:u∉k.st:=fun k3=>((hinE u).1 k3).elim (fun k4=>hs (by show u∈k2.st;rw [p1];exact k4)) e;obtain ⟨b1,b2,b3⟩:=h.ki.e1 u u0 u1 hu2 hus x hx;rw [if_neg (fun k3=>b2 ((hinE x).2 (.inr k3)))];exact ⟨b1,fun k3=>b2 ((hinE x).2 (.inl k3)),b3⟩
  ·have hu0:u∈k0.st:=by rw [← p1];exact hu
   obtain ⟨b1,b2⟩:=h.ki.e2 u ((hinE u).2 (.inl hu0)) (fun k3=>k3.elim hAu (fun e=>hvs (by rw [← e];exact hu0))) x hx;show aF k2.ix x≠0∧(x∉k2.st∨aF k2.lo u≤aF k2.ix x);rw [q1,q2,p1];exact ⟨b1,b2.imp (fun b3 b4=>b3 ((hinE x).2 (.inl b4))) id⟩
  ·show aF k2.ix w=_
   rw [q1];exact hks.ix w w0 w1 hw
  ·show aF k2.lo w=_
   rw [q2];exact hks.lo w w0 w1 hw hx
  ·show aF k2.of w=_
   have e:w∉v::E:=fun k3=>hs (hks.st w w0 w1 hw ((hinE w).2 (.inr k3)));rw [p2 w w0 w1,if_neg e];exact hks.of w w0 w1 hw hs
  ·have:w∈k2.st:=hs
   rw [p1] at this;exact this
  ·show aF k2.ix v=_
   rw [q1];exact hix
  ·show k2.st=_
   rw [p1,List.append_nil]
 ·rename_i hne
  refine ⟨⟨hnd,h.ki.on,h.ki.met,h.ki.up,h.ki.pos,h.ki.ofk,h.ki.e1,fun u hu hAu x hx=>?_⟩,hks,hix,v::E,by rw [hE];simp,fun u hu=>?_,fun e=>absurd e hne⟩
  ·by_cases e:u=v
   ·subst e;exact h.pr x hx
   ·exact h.ki.e2 u hu (fun k3=>k3.elim hAu e) x hx
  ·rcases List.mem_cons.1 hu with rfl | hu
   ·exact Int.le_refl _
   ·exact hEl u hu
theorem oI (hnx:∀ v:Int,0≤v→v < n→∀ w∈nx v,0≤w∧w < n):∀ (f d:Nat) (A:Int→Prop) (k:KN) (v:Int),KOk n d k→KI n nx A k→(∀ u,A u→u∈k.st)→0≤v→v < n→aF k.ix v=0→da k.ix≤f→KV n nx A v k (cr nx f k v)
 | 0,d,A,k,v,h,_,_,v0,v1,hz,hf=>by
  have:=dn h v0 v1 hz;omega
 | f + 1,d,A,k,v,h,hi,hA,v0,v1,hz,hf=>by
  have e:=dn h v0 v1 hz;have hm:=h.meet v0 v1 hz;obtain ⟨a1,_⟩:=mq (v:=v) (z:=f) (fun k w hk w0 w1 h0 hz=>fL hnx f (d + 1) k w hk w0 w1 h0 hz) (nx v) (k.meet v) (hnx v v0 v1) hm (by omega)
  have hj:=xI (z:=f) (km:=k.meet v) (P:=k.st) v0 v1 hA (fun k2 w hk2 hi2 hA2 w0 w1 h0 hz2=>by
   obtain ⟨b1,b2⟩:=fL hnx f (d + 1) k2 w hk2 w0 w1 h0 hz2;exact ⟨b1,b2,oI hnx f (d + 1) _ k2 w hk2 hi2 hA2 w0 w1 h0 hz2⟩) (nx v) [] (k.meet v) (hnx v v0 v1) (fun w hw=>by cases hw) hm (by omega)
   ⟨hi.meet h hnx v0 v1 hz,KS.refl,⟨[],by show k.st++[v]=_;simp,fun u hu=>by cases hu⟩,fun x hx=>by cases hx⟩
  unfold cr;exact AH hnx hi h hA v0 v1 hz a1 hj
end
end
section
def KD (n:Nat) (k:KN):Prop:=∀ u u':Int,0≤u→u < n→0≤u'→u' < n→aF k.ix u≠0→aF k.ix u'≠0→u∉k.st→u'∉k.st→aF k.of u=aF k.of u'→u=u'
section
variable {n d:Nat} {nx:Int→List Int} {A A':Int→Prop} {k k2:KN} {v:Int}
theorem KI.imp (h:KI n nx A k) (hA:∀ u∈k.st,A u→A' u):KI n nx A' k:=⟨h.nd,h.on,h.met,h.up,h.pos,h.ofk,h.e1,fun u hu hn=>h.e2 u hu (fun k=>hn (hA u hu k))⟩
structure KB (n:Nat) (v:Int) (k k2:KN):Prop where
 st:k2.st=k.st
 kd:KD n k2
 lo:aF k2.lo v=aF k2.ix v
structure KC (n d:Nat) (nx:Int→List Int) (v:Int) (P:List Int) (k:KN):Prop where
 ok:KOk n d k
 ki:KI n nx (fun u=>u∈k.st) k
 kd:KD n k
 st:k.st=P++[v]
 lo:aF k.lo v=aF k.ix v
theorem BB {z:Nat} {vis:KN→Int→KN} {P:List Int} (hac:∀ v:Int,0≤v→v < n→¬ RP nx v v) (v0:0≤v) (v1:v < n) (hP:∀ p∈P,RP nx p v)
 (hv:∀ (k:KN) (w:Int),KOk n d k→KI n nx (fun u=>u∈k.st) k→KD n k→(∀ p∈k.st,RP nx p w)→0≤w→w < n→aF k.ix w=0→da k.ix≤z→KOk n d (vis k w)∧eH k (vis k w)∧KV n nx (fun u=>u∈k.st) w k (vis k w)∧KB n w k (vis k w)):
 ∀ (l:List Int) (k:KN),(∀ w∈l,w∈nx v∧0≤w∧w < n)→da k.ix≤z→KC n d nx v P k→KC n d nx v P (dA vis v l k)
 | [],k,_,_,h=>h
 | w::r,k,hin,hz,h=>by
  obtain ⟨wn,w0,w1⟩:=hin w (List.mem_cons_self ..);have hr:∀ u∈r,u∈nx v∧0≤u∧u < (n:Int):=fun u hu=>hin u (List.mem_cons_of_mem _ hu);have go:=BB (P:=P) hac v0 v1 hP hv r;have hvst:v∈k.st:=by rw [h.st];simp
  have hvm:=h.ki.met v hvst
  have hreach:∀ p∈k.st,RP nx p w:=fun p hp=>by
   rw [h.st] at hp;rcases List.mem_append.1 hp with hp | hp
   ·exact (hP p hp).next wn
   ·rw [List.mem_singleton.1 hp];exact .one wn
  unfold dA;split
  ·rename_i h0
   obtain ⟨a1,a2,a3,a4⟩:=hv k w h.ok h.ki h.kd hreach w0 w1 h0 hz;generalize vis k w=k2 at *;have hst:k2.st=P++[v]:=by rw [a4.st,h.st]
   have el:∀ u:Int,0≤u→aF (k2.lower v (aF k2.lo w)).lo u=if v=u then nj (aF k2.lo v) (aF k2.lo w) else aF k2.lo u:=fun u hu=>b7 v0 (by rw [a1.lo];omega) hu
   have hlv:=a3.ks.lo v v0 v1 hvm (fun h=>h);have hxv:=a3.ks.ix v v0 v1 hvm;have hpos:=(h.ki.pos v v0 v1).2;have ki2:KI n nx (fun u=>u∈k2.st) k2:=a3.ki.imp (fun u hu _=>hu);refine go _ hr (Nat.le_trans a2.ze hz) ⟨a1.lower,ki2.lower a1 v0 v1 (by rw [hst];simp),a4.kd,hst,?_⟩;rw [el v v0,if_pos rfl];show _=aF k2.ix v;have:=a4.lo;have:=a3.ix;have:=h.lo;unfold nj;rw [if_neg (by omega)];omega
  ·rename_i h0
   split
   ·rename_i hon
    exact absurd (hreach w ((h.ki.on w w0 w1).1 hon)) (hac w w0 w1)
   ·exact go _ hr hz h
theorem Dc {P:List Int} (v0:0≤v) (v1:v < n) (h:KC n d nx v P k):(k.close v).st=P∧KD n (k.close v)∧aF (k.close v).lo v=aF (k.close v).ix v:=by
 have hnd:=h.ki.nd;have hst:k.st=P++[v]++[]:=by rw [h.st];simp
 unfold KN.close;rw [if_pos h.lo];obtain ⟨p1,p2,p3⟩:=ma P k.st.length k [] h.ok hst hnd (by rw [h.st];simp);obtain ⟨q1,q2,q3,q4⟩:=gR v k.st.length k;generalize popGo v k.st.length k=k2 at *;refine ⟨p1,fun u u' u0 u1 u0' u1' hu hu' hs hs' he=>?_,by show aF k2.lo v=aF k2.ix v;rw [q1,q2];exact h.lo⟩;have hu2:aF k2.ix u≠0:=hu;have hu2':aF k2.ix u'≠0:=hu';have he2:aF k2.of u=aF k2.of u':=he;have hs2:u∉P:=by rw [← p1];exact hs
 have hs2':u'∉P:=by rw [← p1];exact hs'
 rw [q1] at hu2 hu2';rw [p2 u u0 u1,p2 u' u0' u1'] at he2
 have hout:∀ x:Int,x∉P→x∉[v]→x∉k.st:=fun x h1 h2 h3=>by
  rw [h.st] at h3;exact (List.mem_append.1 h3).elim h1 h2
 by_cases e:u∈[v]
 ·by_cases e':u'∈[v]
  ·rw [List.mem_singleton.1 e,List.mem_singleton.1 e']
  ·rw [if_pos e,if_neg e'] at he2
   have:=h.ki.ofk u' u0' u1' hu2' (hout u' hs2' e');omega
 ·by_cases e':u'∈[v]
  ·rw [if_neg e,if_pos e'] at he2
   have:=h.ki.ofk u u0 u1 hu2 (hout u hs2 e);omega
  ·rw [if_neg e,if_neg e'] at he2
   exact h.kd u u' u0 u1 u0' u1' hu2 hu2' (hout u hs2 e) (hout u' hs2' e') he2
theorem Ew (hnx:∀ v:Int,0≤v→v < n→∀ w∈nx v,0≤w∧w < n) (hk:KOk n d k) (h:KI n nx (fun u=>u∈k.st) k) (hd:KD n k) (v0:0≤v) (v1:v < n) (hz:aF k.ix v=0):KC n (d + 1) nx v k.st (k.meet v):=by
 have ex:∀ w:Int,0≤w→aF (k.meet v).ix w=if v=w then k.ct + 1 else aF k.ix w:=fun w hw=>b7 v0 (by rw [hk.ix];omega) hw
 have el:∀ w:Int,0≤w→aF (k.meet v).lo w=if v=w then k.ct + 1 else aF k.lo w:=fun w hw=>b7 v0 (by rw [hk.lo];omega) hw
 refine ⟨hk.meet v0 v1 hz,(h.meet hk hnx v0 v1 hz).imp (fun u hu _=>hu),fun u u' u0 u1 u0' u1' hu hu' hs hs' he=>?_,rfl,by rw [ex v v0,el v v0,if_pos rfl,if_pos rfl]⟩;have hin:∀ w:Int,w∉(k.meet v).st→¬ v=w∧w∉k.st:=fun w hw=>⟨fun e=>hw (by show w∈k.st++[v];simp [e]),fun e=>hw (by show w∈k.st++[v];simp [e])⟩;obtain ⟨a1,a2⟩:=hin u hs;obtain ⟨b1,b2⟩:=hin u' hs';rw [ex u u0,if_neg a1] at hu;rw [ex u' u0',if_neg b1] at hu';exact hd u u' u0 u1 u0' u1' hu hu' a2 b2 he
theorem vX (hnx:∀ v:Int,0≤v→v < n→∀ w∈nx v,0≤w∧w < n) (hac:∀ v:Int,0≤v→v < n→¬ RP nx v v):∀ (f d:Nat) (k:KN) (v:Int),KOk n d k→KI n nx (fun u=>u∈k.st) k→KD n k→(∀ p∈k.st,RP nx p v)→0≤v→v < n→aF k.ix v=0→da k.ix≤f→KB n v k (cr nx f k v)
 | 0,d,k,v,h,_,_,_,v0,v1,hz,hf=>by
  have:=dn h v0 v1 hz;omega
 | f + 1,d,k,v,h,hi,hd,hp,v0,v1,hz,hf=>by
  have e:=dn h v0 v1 hz
  have hj:=BB (z:=f) (P:=k.st) hac v0 v1 hp (fun k2 w hk2 hi2 hd2 hp2 w0 w1 h0 hz2=>by
   obtain ⟨b1,b2⟩:=fL hnx f (d + 1) k2 w hk2 w0 w1 h0 hz2;exact ⟨b1,b2,oI hnx f (d + 1) _ k2 w hk2 hi2 (fun u hu=>hu) w0 w1 h0 hz2,vX hnx hac f (d + 1) k2 w hk2 hi2 hd2 hp2 w0 w1 h0 hz2⟩) (nx v) (k.meet v) (fun w hw=>⟨hw,hnx v v0 v1 w hw⟩) (by omega) (Ew hnx h hi hd v0 v1 hz)
  unfold cr;obtain ⟨a,b,c⟩:=Dc v0 v1 hj;exact ⟨a,b,c⟩
structure KT (n:Nat) (nx:Int→List Int) (i:Nat) (k:KN):Prop where
 ok:KOk n 0 k
 ki:KI n nx (fun _=>False) k
 st:k.st=[]
 met:∀ j:Int,0≤j→j < i→aF k.ix j≠0
theorem CZ {i:Nat} (hnx:∀ v:Int,0≤v→v < n→∀ w∈nx v,0≤w∧w < n) (hi:i < n) (h:KT n nx i k):KT n nx (i + 1) (if aF k.ix i=0 then cr nx n k i else k)∧((∀ v:Int,0≤v→v < n→¬ RP nx v v)→KD n k→KD n (if aF k.ix i=0 then cr nx n k i else k)):=by
 have i0:(0:Int)≤i:=by omega
 have i1:(i:Int) < n:=by omega
 have hzn:da k.ix≤n:=by have:=li k.ix;have:=h.ok.ix;omega
 by_cases hz:aF k.ix i=0
 ·rw [if_pos hz]
  have a1:=(fL hnx n 0 k i h.ok i0 i1 hz hzn).1;have a2:=oI hnx n 0 _ k i h.ok h.ki (fun u hu=>hu.elim) i0 i1 hz hzn;have hl:kg n k.ct k:=⟨fun w w0 w1 hw=>(by rw [(h.ki.on w w0 w1),h.st] at hw;cases hw),fun w w0 w1 hw=>(by have:=(h.ki.pos w w0 w1).2;omega),h.ki.up,h.ki.pos,Int.le_refl _⟩;obtain ⟨l1,_,l3,_⟩:=lM hnx n 0 k i h.ok hl i0 i1 hz hzn;have hb:(∀ v:Int,0≤v→v < n→¬ RP nx v v)→KD n k→KD n (cr nx n k i):=fun hac hd=>(vX hnx hac n 0 k i h.ok (h.ki.imp (fun u hu _=>hu)) hd (fun p hp=>(by rw [h.st] at hp;cases hp)) i0 i1 hz hzn).kd;generalize cr nx n k i=k2 at *;have hlo:=l1.lo i i0 i1 (by omega);have hup:=l1.up i i0 i1 (by have:=h.ok.ct0;omega);obtain ⟨Q,hQ,_,hQe⟩:=a2.st;refine ⟨⟨a1,a2.ki,by rw [hQ,h.st,hQe (by omega)];rfl,fun j j0 j1=>?_⟩,hb⟩;by_cases e:j=i
  ·rw [e,l3];have:=h.ok.ct0;omega
  ·have hm:=h.met j j0 (by omega)
   rw [a2.ks.ix j j0 (by omega) hm];exact hm
 ·rw [if_neg hz]
  refine ⟨⟨h.ok,h.ki,h.st,fun j j0 j1=>?_⟩,fun _ hd=>hd⟩;by_cases e:j=i
  ·rw [e];exact hz
  ·exact h.met j j0 (by omega)
theorem Ex (hnx:∀ v:Int,0≤v→v < n→∀ w∈nx v,0≤w∧w < n):∀ (r i:Nat) (k:KN),i + r=n→KT n nx i k→KT n nx n (gG nx n r i k)∧((∀ v:Int,0≤v→v < n→¬ RP nx v v)→KD n k→KD n (gG nx n r i k))
 | 0,i,k,hi,h=>by
  obtain rfl:i=n:=by omega
  exact ⟨h,fun _ hd=>hd⟩
 | r + 1,i,k,hi,h=>by
  obtain ⟨a,b⟩:=CZ hnx (i:=i) (by omega) h;obtain ⟨c,d⟩:=Ex hnx r (i + 1) _ (by omega) a;unfold gG;exact ⟨c,fun hac hd=>d hac (b hac hd)⟩
theorem Ey (hnx:∀ v:Int,0≤v→v < n→∀ w∈nx v,0≤w∧w < n):KT n nx n (iY nx n)∧((∀ v:Int,0≤v→v < n→¬ RP nx v v)→KD n (iY nx n)):=by
 have hix:∀ w:Int,aF (KN.new n).ix w=0:=fun w=>nN n w;have h0:KT n nx 0 (KN.new n):=⟨KOk.new n,⟨List.nodup_nil,fun w _ _=>by rw [show eO (KN.new n).on w=false from oN n w];exact ⟨fun h=>(by cases h),fun h=>(by cases h)⟩,fun w hw=>(by cases hw),fun w _ _ hw=>absurd (hix w) hw,fun w _ _=>by rw [hix w];exact ⟨Int.le_refl _,Int.le_refl _⟩,fun w _ _ hw=>absurd (hix w) hw,fun w _ _ hw=>absurd (hix w) hw,fun u hu=>(by cases hu)⟩,rfl,fun j j0 j1=>by omega⟩;obtain ⟨a,b⟩:=Ex hnx n 0 (KN.new n) (by omega) h0;exact ⟨a,fun hac=>b hac (fun u u' _ _ _ _ hu=>absurd (hix u) hu)⟩
theorem og {p:Int→Bool}:∀ {l:List Int} {i:Int},(∃ x∈l,p x=true)→i≤qC p l i
 | [],_,⟨x,hx,_⟩=>by cases hx
 | y::l,i,⟨x,hx,hp⟩=>by
  unfold qC;by_cases e:p y=true
  ·rw [if_pos e];exact Int.le_refl _
  ·rw [if_neg e]
   have:=og (p:=p) (l:=l) (i:=i + 1) ⟨x,(List.mem_cons.1 hx).elim (fun k=>absurd (by rw [← k];exact hp) e) id,hp⟩;omega
end
theorem AI {t:ThV} (hnx:∀ v:Int,0≤v→v < (aN t).length→∀ w∈aQ t v,0≤w∧w < (aN t).length) (hself:∀ v:Int,0≤v→v < (aN t).length→v∉aQ t v):0≤gY t↔∃ i:Nat,i < (aN t).length∧vN t i=true:=by
 obtain ⟨hT,hD⟩:=Ey hnx;have hof:=xG hnx;have hlen:=(lw hnx).of;have hkn:=(lw hnx).kn0;unfold gY Fo;generalize hNN:(aN t).length=N at *;generalize iY (aQ t) N=K at *
 have hp:∀ x∈K.of,decide (1 < aF (lS K) x)=decide (1 < K.of.count x):=fun x hx=>by
  obtain ⟨x0,x1⟩:=hof x hx;unfold lS;rw [nH (fun y hy=>by have:=hof y hy;rw [List.length_replicate];omega) x0 (by rw [List.length_replicate];omega),nN,Int.zero_add];by_cases h:1 < K.of.count x
  ·rw [decide_eq_true h,decide_eq_true (by omega)]
  ·rw [decide_eq_false h,decide_eq_false (by omega)]
 have hget:∀ (i:Nat) (hi:i < K.of.length),K.of[i]=aF K.of i:=fun i hi=>by
  unfold aF;rw [show ((i:Int)).toNat=i by omega,List.getElem?_eq_getElem hi];rfl
 have hst:∀ u:Int,u∉K.st:=fun u hu=>by rw [hT.st] at hu;cases hu
 constructor
 ·intro hc
  refine Classical.byContradiction fun hno=>?_;have hac:∀ v:Int,0≤v→v < N→¬ RP (aQ t) v v:=fun v v0 v1 hr=>hno ⟨v.toNat,by omega,by rw [show ((v.toNat:Nat):Int)=v by omega];exact jX.2 hr⟩;have hkd:=hD hac
  have hnd:K.of.Nodup:=by
   refine List.pairwise_iff_getElem.2 fun i j hi hj hij e=>?_;rw [hget i hi,hget j hj] at e;have:=hkd i j (by omega) (by omega) (by omega) (by omega) (hT.met i (by omega) (by omega)) (hT.met j (by omega) (by omega)) (hst _) (hst _) e;omega
  have:=oh (p:=fun w=>decide (1 < aF (lS K) w)) (l:=K.of) (i:=0) (fun x hx=>by
   rw [hp x hx];have:=List.nodup_iff_count.1 hnd x;exact decide_eq_false (by omega))
  omega
 ·rintro ⟨i,hi,hcy⟩
  refine Classical.byContradiction fun hno=>?_
  have hle:∀ x∈K.of,K.of.count x≤1:=fun x hx=>by
   refine Classical.byContradiction fun hgt=>hno ?_;exact og ⟨x,hx,by rw [hp x hx];exact decide_eq_true (by omega)⟩
  have hnd:K.of.Nodup:=List.nodup_iff_count.2 fun x=>by
   by_cases hx:x∈K.of
   ·exact hle x hx
   ·rw [List.count_eq_zero_of_not_mem hx];omega
  have hinj:∀ u x:Int,0≤u→u < N→0≤x→x < N→aF K.of u=aF K.of x→u=x:=fun u x u0 u1 x0 x1 e=>by
   have h1:=List.pairwise_iff_getElem.1 hnd;have eu:=hget u.toNat (by omega);have ex:=hget x.toNat (by omega);rw [show ((u.toNat:Nat):Int)=u by omega] at eu;rw [show ((x.toNat:Nat):Int)=x by omega] at ex;refine Classical.byContradiction fun hne=>?_;rcases Nat.lt_or_ge u.toNat x.toNat with h | h
   ·exact h1 u.toNat x.toNat (by omega) (by omega) h (by rw [eu,ex,e])
   ·exact h1 x.toNat u.toNat (by omega) (by omega) (by omega) (by rw [eu,ex,e])
  have hedge:∀ u:Int,0≤u→u < N→∀ x∈aQ t u,(0≤x∧x < N)∧aF K.of x < aF K.of u:=fun u u0 u1 x hx=>by
   obtain ⟨x0,x1⟩:=hnx u u0 u1 x hx;have h2:=(hT.ki.e1 u u0 u1 (hT.met u u0 u1) (hst _) x hx).2.2
   have h3:aF K.of x≠aF K.of u:=fun e=>by
    have:=hinj x u x0 x1 u0 u1 e;subst this;exact hself _ u0 u1 hx
   exact ⟨⟨x0,x1⟩,by omega⟩
  have:=(jX.1 hcy) (fun y=>(0≤y∧y < N)∧aF K.of y < aF K.of i) (fun z hz=>hedge i (by omega) (by omega) z hz) (fun x z hx hz=>by
   obtain ⟨a,b⟩:=hedge x hx.1.1 hx.1.2 z hz;exact ⟨a,by have:=hx.2;omega⟩)
  omega
end
end Go.Proofs.YtbcdgcodnkgdoaaGreat
