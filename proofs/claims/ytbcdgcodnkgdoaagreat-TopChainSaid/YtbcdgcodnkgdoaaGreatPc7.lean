/- Parts of the proof: What fast's counters say: +d comes to a rule. · What fast's counters say: -d comes to a rule; D tags come to a foe. · What fast's counters say: one that was told is worked off. · fast's marks and what is told. · fast's tells are just and complete, step by step. · fast's tells are just and complete: the smaller steps. · fast's tells are just and complete: the other steps. · fast's tells are just and complete: one that was told is worked off. · fast's D tags are just and complete. · fast's D tags: the steps of +d and -d do not touch them. · fast's D tags are just and complete: one that was told is worked off. · What fast's updates count. · What fast's updates count: all steps. · What follows of a theory: the least of all sets of tags that the conditions close; it never says +d and -d of one literal. Conditions: none. -/
import Derived.Test.YtbcdgcodnkgdoaaGreatPc6
/- What fast's counters say: +d comes to a rule. Conditions: none. -/
set_option linter.unusedVariables false
set_option linter.unusedSimpArgs false
namespace Go.Proofs.YtbcdgcodnkgdoaaGreat
open Go Go.RowKit
section
variable {n m np:Nat} {s:Es} {pq ps:Int→Int} {dl df:Int→Int→Int→Bool} {c:Cr} {p q r x:Int}
theorem back_ok {h:Int} (hl:c.backed.length=n) (h0:0≤h) (h1:h < n):c.back h={ c with backed:=(c.back h).backed }∧(c.back h).backed.length=n∧∀ (q:Int),0≤q→q < n→(gb (c.back h).backed q=true↔gb c.backed q=true∨h=q):=by
 unfold Cr.back
 split
 ·rename_i hb
  exact ⟨rfl,hl,fun q q0 q1=>⟨.inl,fun k=>k.elim id (fun e=>e ▸ hb)⟩⟩
 ·refine ⟨rfl,by simp [hl],fun q q0 q1=>?_⟩
  rw [show gb (c.backed.set h.toNat true) q=if q=h then true else gb c.backed q from getD_setAt hl h0 h1 q0]
  split
  ·rename_i e;exact ⟨fun _=>.inr e.symm,fun _=>rfl⟩
  ·rename_i e;exact ⟨.inl,fun k=>k.elim id (fun e2=>absurd e2.symm e)⟩
structure FireSt (n np:Nat) (s:Es) (pq ps:Int→Int) (r:Int) (c c':Cr):Prop where
 eq:c'={ c with backed:=c'.backed,pairs:=c'.pairs,attacks:=c'.attacks,standing:=c'.standing }
 pr:PrOk n np pq ps c'
 lbd:c'.backed.length=n
 lsd:c'.standing.length=n
 backed:∀ (q:Int),0≤q→q < n→(gb c'.backed q=true↔gb c.backed q=true∨(supD s.t r=true∧hd s r=q))
 sett:∀ (x:Int),0≤x→x < np→(c'.sett x=true↔c.sett x=true∨x∈rowAt s.beats r)
 left:∀ (x:Int),0≤x→x < np→c'.left x=c.left x
 stand:∀ (q:Int),0≤q→q < n→(gb c'.standing q=true↔gb c.standing q=true∨∃ p,p∈rowAt s.of r∧pq p=q∧gi c.need (ps p)=0∧c.left p=0)
theorem standB_iff {L:List Int}:standB c pq ps L q=true↔∃ p,p∈L∧pq p=q∧gi c.need (ps p)=0∧c.left p=0:=by
 unfold standB
 rw [List.any_eq_true]
 constructor
 ·rintro ⟨p,hp,h⟩
  rw [Bool.and_eq_true,Bool.and_eq_true] at h
  exact ⟨p,hp,beq_iff_eq.1 h.1.1,beq_iff_eq.1 h.1.2,beq_iff_eq.1 h.2⟩
 ·rintro ⟨p,hp,h1,h2,h3⟩
  exact ⟨p,hp,by rw [Bool.and_eq_true,Bool.and_eq_true];exact ⟨⟨beq_iff_eq.2 h1,beq_iff_eq.2 h2⟩,beq_iff_eq.2 h3⟩⟩
theorem fire_ok (hc:Con n m np s pq ps) (lbd:c.backed.length=n) (lsd:c.standing.length=n) (h:PrOk n np pq ps c) (r0:0≤r) (r1:r < m):FireSt n np s pq ps r c (Cr.fire s c r):=by
 obtain ⟨h0,h1⟩:=hc.head r r0 r1
 have hbt:=(hc.beats r r0 r1).2
 have hof:=(hc.of r r0 r1).2
 have key:∃ c3,Cr.fire1 s c r=c3∧c3={ c with backed:=c3.backed,pairs:=c3.pairs,attacks:=c3.attacks }∧PrOk n np pq ps c3∧c3.backed.length=n∧(∀ (q:Int),0≤q→q < n→(gb c3.backed q=true↔gb c.backed q=true∨(supD s.t r=true∧hd s r=q))) ∧
  (∀ (x:Int),0≤x→x < np→(c3.sett x=true↔c.sett x=true∨x∈rowAt s.beats r))∧(∀ (x:Int),0≤x→x < np→c3.left x=c.left x):=by
  refine ⟨_,rfl,?_⟩
  unfold Cr.fire1
  by_cases hs:supD s.t r=true
  ·rw [if_pos hs]
   obtain ⟨e1,l1,k1⟩:=back_ok (c:=c) lbd h0 h1
   have hp1:PrOk n np pq ps (c.back (hd s r)):=h.congr (by rw [e1]) (by rw [e1])
   obtain ⟨hp2,k2⟩:=settles_ok hc (L:=rowAt s.beats r) hp1 (fun p hp=>(hbt p hp).1)
   have e2:=k2.eq
   have ks:=k2.sett
   have kl:=k2.left
   have hpr:(c.back (hd s r)).pairs=c.pairs:=by rw [e1]
   have hss:∀ x,(c.back (hd s r)).sett x=c.sett x:=fun x=>by unfold Cr.sett Cr.pair;rw [hpr]
   have hll:∀ x,(c.back (hd s r)).left x=c.left x:=fun x=>by unfold Cr.left Cr.pair;rw [hpr]
   show _=_∧_
   change (rowAt s.beats r).foldl Cr.settle (c.back (hd s r))=_∧PrOk n np pq ps ((rowAt s.beats r).foldl Cr.settle (c.back (hd s r)))∧_
   generalize (rowAt s.beats r).foldl Cr.settle (c.back (hd s r))=c3 at *
   have hb3:c3.backed=(c.back (hd s r)).backed:=by rw [e2]
   refine ⟨?_,hp2,by rw [hb3];exact l1,fun q q0 q1=>?_,fun x x0 x1=>?_,fun x x0 x1=>by rw [kl x x0 x1,hll]⟩
   ·rw [e2]
    generalize c.back (hd s r)=c1 at *
    rw [e1]
   ·rw [hb3,k1 q q0 q1]
    exact ⟨fun k=>k.imp id (fun e=>⟨hs,e⟩),fun k=>k.imp id (fun e=>e.2)⟩
   ·rw [ks x x0 x1,hss,Bool.or_eq_true,List.contains_iff_mem]
  ·rw [if_neg hs]
   refine ⟨rfl,h,lbd,fun q q0 q1=>⟨.inl,fun k=>k.elim id (fun e=>absurd e.1 hs)⟩,fun x x0 x1=>⟨.inl,fun k=>k.elim id (fun e=>absurd (hbt x e).2.1 hs)⟩,fun x x0 x1=>rfl⟩
 obtain ⟨c3,e3,f1,f2,f3,f4,f5,f6⟩:=key
 unfold Cr.fire
 rw [e3]
 obtain ⟨g1,g2,g3⟩:=stands_ok hc (L:=rowAt s.of r) (c:=c3) (by rw [f1];exact lsd) f2 (fun p hp=>((hof p).1 hp).1)
 have hst:c3.standing=c.standing:=by rw [f1]
 have hnd:c3.need=c.need:=by rw [f1]
 generalize (rowAt s.of r).foldl Cr.stand c3=c4 at *
 have hpr:c4.pairs=c3.pairs:=by rw [g1]
 refine ⟨?_,f2.congr hpr (by rw [g1]),by rw [g1];exact f3,g2,fun q q0 q1=>by rw [g1];exact f4 q q0 q1,fun x x0 x1=>?_,fun x x0 x1=>?_,fun q q0 q1=>?_⟩
 ·rw [g1,f1]
 ·rw [show c4.sett x=c3.sett x by unfold Cr.sett Cr.pair;rw [hpr]];exact f5 x x0 x1
 ·rw [show c4.left x=c3.left x by unfold Cr.left Cr.pair;rw [hpr]];exact f6 x x0 x1
 ·rw [g3 q q0 q1,Bool.or_eq_true,standB_iff,hst,hnd]
  refine or_congr Iff.rfl ⟨fun ⟨p,h1,h2,h3,h4⟩=>⟨p,h1,h2,h3,?_⟩,fun ⟨p,h1,h2,h3,h4⟩=>⟨p,h1,h2,h3,?_⟩⟩
  ·rw [← f6 p ((hof p).1 h1).1.1 ((hof p).1 h1).1.2];exact h4
  ·rw [f6 p ((hof p).1 h1).1.1 ((hof p).1 h1).1.2];exact h4
theorem CanS.plus1 (hc:Con n m np s pq ps) (h:CanS n m np s pq ps dl df c) (r0:0≤r) (r1:r < m) (hq:q∈bd s r) (hn:dl r q 3=false)
 (hco:(∀ b∈bd s r,upd dl r q 3 r b 3=true)→∀ b∈bd s r,dl r b 4=false):CanS n m np s pq ps (upd dl r q 3) df (Cr.onPlus1 s c r):=by
 obtain ⟨hnd,hlen,_⟩:=hc.body r r0 r1
 have hU4:∀ r' b,upd dl r q 3 r' b 4=dl r' b 4:=fun r' b=>upd_k (by decide)
 have hv:=h.need r r0 r1
 have hle:=countP_le_len (l:=bd s r) (f:=fun b=>!dl r b 3)
 have hless:=countP_less (f:=fun b=>!dl r b 3) (g:=fun b=>!upd dl r q 3 r b 3) hnd hq (by simp [hn]) (by simp [upd_at]) (fun i hi=>by rw [upd_b hi])
 obtain ⟨nd,hnde⟩:∃ nd,nd=En.dec c.need r:=⟨_,rfl⟩
 have lnd:nd.length=m:=by rw [hnde,dec_len];exact h.lnd
 have hg:∀ (x:Int),0≤x→gi nd x=if x=r then gi c.need r - 1 else gi c.need x:=fun x x0=>by rw [hnde];exact gi_dec h.lnd r0 r1 x0 (by omega) (by omega)
 have hneed:∀ (r':Int),0≤r'→r' < m→gi nd r'=((bd s r').countP (fun b=>!upd dl r q 3 r' b 3):Nat):=fun r' r0' r1'=>by
  rw [hg r' r0']
  by_cases er:r'=r
  ·subst er;rw [if_pos rfl,hv];omega
  ·rw [if_neg er,h.need r' r0' r1']
   congr 1
   exact countP_same fun b _=>by rw [upd_r er]
 have hdead:∀ (r':Int),0≤r'→r' < m→gb c.dead r'=(bd s r').any (fun b=>upd dl r q 3 r' b 4):=fun r' r0' r1'=>by rw [h.dead r' r0' r1'];simp only [hU4]
 have hr1:1≤gi c.need r:=by rw [hv];omega
 have e:Cr.onPlus1 s c r=if gi nd r == 0 then Cr.fire s { c with need:=nd } r else { c with need:=nd }:=by rw [hnde];rfl
 rw [e]
 by_cases hz:gi nd r=0
 ·rw [if_pos (beq_iff_eq.2 hz)]
  have hzz:∀ (t:Int),0≤t→t < m→(gi nd t=0↔gi c.need t=0∨t=r):=fun t t0 t1=>by
   rw [hg t t0]
   by_cases er:t=r
   ·subst er;rw [if_pos rfl];rw [hg t t0,if_pos rfl] at hz;exact ⟨fun _=>.inr rfl,fun _=>hz⟩
   ·rw [if_neg er];exact ⟨.inl,fun k=>k.elim id (fun e=>absurd e er)⟩
  have hall:∀ b∈bd s r,upd dl r q 3 r b 3=true:=fun b hb=>by
   have:=hneed r r0 r1
   rw [hz] at this
   have h2:=countP_zero.1 (show (bd s r).countP (fun b=>!upd dl r q 3 r b 3)=0 by omega) b hb
   simpa using h2
  have hnod:gb c.dead r=false:=by
   rw [h.dead r r0 r1,List.any_eq_false]
   intro b hb
   rw [hco hall b hb];simp
  have F:=fire_ok (c:={ c with need:=nd }) hc h.lbd h.lsd (h.pr.congr rfl rfl) r0 r1
  generalize Cr.fire s { c with need:=nd } r=c4 at *
  have fe:=F.eq
  have x1:c4.need=nd:=by rw [fe]
  have x2:c4.dead=c.dead:=by rw [fe]
  have x3:c4.backs=c.backs:=by rw [fe]
  have x4:c4.opn=c.opn:=by rw [fe]
  have x5:c4.clash=c.clash:=by rw [fe]
  refine ⟨by rw [x1];exact lnd,by rw [x2];exact h.ldd,by rw [x3];exact h.lbk,F.lbd,by rw [x4];exact h.lop,by rw [x5];exact h.lcl,F.lsd,F.pr,by rw [x1];exact hneed,by rw [x2];exact hdead,by rw [x2,x3];exact h.backs,fun y y0 y1=>?_,by rw [x4];exact h.opn1,fun y y0 y1=>?_,by rw [x5];exact h.clash1,by rw [x5,x3];exact h.clash2,fun p p0 p1=>?_,fun p p0 p1=>?_,fun y y0 y1=>?_⟩
  ·rw [F.backed y y0 y1,x1]
   show gb c.backed y=true∨_↔_
   rw [h.backed y y0 y1]
   constructor
   ·rintro (⟨t,ht,h1,h2,h3⟩ | ⟨h1,h2⟩)
    ·exact ⟨t,ht,h1,h2,(hzz t ht.1 ht.2).2 (.inl h3)⟩
    ·exact ⟨r,⟨r0,r1⟩,h1,h2,hz⟩
   ·rintro ⟨t,ht,h1,h2,h3⟩
    rcases (hzz t ht.1 ht.2).1 h3 with h4 | h4
    ·exact .inl ⟨t,ht,h1,h2,h4⟩
    ·exact .inr ⟨h4 ▸ h1,h4 ▸ h2⟩
  ·rw [x3,x4]
   rcases h.opn2 y y0 y1 with k | ⟨k1,k2⟩
   ·exact .inl k
   ·refine .inr ⟨k1,?_⟩
    cases hb:gb c4.backed y with
    | false=>rfl
    | true=>
     rcases (F.backed y y0 y1).1 hb with k | ⟨k3,k4⟩
     ·rw [show gb c.backed y=true from k] at k2;cases k2
     ·rw [h.backs y y0 y1] at k1
      have:=cN_zero.1 k1 r r0 r1
      rw [k3,hnod,k4] at this
      simp at this
  ·rw [F.sett p p0 p1,x1,x2]
   show c.sett p=true∨_↔_
   rw [h.sett p p0 p1]
   constructor
   ·rintro ((k | ⟨t,ht,h1,h2⟩) | k)
    ·exact .inl k
    ·exact .inr ⟨t,ht,h1,(hzz t ht.1 ht.2).2 (.inl h2)⟩
    ·exact .inr ⟨r,⟨r0,r1⟩,k,hz⟩
   ·rintro (k | ⟨t,ht,h1,h2⟩)
    ·exact .inl (.inl k)
    ·rcases (hzz t ht.1 ht.2).1 h2 with h4 | h4
     ·exact .inl (.inr ⟨t,ht,h1,h4⟩)
     ·exact .inr (h4 ▸ h1)
  ·rw [F.left p p0 p1,x2]
   exact h.left p p0 p1
  ·rw [F.stand y y0 y1,x1]
   show gb c.standing y=true∨(∃ p,_∧_∧gi nd (ps p)=0∧c.left p=0)↔_
   rw [h.stand y y0 y1]
   constructor
   ·rintro (⟨p,hp,h1,h2,h3⟩ | ⟨p,hp,h1,h2,h3⟩)
    ·have hps:=(hc.pr p hp.1 hp.2).2
     exact ⟨p,hp,h1,(hzz _ hps.1 hps.2).2 (.inl h2),by rw [F.left p hp.1 hp.2];exact h3⟩
    ·have hpr:=((hc.of r r0 r1).2 p).1 hp
     exact ⟨p,hpr.1,h1,h2,by rw [F.left p hpr.1.1 hpr.1.2];exact h3⟩
   ·rintro ⟨p,hp,h1,h2,h3⟩
    have hps:=(hc.pr p hp.1 hp.2).2
    rw [F.left p hp.1 hp.2] at h3
    rcases (hzz _ hps.1 hps.2).1 h2 with h4 | h4
    ·exact .inl ⟨p,hp,h1,h4,h3⟩
    ·exact .inr ⟨p,((hc.of r r0 r1).2 p).2 ⟨hp,h4⟩,h1,h2,h3⟩
 ·rw [if_neg (by rw [beq_iff_eq];exact hz)]
  have hzz:∀ (t:Int),0≤t→t < m→(gi nd t=0↔gi c.need t=0):=fun t t0 t1=>by
   rw [hg t t0]
   by_cases er:t=r
   ·subst er;rw [hg t t0,if_pos rfl] at hz;rw [if_pos rfl];exact ⟨fun k=>absurd k hz,fun k=>by omega⟩
   ·rw [if_neg er]
  refine ⟨lnd,h.ldd,h.lbk,h.lbd,h.lop,h.lcl,h.lsd,h.pr.congr rfl rfl,hneed,hdead,h.backs,fun y y0 y1=>?_,h.opn1,h.opn2,h.clash1,h.clash2,fun p p0 p1=>?_,h.left,fun y y0 y1=>?_⟩
  ·show gb c.backed y=true↔∃ r,_∧_∧_∧gi nd r=0
   rw [h.backed y y0 y1]
   exact ⟨fun ⟨t,ht,h1,h2,h3⟩=>⟨t,ht,h1,h2,(hzz t ht.1 ht.2).2 h3⟩,fun ⟨t,ht,h1,h2,h3⟩=>⟨t,ht,h1,h2,(hzz t ht.1 ht.2).1 h3⟩⟩
  ·show c.sett p=true↔gb c.dead (ps p)=true∨∃ t,_∧_∧gi nd t=0
   rw [h.sett p p0 p1]
   exact or_congr Iff.rfl ⟨fun ⟨t,ht,h1,h2⟩=>⟨t,ht,h1,(hzz t ht.1 ht.2).2 h2⟩,fun ⟨t,ht,h1,h2⟩=>⟨t,ht,h1,(hzz t ht.1 ht.2).1 h2⟩⟩
  ·show gb c.standing y=true↔∃ p,_∧_∧gi nd (ps p)=0∧c.left p=0
   rw [h.stand y y0 y1]
   refine ⟨fun ⟨p,hp,h1,h2,h3⟩=>⟨p,hp,h1,(hzz _ (hc.pr p hp.1 hp.2).2.1 (hc.pr p hp.1 hp.2).2.2).2 h2,h3⟩,fun ⟨p,hp,h1,h2,h3⟩=>⟨p,hp,h1,(hzz _ (hc.pr p hp.1 hp.2).2.1 (hc.pr p hp.1 hp.2).2.2).1 h2,h3⟩⟩
end
end Go.Proofs.YtbcdgcodnkgdoaaGreat
namespace Go.Proofs.YtbcdgcodnkgdoaaGreat
open Go Go.RowKit
section
variable {n m np:Nat} {s:Es} {pq ps:Int→Int} {dl df:Int→Int→Int→Bool} {c:Cr} {p q r x f:Int}
theorem CanS.backsR (hm:m≤4096) (h:CanS n m np s pq ps dl df c) (q0:0≤q) (q1:q < n):0≤gi c.backs q∧gi c.backs q≤4096:=by
 rw [h.backs q q0 q1]
 have:=cN_nonneg m (fun r=>supD s.t r&&(hd s r == q)&&!gb c.dead r)
 have:=cN_le m (fun r=>supD s.t r&&(hd s r == q)&&!gb c.dead r)
 omega
theorem CanS.minus1 (hc:Con n m np s pq ps) (h:CanS n m np s pq ps dl df c) (r0:0≤r) (r1:r < m) (hq:q∈bd s r):CanS n m np s pq ps (upd dl r q 4) df (Cr.onMinus1 s c r):=by
 have hm:=hc.ok.small.2
 obtain ⟨h0,h1⟩:=hc.head r r0 r1
 have hU3:∀ r' b,upd dl r q 4 r' b 3=dl r' b 3:=fun r' b=>upd_k (by decide)
 have hneed:∀ (r':Int),0≤r'→r' < m→gi c.need r'=((bd s r').countP (fun b=>!upd dl r q 4 r' b 3):Nat):=fun r' r0' r1'=>by rw [h.need r' r0' r1'];simp only [hU3]
 unfold Cr.onMinus1
 by_cases hb:c.dead.getD r.toNat false=true
 ·rw [if_pos hb]
  refine ⟨h.lnd,h.ldd,h.lbk,h.lbd,h.lop,h.lcl,h.lsd,h.pr,hneed,fun r' r0' r1'=>?_,h.backs,h.backed,h.opn1,h.opn2,h.clash1,h.clash2,h.sett,h.left,h.stand⟩
  by_cases er:r'=r
  ·subst er;rw [any_upd hq];exact hb
  ·rw [h.dead r' r0' r1']
   congr 1
   funext b
   rw [upd_r er]
 ·rw [if_neg hb]
  have hb2:gb c.dead r=false:=by simpa using hb
  obtain ⟨dd,hdd⟩:∃ dd,dd=c.dead.set r.toNat true:=⟨_,rfl⟩
  rw [← hdd]
  have ldd:dd.length=m:=by rw [hdd,List.length_set];exact h.ldd
  have hset:∀ (x:Int),0≤x→gb dd x=if x=r then true else gb c.dead x:=fun x x0=>by rw [hdd];exact getD_setAt h.ldd r0 r1 x0
  have hdead:∀ (r':Int),0≤r'→r' < m→gb dd r'=(bd s r').any (fun b=>upd dl r q 4 r' b 4):=fun r' r0' r1'=>by
   rw [hset r' r0']
   by_cases er:r'=r
   ·subst er;rw [if_pos rfl,any_upd hq]
   ·rw [if_neg er,h.dead r' r0' r1']
    congr 1
    funext b
    rw [upd_r er]
  have hof:=(hc.of r r0 r1).2
  obtain ⟨hnb,hbt⟩:=hc.beats r r0 r1
  obtain ⟨p1,k1⟩:=settles_ok hc (L:=rowAt s.of r) (c:={ c with dead:=dd }) (h.pr.congr rfl rfl) (fun p hp=>((hof p).1 hp).1)
  have e1:=k1.eq
  have s1:=k1.sett
  have l1:=k1.left
  generalize (rowAt s.of r).foldl Cr.settle { c with dead:=dd }=c2 at *
  -- what is settled
  have hsett:∀ (p:Int),0≤p→p < np→(c2.sett p=true↔gb dd (ps p)=true∨∃ (t:Int),(0≤t∧t < m)∧p∈rowAt s.beats t∧gi c.need t=0):=fun p p0 p1=>by
   have hps:=(hc.pr p p0 p1).2
   rw [s1 p p0 p1,Bool.or_eq_true,List.contains_iff_mem,hof p,hset _ hps.1]
   show c.sett p=true∨_↔_
   rw [h.sett p p0 p1]
   by_cases er:ps p=r
   ·rw [if_pos er]
    exact ⟨fun _=>.inl rfl,fun _=>.inr ⟨⟨p0,p1⟩,er⟩⟩
   ·rw [if_neg er]
    exact ⟨fun k=>k.elim id (fun e=>absurd e.2 er),.inl⟩
  -- how many beaters
  have hleft:∀ (x:Int),0≤x→x < np→cN m (fun t=>decide (x∈rowAt s.beats t)&&!gb dd t)=if x∈rowAt s.beats r then c.left x - 1 else c.left x:=fun x x0 x1=>by
   rw [h.left x x0 x1]
   split
   ·rename_i hx
    have:=cN_less (f:=fun t=>decide (x∈rowAt s.beats t)&&!gb c.dead t) (g:=fun t=>decide (x∈rowAt s.beats t)&&!gb dd t) r0 r1 (by simp only [hb2,hx];simp) (by simp only [hset r r0];simp) (fun i i0 i1 hi=>by simp only [hset i i0,if_neg hi])
    omega
   ·rename_i hx
    refine cN_congr fun i i0 i1=>?_
    by_cases ei:i=r
    ·subst ei;rw [decide_eq_false hx,Bool.false_and,Bool.false_and]
    ·rw [hset i i0,if_neg ei]
  have hl0:∀ x,x∈rowAt s.beats r→1≤c.left x∧c.left x≤4096:=fun x hx=>by
   obtain ⟨⟨x0,x1⟩,_⟩:=hbt x hx
   rw [h.left x x0 x1]
   have a1:=cN_pos (f:=fun t=>decide (x∈rowAt s.beats t)&&!gb c.dead t) r0 r1 (by simp only [hb2,hx];simp)
   have a2:=cN_le m (fun t=>decide (x∈rowAt s.beats t)&&!gb c.dead t)
   omega
  by_cases hs:supD s.t r=true
  ·rw [if_pos hs]
   have hR:=h.backsR hm h0 h1
   obtain ⟨bk,hbk⟩:∃ bk,bk=En.dec c.backs (hd s r):=⟨_,rfl⟩
   have lbk:bk.length=n:=by rw [hbk,dec_len];exact h.lbk
   have hbg:∀ (y:Int),0≤y→gi bk y=if y=hd s r then gi c.backs (hd s r) - 1 else gi c.backs y:=fun y y0=>by rw [hbk];exact gi_dec h.lbk h0 h1 y0 (by omega) (by omega)
   have hbacks:∀ (y:Int),0≤y→y < n→gi bk y=cN m (fun r'=>supD s.t r'&&(hd s r' == y)&&!gb dd r'):=fun y y0 y1=>by
    rw [hbg y y0]
    by_cases ey:y=hd s r
    ·subst ey
     rw [if_pos rfl,h.backs _ h0 h1]
     have:=cN_less (f:=fun r'=>supD s.t r'&&(hd s r' == hd s r)&&!gb c.dead r') (g:=fun r'=>supD s.t r'&&(hd s r' == hd s r)&&!gb dd r') r0 r1 (by simp only [hs,hb2];simp) (by simp only [hset r r0];simp) (fun i i0 i1 hi=>by simp only [hset i i0,if_neg hi])
     omega
    ·rw [if_neg ey,h.backs y y0 y1]
     refine cN_congr fun i i0 i1=>?_
     by_cases ei:i=r
     ·subst ei
      have:(hd s i == y)=false:=by rw [beq_eq_false_iff_ne];exact fun h=>ey h.symm
      simp [this]
     ·rw [hset i i0,if_neg ei]
   have hb0:∀ (y:Int),0≤y→y < n→gi c.backs y=0→gi bk y=0:=fun y y0 y1 hy=>by
    rw [hbg y y0]
    by_cases ey:y=hd s r
    ·subst ey
     rw [h.backs _ h0 h1] at hy
     have:=cN_zero.1 hy r r0 r1
     rw [hs,hb2] at this
     simp at this
    ·rw [if_neg ey];exact hy
   have e3:({ c2 with backs:=En.dec c2.backs (ruleAt s.t r).2.1 }:Cr)={ c2 with backs:=bk }:=by rw [hbk,show c2.backs=c.backs by rw [e1]]
   rw [e3]
   have hls:({ c2 with backs:=bk }:Cr).standing.length=n:=by show c2.standing.length=n;rw [e1];exact h.lsd
   obtain ⟨p4,k4⟩:=minus2s_ok hc (L:=rowAt s.beats r) (c:={ c2 with backs:=bk }) hnb hls (p1.congr rfl rfl) (fun x hx=>by
    obtain ⟨⟨x0,x1⟩,_⟩:=hbt x hx
    refine ⟨⟨x0,x1⟩,?_⟩
    show 1≤c2.left x∧c2.left x≤4096
    rw [l1 x x0 x1]
    exact hl0 x hx)
   have e4:=k4.eq
   have l4:=k4.left
   have s4:=k4.sett
   have t4:=k4.stand
   have g4:=k4.ls
   generalize (rowAt s.beats r).foldl Cr.onMinus2 { c2 with backs:=bk }=c4 at *
   have x1:c4.need=c.need:=by rw [e4,e1]
   have x2:c4.dead=dd:=by rw [e4,e1]
   have x3:c4.backs=bk:=by rw [e4]
   have x4:c4.backed=c.backed:=by rw [e4,e1]
   have x5:c4.opn=c.opn:=by rw [e4,e1]
   have x6:c4.clash=c.clash:=by rw [e4,e1]
   have x7:c2.standing=c.standing:=by rw [e1]
   have hL:∀ (x:Int),0≤x→x < np→c4.left x=if x∈rowAt s.beats r then c.left x - 1 else c.left x:=fun x x0 x1=>by
    rw [l4 x x0 x1]
    show (if x∈rowAt s.beats r then c2.left x - 1 else c2.left x)=_
    rw [l1 x x0 x1]
    rfl
   refine ⟨by rw [x1];exact h.lnd,by rw [x2];exact ldd,by rw [x3];exact lbk,by rw [x4];exact h.lbd,by rw [x5];exact h.lop,by rw [x6];exact h.lcl,g4,p4,by rw [x1];exact hneed,by rw [x2];exact hdead,by rw [x3,x2];exact hbacks,by rw [x4,x1];exact h.backed,by rw [x5];exact h.opn1,fun y y0 y1=>?_,by rw [x6];exact h.clash1,fun y y0 y1 f hf hd1=>?_,fun p p0 p1=>?_,fun p p0 p1=>?_,fun y y0 y1=>?_⟩
   ·rw [x3,x4,x5]
    exact (h.opn2 y y0 y1).imp id (fun k=>⟨hb0 y y0 y1 k.1,k.2⟩)
   ·rw [x3,x6]
    exact (h.clash2 y y0 y1 f hf hd1).imp id (hb0 y y0 y1)
   ·rw [s4 p p0 p1,x1,x2]
    exact hsett p p0 p1
   ·rw [hL p p0 p1,x2,hleft p p0 p1]
   ·rw [t4 y y0 y1,x1,Bool.or_eq_true,standB_iff,x1]
    show gb c2.standing y=true∨_↔_
    rw [x7,h.stand y y0 y1]
    constructor
    ·rintro (⟨p,hp,g1,g2,g3⟩ | ⟨p,hp,g1,g2,g3⟩)
     ·refine ⟨p,hp,g1,g2,?_⟩
      rw [hL p hp.1 hp.2,if_neg (fun hx=>by have:=hl0 p hx;omega)]
      exact g3
     ·exact ⟨p,(hbt p hp).1,g1,g2,g3⟩
    ·rintro ⟨p,hp,g1,g2,g3⟩
     by_cases hx:p∈rowAt s.beats r
     ·exact .inr ⟨p,hx,g1,g2,g3⟩
     ·rw [hL p hp.1 hp.2,if_neg hx] at g3
      exact .inl ⟨p,hp,g1,g2,g3⟩
  ·rw [if_neg hs]
   have hno:∀ x,¬ x∈rowAt s.beats r:=fun x hx=>hs (hbt x hx).2.1
   have x1:c2.need=c.need:=by rw [e1]
   have x2:c2.dead=dd:=by rw [e1]
   have x3:c2.backs=c.backs:=by rw [e1]
   have x4:c2.backed=c.backed:=by rw [e1]
   have x5:c2.opn=c.opn:=by rw [e1]
   have x6:c2.clash=c.clash:=by rw [e1]
   have x7:c2.standing=c.standing:=by rw [e1]
   refine ⟨by rw [x1];exact h.lnd,by rw [x2];exact ldd,by rw [x3];exact h.lbk,by rw [x4];exact h.lbd,by rw [x5];exact h.lop,by rw [x6];exact h.lcl,by rw [x7];exact h.lsd,p1,by rw [x1];exact hneed,by rw [x2];exact hdead,fun y y0 y1=>?_,by rw [x4,x1];exact h.backed,by rw [x5];exact h.opn1,by rw [x3,x4,x5];exact h.opn2,by rw [x6];exact h.clash1,by rw [x3,x6];exact h.clash2,fun p p0 p1=>by rw [x1,x2];exact hsett p p0 p1,fun p p0 p1=>?_,fun y y0 y1=>?_⟩
   ·rw [x3,x2,h.backs y y0 y1]
    refine cN_congr fun i i0 i1=>?_
    by_cases ei:i=r
    ·subst ei;simp [hs]
    ·rw [hset i i0,if_neg ei]
   ·rw [l1 p p0 p1,x2,hleft p p0 p1,if_neg (hno p)]
    rfl
   ·rw [x7,x1,h.stand y y0 y1]
    refine ⟨fun ⟨p,hp,g1,g2,g3⟩=>⟨p,hp,g1,g2,by rw [l1 p hp.1 hp.2];exact g3⟩,fun ⟨p,hp,g1,g2,g3⟩=>⟨p,hp,g1,g2,by rw [l1 p hp.1 hp.2] at g3;exact g3⟩⟩
theorem upd_le {a b k:Int} (h:df a b k=true) {a' b' k':Int}:upd df a' b' k' a b k=true:=by unfold upd;rw [h];rfl
theorem CanS.clashS (hc:Con n m np s pq ps) (h:CanS n m np s pq ps dl df c) (f0:0≤f) (f1:f < n) (hq:q∈rowAt (tFoes s.t) f):CanS n m np s pq ps dl (upd df f q 1) (Cr.onPlusD2 c f):=by
 have hR:=h.backsR hc.ok.small.2 f0 f1
 have hU2:∀ y g,upd df f q 1 y g 2=df y g 2:=fun y g=>upd_k (by decide)
 have ho1:∀ (y:Int),0≤y→y < n→((rowAt (tFoes s.t) y).countP (fun g=>!upd df f q 1 y g 2):Nat)≤gi c.opn y∧gi c.opn y≤64:=fun y y0 y1=>by simp only [hU2];exact h.opn1 y y0 y1
 have ho2:∀ (y:Int),0≤y→y < n→gi c.opn y=((rowAt (tFoes s.t) y).countP (fun g=>!upd df f q 1 y g 2):Nat)∨(gi c.backs y=0∧gb c.backed y=false):=fun y y0 y1=>by simp only [hU2];exact h.opn2 y y0 y1
 have hold:∀ y g,upd df f q 1 y g 1=true→df y g 1=true∨(y=f∧g=q):=fun y g hu=>by
  unfold upd at hu
  rw [Bool.or_eq_true,Bool.and_eq_true,Bool.and_eq_true] at hu
  exact hu.imp id (fun k=>⟨beq_iff_eq.1 k.1.1,beq_iff_eq.1 k.1.2⟩)
 unfold Cr.onPlusD2
 split
 ·have hset:∀ (x:Int),0≤x→gb (c.clash.set f.toNat true) x=if x=f then true else gb c.clash x:=fun x x0=>getD_setAt h.lcl f0 f1 x0
  refine ⟨h.lnd,h.ldd,h.lbk,h.lbd,h.lop,by simp [h.lcl],h.lsd,h.pr.congr rfl rfl,h.need,h.dead,h.backs,h.backed,ho1,ho2,fun y y0 y1 hy=>?_,fun y y0 y1 g hg hd1=>?_,h.sett,h.left,h.stand⟩
  ·replace hy:gb (c.clash.set f.toNat true) y=true:=hy
   rw [hset y y0] at hy
   by_cases e:y=f
   ·subst e;exact ⟨q,hq,upd_at⟩
   ·rw [if_neg e] at hy
    obtain ⟨g,hg,hd1⟩:=h.clash1 y y0 y1 hy
    exact ⟨g,hg,upd_le hd1⟩
  ·show gb (c.clash.set f.toNat true) y=true∨_
   rw [hset y y0]
   by_cases e:y=f
   ·rw [if_pos e];exact .inl rfl
   ·rw [if_neg e]
    rcases hold y g hd1 with k | k
    ·exact h.clash2 y y0 y1 g hg k
    ·exact absurd k.1 e
 ·rename_i hb
  refine ⟨h.lnd,h.ldd,h.lbk,h.lbd,h.lop,h.lcl,h.lsd,h.pr,h.need,h.dead,h.backs,h.backed,ho1,ho2,fun y y0 y1 hy=>?_,fun y y0 y1 g hg hd1=>?_,h.sett,h.left,h.stand⟩
  ·obtain ⟨g,hg,hd1⟩:=h.clash1 y y0 y1 hy
   exact ⟨g,hg,upd_le hd1⟩
  ·rcases hold y g hd1 with k | ⟨rfl,rfl⟩
   ·exact h.clash2 y y0 y1 g hg k
   ·by_cases hcl:gb c.clash y=true
    ·exact .inl hcl
    ·refine .inr ?_
     by_cases hz:0 < gi c.backs y
     ·refine absurd ?_ hb
      rw [Bool.and_eq_true,Bool.not_eq_true']
      exact ⟨decide_eq_true hz,by simpa using hcl⟩
     ·omega
theorem CanS.lateS (hc:Con n m np s pq ps) (h:CanS n m np s pq ps dl df c) (f0:0≤f) (f1:f < n) (hq:q∈rowAt (tFoes s.t) f) (hn:df f q 2=false):CanS n m np s pq ps dl (upd df f q 2) (Cr.onLate1 c f):=by
 have hR:=h.backsR hc.ok.small.2 f0 f1
 obtain ⟨hnd,hlen,_⟩:=hc.foes f f0 f1
 have hU1:∀ y g,upd df f q 2 y g 1=df y g 1:=fun y g=>upd_k (by decide)
 have hless:=countP_less (f:=fun b=>!df f b 2) (g:=fun b=>!upd df f q 2 f b 2) hnd hq (by simp [hn]) (by simp [upd_at]) (fun i hi=>by rw [upd_b hi])
 have hother:∀ y,y≠f→(rowAt (tFoes s.t) y).countP (fun g=>!upd df f q 2 y g 2)=(rowAt (tFoes s.t) y).countP (fun g=>!df y g 2):=fun y hy=>countP_same fun b _=>by rw [upd_r hy]
 have hc1:∀ (y:Int),0≤y→y < n→gb c.clash y=true→∃ g∈rowAt (tFoes s.t) y,upd df f q 2 y g 1=true:=fun y y0 y1 hy=>by simp only [hU1];exact h.clash1 y y0 y1 hy
 have hc2:∀ (y:Int),0≤y→y < n→∀ g∈rowAt (tFoes s.t) y,upd df f q 2 y g 1=true→gb c.clash y=true∨gi c.backs y=0:=fun y y0 y1 g hg=>by simp only [hU1];exact h.clash2 y y0 y1 g hg
 obtain ⟨o1,o2⟩:=h.opn1 f f0 f1
 unfold Cr.onLate1
 split
 ·rename_i hb
  have hset:∀ (x:Int),0≤x→gi (En.dec c.opn f) x=if x=f then gi c.opn f - 1 else gi c.opn x:=fun x x0=>gi_dec h.lop f0 f1 x0 (by omega) (by omega)
  refine ⟨h.lnd,h.ldd,h.lbk,h.lbd,by show (En.dec _ _).length=n;rw [dec_len];exact h.lop,h.lcl,h.lsd,h.pr.congr rfl rfl,h.need,h.dead,h.backs,h.backed,fun y y0 y1=>?_,fun y y0 y1=>?_,hc1,hc2,h.sett,h.left,h.stand⟩
  ·show _≤gi (En.dec c.opn f) y∧gi (En.dec c.opn f) y≤64
   rw [hset y y0]
   by_cases e:y=f
   ·subst e;rw [if_pos rfl];omega
   ·rw [if_neg e,hother y e];exact h.opn1 y y0 y1
  ·show gi (En.dec c.opn f) y=_∨_
   rw [hset y y0]
   by_cases e:y=f
   ·subst e
    rw [if_pos rfl]
    rcases h.opn2 y y0 y1 with k | ⟨k1,k2⟩
    ·left;rw [k];omega
    ·exfalso
     rw [Bool.or_eq_true,decide_eq_true_iff] at hb
     rcases hb with hb | hb
     ·have:0 < gi c.backs y:=hb
      omega
     ·rw [show gb c.backed y=true from hb] at k2;cases k2
   ·rw [if_neg e,hother y e];exact h.opn2 y y0 y1
 ·rename_i hb
  rw [Bool.or_eq_true,decide_eq_true_iff] at hb
  have hz:gi c.backs f=0:=by
   have:¬ 0 < gi c.backs f:=fun k=>hb (.inl k)
   omega
  have hz2:gb c.backed f=false:=by
   cases hh:gb c.backed f with
   | false=>rfl
   | true=>exact absurd (.inr hh) hb
  refine ⟨h.lnd,h.ldd,h.lbk,h.lbd,h.lop,h.lcl,h.lsd,h.pr,h.need,h.dead,h.backs,h.backed,fun y y0 y1=>?_,fun y y0 y1=>?_,hc1,hc2,h.sett,h.left,h.stand⟩
  ·by_cases e:y=f
   ·subst e;omega
   ·rw [hother y e];exact h.opn1 y y0 y1
  ·by_cases e:y=f
   ·subst e;exact .inr ⟨hz,hz2⟩
   ·rw [hother y e];exact h.opn2 y y0 y1
theorem CanS.congr {c':Cr} {dl':Int→Int→Int→Bool} (h:CanS n m np s pq ps dl df c) (he:c'={ c with needD:=c'.needD,deadD:=c'.deadD,strict:=c'.strict }) (h3:∀ r b,dl' r b 3=dl r b 3) (h4:∀ r b,dl' r b 4=dl r b 4):CanS n m np s pq ps dl' df c':=by
 rw [he]
 exact ⟨h.lnd,h.ldd,h.lbk,h.lbd,h.lop,h.lcl,h.lsd,h.pr.congr rfl rfl,fun r r0 r1=>by simp only [h3];exact h.need r r0 r1,fun r r0 r1=>by simp only [h4];exact h.dead r r0 r1,h.backs,h.backed,h.opn1,h.opn2,h.clash1,h.clash2,h.sett,h.left,h.stand⟩
end
end Go.Proofs.YtbcdgcodnkgdoaaGreat
namespace Go.Proofs.YtbcdgcodnkgdoaaGreat
open Go Go.RowKit
section
variable {n m np:Nat} {s:Es} {pq ps:Int→Int} {fact:Int→Bool} {dl dl' df df':Int→Int→Int→Bool} {c c':Cr} {p q r x f k:Int}
theorem CanD.cg (h:CanD n m s fact dl c) (h1:∀ (r:Int),0≤r→r < m→∀ b∈bd s r,dl' r b 1=dl r b 1) (h2:∀ (r:Int),0≤r→r < m→∀ b∈bd s r,dl' r b 2=dl r b 2):CanD n m s fact dl' c:=
 ⟨h.lnD,h.ldD,h.lst,fun r r0 r1 hs=>by rw [h.needD r r0 r1 hs];congr 1;exact countP_same fun b hb=>by rw [h1 r r0 r1 b hb],fun r r0 r1=>by
  rw [h.deadD r r0 r1]
  congr 1
  refine Bool.eq_iff_iff.2 ?_
  rw [List.any_eq_true,List.any_eq_true]
  exact ⟨fun ⟨b,hb,hd⟩=>⟨b,hb,by rw [h2 r r0 r1 b hb];exact hd⟩,fun ⟨b,hb,hd⟩=>⟨b,hb,by rw [← h2 r r0 r1 b hb];exact hd⟩⟩,h.strict,h.strictF⟩
theorem CanS.cg (h:CanS n m np s pq ps dl df c) (h3:∀ (r:Int),0≤r→r < m→∀ b∈bd s r,dl' r b 3=dl r b 3) (h4:∀ (r:Int),0≤r→r < m→∀ b∈bd s r,dl' r b 4=dl r b 4) (g1:∀ (q:Int),0≤q→q < n→∀ f∈rowAt (tFoes s.t) q,df' q f 1=df q f 1) (g2:∀ (q:Int),0≤q→q < n→∀ f∈rowAt (tFoes s.t) q,df' q f 2=df q f 2):CanS n m np s pq ps dl' df' c:=by
 have hcnt:∀ (y:Int),0≤y→y < n→(rowAt (tFoes s.t) y).countP (fun f=>!df' y f 2)=(rowAt (tFoes s.t) y).countP (fun f=>!df y f 2):=fun y y0 y1=>countP_same fun b hb=>by rw [g2 y y0 y1 b hb]
 refine ⟨h.lnd,h.ldd,h.lbk,h.lbd,h.lop,h.lcl,h.lsd,h.pr,fun r r0 r1=>by rw [h.need r r0 r1];congr 1;exact countP_same fun b hb=>by rw [h3 r r0 r1 b hb],fun r r0 r1=>?_,h.backs,h.backed,fun y y0 y1=>by rw [hcnt y y0 y1];exact h.opn1 y y0 y1,fun y y0 y1=>by rw [hcnt y y0 y1];exact h.opn2 y y0 y1,fun y y0 y1 hy=>?_,fun y y0 y1 f hf hd=>h.clash2 y y0 y1 f hf (by rw [← g1 y y0 y1 f hf];exact hd),h.sett,h.left,h.stand⟩
 ·rw [h.dead r r0 r1]
  refine Bool.eq_iff_iff.2 ?_
  rw [List.any_eq_true,List.any_eq_true]
  exact ⟨fun ⟨b,hb,hd⟩=>⟨b,hb,by rw [h4 r r0 r1 b hb];exact hd⟩,fun ⟨b,hb,hd⟩=>⟨b,hb,by rw [← h4 r r0 r1 b hb];exact hd⟩⟩
 ·obtain ⟨f,hf,hd⟩:=h.clash1 y y0 y1 hy
  exact ⟨f,hf,by rw [g1 y y0 y1 f hf];exact hd⟩
def updL (dl:Int→Int→Int→Bool) (L:List Int) (q k:Int):Int→Int→Int→Bool:=fun r b k'=>dl r b k' || (L.contains r&&b == q&&k' == k)
theorem updL_cons {L:List Int}:updL (upd dl r q k) L q k=updL dl (r::L) q k:=by
 funext r' b k'
 unfold updL upd
 rw [List.contains_cons]
 cases dl r' b k' <;> cases (r' == r) <;> cases (b == q) <;> cases (k' == k) <;> simp
theorem fold_upd {P:(Int→Int→Int→Bool)→Cr→Prop} {g:Cr→Int→Cr} {ok:Int→Prop} (hstep:∀ dl c r,ok r→dl r q k=false→P dl c→P (upd dl r q k) (g c r)):∀ {L:List Int} {dl:Int→Int→Int→Bool} {c:Cr},L.Nodup→(∀ r∈L,ok r∧dl r q k=false)→P dl c→P (updL dl L q k) (L.foldl g c)
 | [],dl,c,_,_,h=>by
  have:updL dl [] q k=dl:=by funext r b k';simp [updL]
  rw [this];exact h
 | r::L,dl,c,hn,hL,h=>by
  rw [List.nodup_cons] at hn
  obtain ⟨h1,h2⟩:=hL r (List.mem_cons_self ..)
  have:=fold_upd hstep (L:=L) hn.2 (fun r' hr'=>⟨(hL r' (List.mem_cons_of_mem _ hr')).1,by
   rw [upd_r (r:=r) (fun (e:r'=r)=>hn.1 (by rw [← e];exact hr'))];exact (hL r' (List.mem_cons_of_mem _ hr')).2⟩) (hstep dl c r h1 h2 h)
  rw [updL_cons] at this
  exact this
theorem fold_upd0 {P:(Int→Int→Int→Bool)→Cr→Prop} {g:Cr→Int→Cr} {ok:Int→Prop} (hstep:∀ dl c r,ok r→P dl c→P (upd dl r q k) (g c r)):∀ {L:List Int} {dl:Int→Int→Int→Bool} {c:Cr},(∀ r∈L,ok r)→P dl c→P (updL dl L q k) (L.foldl g c)
 | [],dl,c,_,h=>by
  have:updL dl [] q k=dl:=by funext r b k';simp [updL]
  rw [this];exact h
 | r::L,dl,c,hL,h=>by
  have:=fold_upd0 hstep (L:=L) (fun r' hr'=>hL r' (List.mem_cons_of_mem _ hr')) (hstep dl c r (hL r (List.mem_cons_self ..)) h)
  rw [updL_cons] at this
  exact this
structure Can (n m np:Nat) (s:Es) (pq ps:Int→Int) (fact:Int→Bool) (laid Pr:Int→Int→Bool) (c:Cr):Prop where
 d:CanD n m s fact (fun _ b k=>Pr b k) c
 s:CanS n m np s pq ps (fun _ b k=>Pr b k) (fun _ f k=>Pr f k || laid f k) c
def addP (Pr:Int→Int→Bool) (q k:Int):Int→Int→Bool:=fun b k'=>Pr b k' || (b == q&&k' == k)
variable {laid Pr:Int→Int→Bool}
theorem addP_k {b k':Int} (h:k'≠k):addP Pr q k b k'=Pr b k':=by simp [addP,h]
theorem updL_inn (hc:Con n m np s pq ps) (q0:0≤q) (q1:q < n) (hr:0≤r∧r < m) {b:Int} (hb:b∈bd s r) {k':Int}:addP Pr q k b k'=updL (fun _ b k=>Pr b k) (rowAt s.inn q) q k r b k':=by
 unfold addP updL
 by_cases e:b=q
 ·subst e
  have:(rowAt s.inn b).contains r=true:=by rw [List.contains_iff_mem];exact ((hc.inn b q0 q1).2 r).2 ⟨hr,hb⟩
  rw [this];simp
 ·have:(b == q)=false:=by rw [beq_eq_false_iff_ne];exact e
  rw [this];simp
theorem updL_foes (hsym:∀ (q:Int),0≤q→q < n→∀ f∈rowAt (tFoes s.t) q,q∈rowAt (tFoes s.t) f) {y:Int} (y0:0≤y) (y1:y < n) (hff:f∈rowAt (tFoes s.t) y):(addP Pr q k f k || laid f k)=updL (fun _ f k=>Pr f k || laid f k) (rowAt (tFoes s.t) q) q k y f k:=by
 unfold addP updL
 by_cases e:f=q
 ·subst e
  have:(rowAt (tFoes s.t) f).contains y=true:=by rw [List.contains_iff_mem];exact hsym y y0 y1 f hff
  rw [this];simp
 ·have:(f == q)=false:=by rw [beq_eq_false_iff_ne];exact e
  rw [this];simp
theorem Can.plusD (hc:Con n m np s pq ps) (hsym:∀ (q:Int),0≤q→q < n→∀ f∈rowAt (tFoes s.t) q,q∈rowAt (tFoes s.t) f) (h:Can n m np s pq ps fact laid Pr c) (q0:0≤q) (q1:q < n) (hP:Pr q 1=false):Can n m np s pq ps fact laid (addP Pr q 1) (Cr.onPlusD s c q):=by
 unfold Cr.onPlusD
 obtain ⟨hn1,hi⟩:=hc.inn q q0 q1
 obtain ⟨hn2,_,hf⟩:=hc.foes q q0 q1
 have h1:=fold_upd (q:=q) (k:=1) (P:=fun dl c=>CanD n m s fact dl c∧CanS n m np s pq ps (fun _ b k=>Pr b k) (fun _ f k=>Pr f k || laid f k) c) (g:=Cr.onPlusD1 s) (ok:=fun r=>(0≤r∧r < m)∧q∈bd s r)
  (fun dl c r hr hd ⟨a1,a2⟩=>⟨a1.plusD1 hc hr.1.1 hr.1.2 hr.2 hd,a2.congr (by unfold Cr.onPlusD1;split <;> rfl) (fun _ _=>rfl) (fun _ _=>rfl)⟩) hn1 (fun r hr=>⟨(hi r).1 hr,hP⟩) ⟨h.d,h.s⟩
 obtain ⟨a1,a2⟩:=h1
 generalize (rowAt s.inn q).foldl (Cr.onPlusD1 s) c=c1 at *
 have hd1:CanD n m s fact (fun _ b k=>addP Pr q 1 b k) c1:=a1.cg (fun r r0 r1 b hb=>updL_inn hc q0 q1 ⟨r0,r1⟩ hb) (fun r r0 r1 b hb=>updL_inn hc q0 q1 ⟨r0,r1⟩ hb)
 have h2:=fold_upd0 (q:=q) (k:=1) (c:=c1) (P:=fun df c=>CanD n m s fact (fun _ b k=>addP Pr q 1 b k) c∧CanS n m np s pq ps (fun _ b k=>Pr b k) df c) (g:=Cr.onPlusD2) (dl:=fun _ f k=>Pr f k || laid f k) (ok:=fun f=>(0≤f∧f < n)∧q∈rowAt (tFoes s.t) f)
  (fun df c f hr ⟨a1,a2⟩=>⟨a1.congr (by unfold Cr.onPlusD2;split <;> rfl) (by unfold Cr.onPlusD2;split <;> rfl) (by unfold Cr.onPlusD2;split <;> rfl) (fun _ _=>rfl) (fun _ _=>rfl),a2.clashS hc hr.1.1 hr.1.2 hr.2⟩) (L:=rowAt (tFoes s.t) q) (fun f hff=>⟨hf f hff,hsym q q0 q1 f hff⟩) ⟨hd1,a2⟩
 refine ⟨h2.1,h2.2.cg (fun r r0 r1 b hb=>addP_k (by decide)) (fun r r0 r1 b hb=>addP_k (by decide)) (fun y y0 y1 f hff=>?_) (fun y y0 y1 f hff=>?_)⟩
 ·exact updL_foes hsym y0 y1 hff
 ·rw [addP_k (by decide)];unfold updL;simp
theorem can_noD (hc:Con n m np s pq ps) (hd:CanD n m s fact (fun _ b k=>Pr b k) c) (hs:CanS n m np s pq ps (fun _ b k=>Pr b k) df c) (q0:0≤q) (q1:q < n):CanD n m s fact (fun _ b k=>addP Pr q 2 b k) (Cr.onNoD s c q)∧CanS n m np s pq ps (fun _ b k=>addP Pr q 2 b k) df (Cr.onNoD s c q):=by
 unfold Cr.onNoD
 obtain ⟨hn1,hi⟩:=hc.inn q q0 q1
 have h1:=fold_upd0 (q:=q) (k:=2) (c:=c) (P:=fun dl c=>CanD n m s fact dl c∧CanS n m np s pq ps (fun _ b k=>Pr b k) df c) (g:=Cr.onNoD1 s) (ok:=fun r=>(0≤r∧r < m)∧q∈bd s r)
  (fun dl c r hr ⟨a1,a2⟩=>⟨a1.noD1 hc hc.ok.small.2 hr.1.1 hr.1.2 hr.2,a2.congr (by unfold Cr.onNoD1;split <;> rfl) (fun _ _=>rfl) (fun _ _=>rfl)⟩) (L:=rowAt s.inn q) (fun r hr=>(hi r).1 hr) ⟨hd,hs⟩
 exact ⟨h1.1.cg (fun r r0 r1 b hb=>updL_inn hc q0 q1 ⟨r0,r1⟩ hb) (fun r r0 r1 b hb=>updL_inn hc q0 q1 ⟨r0,r1⟩ hb),h1.2.cg (fun r r0 r1 b hb=>addP_k (by decide)) (fun r r0 r1 b hb=>addP_k (by decide)) (fun _ _ _ _ _=>rfl) (fun _ _ _ _ _=>rfl)⟩
theorem Can.noD (hc:Con n m np s pq ps) (h:Can n m np s pq ps fact laid Pr c) (q0:0≤q) (q1:q < n) (hl:laid q 2=true):Can n m np s pq ps fact laid (addP Pr q 2) (Cr.onNoD s c q):=by
 obtain ⟨h1,h2⟩:=can_noD hc h.d h.s q0 q1
 refine ⟨h1,h2.cg (fun _ _ _ _ _=>rfl) (fun _ _ _ _ _=>rfl) (fun y y0 y1 f hf=>by rw [addP_k (by decide)]) (fun y y0 y1 f hf=>?_)⟩
 unfold addP
 by_cases e:f=q
 ·subst e;rw [hl];simp
 ·have:(f == q)=false:=by rw [beq_eq_false_iff_ne];exact e
  rw [this];simp
theorem Can.late (hc:Con n m np s pq ps) (hsym:∀ (q:Int),0≤q→q < n→∀ f∈rowAt (tFoes s.t) q,q∈rowAt (tFoes s.t) f) (h:Can n m np s pq ps fact laid Pr c) (q0:0≤q) (q1:q < n) (hP:Pr q 2=false) (hl:laid q 2=false):Can n m np s pq ps fact laid (addP Pr q 2) (Cr.onLate s c q):=by
 unfold Cr.onLate
 obtain ⟨hn2,_,hf⟩:=hc.foes q q0 q1
 have h2:=fold_upd (q:=q) (k:=2) (c:=c) (P:=fun df c=>CanD n m s fact (fun _ b k=>Pr b k) c∧CanS n m np s pq ps (fun _ b k=>Pr b k) df c) (g:=Cr.onLate1) (dl:=fun _ f k=>Pr f k || laid f k) (ok:=fun f=>(0≤f∧f < n)∧q∈rowAt (tFoes s.t) f)
  (fun df c f hr hd ⟨a1,a2⟩=>⟨a1.congr (by unfold Cr.onLate1;split <;> rfl) (by unfold Cr.onLate1;split <;> rfl) (by unfold Cr.onLate1;split <;> rfl) (fun _ _=>rfl) (fun _ _=>rfl),a2.lateS hc hr.1.1 hr.1.2 hr.2 hd⟩) (L:=rowAt (tFoes s.t) q) hn2 (fun f hff=>⟨⟨hf f hff,hsym q q0 q1 f hff⟩,by rw [hP,hl];rfl⟩) ⟨h.d,h.s⟩
 obtain ⟨g1,g2⟩:=can_noD hc h2.1 h2.2 q0 q1
 refine ⟨g1,g2.cg (fun _ _ _ _ _=>rfl) (fun _ _ _ _ _=>rfl) (fun y y0 y1 f hff=>?_) (fun y y0 y1 f hff=>updL_foes hsym y0 y1 hff)⟩
 rw [addP_k (by decide)];unfold updL;simp
theorem Can.plus (hc:Con n m np s pq ps) (h:Can n m np s pq ps fact laid Pr c) (q0:0≤q) (q1:q < n) (hP:Pr q 3=false) (hco:∀ b,addP Pr q 3 b 3=true→Pr b 4=false):Can n m np s pq ps fact laid (addP Pr q 3) (Cr.onPlus s c q):=by
 unfold Cr.onPlus
 obtain ⟨hn1,hi⟩:=hc.inn q q0 q1
 have h1:=fold_upd (q:=q) (k:=3) (c:=c) (dl:=fun _ b k=>Pr b k) (P:=fun dl c=>CanD n m s fact (fun _ b k=>Pr b k) c∧CanS n m np s pq ps dl (fun _ f k=>Pr f k || laid f k) c∧(∀ r b,dl r b 3=true→addP Pr q 3 b 3=true)∧∀ r b,dl r b 4=Pr b 4) (g:=Cr.onPlus1 s) (ok:=fun r=>(0≤r∧r < m)∧q∈bd s r)
  (fun dl c r hr hd ⟨a1,a2,a3,a4⟩=>by
   have hU:∀ r' b,upd dl r q 3 r' b 3=true→addP Pr q 3 b 3=true:=fun r' b hu=>by
    unfold upd at hu
    rw [Bool.or_eq_true,Bool.and_eq_true,Bool.and_eq_true] at hu
    rcases hu with hu | hu
    ·exact a3 r' b hu
    ·rw [beq_iff_eq.1 hu.1.2];simp [addP]
   refine ⟨?_,a2.plus1 hc hr.1.1 hr.1.2 hr.2 hd (fun hall b hb=>by rw [a4 r b];exact hco b (hU r b (hall b hb))),hU,fun r' b=>by rw [upd_k (by decide)];exact a4 r' b⟩
   have F:=fire_ok (c:={ c with need:=En.dec c.need r }) hc a2.lbd a2.lsd (a2.pr.congr rfl rfl) hr.1.1 hr.1.2
   unfold Cr.onPlus1
   dsimp only
   split
   ·exact a1.congr (by rw [F.eq]) (by rw [F.eq]) (by rw [F.eq]) (fun _ _=>rfl) (fun _ _=>rfl)
   ·exact a1.congr rfl rfl rfl (fun _ _=>rfl) (fun _ _=>rfl)) (L:=rowAt s.inn q) hn1 (fun r hr=>⟨(hi r).1 hr,hP⟩) ⟨h.d,h.s,fun r b hb=>by simp only [addP];rw [hb];rfl,fun _ _=>rfl⟩
 obtain ⟨a1,a2,_,_⟩:=h1
 exact ⟨a1.cg (fun r r0 r1 b hb=>addP_k (by decide)) (fun r r0 r1 b hb=>addP_k (by decide)),a2.cg (fun r r0 r1 b hb=>updL_inn hc q0 q1 ⟨r0,r1⟩ hb) (fun r r0 r1 b hb=>updL_inn hc q0 q1 ⟨r0,r1⟩ hb) (fun y y0 y1 f hf=>by rw [addP_k (by decide)]) (fun y y0 y1 f hf=>by rw [addP_k (by decide)])⟩
theorem minus1_D (c:Cr) (hc:Con n m np s pq ps) (h:CanS n m np s pq ps dl df c) (r0:0≤r) (r1:r < m):(Cr.onMinus1 s c r).needD=c.needD∧(Cr.onMinus1 s c r).deadD=c.deadD∧(Cr.onMinus1 s c r).strict=c.strict:=by
 have hst:∀ (L:List Int) (c:Cr),(L.foldl Cr.settle c).needD=c.needD∧(L.foldl Cr.settle c).deadD=c.deadD∧(L.foldl Cr.settle c).strict=c.strict:=fun L=>by
  induction L with
  | nil=>intro c;exact ⟨rfl,rfl,rfl⟩
  | cons p L ih=>
   intro c
   rw [List.foldl_cons]
   obtain ⟨e1,e2,e3⟩:=ih (c.settle p)
   rw [e1,e2,e3]
   unfold Cr.settle
   split <;> exact ⟨rfl,rfl,rfl⟩
 have hmi:∀ (L:List Int) (c:Cr),(L.foldl Cr.onMinus2 c).needD=c.needD∧(L.foldl Cr.onMinus2 c).deadD=c.deadD∧(L.foldl Cr.onMinus2 c).strict=c.strict:=fun L=>by
  induction L with
  | nil=>intro c;exact ⟨rfl,rfl,rfl⟩
  | cons p L ih=>
   intro c
   rw [List.foldl_cons]
   obtain ⟨e1,e2,e3⟩:=ih (c.onMinus2 p)
   rw [e1,e2,e3]
   unfold Cr.onMinus2 Cr.stand
   split <;> exact ⟨rfl,rfl,rfl⟩
 unfold Cr.onMinus1
 split
 ·exact ⟨rfl,rfl,rfl⟩
 ·dsimp only
  obtain ⟨e1,e2,e3⟩:=hst (rowAt s.of r) { c with dead:=c.dead.set r.toNat true }
  split
  ·obtain ⟨g1,g2,g3⟩:=hmi (rowAt s.beats r) { ((rowAt s.of r).foldl Cr.settle { c with dead:=c.dead.set r.toNat true }) with backs:=En.dec ((rowAt s.of r).foldl Cr.settle { c with dead:=c.dead.set r.toNat true }).backs (ruleAt s.t r).2.1 }
   exact ⟨g1.trans e1,g2.trans e2,g3.trans e3⟩
  ·exact ⟨e1,e2,e3⟩
theorem Can.minus (hc:Con n m np s pq ps) (h:Can n m np s pq ps fact laid Pr c) (q0:0≤q) (q1:q < n):Can n m np s pq ps fact laid (addP Pr q 4) (Cr.onMinus s c q):=by
 unfold Cr.onMinus
 obtain ⟨hn1,hi⟩:=hc.inn q q0 q1
 have h1:=fold_upd0 (q:=q) (k:=4) (c:=c) (dl:=fun _ b k=>Pr b k) (P:=fun dl c=>CanD n m s fact (fun _ b k=>Pr b k) c∧CanS n m np s pq ps dl (fun _ f k=>Pr f k || laid f k) c) (g:=Cr.onMinus1 s) (ok:=fun r=>(0≤r∧r < m)∧q∈bd s r)
  (fun dl c r hr ⟨a1,a2⟩=>⟨(have e:=minus1_D c hc a2 hr.1.1 hr.1.2;a1.congr e.1 e.2.1 e.2.2 (fun _ _=>rfl) (fun _ _=>rfl)),a2.minus1 hc hr.1.1 hr.1.2 hr.2⟩) (L:=rowAt s.inn q) (fun r hr=>(hi r).1 hr) ⟨h.d,h.s⟩
 obtain ⟨a1,a2⟩:=h1
 exact ⟨a1.cg (fun r r0 r1 b hb=>addP_k (by decide)) (fun r r0 r1 b hb=>addP_k (by decide)),a2.cg (fun r r0 r1 b hb=>updL_inn hc q0 q1 ⟨r0,r1⟩ hb) (fun r r0 r1 b hb=>updL_inn hc q0 q1 ⟨r0,r1⟩ hb) (fun y y0 y1 f hf=>by rw [addP_k (by decide)]) (fun y y0 y1 f hf=>by rw [addP_k (by decide)])⟩
theorem Can.does {first i:Nat} (hc:Con n m np s pq ps) (hsym:∀ (q:Int),0≤q→q < n→∀ f∈rowAt (tFoes s.t) q,q∈rowAt (tFoes s.t) f) (h:Can n m np s pq ps fact laid Pr c) (q0:0≤q) (q1:q < n) (k0:1≤k) (k1:k≤4) (hP:Pr q k=false) (hl:k=2→(laid q 2=true↔i < first)) (hco:∀ b,¬ (addP Pr q k b 3=true∧addP Pr q k b 4=true)):Can n m np s pq ps fact laid (addP Pr q k) (Cr.does s first i c (q,k)):=by
 obtain rfl | rfl | rfl | rfl:k=1∨k=2∨k=3∨k=4:=by omega
 ·exact h.plusD hc hsym q0 q1 hP
 ·by_cases hi:first≤i
  ·have e:Cr.does s first i c (q,2)=Cr.onLate s c q:=by simp [Cr.does,hi]
   rw [e]
   refine h.late hc hsym q0 q1 hP ?_
   cases hh:laid q 2 with
   | false=>rfl
   | true=>have:=(hl rfl).1 hh;omega
  ·have e:Cr.does s first i c (q,2)=Cr.onNoD s c q:=by simp only [Cr.does,if_neg hi];rfl
   rw [e]
   exact h.noD hc q0 q1 ((hl rfl).2 (by omega))
 ·refine h.plus hc q0 q1 hP (fun b hb=>?_)
  cases hh:Pr b 4 with
  | false=>rfl
  | true=>exact absurd ⟨hb,by rw [addP_k (by decide)];exact hh⟩ (hco b)
 ·exact h.minus hc q0 q1
end
end Go.Proofs.YtbcdgcodnkgdoaaGreat
namespace Go.Proofs.YtbcdgcodnkgdoaaGreat
open Go Go.RowKit
structure TM (n:Nat) (e:En):Prop where
 lm:e.marks.length=n
 mks:∀ x∈e.marks,0≤x∧x < 16
 has:∀ (q k:Int),0≤q→q < n→1≤k→k≤4→(e.has q k=true↔(q,k)∈e.told)
 rng:∀ p∈e.told,(0≤p.1∧p.1 < n)∧1≤p.2∧p.2≤4
 nd:e.told.Nodup
section
variable {n m np:Nat} {e e':En} {q k x j:Int}
theorem bit_or_in {x k:Int} (x0:0≤x) (x1:x < 16) (k0:1≤k) (k1:k≤4):0≤bitsOr .u8 x (shlI .u8 1 (k - 1))∧bitsOr .u8 x (shlI .u8 1 (k - 1)) < 16:=or_in x0 x1 k0 k1
theorem has_tell (h:TM n e) (q0:0≤q) (q1:q < n) (k0:1≤k) (k1:k≤4) (x0:0≤x) (x1:x < n) (j0:1≤j) (j1:j≤4):(e.tell q k).has x j=(e.has x j || (x == q&&j == k)):=by
 have hx:=h.mks _ (getD_mem (d:=0) h.lm q0 q1)
 unfold En.tell
 by_cases hb:e.has q k=true
 ·rw [if_pos hb]
  by_cases ex:x=q
  ·by_cases ej:j=k
   ·rw [ex,ej,hb];rfl
   ·have:(j == k)=false:=by rw [beq_eq_false_iff_ne];exact ej
    rw [this];simp
  ·have:(x == q)=false:=by rw [beq_eq_false_iff_ne];exact ex
   rw [this];simp
 ·rw [if_neg hb]
  show En.bit ((e.marks.set q.toNat _).getD x.toNat 0) j=_
  rw [getD_setAt h.lm q0 q1 x0]
  by_cases ex:x=q
  ·subst ex
   rw [if_pos rfl,bit_or hx.1 hx.2 k0 k1 j0 j1]
   show (decide (j=k) || e.has x j)=_
   rw [Bool.or_comm]
   congr 1
   by_cases ej:j=k
   ·subst ej;simp
   ·rw [decide_eq_false ej,show (j == k)=false from by rw [beq_eq_false_iff_ne];exact ej];simp
  ·have:(x == q)=false:=by rw [beq_eq_false_iff_ne];exact ex
   rw [if_neg ex,this]
   simp
   rfl
theorem TM.tell (h:TM n e) (q0:0≤q) (q1:q < n) (k0:1≤k) (k1:k≤4):TM n (e.tell q k):=by
 by_cases hb:e.has q k=true
 ·have:e.tell q k=e:=by unfold En.tell;rw [if_pos hb]
  rw [this];exact h
 have hx:=h.mks _ (getD_mem (d:=0) h.lm q0 q1)
 have ht:(e.tell q k).told=e.told++[(q,k)]:=by unfold En.tell;rw [if_neg hb]
 have hm:(e.tell q k).marks=e.marks.set q.toNat (bitsOr .u8 (e.marks.getD q.toNat 0) (shlI .u8 1 (k - 1))):=by unfold En.tell;rw [if_neg hb]
 refine ⟨by rw [hm,List.length_set];exact h.lm,fun y hy=>?_,fun x j x0 x1 j0 j1=>?_,fun p hp=>?_,?_⟩
 ·rw [hm] at hy
  rcases List.mem_or_eq_of_mem_set hy with hy | rfl
  ·exact h.mks y hy
  ·exact bit_or_in hx.1 hx.2 k0 k1
 ·rw [has_tell h q0 q1 k0 k1 x0 x1 j0 j1,ht,Bool.or_eq_true,h.has x j x0 x1 j0 j1,List.mem_append,List.mem_singleton,Bool.and_eq_true,beq_iff_eq,beq_iff_eq,Prod.mk.injEq]
 ·rw [ht] at hp
  rcases List.mem_append.1 hp with hp | hp
  ·exact h.rng p hp
  ·obtain rfl:=List.mem_singleton.1 hp
   exact ⟨⟨q0,q1⟩,k0,k1⟩
 ·rw [ht,List.nodup_append]
  refine ⟨h.nd,by simp,fun a ha b hb2=>?_⟩
  rw [List.mem_singleton] at hb2
  subst hb2
  rintro rfl
  exact hb ((h.has q k q0 q1 k0 k1).2 ha)
def Up (n:Nat) (e e':En):Prop:=∀ (q k:Int),0≤q→q < n→1≤k→k≤4→e.has q k=true→e'.has q k=true
theorem Up.refl:Up n e e:=fun _ _ _ _ _ _ h=>h
theorem Up.trans {e2:En} (h:Up n e e') (h2:Up n e' e2):Up n e e2:=fun q k a b c d hh=>h2 q k a b c d (h q k a b c d hh)
theorem Up.tell (h:TM n e) (q0:0≤q) (q1:q < n) (k0:1≤k) (k1:k≤4):Up n e (e.tell q k):=fun x j x0 x1 j0 j1 hh=>by rw [has_tell h q0 q1 k0 k1 x0 x1 j0 j1,hh];rfl
def cond1 (c:Cr) (q:Int):Bool:=gb c.backed q&&(gi c.opn q == 0)&&(gi c.attacks q == 0)
def cond2 (c:Cr) (q:Int):Bool:=(gi c.backs q == 0) || gb c.clash q || gb c.standing q
theorem look1_def:e.look1 q=if (e.has q 1 || cond1 e.core q)=true then e.tell q 3 else e:=rfl
theorem look2_def:e.look2 q=if (e.has q 2&&cond2 e.core q)=true then e.tell q 4 else e:=rfl
theorem TM.look (h:TM n e) (q0:0≤q) (q1:q < n):TM n (e.look q)∧Up n e (e.look q):=by
 unfold En.look
 have h1:TM n (e.look1 q)∧Up n e (e.look1 q):=by
  rw [look1_def];split
  ·exact ⟨h.tell q0 q1 (by omega) (by omega),Up.tell h q0 q1 (by omega) (by omega)⟩
  ·exact ⟨h,Up.refl⟩
 obtain ⟨a1,a2⟩:=h1
 rw [look2_def];split
 ·exact ⟨a1.tell q0 q1 (by omega) (by omega),a2.trans (Up.tell a1 q0 q1 (by omega) (by omega))⟩
 ·exact ⟨a1,a2⟩
theorem look_has3 (h:TM n e) (q0:0≤q) (q1:q < n) (hc:e.has q 1=true∨cond1 e.core q=true):(e.look q).has q 3=true:=by
 have h1:(e.look1 q).has q 3=true∧TM n (e.look1 q):=by
  rw [look1_def,if_pos (by rw [Bool.or_eq_true];exact hc),has_tell h q0 q1 (by omega) (by omega) q0 q1 (by omega) (by omega)]
  exact ⟨by simp,h.tell q0 q1 (by omega) (by omega)⟩
 unfold En.look
 rw [look2_def];split
 ·exact Up.tell h1.2 q0 q1 (by omega) (by omega) q 3 q0 q1 (by omega) (by omega) h1.1
 ·exact h1.1
theorem look_has4 (h:TM n e) (q0:0≤q) (q1:q < n) (hd:e.has q 2=true) (hc:cond2 e.core q=true):(e.look q).has q 4=true:=by
 have h1:TM n (e.look1 q)∧(e.look1 q).has q 2=true:=by
  rw [look1_def];split
  ·exact ⟨h.tell q0 q1 (by omega) (by omega),Up.tell h q0 q1 (by omega) (by omega) q 2 q0 q1 (by omega) (by omega) hd⟩
  ·exact ⟨h,hd⟩
 unfold En.look
 rw [look2_def,if_pos (by rw [Bool.and_eq_true,core_look1];exact ⟨h1.2,hc⟩),has_tell h1.1 q0 q1 (by omega) (by omega) q0 q1 (by omega) (by omega)]
 simp
def J (n:Nat) (C:Cr) (e:En):Prop:=∀ (q:Int),0≤q→q < n→(e.has q 3=true→e.has q 1=true∨cond1 C q=true)∧(e.has q 4=true→e.has q 2=true∧cond2 C q=true)
def Pre (n:Nat) (c C:Cr):Prop:=∀ (q:Int),0≤q→q < n→(cond1 c q=true→cond1 C q=true)∧(cond2 c q=true→cond2 C q=true)
theorem Pre.refl {c:Cr}:Pre n c c:=fun q _ _=>⟨id,id⟩
theorem J.mono {c C:Cr} (h:J n c e) (hp:Pre n c C):J n C e:=fun q q0 q1=>⟨fun h3=>((h q q0 q1).1 h3).imp id (hp q q0 q1).1,fun h4=>⟨((h q q0 q1).2 h4).1,(hp q q0 q1).2 ((h q q0 q1).2 h4).2⟩⟩
theorem J.tell12 {C:Cr} (ht:TM n e) (h:J n C e) (q0:0≤q) (q1:q < n) (k0:1≤k) (k1:k≤2):J n C (e.tell q k):=fun x x0 x1=>by
 have hh:∀ j,1≤j→j≤4→(e.tell q k).has x j=(e.has x j || (x == q&&j == k)):=fun j j0 j1=>has_tell ht q0 q1 k0 (by omega) x0 x1 j0 j1
 rw [hh 3 (by omega) (by omega),hh 4 (by omega) (by omega),hh 1 (by omega) (by omega),hh 2 (by omega) (by omega)]
 have e3:((3:Int) == k)=false:=by rw [beq_eq_false_iff_ne];omega
 have e4:((4:Int) == k)=false:=by rw [beq_eq_false_iff_ne];omega
 rw [e3,e4,Bool.and_false,Bool.or_false,Bool.or_false]
 exact ⟨fun h3=>((h x x0 x1).1 h3).imp (fun h1=>by rw [h1];rfl) id,fun h4=>⟨by rw [((h x x0 x1).2 h4).1];rfl,((h x x0 x1).2 h4).2⟩⟩
theorem J.look {C:Cr} (ht:TM n e) (h:J n C e) (hp:Pre n e.core C) (q0:0≤q) (q1:q < n):J n C (e.look q):=by
 unfold En.look
 have h1:J n C (e.look1 q)∧TM n (e.look1 q):=by
  rw [look1_def]
  split
  ·rename_i hc
   rw [Bool.or_eq_true] at hc
   refine ⟨fun x x0 x1=>?_,ht.tell q0 q1 (by omega) (by omega)⟩
   have hh:∀ j,1≤j→j≤4→(e.tell q 3).has x j=(e.has x j || (x == q&&j == 3)):=fun j j0 j1=>has_tell ht q0 q1 (by omega) (by omega) x0 x1 j0 j1
   rw [hh 3 (by omega) (by omega),hh 4 (by omega) (by omega),hh 1 (by omega) (by omega),hh 2 (by omega) (by omega)]
   refine ⟨fun h3=>?_,fun h4=>?_⟩
   ·rw [Bool.or_eq_true,Bool.and_eq_true] at h3
    rcases h3 with h3 | ⟨h3,_⟩
    ·exact ((h x x0 x1).1 h3).imp (fun h1=>by rw [h1];rfl) id
    ·obtain rfl:=beq_iff_eq.1 h3
     exact hc.imp (fun h1=>by rw [h1];rfl) (hp x x0 x1).1
   ·have:((4:Int) == 3)=false:=by decide
    rw [this,Bool.and_false,Bool.or_false] at h4
    exact ⟨by rw [((h x x0 x1).2 h4).1];rfl,((h x x0 x1).2 h4).2⟩
  ·exact ⟨h,ht⟩
 obtain ⟨h1,ht1⟩:=h1
 have hp1:Pre n (e.look1 q).core C:=by rw [core_look1];exact hp
 generalize e.look1 q=e1 at *
 rw [look2_def]
 split
 ·rename_i hc
  rw [Bool.and_eq_true] at hc
  intro x x0 x1
  have hh:∀ j,1≤j→j≤4→(e1.tell q 4).has x j=(e1.has x j || (x == q&&j == 4)):=fun j j0 j1=>has_tell ht1 q0 q1 (by omega) (by omega) x0 x1 j0 j1
  rw [hh 3 (by omega) (by omega),hh 4 (by omega) (by omega),hh 1 (by omega) (by omega),hh 2 (by omega) (by omega)]
  refine ⟨fun h3=>?_,fun h4=>?_⟩
  ·have:((3:Int) == 4)=false:=by decide
   rw [this,Bool.and_false,Bool.or_false] at h3
   exact ((h1 x x0 x1).1 h3).imp (fun h1=>by rw [h1];rfl) id
  ·rw [Bool.or_eq_true,Bool.and_eq_true] at h4
   rcases h4 with h4 | ⟨h4,_⟩
   ·exact ⟨by rw [((h1 x x0 x1).2 h4).1];rfl,((h1 x x0 x1).2 h4).2⟩
   ·obtain rfl:=beq_iff_eq.1 h4
    exact ⟨by rw [hc.1];rfl,(hp1 x x0 x1).2 hc.2⟩
 ·exact h1
end
end Go.Proofs.YtbcdgcodnkgdoaaGreat
namespace Go.Proofs.YtbcdgcodnkgdoaaGreat
open Go Go.RowKit
def closed (Pr:Int→Int→Bool) (e:En) (q:Int):Prop:=((Pr q 1=true∨cond1 e.core q=true)→e.has q 3=true)∧(Pr q 2=true→cond2 e.core q=true→e.has q 4=true)
structure Kp (n:Nat) (Pr:Int→Int→Bool) (X:Int→Prop) (e:En):Prop where
 tm:TM n e
 j:J n e.core e
 cl:∀ (q:Int),0≤q→q < n→¬ X q→closed Pr e q
 p1:∀ (q:Int),0≤q→q < n→Pr q 1=true→e.has q 1=true
 p2:∀ (q:Int),0≤q→q < n→Pr q 2=true→e.has q 2=true
section
variable {n m np:Nat} {s:Es} {pq ps:Int→Int} {Pr:Int→Int→Bool} {X Y:Int→Prop} {e e1:En} {q r p k h f:Int}
theorem Kp.weaken (h:Kp n Pr X e) (hX:∀ q,X q→Y q):Kp n Pr Y e:=⟨h.tm,h.j,fun q q0 q1 hq=>h.cl q q0 q1 (fun k=>hq (hX q k)),h.p1,h.p2⟩
theorem has_same (hm:e1.marks=e.marks):e1.has q k=e.has q k:=by unfold En.has;rw [hm]
theorem TM.same (h:TM n e) (hm:e1.marks=e.marks) (ht:e1.told=e.told):TM n e1:=⟨by rw [hm];exact h.lm,by rw [hm];exact h.mks,fun q k a b c d=>by rw [has_same hm,ht];exact h.has q k a b c d,by rw [ht];exact h.rng,by rw [ht];exact h.nd⟩
theorem Kp.mod (h:Kp n Pr X e) (hm:e1.marks=e.marks) (ht:e1.told=e.told) (hp:Pre n e.core e1.core) (hs:∀ (x:Int),0≤x→x < n→¬ Y x→¬ X x∧cond1 e1.core x=cond1 e.core x∧cond2 e1.core x=cond2 e.core x):Kp n Pr Y e1:=by
 refine ⟨h.tm.same hm ht,fun q q0 q1=>?_,fun q q0 q1 hq=>?_,fun q q0 q1 hq=>by rw [has_same hm];exact h.p1 q q0 q1 hq,fun q q0 q1 hq=>by rw [has_same hm];exact h.p2 q q0 q1 hq⟩
 ·have:=(h.j.mono hp) q q0 q1
  rw [has_same hm,has_same hm,has_same hm,has_same hm]
  exact this
 ·obtain ⟨h1,h2,h3⟩:=hs q q0 q1 hq
  have:=h.cl q q0 q1 h1
  unfold closed at this ⊢
  rw [h2,h3,has_same hm,has_same hm]
  exact this
theorem Kp.same (h:Kp n Pr X e) (hm:e1.marks=e.marks) (ht:e1.told=e.told) (hc:e1.core=e.core):Kp n Pr X e1:=h.mod hm ht (by rw [hc];exact Pre.refl) (fun x _ _ hx=>⟨hx,by rw [hc],by rw [hc]⟩)
theorem Kp.ups (h:Kp n Pr X e):Kp n Pr X (e.ups k):=h.same rfl rfl rfl
theorem Kp.upL (h:Kp n Pr X e):Kp n Pr X (En.upL s e r):=by unfold En.upL;split <;> first | exact h.ups | exact h
theorem Kp.tell (h:Kp n Pr X e) (q0:0≤q) (q1:q < n) (k0:1≤k) (k1:k≤2):Kp n Pr X (e.tell q k):=by
 have hu:=Up.tell h.tm q0 q1 k0 (by omega:k≤4)
 refine ⟨h.tm.tell q0 q1 k0 (by omega),by rw [core_tell];exact h.j.tell12 h.tm q0 q1 k0 k1,fun x x0 x1 hx=>?_,fun x x0 x1 hx=>hu x 1 x0 x1 (by omega) (by omega) (h.p1 x x0 x1 hx),fun x x0 x1 hx=>hu x 2 x0 x1 (by omega) (by omega) (h.p2 x x0 x1 hx)⟩
 have:=h.cl x x0 x1 hx
 unfold closed at this ⊢
 rw [core_tell]
 exact ⟨fun k=>hu x 3 x0 x1 (by omega) (by omega) (this.1 k),fun a b=>hu x 4 x0 x1 (by omega) (by omega) (this.2 a b)⟩
theorem Kp.look (h:Kp n Pr X e) (q0:0≤q) (q1:q < n):Kp n Pr (fun x=>X x∧x≠q) (e.look q):=by
 obtain ⟨ht,hu⟩:=h.tm.look q0 q1
 refine ⟨ht,by rw [core_look];exact h.j.look h.tm Pre.refl q0 q1,fun x x0 x1 hx=>?_,fun x x0 x1 hx=>hu x 1 x0 x1 (by omega) (by omega) (h.p1 x x0 x1 hx),fun x x0 x1 hx=>hu x 2 x0 x1 (by omega) (by omega) (h.p2 x x0 x1 hx)⟩
 unfold closed
 rw [core_look]
 by_cases ex:x=q
 ·subst ex
  exact ⟨fun k=>look_has3 h.tm q0 q1 (k.imp (h.p1 x x0 x1) id),fun a b=>look_has4 h.tm q0 q1 (h.p2 x x0 x1 a) b⟩
 ·have:=h.cl x x0 x1 (fun k=>hx ⟨k,ex⟩)
  exact ⟨fun k=>hu x 3 x0 x1 (by omega) (by omega) (this.1 k),fun a b=>hu x 4 x0 x1 (by omega) (by omega) (this.2 a b)⟩
theorem Kp.turn (h:Kp n Pr X e) (hm:e1.marks=e.marks) (ht:e1.told=e.told) (hp:Pre n e.core e1.core) (q0:0≤q) (q1:q < n) (hs:∀ (x:Int),0≤x→x < n→x≠q→cond1 e1.core x=cond1 e.core x∧cond2 e1.core x=cond2 e.core x):Kp n Pr X (e1.look q):=
 ((h.mod (Y:=fun x=>X x∨x=q) hm ht hp (fun x x0 x1 hx=>⟨fun k=>hx (.inl k),hs x x0 x1 (fun k=>hx (.inr k))⟩)).look q0 q1).weaken (fun x hx=>hx.1.elim id (fun k=>absurd k hx.2))
theorem settle_pre (hc:Con n m np s pq ps) {c:Cr} (h:PrOk n np pq ps c) (p0:0≤p) (p1:p < np):Pre n c (c.settle p)∧∀ (x:Int),0≤x→x < n→x≠pq p→cond1 (c.settle p) x=cond1 c x∧cond2 (c.settle p) x=cond2 c x:=by
 obtain ⟨h1,k1⟩:=settle_ok hc h p0 p1
 have e1:=k1.eq
 have hb:(c.settle p).backed=c.backed:=by rw [e1]
 have ho:(c.settle p).opn=c.opn:=by rw [e1]
 have hk:(c.settle p).backs=c.backs:=by rw [e1]
 have hcl:(c.settle p).clash=c.clash:=by rw [e1]
 have hst:(c.settle p).standing=c.standing:=by rw [e1]
 have h2:∀ x,cond2 (c.settle p) x=cond2 c x:=fun x=>by unfold cond2;rw [hk,hcl,hst]
 refine ⟨fun q q0 q1=>⟨fun hq=>?_,fun hq=>by rw [h2];exact hq⟩,fun x x0 x1 hx=>⟨?_,h2 x⟩⟩
 ·unfold cond1 at hq ⊢
  rw [hb,ho]
  rw [Bool.and_eq_true] at hq ⊢
  refine ⟨hq.1,?_⟩
  have hz:=beq_iff_eq.1 hq.2
  rw [beq_iff_eq,h1.att q q0 q1]
  rw [h.att q q0 q1] at hz
  refine cN_zero.2 fun i i0 i1=>?_
  have:=cN_zero.1 hz i i0 i1
  rw [k1.sett i i0 i1]
  cases hpq:(pq i == q) with
  | false=>rfl
  | true=>
   rw [hpq] at this
   simp only [Bool.true_and,Bool.not_eq_false'] at this
   rw [this];rfl
 ·unfold cond1
  rw [hb,ho]
  congr 1
  congr 1
  rw [h1.att x x0 x1,h.att x x0 x1]
  refine cN_congr fun i i0 i1=>?_
  rw [k1.sett i i0 i1]
  by_cases ei:i=p
  ·subst ei
   have:(pq i == x)=false:=by rw [beq_eq_false_iff_ne];exact fun k=>hx k.symm
   rw [this];rfl
  ·have:[p].contains i=false:=by simp [ei]
   rw [this,Bool.or_false]
theorem Kp.settle (hc:Con n m np s pq ps) (h:Kp n Pr X e) (hp:PrOk n np pq ps e.core) (p0:0≤p) (p1:p < np):Kp n Pr X (e.settle p):=by
 obtain ⟨⟨q0,q1⟩,_⟩:=hc.pr p p0 p1
 obtain ⟨hp1,_⟩:=hp.prq p p0 p1
 obtain ⟨a1,a2⟩:=settle_pre hc hp p0 p1
 unfold En.settle
 by_cases hb:(e.pair p).2.2.1=true
 ·rw [if_pos hb];exact h
 ·rw [if_neg hb]
  have hcs:(({ e with pairs:=e.pairs.set p.toNat ((e.pair p).1,(e.pair p).2.1,true,(e.pair p).2.2.2),attacks:=En.dec e.attacks (e.pair p).1 }:En).ups 2).core=e.core.settle p:=by unfold Cr.settle;rw [if_neg (show ¬ (e.core.pair p).2.2.1=true from hb)];rfl
  rw [show (e.pair p).1=pq p from hp1]
  rw [show (e.pair p).1=pq p from hp1] at hcs
  exact h.turn rfl rfl (by rw [hcs];exact a1) q0 q1 (fun x x0 x1 hx=>by rw [hcs];exact a2 x x0 x1 hx)
theorem Kp.settles (hc:Con n m np s pq ps):∀ {L:List Int} {e:En},Kp n Pr X e→PrOk n np pq ps e.core→(∀ p∈L,0≤p∧p < np)→Kp n Pr X (L.foldl En.settle e)
 | [],e,h,_,_=>h
 | p::L,e,h,hp,hL=>by
  obtain ⟨p0,p1⟩:=hL p (List.mem_cons_self ..)
  rw [List.foldl_cons]
  exact Kp.settles hc (L:=L) (h.settle hc hp p0 p1) (by rw [core_settle];exact (settle_ok hc hp p0 p1).1) (fun p hp=>hL p (List.mem_cons_of_mem _ hp))
end
end Go.Proofs.YtbcdgcodnkgdoaaGreat
namespace Go.Proofs.YtbcdgcodnkgdoaaGreat
open Go Go.RowKit
section
variable {n m np:Nat} {s:Es} {pq ps:Int→Int} {dl df:Int→Int→Int→Bool} {Pr:Int→Int→Bool} {X Y:Int→Prop} {e e1:En} {q r p k h f:Int}
theorem cond1_same {c c':Cr} (h1:gb c'.backed q=gb c.backed q) (h2:gi c'.opn q=gi c.opn q) (h3:gi c'.attacks q=gi c.attacks q):cond1 c' q=cond1 c q:=by unfold cond1;rw [h1,h2,h3]
theorem cond2_same {c c':Cr} (h1:gi c'.backs q=gi c.backs q) (h2:gb c'.clash q=gb c.clash q) (h3:gb c'.standing q=gb c.standing q):cond2 c' q=cond2 c q:=by unfold cond2;rw [h1,h2,h3]
theorem stand_pre (hc:Con n m np s pq ps) {c:Cr} (hl:c.standing.length=n) (h:PrOk n np pq ps c) (p0:0≤p) (p1:p < np):Pre n c (c.stand p)∧∀ (x:Int),0≤x→x < n→x≠pq p→cond1 (c.stand p) x=cond1 c x∧cond2 (c.stand p) x=cond2 c x:=by
 obtain ⟨e1,l1,k1⟩:=stand_ok hc hl h p0 p1
 have h1:∀ x,cond1 (c.stand p) x=cond1 c x:=fun x=>cond1_same (by rw [e1]) (by rw [e1]) (by rw [e1])
 have hk:(c.stand p).backs=c.backs:=by rw [e1]
 have hcl:(c.stand p).clash=c.clash:=by rw [e1]
 refine ⟨fun q q0 q1=>⟨fun hq=>by rw [h1];exact hq,fun hq=>?_⟩,fun x x0 x1 hx=>⟨h1 x,cond2_same (by rw [hk]) (by rw [hcl]) ?_⟩⟩
 ·unfold cond2 at hq ⊢
  rw [hk,hcl,k1 q q0 q1]
  rw [Bool.or_eq_true] at hq ⊢
  exact hq.imp id (fun k=>by rw [k];rfl)
 ·rw [k1 x x0 x1]
  have:standB c pq ps [p] x=false:=by
   have:(pq p == x)=false:=by rw [beq_eq_false_iff_ne];exact fun k=>hx k.symm
   unfold standB
   simp [this]
  rw [this,Bool.or_false]
theorem Kp.stand (hc:Con n m np s pq ps) (h:Kp n Pr X e) (hl:e.standing.length=n) (hp:PrOk n np pq ps e.core) (p0:0≤p) (p1:p < np):Kp n Pr X (e.stand p):=by
 obtain ⟨⟨q0,q1⟩,_⟩:=hc.pr p p0 p1
 obtain ⟨hp1,_⟩:=hp.prq p p0 p1
 obtain ⟨a1,a2⟩:=stand_pre hc (c:=e.core) hl hp p0 p1
 by_cases hb:((e.need.getD (e.pair p).2.1.toNat 0 == 0)&&((e.pair p).2.2.2 == 0)&&!e.standing.getD (e.pair p).1.toNat false)=true
 ·have hcs:(({ e with standing:=e.standing.set (e.pair p).1.toNat true }:En).ups 1).core=e.core.stand p:=by unfold Cr.stand;rw [if_pos (show ((e.core.need.getD (e.core.pair p).2.1.toNat 0 == 0)&&((e.core.pair p).2.2.2 == 0)&&!e.core.standing.getD (e.core.pair p).1.toNat false)=true from hb)];rfl
  have he:e.stand p=((({ e with standing:=e.standing.set (e.pair p).1.toNat true }:En).ups 1).look (e.pair p).1):=by unfold En.stand;rw [if_pos hb]
  rw [he,show (e.pair p).1=pq p from hp1]
  rw [show (e.pair p).1=pq p from hp1] at hcs
  exact h.turn rfl rfl (by rw [hcs];exact a1) q0 q1 (fun x x0 x1 hx=>by rw [hcs];exact a2 x x0 x1 hx)
 ·have he:e.stand p=e:=by unfold En.stand;rw [if_neg hb]
  rw [he];exact h
theorem Kp.stands (hc:Con n m np s pq ps):∀ {L:List Int} {e:En},Kp n Pr X e→e.standing.length=n→PrOk n np pq ps e.core→(∀ p∈L,0≤p∧p < np)→Kp n Pr X (L.foldl En.stand e)
 | [],e,h,_,_,_=>h
 | p::L,e,h,hl,hp,hL=>by
  obtain ⟨p0,p1⟩:=hL p (List.mem_cons_self ..)
  rw [List.foldl_cons]
  obtain ⟨e1,l1,_⟩:=stand_ok hc (c:=e.core) hl hp p0 p1
  have hcs:=core_stand (e:=e) (p:=p)
  refine Kp.stands hc (L:=L) (h.stand hc hl hp p0 p1) ?_ (by rw [hcs];exact hp.congr (by rw [e1]) (by rw [e1])) (fun p hp=>hL p (List.mem_cons_of_mem _ hp))
  show (e.stand p).core.standing.length=n
  rw [hcs];exact l1
theorem Kp.fire1 (hc:Con n m np s pq ps) (h:Kp n Pr X e) (hl:e.backed.length=n) (hp:PrOk n np pq ps e.core) (r0:0≤r) (r1:r < m):Kp n Pr X (En.fire1 s e r):=by
 obtain ⟨h0,h1⟩:=hc.head r r0 r1
 unfold En.fire1
 by_cases hs:supD s.t r=true
 ·rw [if_pos hs]
  dsimp only
  obtain ⟨e2,he2⟩:∃ e2,e2=(if e.backed.getD (ruleAt s.t r).2.1.toNat false=true then e else ({ e with backed:=e.backed.set (ruleAt s.t r).2.1.toNat true }:En).ups 1):=⟨_,rfl⟩
  rw [← he2]
  obtain ⟨b1,b2,b3⟩:=back_ok (c:=e.core) (n:=n) hl h0 h1
  have hcs:e2.core=e.core.back (hd s r):=by rw [he2];unfold Cr.back;show (if e.core.backed.getD (hd s r).toNat false=true then e else _).core=_;split <;> rfl
  have hm:e2.marks=e.marks∧e2.told=e.told:=by rw [he2];split <;> exact ⟨rfl,rfl⟩
  have hk:(e.core.back (hd s r)).backs=e.core.backs:=by rw [b1]
  have hcl:(e.core.back (hd s r)).clash=e.core.clash:=by rw [b1]
  have hst:(e.core.back (hd s r)).standing=e.core.standing:=by rw [b1]
  have ho:(e.core.back (hd s r)).opn=e.core.opn:=by rw [b1]
  have ha:(e.core.back (hd s r)).attacks=e.core.attacks:=by rw [b1]
  have hc2:∀ x,cond2 (e.core.back (hd s r)) x=cond2 e.core x:=fun x=>cond2_same (by rw [hk]) (by rw [hcl]) (by rw [hst])
  have h2:Kp n Pr (fun x=>X x∨x=hd s r) e2:=by
   refine h.mod hm.1 hm.2 (fun q q0 q1=>⟨fun hq=>?_,fun hq=>by rw [hcs,hc2];exact hq⟩) (fun x x0 x1 hx=>⟨fun k=>hx (.inl k),?_,by rw [hcs];exact hc2 x⟩)
   ·rw [hcs]
    unfold cond1 at hq ⊢
    rw [ho,ha]
    rw [Bool.and_eq_true,Bool.and_eq_true] at hq ⊢
    exact ⟨⟨(b3 q q0 q1).2 (.inl hq.1.1),hq.1.2⟩,hq.2⟩
   ·rw [hcs]
    refine cond1_same ?_ (by rw [ho]) (by rw [ha])
    refine Bool.eq_iff_iff.2 ?_
    rw [b3 x x0 x1]
    exact ⟨fun k=>k.elim id (fun e=>absurd (.inr e.symm) hx),.inl⟩
  have hp2:PrOk n np pq ps e2.core:=by rw [hcs];exact hp.congr (by rw [b1]) (by rw [b1])
  have h3:=h2.settles hc hp2 (L:=rowAt s.beats r) (fun p hp=>((hc.beats r r0 r1).2 p hp).1)
  exact (h3.look h0 h1).weaken (fun x hx=>hx.1.elim id (fun k=>absurd k hx.2))
 ·rw [if_neg hs];exact h
theorem Kp.fire (hc:Con n m np s pq ps) (h:Kp n Pr X e) (hl:e.backed.length=n) (hl2:e.standing.length=n) (hp:PrOk n np pq ps e.core) (r0:0≤r) (r1:r < m):Kp n Pr X (En.fire s e r):=by
 unfold En.fire
 have hcs:=core_fire1 (s:=s) (e:=e) (r:=r)
 have F:PrOk n np pq ps (Cr.fire1 s e.core r)∧(Cr.fire1 s e.core r).standing=e.core.standing:=by
  unfold Cr.fire1
  split
  ·obtain ⟨h0,h1⟩:=hc.head r r0 r1
   obtain ⟨b1,b2,b3⟩:=back_ok (c:=e.core) (n:=n) hl h0 h1
   obtain ⟨a1,a2⟩:=settles_ok hc (L:=rowAt s.beats r) (c:=e.core.back (hd s r)) (hp.congr (by rw [b1]) (by rw [b1])) (fun p hp=>((hc.beats r r0 r1).2 p hp).1)
   refine ⟨a1,?_⟩
   have:=a2.eq
   have hst:(e.core.back (hd s r)).standing=e.core.standing:=by rw [b1]
   exact (congrArg Cr.standing this).trans hst
  ·exact ⟨hp,rfl⟩
 refine (h.fire1 hc hl hp r0 r1).stands hc ?_ (by rw [hcs];exact F.1) (fun p hp=>(((hc.of r r0 r1).2 p).1 hp).1)
 show (En.fire1 s e r).core.standing.length=n
 rw [hcs,F.2];exact hl2
theorem Kp.plus1 (hc:Con n m np s pq ps) (h:Kp n Pr X e) (hs:CanS n m np s pq ps dl df e.core) (r0:0≤r) (r1:r < m):Kp n Pr X (En.onPlus1 s e r):=by
 unfold En.onPlus1
 dsimp only
 have hcs:(En.lower s e r).core={ e.core with need:=En.dec e.core.need r }:=by unfold En.lower;rw [core_upL];rfl
 have h1:Kp n Pr X (En.lower s e r):=by
  unfold En.lower
  exact Kp.upL (h.mod rfl rfl (fun q _ _=>⟨id,id⟩) (fun x x0 x1 hx=>⟨hx,rfl,rfl⟩))
 split
 ·refine h1.fire hc ?_ ?_ (by rw [hcs];exact hs.pr.congr rfl rfl) r0 r1
  ·show (En.lower s e r).core.backed.length=n;rw [hcs];exact hs.lbd
  ·show (En.lower s e r).core.standing.length=n;rw [hcs];exact hs.lsd
 ·exact h1
end
end Go.Proofs.YtbcdgcodnkgdoaaGreat
namespace Go.Proofs.YtbcdgcodnkgdoaaGreat
open Go Go.RowKit
section
variable {n m np:Nat} {s:Es} {pq ps:Int→Int} {dl df:Int→Int→Int→Bool} {Pr:Int→Int→Bool} {X Y:Int→Prop} {e e1:En} {q r p k h f:Int}
theorem Kp.plusD1 (hc:Con n m np s pq ps) (h:Kp n Pr X e) (r0:0≤r) (r1:r < m):Kp n Pr X (En.onPlusD1 s e r):=by
 obtain ⟨h0,h1⟩:=hc.head r r0 r1
 unfold En.onPlusD1
 have h2:Kp n Pr X (En.lowerD s e r):=by
  unfold En.lowerD
  exact Kp.upL (h.mod rfl rfl (fun q _ _=>⟨id,id⟩) (fun x x0 x1 hx=>⟨hx,rfl,rfl⟩))
 split
 ·dsimp only
  split
  ·exact h2.tell h0 h1 (by omega) (by omega)
  ·exact h2
 ·exact h
theorem Kp.plusD2 (h:Kp n Pr X e) (hl:e.clash.length=n) (f0:0≤f) (f1:f < n):Kp n Pr X (En.onPlusD2 e f):=by
 unfold En.onPlusD2
 split
 ·have hset:∀ (x:Int),0≤x→gb (e.clash.set f.toNat true) x=if x=f then true else gb e.clash x:=fun x x0=>getD_setAt hl f0 f1 x0
  refine h.turn rfl rfl (fun x x0 x1=>⟨id,fun hq=>?_⟩) f0 f1 (fun x x0 x1 hx=>⟨rfl,cond2_same rfl ?_ rfl⟩)
  ·unfold cond2 at hq ⊢
   show (gi e.backs x == 0 || gb (e.clash.set f.toNat true) x || gb e.standing x)=true
   rw [hset x x0]
   split
   ·simp
   ·exact hq
  ·show gb (e.clash.set f.toNat true) x=gb e.clash x
   rw [hset x x0,if_neg hx]
 ·exact h
theorem Kp.noD1 (hc:Con n m np s pq ps) (h:Kp n Pr X e) (r0:0≤r) (r1:r < m):Kp n Pr X (En.onNoD1 s e r):=by
 obtain ⟨h0,h1⟩:=hc.head r r0 r1
 unfold En.onNoD1
 split
 ·dsimp only
  have h2:Kp n Pr X (En.upL s { e with deadD:=e.deadD.set r.toNat true } r):=Kp.upL (h.mod rfl rfl (fun q _ _=>⟨id,id⟩) (fun x x0 x1 hx=>⟨hx,rfl,rfl⟩))
  generalize En.upL s { e with deadD:=e.deadD.set r.toNat true } r=e2 at *
  have h3:Kp n Pr X (({ e2 with strict:=En.dec e2.strict (ruleAt s.t r).2.1 }:En).ups 1):=(h2.mod (e1:={ e2 with strict:=En.dec e2.strict (ruleAt s.t r).2.1 }) rfl rfl (fun q _ _=>⟨id,id⟩) (fun x x0 x1 hx=>⟨hx,rfl,rfl⟩)).ups
  split
  ·exact h3.tell h0 h1 (by omega) (by omega)
  ·exact h3
 ·exact h
theorem Kp.late1 (hc:Con n m np s pq ps) (h:Kp n Pr X e) (hs:CanS n m np s pq ps dl df e.core) (f0:0≤f) (f1:f < n) (hq:q∈rowAt (tFoes s.t) f) (hn:df f q 2=false):Kp n Pr X (En.onLate1 e f):=by
 obtain ⟨o1,o2⟩:=hs.opn1 f f0 f1
 have hge:1≤gi e.core.opn f:=by
  by_cases hz:(rowAt (tFoes s.t) f).countP (fun g=>!df f g 2)=0
  ·have:=countP_zero.1 hz q hq
   rw [hn] at this
   cases this
  ·omega
 unfold En.onLate1
 split
 ·have hset:∀ (x:Int),0≤x→gi (En.dec e.opn f) x=if x=f then gi e.opn f - 1 else gi e.opn x:=fun x x0=>gi_dec hs.lop f0 f1 x0 (by show _≤gi e.core.opn f;omega) (by show gi e.core.opn f≤_;omega)
  refine h.turn rfl rfl (fun x x0 x1=>⟨fun hy=>?_,id⟩) f0 f1 (fun x x0 x1 hx=>⟨cond1_same rfl ?_ rfl,rfl⟩)
  ·unfold cond1 at hy ⊢
   rw [Bool.and_eq_true,Bool.and_eq_true] at hy ⊢
   refine ⟨⟨hy.1.1,?_⟩,hy.2⟩
   show (gi (En.dec e.opn f) x == 0)=true
   rw [hset x x0]
   by_cases ex:x=f
   ·subst ex
    have:=beq_iff_eq.1 hy.1.2
    omega
   ·rw [if_neg ex];exact hy.1.2
  ·show gi (En.dec e.opn f) x=gi e.opn x
   rw [hset x x0,if_neg hx]
 ·exact h
theorem Kp.minus2 (hc:Con n m np s pq ps) (h:Kp n Pr X e) (hl:e.standing.length=n) (hp:PrOk n np pq ps e.core) (p0:0≤p) (p1:p < np):Kp n Pr X (En.onMinus2 e p):=by
 unfold En.onMinus2
 have hpx:∀ (x:Int),0≤x→((e.core.pairs.set p.toNat ((e.pair p).1,(e.pair p).2.1,(e.pair p).2.2.1,En.w64 ((e.pair p).2.2.2 - 1))).getD x.toNat (0,0,false,0))=if x=p then ((e.pair p).1,(e.pair p).2.1,(e.pair p).2.2.1,En.w64 ((e.pair p).2.2.2 - 1)) else e.core.pair x:=fun x x0=>pair_put hp.lpr p0 p1 x0
 refine Kp.stand hc (h.mod (e1:={ e with pairs:=e.pairs.set p.toNat ((e.pair p).1,(e.pair p).2.1,(e.pair p).2.2.1,En.w64 ((e.pair p).2.2.2 - 1)) }) rfl rfl (fun q _ _=>⟨id,id⟩) (fun x x0 x1 hx=>⟨hx,rfl,rfl⟩)).ups hl ?_ p0 p1
 refine ⟨by show (e.pairs.set _ _).length=np;rw [List.length_set];exact hp.lpr,hp.lat,fun x x0 x1=>?_,fun y y0 y1=>?_⟩
 ·show (((e.core.pairs.set _ _).getD x.toNat (0,0,false,0)).1=_)∧(((e.core.pairs.set _ _).getD x.toNat (0,0,false,0)).2.1=_)
  rw [hpx x x0]
  split
  ·rename_i ex;subst ex;exact hp.prq x x0 x1
  ·exact hp.prq x x0 x1
 ·rw [show gi (({ e with pairs:=e.pairs.set p.toNat ((e.pair p).1,(e.pair p).2.1,(e.pair p).2.2.1,En.w64 ((e.pair p).2.2.2 - 1)) }:En).ups 1).core.attacks y=gi e.core.attacks y from rfl,hp.att y y0 y1]
  refine cN_congr fun i i0 i1=>?_
  show _=(pq i == y&&!((e.core.pairs.set _ _).getD i.toNat (0,0,false,0)).2.2.1)
  rw [hpx i i0]
  split
  ·rename_i ex;subst ex;rfl
  ·rfl
theorem minus2_pr (hc:Con n m np s pq ps) {c:Cr} (hl:c.standing.length=n) (hp:PrOk n np pq ps c) (p0:0≤p) (p1:p < np):PrOk n np pq ps (c.onMinus2 p)∧(c.onMinus2 p).standing.length=n:=by
 have hpx:∀ (x:Int),0≤x→((c.pairs.set p.toNat ((c.pair p).1,(c.pair p).2.1,(c.pair p).2.2.1,En.w64 ((c.pair p).2.2.2 - 1))).getD x.toNat (0,0,false,0))=if x=p then ((c.pair p).1,(c.pair p).2.1,(c.pair p).2.2.1,En.w64 ((c.pair p).2.2.2 - 1)) else c.pair x:=fun x x0=>pair_put hp.lpr p0 p1 x0
 have h1:PrOk n np pq ps { c with pairs:=c.pairs.set p.toNat ((c.pair p).1,(c.pair p).2.1,(c.pair p).2.2.1,En.w64 ((c.pair p).2.2.2 - 1)) }:=by
  refine ⟨by show (c.pairs.set _ _).length=np;rw [List.length_set];exact hp.lpr,hp.lat,fun x x0 x1=>?_,fun y y0 y1=>?_⟩
  ·show (((c.pairs.set _ _).getD x.toNat (0,0,false,0)).1=_)∧(((c.pairs.set _ _).getD x.toNat (0,0,false,0)).2.1=_)
   rw [hpx x x0]
   split
   ·rename_i ex;subst ex;exact hp.prq x x0 x1
   ·exact hp.prq x x0 x1
  ·show gi c.attacks y=_
   rw [hp.att y y0 y1]
   refine cN_congr fun i i0 i1=>?_
   show _=(pq i == y&&!((c.pairs.set _ _).getD i.toNat (0,0,false,0)).2.2.1)
   rw [hpx i i0]
   split
   ·rename_i ex;subst ex;rfl
   ·rfl
 obtain ⟨e1,l1,_⟩:=stand_ok hc (c:={ c with pairs:=c.pairs.set p.toNat ((c.pair p).1,(c.pair p).2.1,(c.pair p).2.2.1,En.w64 ((c.pair p).2.2.2 - 1)) }) hl h1 p0 p1
 unfold Cr.onMinus2
 exact ⟨h1.congr (by rw [e1]) (by rw [e1]),l1⟩
theorem Kp.minus2s (hc:Con n m np s pq ps):∀ {L:List Int} {e:En},Kp n Pr X e→e.standing.length=n→PrOk n np pq ps e.core→(∀ p∈L,0≤p∧p < np)→Kp n Pr X (L.foldl En.onMinus2 e)
 | [],e,h,_,_,_=>h
 | p::L,e,h,hl,hp,hL=>by
  obtain ⟨p0,p1⟩:=hL p (List.mem_cons_self ..)
  rw [List.foldl_cons]
  obtain ⟨g1,g2⟩:=minus2_pr hc (c:=e.core) hl hp p0 p1
  have hcs:=core_onMinus2 (e:=e) (p:=p)
  refine Kp.minus2s hc (L:=L) (h.minus2 hc hl hp p0 p1) ?_ (by rw [hcs];exact g1) (fun p hp=>hL p (List.mem_cons_of_mem _ hp))
  show (En.onMinus2 e p).core.standing.length=n
  rw [hcs];exact g2
theorem Kp.minus1 (hc:Con n m np s pq ps) (h:Kp n Pr X e) (hs:CanS n m np s pq ps dl df e.core) (r0:0≤r) (r1:r < m):Kp n Pr X (En.onMinus1 s e r):=by
 have hm:=hc.ok.small.2
 obtain ⟨h0,h1⟩:=hc.head r r0 r1
 unfold En.onMinus1
 by_cases hb:e.dead.getD r.toNat false=true
 ·rw [if_pos hb];exact h
 ·rw [if_neg hb]
  dsimp only
  have hb2:gb e.core.dead r=false:=Bool.eq_false_iff.2 hb
  have h2:Kp n Pr X (En.upL s { e with dead:=e.dead.set r.toNat true } r):=Kp.upL (h.mod rfl rfl (fun q _ _=>⟨id,id⟩) (fun x x0 x1 hx=>⟨hx,rfl,rfl⟩))
  have hcs:(En.upL s { e with dead:=e.dead.set r.toNat true } r).core={ e.core with dead:=e.core.dead.set r.toNat true }:=by rw [core_upL];rfl
  generalize En.upL s { e with dead:=e.dead.set r.toNat true } r=e2 at *
  have hp2:PrOk n np pq ps e2.core:=by rw [hcs];exact hs.pr.congr rfl rfl
  have hof:∀ p∈rowAt s.of r,0≤p∧p < np:=fun p hp=>(((hc.of r r0 r1).2 p).1 hp).1
  have h3:=h2.settles hc hp2 hof
  have hcs3:=fold_core (f:=En.settle) (g:=Cr.settle) (fun _ _=>core_settle) (l:=rowAt s.of r) (e:=e2)
  obtain ⟨p3,k3⟩:=settles_ok hc hp2 hof
  have e3:=k3.eq
  rw [← hcs3] at p3 e3
  generalize (rowAt s.of r).foldl En.settle e2=e4 at *
  by_cases hsup:supD s.t r=true
  ·rw [if_pos hsup]
   have hbk:e4.core.backs=e.core.backs:=by rw [e3,hcs]
   have hst:e4.core.standing=e.core.standing:=by rw [e3,hcs]
   have hR:=hs.backsR hm h0 h1
   have hge:gi e.core.backs (hd s r)≠0:=fun hz=>by
    rw [hs.backs _ h0 h1] at hz
    have:=cN_zero.1 hz r r0 r1
    rw [hsup,hb2] at this
    simp at this
   have lbk:e4.backs.length=n:=by show e4.core.backs.length=n;rw [hbk];exact hs.lbk
   have hbg:∀ (y:Int),0≤y→gi (En.dec e4.backs (hd s r)) y=if y=hd s r then gi e4.backs (hd s r) - 1 else gi e4.backs y:=fun y y0=>gi_dec lbk h0 h1 y0 (by show _≤gi e4.core.backs _;rw [hbk];omega) (by show gi e4.core.backs _≤_;rw [hbk];omega)
   have h5:Kp n Pr (fun x=>X x∨x=hd s r) (({ e4 with backs:=En.dec e4.backs (hd s r) }:En).ups 1):=by
    refine Kp.ups (h3.mod (e1:={ e4 with backs:=En.dec e4.backs (hd s r) }) rfl rfl (fun y y0 y1=>⟨id,fun hq=>?_⟩) (fun x x0 x1 hx=>⟨fun k=>hx (.inl k),rfl,cond2_same ?_ rfl rfl⟩))
    ·unfold cond2 at hq ⊢
     show (gi (En.dec e4.backs (hd s r)) y == 0 || gb e4.clash y || gb e4.standing y)=true
     rw [hbg y y0]
     by_cases ey:y=hd s r
     ·subst ey
      rw [Bool.or_eq_true,Bool.or_eq_true] at hq ⊢
      refine hq.imp (fun k=>k.imp (fun k=>?_) id) id
      have:=beq_iff_eq.1 k
      rw [hbk] at this
      exact absurd this hge
     ·rw [if_neg ey];exact hq
    ·show gi (En.dec e4.backs (hd s r)) x=gi e4.backs x
     rw [hbg x x0,if_neg (fun k=>hx (.inr k))]
   have h6:=h5.minus2s hc (L:=rowAt s.beats r) (by show e4.core.standing.length=n;rw [hst];exact hs.lsd) (p3.congr rfl rfl) (fun p hp=>((hc.beats r r0 r1).2 p hp).1)
   exact (h6.look h0 h1).weaken (fun x hx=>hx.1.elim id (fun k=>absurd k hx.2))
  ·rw [if_neg hsup];exact h3
end
end Go.Proofs.YtbcdgcodnkgdoaaGreat
namespace Go.Proofs.YtbcdgcodnkgdoaaGreat
open Go Go.RowKit
section
variable {n m np:Nat} {s:Es} {pq ps:Int→Int} {fact:Int→Bool} {dl df:Int→Int→Int→Bool} {laid Pr:Int→Int→Bool} {X Y:Int→Prop} {e e1:En} {q r p k h f:Int}
theorem fold_both {P:(Int→Int→Int→Bool)→Cr→Prop} {g:Cr→Int→Cr} {f:En→Int→En} {ok:Int→Prop} (hcore:∀ e r,(f e r).core=g e.core r) (hstep:∀ dl c r,ok r→dl r q k=false→P dl c→P (upd dl r q k) (g c r))
 (hK:∀ dl e r,ok r→dl r q k=false→P dl e.core→Kp n Pr X e→Kp n Pr X (f e r)):∀ {L:List Int} {dl:Int→Int→Int→Bool} {e:En},L.Nodup→(∀ r∈L,ok r∧dl r q k=false)→P dl e.core→Kp n Pr X e→Kp n Pr X (L.foldl f e)
 | [],dl,e,_,_,_,h=>h
 | r::L,dl,e,hn,hL,hP,h=>by
  rw [List.nodup_cons] at hn
  obtain ⟨h1,h2⟩:=hL r (List.mem_cons_self ..)
  rw [List.foldl_cons]
  exact fold_both hcore hstep hK (L:=L) (dl:=upd dl r q k) hn.2 (fun r' hr'=>⟨(hL r' (List.mem_cons_of_mem _ hr')).1,by
   rw [upd_r (r:=r) (fun (e:r'=r)=>hn.1 (by rw [← e];exact hr'))];exact (hL r' (List.mem_cons_of_mem _ hr')).2⟩) (by rw [hcore];exact hstep dl e.core r h1 h2 hP) (hK dl e r h1 h2 hP h)
theorem fold_K {P:Cr→Prop} {g:Cr→Int→Cr} {f:En→Int→En} {ok:Int→Prop} (hcore:∀ e r,(f e r).core=g e.core r) (hstep:∀ c r,ok r→P c→P (g c r))
 (hK:∀ e r,ok r→P e.core→Kp n Pr X e→Kp n Pr X (f e r)):∀ {L:List Int} {e:En},(∀ r∈L,ok r)→P e.core→Kp n Pr X e→Kp n Pr X (L.foldl f e)
 | [],e,_,_,h=>h
 | r::L,e,hL,hP,h=>by
  rw [List.foldl_cons]
  exact fold_K hcore hstep hK (L:=L) (fun r hr=>hL r (List.mem_cons_of_mem _ hr)) (by rw [hcore];exact hstep _ _ (hL r (List.mem_cons_self ..)) hP) (hK e r (hL r (List.mem_cons_self ..)) hP h)
theorem Kp.add12 (h:Kp n Pr X e) (q0:0≤q) (q1:q < n) (hh:e.has q k=true):Kp n (addP Pr q k) (fun x=>X x∨x=q) e:=by
 have hx:∀ x j,x≠q→addP Pr q k x j=Pr x j:=fun x j hx=>by simp [addP,hx]
 refine ⟨h.tm,h.j,fun x x0 x1 hX=>?_,fun x x0 x1 hP=>?_,fun x x0 x1 hP=>?_⟩
 ·have hne:x≠q:=fun k=>hX (.inr k)
  have:=h.cl x x0 x1 (fun k=>hX (.inl k))
  unfold closed at this ⊢
  rw [hx x 1 hne,hx x 2 hne]
  exact this
 ·unfold addP at hP
  rw [Bool.or_eq_true,Bool.and_eq_true] at hP
  rcases hP with hP | ⟨h1,h2⟩
  ·exact h.p1 x x0 x1 hP
  ·rw [beq_iff_eq.1 h1,beq_iff_eq.1 h2];exact hh
 ·unfold addP at hP
  rw [Bool.or_eq_true,Bool.and_eq_true] at hP
  rcases hP with hP | ⟨h1,h2⟩
  ·exact h.p2 x x0 x1 hP
  ·rw [beq_iff_eq.1 h1,beq_iff_eq.1 h2];exact hh
theorem Kp.add34 (h:Kp n Pr X e) (hk:3≤k):Kp n (addP Pr q k) X e:=by
 have h1:∀ x,addP Pr q k x 1=Pr x 1:=fun x=>addP_k (by omega)
 have h2:∀ x,addP Pr q k x 2=Pr x 2:=fun x=>addP_k (by omega)
 refine ⟨h.tm,h.j,fun x x0 x1 hX=>?_,fun x x0 x1 hP=>h.p1 x x0 x1 (by rw [← h1];exact hP),fun x x0 x1 hP=>h.p2 x x0 x1 (by rw [← h2];exact hP)⟩
 have:=h.cl x x0 x1 hX
 unfold closed at this ⊢
 rw [h1,h2]
 exact this
theorem Kp.drop (h:Kp n Pr (fun x=>(X x∨x=q)∧x≠q) e):Kp n Pr X e:=h.weaken (fun x hx=>hx.1.elim id (fun k=>absurd k hx.2))
theorem Kp.plusD (hc:Con n m np s pq ps) (h:Kp n Pr X e) (hl:e.clash.length=n) (q0:0≤q) (q1:q < n) (hh:e.has q 1=true):Kp n (addP Pr q 1) X (En.onPlusD s e q):=by
 unfold En.onPlusD
 obtain ⟨_,hi⟩:=hc.inn q q0 q1
 obtain ⟨_,_,hf⟩:=hc.foes q q0 q1
 have h1:=fold_K (P:=fun c=>c.clash.length=n) (g:=Cr.onPlusD1 s) (f:=En.onPlusD1 s) (ok:=fun r=>0≤r∧r < m) (fun _ _=>core_onPlusD1) (fun c r _ hP=>by unfold Cr.onPlusD1;split <;> exact hP) (fun e r hr _ h=>h.plusD1 hc hr.1 hr.2) (L:=rowAt s.inn q) (fun r hr=>((hi r).1 hr).1) hl (h.add12 q0 q1 hh)
 have hl1:((rowAt s.inn q).foldl (En.onPlusD1 s) e).core.clash.length=n:=by
  rw [fold_core (g:=Cr.onPlusD1 s) (fun _ _=>core_onPlusD1)]
  have:∀ (L:List Int) (c:Cr),(L.foldl (Cr.onPlusD1 s) c).clash=c.clash:=fun L=>by
   induction L with
   | nil=>intro c;rfl
   | cons r L ih=>intro c;rw [List.foldl_cons,ih];unfold Cr.onPlusD1;split <;> rfl
  rw [this];exact hl
 have h2:=fold_K (P:=fun c=>c.clash.length=n) (g:=Cr.onPlusD2) (f:=En.onPlusD2) (ok:=fun f=>0≤f∧f < n) (fun _ _=>core_onPlusD2) (fun c r _ hP=>by unfold Cr.onPlusD2;split <;> first | exact hP | (show (c.clash.set _ _).length=n;rw [List.length_set];exact hP)) (fun e r hr hP h=>h.plusD2 hP hr.1 hr.2) (L:=rowAt (tFoes s.t) q) hf hl1 h1
 exact (h2.look q0 q1).drop
theorem Kp.noD (hc:Con n m np s pq ps) (h:Kp n Pr X e) (q0:0≤q) (q1:q < n) (hh:e.has q 2=true):Kp n (addP Pr q 2) X (En.onNoD s e q):=by
 unfold En.onNoD
 obtain ⟨_,hi⟩:=hc.inn q q0 q1
 have h1:=fold_K (P:=fun _=>True) (g:=Cr.onNoD1 s) (f:=En.onNoD1 s) (ok:=fun r=>0≤r∧r < m) (fun _ _=>core_onNoD1) (fun _ _ _ h=>h) (fun e r hr _ h=>h.noD1 hc hr.1 hr.2) (L:=rowAt s.inn q) (fun r hr=>((hi r).1 hr).1) trivial (h.add12 q0 q1 hh)
 exact (h1.look q0 q1).drop
theorem Kp.late (hc:Con n m np s pq ps) (hsym:∀ (q:Int),0≤q→q < n→∀ f∈rowAt (tFoes s.t) q,q∈rowAt (tFoes s.t) f) (hC:Can n m np s pq ps fact laid Pr e.core) (h:Kp n Pr X e) (q0:0≤q) (q1:q < n) (hh:e.has q 2=true) (hP:Pr q 2=false) (hl:laid q 2=false):Kp n (addP Pr q 2) X (En.onLate s e q):=by
 unfold En.onLate
 obtain ⟨hn2,_,hf⟩:=hc.foes q q0 q1
 have h1:=fold_both (q:=q) (k:=2) (P:=fun df c=>CanS n m np s pq ps (fun _ b k=>Pr b k) df c) (g:=Cr.onLate1) (f:=En.onLate1) (dl:=fun _ f k=>Pr f k || laid f k) (ok:=fun f=>(0≤f∧f < n)∧q∈rowAt (tFoes s.t) f) (fun _ _=>core_onLate1)
  (fun df c f hr hd a=>a.lateS hc hr.1.1 hr.1.2 hr.2 hd) (fun df e f hr hd a h=>h.late1 hc a hr.1.1 hr.1.2 hr.2 hd) (L:=rowAt (tFoes s.t) q) hn2 (fun f hff=>⟨⟨hf f hff,hsym q q0 q1 f hff⟩,by rw [hP,hl];rfl⟩) hC.s h
 refine h1.noD hc q0 q1 ?_
 have:∀ (L:List Int) (e:En),(∀ f∈L,0≤f∧f < n)→TM n e→e.has q 2=true→(L.foldl En.onLate1 e).has q 2=true:=fun L=>by
  induction L with
  | nil=>intro e _ _ h;exact h
  | cons f L ih=>
   intro e hL ht h
   rw [List.foldl_cons]
   obtain ⟨f0,f1⟩:=hL f (List.mem_cons_self ..)
   have hx:TM n (En.onLate1 e f)∧(En.onLate1 e f).has q 2=true:=by
    unfold En.onLate1
    split
    ·obtain ⟨t1,u1⟩:=TM.look (q:=f) (ht.same (e1:=({ e with opn:=En.dec e.opn f }:En).ups 1) rfl rfl) f0 f1
     exact ⟨t1,u1 q 2 q0 q1 (by omega) (by omega) h⟩
    ·exact ⟨ht,h⟩
   exact ih _ (fun f hf=>hL f (List.mem_cons_of_mem _ hf)) hx.1 hx.2
 exact this _ _ hf h.tm hh
theorem Kp.plus (hc:Con n m np s pq ps) (hC:Can n m np s pq ps fact laid Pr e.core) (h:Kp n Pr X e) (q0:0≤q) (q1:q < n) (hP:Pr q 3=false) (hco:∀ b,addP Pr q 3 b 3=true→Pr b 4=false):Kp n (addP Pr q 3) X (En.onPlus s e q):=by
 unfold En.onPlus
 obtain ⟨hn1,hi⟩:=hc.inn q q0 q1
 exact Kp.add34 (fold_both (q:=q) (k:=3) (dl:=fun _ b k=>Pr b k) (P:=fun dl c=>CanS n m np s pq ps dl (fun _ f k=>Pr f k || laid f k) c∧(∀ r b,dl r b 3=true→addP Pr q 3 b 3=true)∧∀ r b,dl r b 4=Pr b 4) (g:=Cr.onPlus1 s) (f:=En.onPlus1 s) (ok:=fun r=>(0≤r∧r < m)∧q∈bd s r) (fun _ _=>core_onPlus1)
  (fun dl c r hr hd ⟨a2,a3,a4⟩=>by
   have hU:∀ r' b,upd dl r q 3 r' b 3=true→addP Pr q 3 b 3=true:=fun r' b hu=>by
    unfold upd at hu
    rw [Bool.or_eq_true,Bool.and_eq_true,Bool.and_eq_true] at hu
    rcases hu with hu | hu
    ·exact a3 r' b hu
    ·rw [beq_iff_eq.1 hu.1.2];simp [addP]
   exact ⟨a2.plus1 hc hr.1.1 hr.1.2 hr.2 hd (fun hall b hb=>by rw [a4 r b];exact hco b (hU r b (hall b hb))),hU,fun r' b=>by rw [upd_k (by decide)];exact a4 r' b⟩)
  (fun dl e r hr hd ⟨a2,_,_⟩ h=>h.plus1 hc a2 hr.1.1 hr.1.2) (L:=rowAt s.inn q) hn1 (fun r hr=>⟨(hi r).1 hr,hP⟩) ⟨hC.s,fun r b hb=>by simp only [addP];rw [hb];rfl,fun _ _=>rfl⟩ h) (by omega)
theorem Kp.minus (hc:Con n m np s pq ps) (hC:Can n m np s pq ps fact laid Pr e.core) (h:Kp n Pr X e) (q0:0≤q) (q1:q < n) (hP:Pr q 4=false):Kp n (addP Pr q 4) X (En.onMinus s e q):=by
 unfold En.onMinus
 obtain ⟨hn1,hi⟩:=hc.inn q q0 q1
 exact Kp.add34 (fold_both (q:=q) (k:=4) (dl:=fun _ b k=>Pr b k) (P:=fun dl c=>CanS n m np s pq ps dl (fun _ f k=>Pr f k || laid f k) c) (g:=Cr.onMinus1 s) (f:=En.onMinus1 s) (ok:=fun r=>(0≤r∧r < m)∧q∈bd s r) (fun _ _=>core_onMinus1)
  (fun dl c r hr hd a=>a.minus1 hc hr.1.1 hr.1.2 hr.2) (fun dl e r hr hd a h=>h.minus1 hc a hr.1.1 hr.1.2) (L:=rowAt s.inn q) hn1 (fun r hr=>⟨(hi r).1 hr,hP⟩) hC.s h) (by omega)
theorem Kp.does {first i:Nat} (hc:Con n m np s pq ps) (hsym:∀ (q:Int),0≤q→q < n→∀ f∈rowAt (tFoes s.t) q,q∈rowAt (tFoes s.t) f) (hC:Can n m np s pq ps fact laid Pr e.core) (h:Kp n Pr X e) (q0:0≤q) (q1:q < n) (k0:1≤k) (k1:k≤4) (hh:e.has q k=true) (hP:Pr q k=false) (hl:k=2→(laid q 2=true↔i < first)) (hco:∀ b,¬ (addP Pr q k b 3=true∧addP Pr q k b 4=true)):Kp n (addP Pr q k) X (En.does s first i e (q,k)):=by
 obtain rfl | rfl | rfl | rfl:k=1∨k=2∨k=3∨k=4:=by omega
 ·exact h.plusD hc hC.s.lcl q0 q1 hh
 ·by_cases hi:first≤i
  ·rw [does_late hi]
   refine h.late hc hsym hC q0 q1 hh hP ?_
   cases hx:laid q 2 with
   | false=>rfl
   | true=>have:=(hl rfl).1 hx;omega
  ·rw [does_noD hi]
   exact h.noD hc q0 q1 hh
 ·refine h.plus hc hC q0 q1 hP (fun b hb=>?_)
  cases hx:Pr b 4 with
  | false=>rfl
  | true=>exact absurd ⟨hb,by rw [addP_k (by decide)];exact hx⟩ (hco b)
 ·exact h.minus hc hC q0 q1 hP
end
end Go.Proofs.YtbcdgcodnkgdoaaGreat
namespace Go.Proofs.YtbcdgcodnkgdoaaGreat
open Go Go.RowKit
structure Ks (n m:Nat) (s:Es) (fact:Int→Bool) (dl:Int→Int→Int→Bool) (e:En):Prop where
 s1:∀ (q:Int),0≤q→q < n→e.has q 1=true→fact q=true∨∃ (r:Int),(0≤r∧r < m)∧isSt s r=true∧hd s r=q∧∀ b∈bd s r,dl r b 1=true
 s2:∀ (q:Int),0≤q→q < n→e.has q 2=true→fact q=false∧∀ (r:Int),0≤r→r < m→isSt s r=true→hd s r=q→∃ b∈bd s r,dl r b 2=true
 c0:∀ (q:Int),0≤q→q < n→fact q=true→e.has q 1=true
 c1:∀ (r:Int),0≤r→r < m→isSt s r=true→(∀ b∈bd s r,dl r b 1=true)→e.has (hd s r) 1=true
 c2:∀ (q:Int),0≤q→q < n→fact q=false→(∀ (r:Int),0≤r→r < m→isSt s r=true→hd s r=q→∃ b∈bd s r,dl r b 2=true)→e.has q 2=true
def Same12 (n:Nat) (e e':En):Prop:=∀ (q k:Int),0≤q→q < n→1≤k→k≤2→e'.has q k=e.has q k
section
variable {n m np:Nat} {s:Es} {pq ps:Int→Int} {fact:Int→Bool} {dl dl':Int→Int→Int→Bool} {e e':En} {q r k:Int}
theorem Ks.same (h:Ks n m s fact dl e) (hc:Con n m np s pq ps) (he:Same12 n e e') (h1:∀ (r:Int),0≤r→r < m→∀ b∈bd s r,dl' r b 1=dl r b 1) (h2:∀ (r:Int),0≤r→r < m→∀ b∈bd s r,dl' r b 2=dl r b 2):Ks n m s fact dl' e':=by
 refine ⟨fun q q0 q1 hh=>?_,fun q q0 q1 hh=>?_,fun q q0 q1 hf=>by rw [he q 1 q0 q1 (by omega) (by omega)];exact h.c0 q q0 q1 hf,fun r r0 r1 hs ha=>?_,fun q q0 q1 hf ha=>?_⟩
 ·rw [he q 1 q0 q1 (by omega) (by omega)] at hh
  exact (h.s1 q q0 q1 hh).imp id (fun ⟨r,hr,a,b,c⟩=>⟨r,hr,a,b,fun x hx=>by rw [h1 r hr.1 hr.2 x hx];exact c x hx⟩)
 ·rw [he q 2 q0 q1 (by omega) (by omega)] at hh
  obtain ⟨a,b⟩:=h.s2 q q0 q1 hh
  refine ⟨a,fun r r0 r1 hs hq=>?_⟩
  obtain ⟨x,hx,hd⟩:=b r r0 r1 hs hq
  exact ⟨x,hx,by rw [h2 r r0 r1 x hx];exact hd⟩
 ·obtain ⟨h0,h3⟩:=hc.head r r0 r1
  rw [he _ 1 h0 h3 (by omega) (by omega)]
  exact h.c1 r r0 r1 hs (fun b hb=>by rw [← h1 r r0 r1 b hb];exact ha b hb)
 ·rw [he q 2 q0 q1 (by omega) (by omega)]
  refine h.c2 q q0 q1 hf (fun r r0 r1 hs hq=>?_)
  obtain ⟨x,hx,hd⟩:=ha r r0 r1 hs hq
  exact ⟨x,hx,by rw [← h2 r r0 r1 x hx];exact hd⟩
theorem Same12.refl:Same12 n e e:=fun _ _ _ _ _ _=>rfl
theorem Same12.trans {e2:En} (h:Same12 n e e') (h2:Same12 n e' e2):Same12 n e e2:=fun q k a b c d=>(h2 q k a b c d).trans (h q k a b c d)
theorem Same12.tell (ht:TM n e) (q0:0≤q) (q1:q < n) (k0:3≤k) (k1:k≤4):Same12 n e (e.tell q k):=fun x j x0 x1 j0 j1=>by
 rw [has_tell ht q0 q1 (by omega) k1 x0 x1 j0 (by omega)]
 have:(j == k)=false:=by rw [beq_eq_false_iff_ne];omega
 rw [this];simp
theorem Same12.look (ht:TM n e) (q0:0≤q) (q1:q < n):Same12 n e (e.look q):=by
 unfold En.look
 have h1:Same12 n e (e.look1 q)∧TM n (e.look1 q):=by
  rw [look1_def];split
  ·exact ⟨Same12.tell ht q0 q1 (by omega) (by omega),ht.tell q0 q1 (by omega) (by omega)⟩
  ·exact ⟨Same12.refl,ht⟩
 rw [look2_def];split
 ·exact h1.1.trans (Same12.tell h1.2 q0 q1 (by omega) (by omega))
 ·exact h1.1
theorem upd_iff {b k:Int} {r':Int} (hr:r'≠r):upd dl r q k r' b k=dl r' b k:=upd_r hr
theorem Ks.plusD1 (hc:Con n m np s pq ps) (hD:CanD n m s fact dl e.core) (ht:TM n e) (h:Ks n m s fact dl e) (r0:0≤r) (r1:r < m) (hq:q∈bd s r) (hn:dl r q 1=false):Ks n m s fact (upd dl r q 1) (En.onPlusD1 s e r):=by
 obtain ⟨h0,h1⟩:=hc.head r r0 r1
 have hU2:∀ r' b,upd dl r q 1 r' b 2=dl r' b 2:=fun r' b=>upd_k (by decide)
 have hD2:=hD.plusD1 hc r0 r1 hq hn
 by_cases hs:isSt s r=true
 ·have hnd:=hD2.needD r r0 r1 hs
  obtain ⟨e1,he1⟩:∃ e1,e1=En.lowerD s e r:=⟨_,rfl⟩
  have hm:e1.marks=e.marks∧e1.told=e.told:=by rw [he1];unfold En.lowerD En.upL;split <;> exact ⟨rfl,rfl⟩
  have hcs:e1.core=Cr.onPlusD1 s e.core r:=by rw [he1];unfold Cr.onPlusD1 En.lowerD;rw [if_pos hs,core_upL];rfl
  have hE:En.onPlusD1 s e r=if gi e1.core.needD r == 0 then e1.tell (hd s r) 1 else e1:=by rw [he1];unfold En.onPlusD1;rw [if_pos hs];rfl
  have ht1:TM n e1:=ht.same hm.1 hm.2
  have hh:∀ x j,e1.has x j=e.has x j:=fun x j=>has_same hm.1
  have hall:gi e1.core.needD r=0↔∀ b∈bd s r,upd dl r q 1 r b 1=true:=by
   rw [hcs,hnd]
   constructor
   ·intro hz b hb
    have:=countP_zero.1 (show (bd s r).countP (fun b=>!upd dl r q 1 r b 1)=0 by omega) b hb
    simpa using this
   ·intro ha
    have:(bd s r).countP (fun b=>!upd dl r q 1 r b 1)=0:=countP_zero.2 fun b hb=>by rw [ha b hb];rfl
    omega
  have hhas:∀ (x j:Int),0≤x→x < n→1≤j→j≤4→((En.onPlusD1 s e r).has x j=true↔e.has x j=true∨(gi e1.core.needD r=0∧x=hd s r∧j=1)):=fun x j x0 x1 j0 j1=>by
   rw [hE]
   by_cases hz:gi e1.core.needD r=0
   ·rw [if_pos (beq_iff_eq.2 hz),has_tell ht1 h0 h1 (by omega) (by omega) x0 x1 j0 j1,hh,Bool.or_eq_true,Bool.and_eq_true,beq_iff_eq,beq_iff_eq]
    exact or_congr Iff.rfl ⟨fun k=>⟨hz,k⟩,fun k=>k.2⟩
   ·rw [if_neg (by rw [beq_iff_eq];exact hz),hh]
    exact ⟨.inl,fun k=>k.elim id (fun k=>absurd k.1 hz)⟩
  refine ⟨fun x x0 x1 hx=>?_,fun x x0 x1 hx=>?_,fun x x0 x1 hf=>(hhas x 1 x0 x1 (by omega) (by omega)).2 (.inl (h.c0 x x0 x1 hf)),fun r' r0' r1' hs' ha=>?_,fun x x0 x1 hf ha=>?_⟩
  ·rcases (hhas x 1 x0 x1 (by omega) (by omega)).1 hx with k | ⟨k1,k2,_⟩
   ·exact (h.s1 x x0 x1 k).imp id (fun ⟨r',hr,a,b,c⟩=>⟨r',hr,a,b,fun y hy=>upd_le (c y hy)⟩)
   ·exact .inr ⟨r,⟨r0,r1⟩,hs,k2.symm,hall.1 k1⟩
  ·rcases (hhas x 2 x0 x1 (by omega) (by omega)).1 hx with k | ⟨_,_,k⟩
   ·simp only [hU2];exact h.s2 x x0 x1 k
   ·omega
  ·obtain ⟨g0,g1⟩:=hc.head r' r0' r1'
   rw [hhas _ 1 g0 g1 (by omega) (by omega)]
   by_cases er:r'=r
   ·subst er;exact .inr ⟨hall.2 ha,rfl,rfl⟩
   ·exact .inl (h.c1 r' r0' r1' hs' (fun b hb=>(upd_iff (dl:=dl) (q:=q) (b:=b) (k:=1) er).symm.trans (ha b hb)))
  ·rw [hhas x 2 x0 x1 (by omega) (by omega)]
   simp only [hU2] at ha
   exact .inl (h.c2 x x0 x1 hf ha)
 ·have hE:En.onPlusD1 s e r=e:=by unfold En.onPlusD1;rw [if_neg hs]
  rw [hE]
  refine ⟨fun x x0 x1 hx=>(h.s1 x x0 x1 hx).imp id (fun ⟨r',hr,a,b,c⟩=>⟨r',hr,a,b,fun y hy=>upd_le (c y hy)⟩),fun x x0 x1 hx=>by simp only [hU2];exact h.s2 x x0 x1 hx,h.c0,fun r' r0' r1' hs' ha=>h.c1 r' r0' r1' hs' (fun b hb=>?_),fun x x0 x1 hf ha=>h.c2 x x0 x1 hf (by simp only [hU2] at ha;exact ha)⟩
  exact (upd_iff (dl:=dl) (r:=r) (q:=q) (b:=b) (k:=1) (fun (er:r'=r)=>hs (by rw [← er];exact hs'))).symm.trans (ha b hb)
theorem Ks.noD1 (hc:Con n m np s pq ps) (hD:CanD n m s fact dl e.core) (ht:TM n e) (h:Ks n m s fact dl e) (r0:0≤r) (r1:r < m) (hq:q∈bd s r):Ks n m s fact (upd dl r q 2) (En.onNoD1 s e r):=by
 obtain ⟨h0,h1⟩:=hc.head r r0 r1
 have hU1:∀ r' b,upd dl r q 2 r' b 1=dl r' b 1:=fun r' b=>upd_k (by decide)
 have hD2:=hD.noD1 (q:=q) hc hc.ok.small.2 r0 r1 hq
 by_cases hs:(isSt s r&&!gb e.core.deadD r)=true
 ·obtain ⟨e1,he1⟩:∃ e1,e1=(({ (En.upL s { e with deadD:=e.deadD.set r.toNat true } r) with strict:=En.dec (En.upL s { e with deadD:=e.deadD.set r.toNat true } r).strict (hd s r) }:En).ups 1):=⟨_,rfl⟩
  have hm:e1.marks=e.marks∧e1.told=e.told:=by rw [he1];unfold En.upL;split <;> exact ⟨rfl,rfl⟩
  have hcs:e1.core=Cr.onNoD1 s e.core r:=by rw [he1];unfold Cr.onNoD1;rw [if_pos hs];unfold En.upL;split <;> rfl
  have hE:En.onNoD1 s e r=if gi e1.core.strict (hd s r) == 0 then e1.tell (hd s r) 2 else e1:=by rw [he1];unfold En.onNoD1;rw [if_pos (show ((ruleAt s.t r).1 == 1&&!e.deadD.getD r.toNat false)=true from hs)];rfl
  have ht1:TM n e1:=ht.same hm.1 hm.2
  have hh:∀ x j,e1.has x j=e.has x j:=fun x j=>has_same hm.1
  rw [← hcs] at hD2
  have hall:gi e1.core.strict (hd s r)=0↔fact (hd s r)=false∧∀ (r':Int),0≤r'→r' < m→isSt s r'=true→hd s r'=hd s r→∃ b∈bd s r',upd dl r q 2 r' b 2=true:=by
   cases hf:fact (hd s r) with
   | true=>
    rw [hD2.strictF _ h0 h1 hf]
    have:=cN_nonneg m (fun r'=>isSt s r'&&(hd s r' == hd s r)&&gb e1.core.deadD r')
    exact ⟨fun k=>by omega,fun k=>by cases k.1⟩
   | false=>
    rw [hD2.strict _ h0 h1 hf]
    constructor
    ·intro hz
     refine ⟨rfl,fun r' r0' r1' hs' hr'=>?_⟩
     have:=cN_zero.1 hz r' r0' r1'
     rw [hs',hr',hD2.deadD r' r0' r1',hs'] at this
     simp only [beq_self_eq_true,Bool.true_and,Bool.not_eq_false'] at this
     exact List.any_eq_true.1 this
    ·rintro ⟨_,ha⟩
     refine cN_zero.2 fun i i0 i1=>?_
     cases hsi:isSt s i with
     | false=>rfl
     | true=>
      by_cases hi:hd s i=hd s r
      ·rw [hD2.deadD i i0 i1,hsi,List.any_eq_true.2 (ha i i0 i1 hsi hi)]
       simp
      ·have:(hd s i == hd s r)=false:=by rw [beq_eq_false_iff_ne];exact hi
       rw [this];rfl
  have hhas:∀ (x j:Int),0≤x→x < n→1≤j→j≤4→((En.onNoD1 s e r).has x j=true↔e.has x j=true∨(gi e1.core.strict (hd s r)=0∧x=hd s r∧j=2)):=fun x j x0 x1 j0 j1=>by
   rw [hE]
   by_cases hz:gi e1.core.strict (hd s r)=0
   ·rw [if_pos (beq_iff_eq.2 hz),has_tell ht1 h0 h1 (by omega) (by omega) x0 x1 j0 j1,hh,Bool.or_eq_true,Bool.and_eq_true,beq_iff_eq,beq_iff_eq]
    exact or_congr Iff.rfl ⟨fun k=>⟨hz,k⟩,fun k=>k.2⟩
   ·rw [if_neg (by rw [beq_iff_eq];exact hz),hh]
    exact ⟨.inl,fun k=>k.elim id (fun k=>absurd k.1 hz)⟩
  refine ⟨fun x x0 x1 hx=>?_,fun x x0 x1 hx=>?_,fun x x0 x1 hf=>(hhas x 1 x0 x1 (by omega) (by omega)).2 (.inl (h.c0 x x0 x1 hf)),fun r' r0' r1' hs' ha=>?_,fun x x0 x1 hf ha=>?_⟩
  ·rcases (hhas x 1 x0 x1 (by omega) (by omega)).1 hx with k | ⟨_,_,k⟩
   ·simp only [hU1];exact h.s1 x x0 x1 k
   ·omega
  ·rcases (hhas x 2 x0 x1 (by omega) (by omega)).1 hx with k | ⟨k1,k2,_⟩
   ·obtain ⟨a,b⟩:=h.s2 x x0 x1 k
    refine ⟨a,fun r' r0' r1' hs' hr'=>?_⟩
    obtain ⟨y,hy,hd1⟩:=b r' r0' r1' hs' hr'
    exact ⟨y,hy,upd_le hd1⟩
   ·subst k2;exact hall.1 k1
  ·obtain ⟨g0,g1⟩:=hc.head r' r0' r1'
   rw [hhas _ 1 g0 g1 (by omega) (by omega)]
   simp only [hU1] at ha
   exact .inl (h.c1 r' r0' r1' hs' ha)
  ·rw [hhas x 2 x0 x1 (by omega) (by omega)]
   by_cases ex:x=hd s r
   ·subst ex;exact .inr ⟨hall.2 ⟨hf,ha⟩,rfl,rfl⟩
   ·refine .inl (h.c2 x x0 x1 hf (fun r' r0' r1' hs' hr'=>?_))
    obtain ⟨y,hy,hd1⟩:=ha r' r0' r1' hs' hr'
    exact ⟨y,hy,(upd_iff (dl:=dl) (r:=r) (q:=q) (b:=y) (k:=2) (fun (er:r'=r)=>ex (by rw [← hr',er]))).symm.trans hd1⟩
 ·have hE:En.onNoD1 s e r=e:=by unfold En.onNoD1;rw [if_neg (show ¬ ((ruleAt s.t r).1 == 1&&!e.deadD.getD r.toNat false)=true from hs)]
  rw [hE]
  refine ⟨fun x x0 x1 hx=>by simp only [hU1];exact h.s1 x x0 x1 hx,fun x x0 x1 hx=>?_,h.c0,fun r' r0' r1' hs' ha=>h.c1 r' r0' r1' hs' (by simp only [hU1] at ha;exact ha),fun x x0 x1 hf ha=>h.c2 x x0 x1 hf (fun r' r0' r1' hs' hr'=>?_)⟩
  ·obtain ⟨a,b⟩:=h.s2 x x0 x1 hx
   refine ⟨a,fun r' r0' r1' hs' hr'=>?_⟩
   obtain ⟨y,hy,hd1⟩:=b r' r0' r1' hs' hr'
   exact ⟨y,hy,upd_le hd1⟩
  ·by_cases er:r'=r
   ·subst er
    have hdd:gb e.core.deadD r'=true:=by
     cases hd2:gb e.core.deadD r' with
     | true=>rfl
     | false=>exact absurd (by rw [hs',hd2];rfl) hs
    rw [hD.deadD r' r0' r1',hs'] at hdd
    exact List.any_eq_true.1 hdd
   ·obtain ⟨y,hy,hd1⟩:=ha r' r0' r1' hs' hr'
    exact ⟨y,hy,(upd_iff (dl:=dl) (r:=r) (q:=q) (b:=y) (k:=2) er).symm.trans hd1⟩
end
end Go.Proofs.YtbcdgcodnkgdoaaGreat
namespace Go.Proofs.YtbcdgcodnkgdoaaGreat
open Go Go.RowKit
structure T12 (n m np:Nat) (e e':En):Prop where
 ok:EnOk n m np e'
 tm:TM n e'
 same:Same12 n e e'
section
variable {n m np:Nat} {s:Es} {pq ps:Int→Int} {fact:Int→Bool} {dl dl':Int→Int→Int→Bool} {e e' e1:En} {q r k p f:Int}
theorem T12.refl (h0:EnOk n m np e) (h:TM n e):T12 n m np e e:=⟨h0,h,Same12.refl⟩
theorem T12.trans {e2:En} (h:T12 n m np e e') (h2:T12 n m np e' e2):T12 n m np e e2:=⟨h2.ok,h2.tm,h.same.trans h2.same⟩
theorem T12.of (h0:EnOk n m np e1) (h:TM n e) (hm:e1.marks=e.marks) (ht:e1.told=e.told):T12 n m np e e1:=⟨h0,h.same hm ht,fun q k _ _ _ _=>has_same hm⟩
theorem T12.look (hn:n≤4096) (h0:EnOk n m np e) (h:TM n e) (q0:0≤q) (q1:q < n):T12 n m np e (e.look q):=⟨h0.look hn q0 q1,(h.look q0 q1).1,Same12.look h q0 q1⟩
theorem T12.turn (hn:n≤4096) (h0:EnOk n m np e1) (h:TM n e) (hm:e1.marks=e.marks) (ht:e1.told=e.told) (q0:0≤q) (q1:q < n):T12 n m np e (e1.look q):=(T12.of h0 h hm ht).trans (T12.look hn h0 (h.same hm ht) q0 q1)
theorem T12.fold {f:En→Int→En} {N:Nat} (hf:∀ (e:En) (u:Int),EnOk n m np e→TM n e→0≤u→u < N→T12 n m np e (f e u)):∀ {l:List Int} {e:En},(∀ u∈l,0≤u∧u < N)→EnOk n m np e→TM n e→T12 n m np e (l.foldl f e)
 | [],e,_,h0,h=>T12.refl h0 h
 | a::l,e,hl,h0,h=>by
  rw [List.foldl_cons]
  obtain ⟨a0,a1⟩:=hl a (List.mem_cons_self ..)
  have h1:=hf e a h0 h a0 a1
  exact h1.trans (T12.fold hf (fun u hu=>hl u (List.mem_cons_of_mem _ hu)) h1.ok h1.tm)
theorem T12.settle (hn:n≤4096) (h0:EnOk n m np e) (h:TM n e) (p0:0≤p) (p1:p < np):T12 n m np e (e.settle p):=by
 obtain ⟨⟨q0,q1⟩,_⟩:=h0.pair p0 p1
 unfold En.settle
 split
 ·exact T12.refl h0 h
 ·exact T12.turn hn (EnOk.ups ((h0.settle1 p0 p1).attacks1 _ _)) h rfl rfl q0 q1
theorem T12.stand (hn:n≤4096) (h0:EnOk n m np e) (h:TM n e) (p0:0≤p) (p1:p < np):T12 n m np e (e.stand p):=by
 obtain ⟨⟨q0,q1⟩,_⟩:=h0.pair p0 p1
 unfold En.stand
 split
 ·exact T12.turn hn (EnOk.ups (h0.standing1 _ _)) h rfl rfl q0 q1
 ·exact T12.refl h0 h
theorem T12.upL (h0:EnOk n m np e) (h:TM n e):T12 n m np e (En.upL s e r):=by unfold En.upL;split <;> first | exact T12.of h0.ups h rfl rfl | exact T12.refl h0 h
theorem T12.fire (hs:EsOk n m np s) (h0:EnOk n m np e) (h:TM n e) (r0:0≤r) (r1:r < m):T12 n m np e (En.fire s e r):=by
 have hn:=hs.small.1
 have h1:T12 n m np e (En.fire1 s e r):=by
  unfold En.fire1
  obtain ⟨q0,q1⟩:=hs.headAt r0 r1
  split
  ·dsimp only
   have h2:T12 n m np e (if e.backed.getD (ruleAt s.t r).2.1.toNat false then e else ({ e with backed:=e.backed.set (ruleAt s.t r).2.1.toNat true }:En).ups 1):=by
    split
    ·exact T12.refl h0 h
    ·exact T12.of (EnOk.ups (h0.backed1 _ _)) h rfl rfl
   have h3:=T12.fold (f:=En.settle) (fun e u h0 h u0 u1=>T12.settle hn h0 h u0 u1) (hs.beatsAt r0 r1) h2.ok h2.tm
   exact (h2.trans h3).trans (T12.look hn h3.ok h3.tm q0 q1)
  ·exact T12.refl h0 h
 exact h1.trans (T12.fold (f:=En.stand) (fun e u h0 h u0 u1=>T12.stand hn h0 h u0 u1) (hs.ofAt r0 r1) h1.ok h1.tm)
theorem T12.plus1 (hs:EsOk n m np s) (h0:EnOk n m np e) (h:TM n e) (r0:0≤r) (r1:r < m):T12 n m np e (En.onPlus1 s e r):=by
 unfold En.onPlus1
 dsimp only
 have h1:T12 n m np e (En.lower s e r):=by
  unfold En.lower
  exact (T12.of (h0.need1 _ _) h rfl rfl:T12 n m np e { e with need:=En.dec e.need r }).trans (T12.upL (h0.need1 _ _) (h.same rfl rfl))
 split
 ·exact h1.trans (T12.fire hs h1.ok h1.tm r0 r1)
 ·exact h1
theorem T12.minus1 (hs:EsOk n m np s) (h0:EnOk n m np e) (h:TM n e) (r0:0≤r) (r1:r < m):T12 n m np e (En.onMinus1 s e r):=by
 have hn:=hs.small.1
 obtain ⟨q0,q1⟩:=hs.headAt r0 r1
 unfold En.onMinus1
 split
 ·exact T12.refl h0 h
 ·dsimp only
  have h1:T12 n m np e (En.upL s { e with dead:=e.dead.set r.toNat true } r):=(T12.of (h0.dead1 _ _) h rfl rfl:T12 n m np e { e with dead:=e.dead.set r.toNat true }).trans (T12.upL (h0.dead1 _ _) (h.same rfl rfl))
  have h2:=h1.trans (T12.fold (f:=En.settle) (fun e u h0 h u0 u1=>T12.settle hn h0 h u0 u1) (hs.ofAt r0 r1) h1.ok h1.tm)
  generalize (rowAt s.of r).foldl En.settle (En.upL s { e with dead:=e.dead.set r.toNat true } r)=e2 at *
  split
  ·have h3:T12 n m np e (({ e2 with backs:=En.dec e2.backs (ruleAt s.t r).2.1 }:En).ups 1):=h2.trans (T12.of (EnOk.ups (h2.ok.backs1 _ _)) h2.tm rfl rfl)
   have h4:=h3.trans (T12.fold (f:=En.onMinus2) (fun e u h0 h u0 u1=>by
    unfold En.onMinus2
    have h5:T12 n m np e (({ e with pairs:=e.pairs.set u.toNat ((e.pair u).1,(e.pair u).2.1,(e.pair u).2.2.1,En.w64 ((e.pair u).2.2.2 - 1)) }:En).ups 1):=T12.of (EnOk.ups (h0.left1 u0 u1)) h rfl rfl
    exact h5.trans (T12.stand hn h5.ok h5.tm u0 u1)) (hs.beatsAt r0 r1) h3.ok h3.tm)
   exact h4.trans (T12.look hn h4.ok h4.tm q0 q1)
  ·exact h2
theorem T12.plusD2 (hn:n≤4096) (h0:EnOk n m np e) (h:TM n e) (f0:0≤f) (f1:f < n):T12 n m np e (En.onPlusD2 e f):=by
 unfold En.onPlusD2
 split
 ·exact T12.turn hn (EnOk.ups (h0.clash1 _ _)) h rfl rfl f0 f1
 ·exact T12.refl h0 h
theorem T12.late1 (hn:n≤4096) (h0:EnOk n m np e) (h:TM n e) (f0:0≤f) (f1:f < n):T12 n m np e (En.onLate1 e f):=by
 unfold En.onLate1
 split
 ·exact T12.turn hn (EnOk.ups (h0.opn1 _ _)) h rfl rfl f0 f1
 ·exact T12.refl h0 h
end
end Go.Proofs.YtbcdgcodnkgdoaaGreat
namespace Go.Proofs.YtbcdgcodnkgdoaaGreat
open Go Go.RowKit
section
variable {n m np:Nat} {s:Es} {pq ps:Int→Int} {fact:Int→Bool} {dl dl':Int→Int→Int→Bool} {laid Pr:Int→Int→Bool} {e e' e1:En} {q r k p f:Int}
theorem fold_en {P:(Int→Int→Int→Bool)→En→Prop} {g:En→Int→En} {ok:Int→Prop} (hstep:∀ dl c r,ok r→dl r q k=false→P dl c→P (upd dl r q k) (g c r)):∀ {L:List Int} {dl:Int→Int→Int→Bool} {c:En},L.Nodup→(∀ r∈L,ok r∧dl r q k=false)→P dl c→P (updL dl L q k) (L.foldl g c)
 | [],dl,c,_,_,h=>by
  have:updL dl [] q k=dl:=by funext r b k';simp [updL]
  rw [this];exact h
 | r::L,dl,c,hn,hL,h=>by
  rw [List.nodup_cons] at hn
  obtain ⟨h1,h2⟩:=hL r (List.mem_cons_self ..)
  have:=fold_en hstep (L:=L) hn.2 (fun r' hr'=>⟨(hL r' (List.mem_cons_of_mem _ hr')).1,by
   rw [upd_r (r:=r) (fun (e:r'=r)=>hn.1 (by rw [← e];exact hr'))];exact (hL r' (List.mem_cons_of_mem _ hr')).2⟩) (hstep dl c r h1 h2 h)
  rw [updL_cons] at this
  exact this
theorem fold_en0 {P:(Int→Int→Int→Bool)→En→Prop} {g:En→Int→En} {ok:Int→Prop} (hstep:∀ dl c r,ok r→P dl c→P (upd dl r q k) (g c r)):∀ {L:List Int} {dl:Int→Int→Int→Bool} {c:En},(∀ r∈L,ok r)→P dl c→P (updL dl L q k) (L.foldl g c)
 | [],dl,c,_,h=>by
  have:updL dl [] q k=dl:=by funext r b k';simp [updL]
  rw [this];exact h
 | r::L,dl,c,hL,h=>by
  have:=fold_en0 hstep (L:=L) (fun r' hr'=>hL r' (List.mem_cons_of_mem _ hr')) (hstep dl c r (hL r (List.mem_cons_self ..)) h)
  rw [updL_cons] at this
  exact this
theorem tm_plusD1 (hc:Con n m np s pq ps) (ht:TM n e) (r0:0≤r) (r1:r < m):TM n (En.onPlusD1 s e r):=by
 obtain ⟨h0,h1⟩:=hc.head r r0 r1
 unfold En.onPlusD1
 split
 ·dsimp only
  have h2:TM n (En.lowerD s e r):=by
   unfold En.lowerD En.upL
   split
   ·exact ht.same rfl rfl
   ·exact ht.same rfl rfl
  split
  ·exact h2.tell h0 h1 (by omega) (by omega)
  ·exact h2
 ·exact ht
theorem tm_noD1 (hc:Con n m np s pq ps) (ht:TM n e) (r0:0≤r) (r1:r < m):TM n (En.onNoD1 s e r):=by
 obtain ⟨h0,h1⟩:=hc.head r r0 r1
 unfold En.onNoD1
 split
 ·dsimp only
  have h2:TM n (En.upL s { e with deadD:=e.deadD.set r.toNat true } r):=by
   unfold En.upL
   split
   ·exact ht.same rfl rfl
   ·exact ht.same rfl rfl
  generalize En.upL s { e with deadD:=e.deadD.set r.toNat true } r=e2 at *
  have h3:TM n (({ e2 with strict:=En.dec e2.strict (ruleAt s.t r).2.1 }:En).ups 1):=h2.same rfl rfl
  split
  ·exact h3.tell h0 h1 (by omega) (by omega)
  ·exact h3
 ·exact ht
theorem Ks.plusD (hc:Con n m np s pq ps) (h0:EnOk n m np e) (hD:CanD n m s fact (fun _ b k=>Pr b k) e.core) (ht:TM n e) (h:Ks n m s fact (fun _ b k=>Pr b k) e) (q0:0≤q) (q1:q < n) (hP:Pr q 1=false):Ks n m s fact (fun _ b k=>addP Pr q 1 b k) (En.onPlusD s e q):=by
 unfold En.onPlusD
 have hn:=hc.ok.small.1
 obtain ⟨hn1,hi⟩:=hc.inn q q0 q1
 obtain ⟨hn2,_,hf⟩:=hc.foes q q0 q1
 have h1:=fold_en (q:=q) (k:=1) (P:=fun dl e=>EnOk n m np e∧CanD n m s fact dl e.core∧TM n e∧Ks n m s fact dl e) (g:=En.onPlusD1 s) (ok:=fun r=>(0≤r∧r < m)∧q∈bd s r)
  (fun dl e r hr hd ⟨a0,a1,a2,a3⟩=>⟨a0.onPlusD1 hc.ok hr.1.1 hr.1.2,by rw [core_onPlusD1];exact a1.plusD1 hc hr.1.1 hr.1.2 hr.2 hd,tm_plusD1 hc a2 hr.1.1 hr.1.2,a3.plusD1 hc a1 a2 hr.1.1 hr.1.2 hr.2 hd⟩) hn1 (fun r hr=>⟨(hi r).1 hr,hP⟩) ⟨h0,hD,ht,h⟩
 obtain ⟨a0,a1,a2,a3⟩:=h1
 have h2:=T12.fold (f:=En.onPlusD2) (fun e u h0 h u0 u1=>T12.plusD2 hn h0 h u0 u1) hf a0 a2
 have h3:=h2.trans (T12.look hn h2.ok h2.tm q0 q1)
 exact a3.same hc h3.same (fun r r0 r1 b hb=>updL_inn hc q0 q1 ⟨r0,r1⟩ hb) (fun r r0 r1 b hb=>updL_inn hc q0 q1 ⟨r0,r1⟩ hb)
theorem Ks.noD (hc:Con n m np s pq ps) (h0:EnOk n m np e) (hD:CanD n m s fact (fun _ b k=>Pr b k) e.core) (ht:TM n e) (h:Ks n m s fact (fun _ b k=>Pr b k) e) (q0:0≤q) (q1:q < n):Ks n m s fact (fun _ b k=>addP Pr q 2 b k) (En.onNoD s e q):=by
 unfold En.onNoD
 have hn:=hc.ok.small.1
 obtain ⟨hn1,hi⟩:=hc.inn q q0 q1
 have h1:=fold_en0 (q:=q) (k:=2) (P:=fun dl e=>EnOk n m np e∧CanD n m s fact dl e.core∧TM n e∧Ks n m s fact dl e) (g:=En.onNoD1 s) (ok:=fun r=>(0≤r∧r < m)∧q∈bd s r)
  (fun dl e r hr ⟨a0,a1,a2,a3⟩=>⟨a0.onNoD1 hc.ok hr.1.1 hr.1.2,by rw [core_onNoD1];exact a1.noD1 hc hc.ok.small.2 hr.1.1 hr.1.2 hr.2,tm_noD1 hc a2 hr.1.1 hr.1.2,a3.noD1 hc a1 a2 hr.1.1 hr.1.2 hr.2⟩) (L:=rowAt s.inn q) (fun r hr=>(hi r).1 hr) ⟨h0,hD,ht,h⟩
 obtain ⟨a0,a1,a2,a3⟩:=h1
 exact a3.same hc (T12.look hn a0 a2 q0 q1).same (fun r r0 r1 b hb=>updL_inn hc q0 q1 ⟨r0,r1⟩ hb) (fun r r0 r1 b hb=>updL_inn hc q0 q1 ⟨r0,r1⟩ hb)
theorem late1_D {c:Cr}:(Cr.onLate1 c f).needD=c.needD∧(Cr.onLate1 c f).deadD=c.deadD∧(Cr.onLate1 c f).strict=c.strict:=by
 unfold Cr.onLate1;split <;> exact ⟨rfl,rfl,rfl⟩
theorem lates_D:∀ {L:List Int} {c:Cr},(L.foldl Cr.onLate1 c).needD=c.needD∧(L.foldl Cr.onLate1 c).deadD=c.deadD∧(L.foldl Cr.onLate1 c).strict=c.strict
 | [],c=>⟨rfl,rfl,rfl⟩
 | f::L,c=>by
  rw [List.foldl_cons]
  obtain ⟨h1,h2,h3⟩:=lates_D (L:=L) (c:=Cr.onLate1 c f)
  obtain ⟨g1,g2,g3⟩:=late1_D (c:=c) (f:=f)
  exact ⟨h1.trans g1,h2.trans g2,h3.trans g3⟩
theorem Ks.late (hc:Con n m np s pq ps) (h0:EnOk n m np e) (hD:CanD n m s fact (fun _ b k=>Pr b k) e.core) (ht:TM n e) (h:Ks n m s fact (fun _ b k=>Pr b k) e) (q0:0≤q) (q1:q < n):Ks n m s fact (fun _ b k=>addP Pr q 2 b k) (En.onLate s e q):=by
 unfold En.onLate
 have hn:=hc.ok.small.1
 obtain ⟨hn2,_,hf⟩:=hc.foes q q0 q1
 have h2:=T12.fold (f:=En.onLate1) (fun e u h0 h u0 u1=>T12.late1 hn h0 h u0 u1) hf h0 ht
 have hcs:=fold_core (f:=En.onLate1) (g:=Cr.onLate1) (fun _ _=>core_onLate1) (l:=rowAt (tFoes s.t) q) (e:=e)
 obtain ⟨g1,g2,g3⟩:=lates_D (L:=rowAt (tFoes s.t) q) (c:=e.core)
 exact (h.same hc h2.same (fun _ _ _ _ _=>rfl) (fun _ _ _ _ _=>rfl)).noD hc h2.ok (by rw [hcs];exact hD.congr g1 g2 g3 (fun _ _=>rfl) (fun _ _=>rfl)) h2.tm q0 q1
theorem Ks.plus (hc:Con n m np s pq ps) (h0:EnOk n m np e) (ht:TM n e) (h:Ks n m s fact (fun _ b k=>Pr b k) e) (q0:0≤q) (q1:q < n):Ks n m s fact (fun _ b k=>addP Pr q 3 b k) (En.onPlus s e q):=by
 unfold En.onPlus
 obtain ⟨hn1,hi⟩:=hc.inn q q0 q1
 have h2:=T12.fold (f:=En.onPlus1 s) (fun e u h0 h u0 u1=>T12.plus1 hc.ok h0 h u0 u1) (l:=rowAt s.inn q) (fun r hr=>((hi r).1 hr).1) h0 ht
 exact h.same hc h2.same (fun r r0 r1 b hb=>addP_k (by decide)) (fun r r0 r1 b hb=>addP_k (by decide))
theorem Ks.minus (hc:Con n m np s pq ps) (h0:EnOk n m np e) (ht:TM n e) (h:Ks n m s fact (fun _ b k=>Pr b k) e) (q0:0≤q) (q1:q < n):Ks n m s fact (fun _ b k=>addP Pr q 4 b k) (En.onMinus s e q):=by
 unfold En.onMinus
 obtain ⟨hn1,hi⟩:=hc.inn q q0 q1
 have h2:=T12.fold (f:=En.onMinus1 s) (fun e u h0 h u0 u1=>T12.minus1 hc.ok h0 h u0 u1) (l:=rowAt s.inn q) (fun r hr=>((hi r).1 hr).1) h0 ht
 exact h.same hc h2.same (fun r r0 r1 b hb=>addP_k (by decide)) (fun r r0 r1 b hb=>addP_k (by decide))
theorem Ks.does {first i:Nat} (hc:Con n m np s pq ps) (h0:EnOk n m np e) (hD:CanD n m s fact (fun _ b k=>Pr b k) e.core) (ht:TM n e) (h:Ks n m s fact (fun _ b k=>Pr b k) e) (q0:0≤q) (q1:q < n) (k0:1≤k) (k1:k≤4) (hP:Pr q k=false):Ks n m s fact (fun _ b k'=>addP Pr q k b k') (En.does s first i e (q,k)):=by
 obtain rfl | rfl | rfl | rfl:k=1∨k=2∨k=3∨k=4:=by omega
 ·exact h.plusD hc h0 hD ht q0 q1 hP
 ·by_cases hi:first≤i
  ·rw [does_late hi];exact h.late hc h0 hD ht q0 q1
  ·rw [does_noD hi];exact h.noD hc h0 hD ht q0 q1
 ·exact h.plus hc h0 ht q0 q1
 ·exact h.minus hc h0 ht q0 q1
structure Inv (n m np:Nat) (s:Es) (pq ps:Int→Int) (fact:Int→Bool) (laid Pr:Int→Int→Bool) (e:En):Prop where
 ok:EnOk n m np e
 can:Can n m np s pq ps fact laid Pr e.core
 kp:Kp n Pr (fun _=>False) e
 ks:Ks n m s fact (fun _ b k=>Pr b k) e
theorem Inv.ups (h:Inv n m np s pq ps fact laid Pr e) (v:Int):Inv n m np s pq ps fact laid Pr (e.ups v):=⟨h.ok.ups,h.can,h.kp.ups,⟨h.ks.s1,h.ks.s2,h.ks.c0,h.ks.c1,h.ks.c2⟩⟩
theorem Inv.does {first i:Nat} (hc:Con n m np s pq ps) (hsym:∀ (q:Int),0≤q→q < n→∀ f∈rowAt (tFoes s.t) q,q∈rowAt (tFoes s.t) f) (h:Inv n m np s pq ps fact laid Pr e) (q0:0≤q) (q1:q < n) (k0:1≤k) (k1:k≤4) (hh:e.has q k=true) (hP:Pr q k=false) (hl:k=2→(laid q 2=true↔i < first)) (hco:∀ b,¬ (addP Pr q k b 3=true∧addP Pr q k b 4=true)):Inv n m np s pq ps fact laid (addP Pr q k) (En.does s first i e (q,k)):=
 ⟨h.ok.does hc.ok q0 q1,by rw [core_does];exact h.can.does hc hsym q0 q1 k0 k1 hP hl hco,h.kp.does hc hsym h.can q0 q1 k0 k1 hh hP hl hco,h.ks.does hc h.ok h.can.d h.kp.tm q0 q1 k0 k1 hP⟩
end
end Go.Proofs.YtbcdgcodnkgdoaaGreat
namespace Go.Proofs.YtbcdgcodnkgdoaaGreat
open Go Go.RowKit
def sm:Nat→(Int→Int)→Int
 | 0,_=>0
 | k + 1,f=>sm k f + f k
section
variable {n m:Nat} {f g:Int→Int} {x:Int}
theorem sm_congr:∀ {n:Nat},(∀ (i:Int),0≤i→i < n→g i=f i)→sm n g=sm n f
 | 0,_=>rfl
 | n + 1,h=>by
  unfold sm
  rw [sm_congr (n:=n) (fun i h0 h1=>h i h0 (by omega)),h n (by omega) (by omega)]
theorem sm_at:∀ {n:Nat},0≤x→x < n→(∀ (i:Int),0≤i→i < n→i≠x→g i=f i)→sm n g=sm n f + (g x - f x)
 | 0,h0,h1,_=>by omega
 | n + 1,h0,h1,h=>by
  unfold sm
  by_cases e:x=n
  ·subst e
   rw [sm_congr (f:=f) (g:=g) (n:=n) (fun i i0 i1=>h i i0 (by omega) (by omega))]
   omega
  ·rw [sm_at (n:=n) h0 (by omega) (fun i i0 i1 hi=>h i i0 (by omega) hi),h n (by omega) (by omega) (fun k=>e k.symm)]
   omega
theorem sm_le:∀ {n:Nat},(∀ (i:Int),0≤i→i < n→g i≤f i)→sm n g≤sm n f
 | 0,_=>by unfold sm;omega
 | n + 1,h=>by
  unfold sm
  have:=sm_le (n:=n) (fun i h0 h1=>h i h0 (by omega))
  have:=h n (by omega) (by omega)
  omega
theorem sm_add:∀ {n:Nat},sm n (fun i=>f i + g i)=sm n f + sm n g
 | 0=>by unfold sm;omega
 | n + 1=>by unfold sm;rw [sm_add (n:=n)];dsimp only;omega
theorem sm_sub:∀ {n:Nat},sm n (fun i=>f i - g i)=sm n f - sm n g
 | 0=>by unfold sm;omega
 | n + 1=>by unfold sm;rw [sm_sub (n:=n)];dsimp only;omega
theorem sm_zero:∀ {n:Nat},sm n (fun _=>0)=0
 | 0=>rfl
 | n + 1=>by unfold sm;rw [sm_zero (n:=n)];rfl
theorem sm_nonneg (h:∀ (i:Int),0≤i→i < n→0≤f i):0≤sm n f:=by
 have:=sm_le (n:=n) (f:=f) (g:=fun _=>0) h
 rw [sm_zero] at this
 exact this
theorem sm_const (c:Int):∀ {n:Nat},sm n (fun _=>c)=n * c
 | 0=>by unfold sm;omega
 | n + 1=>by
  unfold sm
  rw [sm_const c (n:=n),Int.natCast_add,Int.add_mul]
  dsimp only
  omega
end
abbrev b1 (b:Bool):Int:=cond b 1 0
def vp (c:Cr) (p:Int):Int:=2 * b1 (c.sett p) - c.left p
def vq (c:Cr) (q:Int):Int:=b1 (gb c.backed q) + b1 (gb c.clash q) + b1 (gb c.standing q) - gi c.opn q - gi c.strict q - gi c.backs q
def vr (s:Es) (c:Cr) (r:Int):Int:=cond (En.long s r) (b1 (gb c.deadD r) + b1 (gb c.dead r) - gi c.needD r - gi c.need r) 0
def V (n m np:Nat) (s:Es) (c:Cr):Int:=sm np (vp c) + sm n (vq c) + sm m (vr s c)
def Cg (a b:Int):Prop:=∃ j:Int,a=b + 18446744073709551616 * j
theorem Cg.refl {a:Int}:Cg a a:=⟨0,by omega⟩
theorem Cg.of {a b:Int} (h:a=b):Cg a b:=⟨0,by omega⟩
theorem Cg.trans {a b c:Int} (h:Cg a b) (h2:Cg b c):Cg a c:=by
 obtain ⟨j,h⟩:=h
 obtain ⟨k,h2⟩:=h2
 exact ⟨j + k,by omega⟩
theorem w64_cg (x:Int):Cg (En.w64 x) x:=by
 unfold En.w64
 rw [IntKind.wrap_i64]
 refine ⟨-((x + 9223372036854775808) / 18446744073709551616),?_⟩
 omega
abbrev Ri (x:Int):Prop:=-9223372036854775808≤x∧x≤9223372036854775807
theorem w64_ri (x:Int):Ri (En.w64 x):=by
 unfold En.w64
 rw [IntKind.wrap_i64]
 unfold Ri
 omega
structure Tk (n m np:Nat) (s:Es) (e e':En):Prop where
 ok:EnOk n m np e'
 pre:e.told <+: e'.told
 up:Cg (e'.up - V n m np s e'.core - 2 * (e'.told.length:Nat)) (e.up - V n m np s e.core - 2 * (e.told.length:Nat))
 rg:Ri e.up→Ri e'.up
section
variable {n m np:Nat} {s:Es} {e e' e1:En} {q r k p f v:Int} {c c':Cr}
theorem Tk.refl (h0:EnOk n m np e):Tk n m np s e e:=⟨h0,List.prefix_refl _,Cg.refl,id⟩
theorem Tk.trans {e2:En} (h:Tk n m np s e e') (h2:Tk n m np s e' e2):Tk n m np s e e2:=⟨h2.ok,h.pre.trans h2.pre,h2.up.trans h.up,fun k=>h2.rg (h.rg k)⟩
theorem Tk.of (h0:EnOk n m np e1) (ht:e1.told=e.told) (hr:Ri e.up→Ri e1.up) (hu:Cg (e1.up - V n m np s e1.core) (e.up - V n m np s e.core)):Tk n m np s e e1:=by
 refine ⟨h0,by rw [ht];exact List.prefix_refl _,?_,hr⟩
 rw [ht]
 obtain ⟨j,hj⟩:=hu
 exact ⟨j,by omega⟩
theorem Tk.tell (hn:n≤4096) (h0:EnOk n m np e) (q0:0≤q) (q1:q < n) (k0:1≤k) (k1:k≤4):Tk n m np s e (e.tell q k):=by
 refine ⟨h0.tell hn q0 q1 k0 k1,?_,?_,fun hr=>?_⟩
 ·unfold En.tell
  split
  ·exact List.prefix_refl _
  ·exact List.prefix_append _ _
 ·rw [core_tell]
  unfold En.tell
  split
  ·exact Cg.refl
  ·dsimp only
   rw [List.length_append,List.length_singleton]
   obtain ⟨j,hj⟩:=w64_cg (e.up + 2)
   exact ⟨j,by omega⟩
 ·unfold En.tell
  split
  ·exact hr
  ·exact w64_ri _
theorem Tk.look (hn:n≤4096) (h0:EnOk n m np e) (q0:0≤q) (q1:q < n):Tk n m np s e (e.look q):=by
 unfold En.look
 have h1:Tk n m np s e (e.look1 q):=by
  rw [look1_def];split
  ·exact Tk.tell hn h0 q0 q1 (by omega) (by omega)
  ·exact Tk.refl h0
 rw [look2_def];split
 ·exact h1.trans (Tk.tell hn h1.ok q0 q1 (by omega) (by omega))
 ·exact h1
theorem Tk.fold {f:En→Int→En} {N:Nat} (hf:∀ (e:En) (u:Int),EnOk n m np e→0≤u→u < N→Tk n m np s e (f e u)):∀ {l:List Int} {e:En},(∀ u∈l,0≤u∧u < N)→EnOk n m np e→Tk n m np s e (l.foldl f e)
 | [],e,_,h0=>Tk.refl h0
 | a::l,e,hl,h0=>by
  rw [List.foldl_cons]
  obtain ⟨a0,a1⟩:=hl a (List.mem_cons_self ..)
  have h1:=hf e a h0 a0 a1
  exact h1.trans (Tk.fold hf (fun u hu=>hl u (List.mem_cons_of_mem _ hu)) h1.ok)
theorem Tk.ups (h0:EnOk n m np e1) (ht:e1.told=e.told) (hu:e1.up=e.up) (hv:Cg (V n m np s e1.core) (V n m np s e.core + v)):Tk n m np s e (e1.ups v):=by
 refine Tk.of h0.ups ht (fun _=>w64_ri _) ?_
 rw [core_ups]
 show Cg (En.w64 (e1.up + v) - _) _
 rw [hu]
 obtain ⟨j,hj⟩:=w64_cg (e.up + v)
 obtain ⟨i,hi⟩:=hv
 exact ⟨j - i,by omega⟩
theorem dec_cg {l:List Int} (hl:l.length=n) (q0:0≤q) (q1:q < n):(∀ (x:Int),0≤x→x≠q→gi (En.dec l q) x=gi l x)∧Cg (gi (En.dec l q) q) (gi l q - 1):=by
 have h:∀ (x:Int),0≤x→gi (En.dec l q) x=if x=q then En.w64 (gi l q - 1) else gi l x:=fun x x0=>getD_setAt hl q0 q1 x0
 refine ⟨fun x x0 hx=>by rw [h x x0,if_neg hx],?_⟩
 rw [h q q0,if_pos rfl]
 exact w64_cg _
theorem V_lit (hp:c'.pairs=c.pairs) (hr:c'.needD=c.needD∧c'.need=c.need∧c'.deadD=c.deadD∧c'.dead=c.dead) (q0:0≤q) (q1:q < n) (hq:∀ (x:Int),0≤x→x < n→x≠q→vq c' x=vq c x) (hv:Cg (vq c' q) (vq c q + v)):Cg (V n m np s c') (V n m np s c + v):=by
 unfold V
 rw [sm_at q0 q1 hq]
 have e1:sm np (vp c')=sm np (vp c):=sm_congr fun i _ _=>by unfold vp Cr.sett Cr.left Cr.pair;rw [hp]
 have e2:sm m (vr s c')=sm m (vr s c):=sm_congr fun i _ _=>by unfold vr;rw [hr.1,hr.2.1,hr.2.2.1,hr.2.2.2]
 rw [e1,e2]
 obtain ⟨j,hj⟩:=hv
 exact ⟨j,by omega⟩
theorem V_rule (hp:c'.pairs=c.pairs) (hl:c'.backed=c.backed∧c'.clash=c.clash∧c'.standing=c.standing∧c'.opn=c.opn∧c'.strict=c.strict∧c'.backs=c.backs) (r0:0≤r) (r1:r < m) (hq:∀ (x:Int),0≤x→x < m→x≠r→vr s c' x=vr s c x) (hv:Cg (vr s c' r) (vr s c r + v)):Cg (V n m np s c') (V n m np s c + v):=by
 unfold V
 rw [sm_at r0 r1 hq]
 have e1:sm np (vp c')=sm np (vp c):=sm_congr fun i _ _=>by unfold vp Cr.sett Cr.left Cr.pair;rw [hp]
 have e2:sm n (vq c')=sm n (vq c):=sm_congr fun i _ _=>by unfold vq;rw [hl.1,hl.2.1,hl.2.2.1,hl.2.2.2.1,hl.2.2.2.2.1,hl.2.2.2.2.2]
 rw [e1,e2]
 obtain ⟨j,hj⟩:=hv
 exact ⟨j,by omega⟩
theorem V_pair (hl:c'.backed=c.backed∧c'.clash=c.clash∧c'.standing=c.standing∧c'.opn=c.opn∧c'.strict=c.strict∧c'.backs=c.backs) (hr:c'.needD=c.needD∧c'.need=c.need∧c'.deadD=c.deadD∧c'.dead=c.dead) (p0:0≤p) (p1:p < np) (hq:∀ (x:Int),0≤x→x < np→x≠p→vp c' x=vp c x) (hv:Cg (vp c' p) (vp c p + v)):Cg (V n m np s c') (V n m np s c + v):=by
 unfold V
 rw [sm_at p0 p1 hq]
 have e1:sm m (vr s c')=sm m (vr s c):=sm_congr fun i _ _=>by unfold vr;rw [hr.1,hr.2.1,hr.2.2.1,hr.2.2.2]
 have e2:sm n (vq c')=sm n (vq c):=sm_congr fun i _ _=>by unfold vq;rw [hl.1,hl.2.1,hl.2.2.1,hl.2.2.2.1,hl.2.2.2.2.1,hl.2.2.2.2.2]
 rw [e1,e2]
 obtain ⟨j,hj⟩:=hv
 exact ⟨j,by omega⟩
theorem Tk.settle (hn:n≤4096) (h0:EnOk n m np e) (p0:0≤p) (p1:p < np):Tk n m np s e (e.settle p):=by
 obtain ⟨⟨q0,q1⟩,_⟩:=h0.pair p0 p1
 unfold En.settle
 by_cases hb:(e.pair p).2.2.1=true
 ·rw [if_pos hb];exact Tk.refl h0
 ·rw [if_neg hb]
  have h1:Tk n m np s e (({ e with pairs:=e.pairs.set p.toNat ((e.pair p).1,(e.pair p).2.1,true,(e.pair p).2.2.2),attacks:=En.dec e.attacks (e.pair p).1 }:En).ups 2):=by
   refine Tk.ups ((h0.settle1 p0 p1).attacks1 _ _) rfl rfl ?_
   have hpx:∀ (x:Int),0≤x→((e.core.pairs.set p.toNat ((e.pair p).1,(e.pair p).2.1,true,(e.pair p).2.2.2)).getD x.toNat (0,0,false,0))=if x=p then ((e.pair p).1,(e.pair p).2.1,true,(e.pair p).2.2.2) else e.core.pair x:=fun x x0=>pair_put (np:=np) h0.pairs p0 p1 x0
   refine V_pair (p:=p) ⟨rfl,rfl,rfl,rfl,rfl,rfl⟩ ⟨rfl,rfl,rfl,rfl⟩ p0 p1 (fun x x0 x1 hx=>?_) (Cg.of ?_)
   ·show 2 * b1 ((e.core.pairs.set _ _).getD x.toNat (0,0,false,0)).2.2.1 - ((e.core.pairs.set _ _).getD x.toNat (0,0,false,0)).2.2.2=_
    rw [hpx x x0,if_neg hx]
    rfl
   ·show 2 * b1 ((e.core.pairs.set _ _).getD p.toNat (0,0,false,0)).2.2.1 - ((e.core.pairs.set _ _).getD p.toNat (0,0,false,0)).2.2.2=2 * b1 (e.pair p).2.2.1 - (e.pair p).2.2.2 + 2
    rw [hpx p p0,if_pos rfl,Bool.eq_false_iff.2 hb]
    show 2 * 1 - (e.pair p).2.2.2=2 * 0 - (e.pair p).2.2.2 + 2
    omega
  exact h1.trans (Tk.look hn h1.ok q0 q1)
theorem Tk.stand (hn:n≤4096) (h0:EnOk n m np e) (p0:0≤p) (p1:p < np):Tk n m np s e (e.stand p):=by
 obtain ⟨⟨q0,q1⟩,_⟩:=h0.pair p0 p1
 unfold En.stand
 split
 ·rename_i hb
  rw [Bool.and_eq_true,Bool.not_eq_true'] at hb
  have h1:Tk n m np s e (({ e with standing:=e.standing.set (e.pair p).1.toNat true }:En).ups 1):=by
   refine Tk.ups (h0.standing1 _ _) rfl rfl ?_
   have hset:∀ (x:Int),0≤x→gb (e.standing.set (e.pair p).1.toNat true) x=if x=(e.pair p).1 then true else gb e.standing x:=fun x x0=>getD_setAt h0.standing q0 q1 x0
   refine V_lit rfl ⟨rfl,rfl,rfl,rfl⟩ q0 q1 (fun x x0 x1 hx=>?_) (Cg.of ?_)
   ·show _ + b1 (gb (e.standing.set (e.pair p).1.toNat true) x) - _ - _ - _=_
    rw [hset x x0,if_neg hx]
    rfl
   ·show b1 (gb e.backed _) + b1 (gb e.clash _) + b1 (gb (e.standing.set (e.pair p).1.toNat true) (e.pair p).1) - gi e.opn _ - gi e.strict _ - gi e.backs _=b1 (gb e.backed _) + b1 (gb e.clash _) + b1 (gb e.standing (e.pair p).1) - gi e.opn _ - gi e.strict _ - gi e.backs _ + 1
    rw [hset _ q0,if_pos rfl,show gb e.standing (e.pair p).1=false from hb.2]
    show _ + 1 - _ - _ - _=_ + 0 - _ - _ - _ + 1
    omega
  exact h1.trans (Tk.look hn h1.ok q0 q1)
 ·exact Tk.refl h0
theorem b1_true:b1 true=1:=rfl
theorem b1_false:b1 false=0:=rfl
theorem Tk.upL (h0:EnOk n m np e1) (ht:e1.told=e.told) (hu:e1.up=e.up) (r0:0≤r) (r1:r < m) (hp:e1.core.pairs=e.core.pairs) (hl:e1.core.backed=e.core.backed∧e1.core.clash=e.core.clash∧e1.core.standing=e.core.standing∧e1.core.opn=e.core.opn∧e1.core.strict=e.core.strict∧e1.core.backs=e.core.backs)
 (hq:∀ (x:Int),0≤x→x < m→x≠r→vr s e1.core x=vr s e.core x) (hv:Cg (b1 (gb e1.core.deadD r) + b1 (gb e1.core.dead r) - gi e1.core.needD r - gi e1.core.need r) (b1 (gb e.core.deadD r) + b1 (gb e.core.dead r) - gi e.core.needD r - gi e.core.need r + 1)):Tk n m np s e (En.upL s e1 r):=by
 unfold En.upL
 by_cases hb:En.long s r=true
 ·rw [if_pos hb]
  refine Tk.ups h0 ht hu (V_rule hp hl r0 r1 hq ?_)
  unfold vr
  rw [hb]
  exact hv
 ·rw [if_neg hb]
  refine Tk.of h0 ht (fun k=>by rw [hu];exact k) ?_
  rw [hu]
  have:Cg (V n m np s e1.core) (V n m np s e.core + 0):=by
   refine V_rule hp hl r0 r1 hq ?_
   unfold vr
   rw [Bool.eq_false_iff.2 hb]
   exact Cg.refl
  obtain ⟨j,hj⟩:=this
  exact ⟨-j,by omega⟩
theorem Tk.lower (h0:EnOk n m np e) (r0:0≤r) (r1:r < m):Tk n m np s e (En.lower s e r):=by
 unfold En.lower
 obtain ⟨g1,g2⟩:=dec_cg h0.need r0 r1
 refine Tk.upL (h0.need1 _ _) rfl rfl r0 r1 rfl ⟨rfl,rfl,rfl,rfl,rfl,rfl⟩ (fun x x0 x1 hx=>?_) ?_
 ·show cond _ (_ - gi (En.dec e.need r) x) 0=_
  rw [g1 x x0 hx];rfl
 ·obtain ⟨j,hj⟩:=g2
  refine ⟨-j,?_⟩
  show _ - gi (En.dec e.need r) r=_ - gi e.need r + 1 + _
  rw [hj]
  show b1 (gb e.deadD r) + b1 (gb e.dead r) - gi e.needD r - _=b1 (gb e.deadD r) + b1 (gb e.dead r) - gi e.needD r - _ + 1 + _
  omega
theorem Tk.lowerD (h0:EnOk n m np e) (r0:0≤r) (r1:r < m):Tk n m np s e (En.lowerD s e r):=by
 unfold En.lowerD
 obtain ⟨g1,g2⟩:=dec_cg h0.needD r0 r1
 refine Tk.upL (h0.needD1 _ _) rfl rfl r0 r1 rfl ⟨rfl,rfl,rfl,rfl,rfl,rfl⟩ (fun x x0 x1 hx=>?_) ?_
 ·show cond _ (_ - gi (En.dec e.needD r) x - _) 0=_
  rw [g1 x x0 hx];rfl
 ·obtain ⟨j,hj⟩:=g2
  refine ⟨-j,?_⟩
  show _ - gi (En.dec e.needD r) r - _=_ - gi e.needD r - _ + 1 + _
  rw [hj]
  show b1 (gb e.deadD r) + b1 (gb e.dead r) - _ - gi e.need r=b1 (gb e.deadD r) + b1 (gb e.dead r) - _ - gi e.need r + 1 + _
  omega
theorem Tk.killD (h0:EnOk n m np e) (r0:0≤r) (r1:r < m) (hb:gb e.deadD r=false):Tk n m np s e (En.upL s { e with deadD:=e.deadD.set r.toNat true } r):=by
 have hset:∀ (x:Int),0≤x→gb (e.deadD.set r.toNat true) x=if x=r then true else gb e.deadD x:=fun x x0=>getD_setAt h0.deadD r0 r1 x0
 refine Tk.upL (h0.deadD1 _ _) rfl rfl r0 r1 rfl ⟨rfl,rfl,rfl,rfl,rfl,rfl⟩ (fun x x0 x1 hx=>?_) (Cg.of ?_)
 ·show cond _ (b1 (gb (e.deadD.set r.toNat true) x) + _ - _ - _) 0=_
  rw [hset x x0,if_neg hx];rfl
 ·show b1 (gb (e.deadD.set r.toNat true) r) + b1 (gb e.dead r) - gi e.needD r - gi e.need r=b1 (gb e.deadD r) + b1 (gb e.dead r) - gi e.needD r - gi e.need r + 1
  rw [hset r r0,if_pos rfl,hb,b1_true,b1_false]
  omega
theorem Tk.kill (h0:EnOk n m np e) (r0:0≤r) (r1:r < m) (hb:gb e.dead r=false):Tk n m np s e (En.upL s { e with dead:=e.dead.set r.toNat true } r):=by
 have hset:∀ (x:Int),0≤x→gb (e.dead.set r.toNat true) x=if x=r then true else gb e.dead x:=fun x x0=>getD_setAt h0.dead r0 r1 x0
 refine Tk.upL (h0.dead1 _ _) rfl rfl r0 r1 rfl ⟨rfl,rfl,rfl,rfl,rfl,rfl⟩ (fun x x0 x1 hx=>?_) (Cg.of ?_)
 ·show cond _ (_ + b1 (gb (e.dead.set r.toNat true) x) - _ - _) 0=_
  rw [hset x x0,if_neg hx];rfl
 ·show b1 (gb e.deadD r) + b1 (gb (e.dead.set r.toNat true) r) - gi e.needD r - gi e.need r=b1 (gb e.deadD r) + b1 (gb e.dead r) - gi e.needD r - gi e.need r + 1
  rw [hset r r0,if_pos rfl,hb,b1_true,b1_false]
  omega
end
end Go.Proofs.YtbcdgcodnkgdoaaGreat
namespace Go.Proofs.YtbcdgcodnkgdoaaGreat
open Go Go.RowKit
section
variable {n m np:Nat} {s:Es} {e e' e1:En} {q r k p f v:Int} {c c':Cr}
theorem Tk.fire1 (hs:EsOk n m np s) (h0:EnOk n m np e) (r0:0≤r) (r1:r < m):Tk n m np s e (En.fire1 s e r):=by
 have hn:=hs.small.1
 unfold En.fire1
 obtain ⟨q0,q1⟩:=hs.headAt r0 r1
 split
 ·dsimp only
  have h2:Tk n m np s e (if e.backed.getD (ruleAt s.t r).2.1.toNat false then e else ({ e with backed:=e.backed.set (ruleAt s.t r).2.1.toNat true }:En).ups 1):=by
   split
   ·exact Tk.refl h0
   ·rename_i hb
    refine Tk.ups (h0.backed1 _ _) rfl rfl ?_
    have hset:∀ (x:Int),0≤x→gb (e.backed.set (ruleAt s.t r).2.1.toNat true) x=if x=(ruleAt s.t r).2.1 then true else gb e.backed x:=fun x x0=>getD_setAt h0.backed q0 q1 x0
    refine V_lit rfl ⟨rfl,rfl,rfl,rfl⟩ q0 q1 (fun x x0 x1 hx=>?_) (Cg.of ?_)
    ·show b1 (gb (e.backed.set (ruleAt s.t r).2.1.toNat true) x) + _ + _ - _ - _ - _=_
     rw [hset x x0,if_neg hx]
     rfl
    ·show b1 (gb (e.backed.set (ruleAt s.t r).2.1.toNat true) (ruleAt s.t r).2.1) + b1 (gb e.clash _) + b1 (gb e.standing _) - gi e.opn _ - gi e.strict _ - gi e.backs _=b1 (gb e.backed (ruleAt s.t r).2.1) + b1 (gb e.clash _) + b1 (gb e.standing _) - gi e.opn _ - gi e.strict _ - gi e.backs _ + 1
     rw [hset _ q0,if_pos rfl,show gb e.backed (ruleAt s.t r).2.1=false from Bool.eq_false_iff.2 hb,b1_true,b1_false]
     omega
  have h3:=h2.trans (Tk.fold (f:=En.settle) (fun e u h0 u0 u1=>Tk.settle hn h0 u0 u1) (hs.beatsAt r0 r1) h2.ok)
  exact h3.trans (Tk.look hn h3.ok q0 q1)
 ·exact Tk.refl h0
theorem Tk.fire (hs:EsOk n m np s) (h0:EnOk n m np e) (r0:0≤r) (r1:r < m):Tk n m np s e (En.fire s e r):=by
 have h1:=Tk.fire1 hs h0 r0 r1
 exact h1.trans (Tk.fold (f:=En.stand) (fun e u h0 u0 u1=>Tk.stand hs.small.1 h0 u0 u1) (hs.ofAt r0 r1) h1.ok)
theorem Tk.plus1 (hs:EsOk n m np s) (h0:EnOk n m np e) (r0:0≤r) (r1:r < m):Tk n m np s e (En.onPlus1 s e r):=by
 unfold En.onPlus1
 dsimp only
 have h1:=Tk.lower (s:=s) h0 r0 r1
 split
 ·exact h1.trans (Tk.fire hs h1.ok r0 r1)
 ·exact h1
theorem Tk.plusD1 (hs:EsOk n m np s) (h0:EnOk n m np e) (r0:0≤r) (r1:r < m):Tk n m np s e (En.onPlusD1 s e r):=by
 obtain ⟨q0,q1⟩:=hs.headAt r0 r1
 unfold En.onPlusD1
 split
 ·dsimp only
  have h1:=Tk.lowerD (s:=s) h0 r0 r1
  split
  ·exact h1.trans (Tk.tell hs.small.1 h1.ok q0 q1 (by omega) (by omega))
  ·exact h1
 ·exact Tk.refl h0
theorem Tk.plusD2 (hn:n≤4096) (h0:EnOk n m np e) (f0:0≤f) (f1:f < n):Tk n m np s e (En.onPlusD2 e f):=by
 unfold En.onPlusD2
 split
 ·rename_i hb
  rw [Bool.and_eq_true,Bool.not_eq_true'] at hb
  have h1:Tk n m np s e (({ e with clash:=e.clash.set f.toNat true }:En).ups 1):=by
   refine Tk.ups (h0.clash1 _ _) rfl rfl ?_
   have hset:∀ (x:Int),0≤x→gb (e.clash.set f.toNat true) x=if x=f then true else gb e.clash x:=fun x x0=>getD_setAt h0.clash f0 f1 x0
   refine V_lit rfl ⟨rfl,rfl,rfl,rfl⟩ f0 f1 (fun x x0 x1 hx=>?_) (Cg.of ?_)
   ·show _ + b1 (gb (e.clash.set f.toNat true) x) + _ - _ - _ - _=_
    rw [hset x x0,if_neg hx]
    rfl
   ·show b1 (gb e.backed f) + b1 (gb (e.clash.set f.toNat true) f) + b1 (gb e.standing f) - gi e.opn f - gi e.strict f - gi e.backs f=b1 (gb e.backed f) + b1 (gb e.clash f) + b1 (gb e.standing f) - gi e.opn f - gi e.strict f - gi e.backs f + 1
    rw [hset _ f0,if_pos rfl,show gb e.clash f=false from hb.2,b1_true,b1_false]
    omega
  exact h1.trans (Tk.look hn h1.ok f0 f1)
 ·exact Tk.refl h0
theorem Tk.strictD (h0:EnOk n m np e) (q0:0≤q) (q1:q < n):Tk n m np s e (({ e with strict:=En.dec e.strict q }:En).ups 1):=by
 refine Tk.ups (h0.strict1 _ _) rfl rfl ?_
 obtain ⟨g1,g2⟩:=dec_cg h0.strict q0 q1
 refine V_lit rfl ⟨rfl,rfl,rfl,rfl⟩ q0 q1 (fun x x0 x1 hx=>?_) ?_
 ·show _ - gi (En.dec e.strict q) x - _=_
  rw [g1 x x0 hx]
  rfl
 ·obtain ⟨j,hj⟩:=g2
  refine ⟨-j,?_⟩
  show b1 (gb e.backed q) + b1 (gb e.clash q) + b1 (gb e.standing q) - gi e.opn q - gi (En.dec e.strict q) q - gi e.backs q=b1 (gb e.backed q) + b1 (gb e.clash q) + b1 (gb e.standing q) - gi e.opn q - gi e.strict q - gi e.backs q + 1 + _
  rw [hj]
  omega
theorem Tk.backsD (h0:EnOk n m np e) (q0:0≤q) (q1:q < n):Tk n m np s e (({ e with backs:=En.dec e.backs q }:En).ups 1):=by
 refine Tk.ups (h0.backs1 _ _) rfl rfl ?_
 obtain ⟨g1,g2⟩:=dec_cg h0.backs q0 q1
 refine V_lit rfl ⟨rfl,rfl,rfl,rfl⟩ q0 q1 (fun x x0 x1 hx=>?_) ?_
 ·show _ - gi (En.dec e.backs q) x=_
  rw [g1 x x0 hx]
  rfl
 ·obtain ⟨j,hj⟩:=g2
  refine ⟨-j,?_⟩
  show b1 (gb e.backed q) + b1 (gb e.clash q) + b1 (gb e.standing q) - gi e.opn q - gi e.strict q - gi (En.dec e.backs q) q=b1 (gb e.backed q) + b1 (gb e.clash q) + b1 (gb e.standing q) - gi e.opn q - gi e.strict q - gi e.backs q + 1 + _
  rw [hj]
  omega
theorem Tk.opnD (h0:EnOk n m np e) (q0:0≤q) (q1:q < n):Tk n m np s e (({ e with opn:=En.dec e.opn q }:En).ups 1):=by
 refine Tk.ups (h0.opn1 _ _) rfl rfl ?_
 obtain ⟨g1,g2⟩:=dec_cg h0.opn q0 q1
 refine V_lit rfl ⟨rfl,rfl,rfl,rfl⟩ q0 q1 (fun x x0 x1 hx=>?_) ?_
 ·show _ - gi (En.dec e.opn q) x - _ - _=_
  rw [g1 x x0 hx]
  rfl
 ·obtain ⟨j,hj⟩:=g2
  refine ⟨-j,?_⟩
  show b1 (gb e.backed q) + b1 (gb e.clash q) + b1 (gb e.standing q) - gi (En.dec e.opn q) q - gi e.strict q - gi e.backs q=b1 (gb e.backed q) + b1 (gb e.clash q) + b1 (gb e.standing q) - gi e.opn q - gi e.strict q - gi e.backs q + 1 + _
  rw [hj]
  omega
theorem Tk.noD1 (hs:EsOk n m np s) (h0:EnOk n m np e) (r0:0≤r) (r1:r < m):Tk n m np s e (En.onNoD1 s e r):=by
 obtain ⟨q0,q1⟩:=hs.headAt r0 r1
 unfold En.onNoD1
 split
 ·rename_i hb
  rw [Bool.and_eq_true,Bool.not_eq_true'] at hb
  dsimp only
  have h1:=Tk.killD (s:=s) h0 r0 r1 hb.2
  generalize En.upL s { e with deadD:=e.deadD.set r.toNat true } r=e2 at *
  have h2:=h1.trans (Tk.strictD h1.ok q0 q1)
  split
  ·exact h2.trans (Tk.tell hs.small.1 h2.ok q0 q1 (by omega) (by omega))
  ·exact h2
 ·exact Tk.refl h0
theorem Tk.late1 (hn:n≤4096) (h0:EnOk n m np e) (f0:0≤f) (f1:f < n):Tk n m np s e (En.onLate1 e f):=by
 unfold En.onLate1
 split
 ·have h1:=Tk.opnD (s:=s) h0 f0 f1
  exact h1.trans (Tk.look hn h1.ok f0 f1)
 ·exact Tk.refl h0
theorem Tk.minus2 (hn:n≤4096) (h0:EnOk n m np e) (p0:0≤p) (p1:p < np):Tk n m np s e (En.onMinus2 e p):=by
 unfold En.onMinus2
 have h1:Tk n m np s e (({ e with pairs:=e.pairs.set p.toNat ((e.pair p).1,(e.pair p).2.1,(e.pair p).2.2.1,En.w64 ((e.pair p).2.2.2 - 1)) }:En).ups 1):=by
  refine Tk.ups (h0.left1 p0 p1) rfl rfl ?_
  have hpx:∀ (x:Int),0≤x→((e.core.pairs.set p.toNat ((e.pair p).1,(e.pair p).2.1,(e.pair p).2.2.1,En.w64 ((e.pair p).2.2.2 - 1))).getD x.toNat (0,0,false,0))=if x=p then ((e.pair p).1,(e.pair p).2.1,(e.pair p).2.2.1,En.w64 ((e.pair p).2.2.2 - 1)) else e.core.pair x:=fun x x0=>pair_put (np:=np) h0.pairs p0 p1 x0
  refine V_pair (p:=p) ⟨rfl,rfl,rfl,rfl,rfl,rfl⟩ ⟨rfl,rfl,rfl,rfl⟩ p0 p1 (fun x x0 x1 hx=>?_) ?_
  ·show 2 * b1 ((e.core.pairs.set _ _).getD x.toNat (0,0,false,0)).2.2.1 - ((e.core.pairs.set _ _).getD x.toNat (0,0,false,0)).2.2.2=_
   rw [hpx x x0,if_neg hx]
   rfl
  ·obtain ⟨j,hj⟩:=w64_cg ((e.pair p).2.2.2 - 1)
   refine ⟨-j,?_⟩
   show 2 * b1 ((e.core.pairs.set _ _).getD p.toNat (0,0,false,0)).2.2.1 - ((e.core.pairs.set _ _).getD p.toNat (0,0,false,0)).2.2.2=2 * b1 (e.pair p).2.2.1 - (e.pair p).2.2.2 + 1 + _
   rw [hpx p p0,if_pos rfl]
   show 2 * b1 (e.pair p).2.2.1 - En.w64 ((e.pair p).2.2.2 - 1)=_
   rw [hj]
   omega
 exact h1.trans (Tk.stand hn h1.ok p0 p1)
theorem Tk.minus1 (hs:EsOk n m np s) (h0:EnOk n m np e) (r0:0≤r) (r1:r < m):Tk n m np s e (En.onMinus1 s e r):=by
 have hn:=hs.small.1
 obtain ⟨q0,q1⟩:=hs.headAt r0 r1
 unfold En.onMinus1
 by_cases hb:e.dead.getD r.toNat false=true
 ·rw [if_pos hb];exact Tk.refl h0
 ·rw [if_neg hb]
  dsimp only
  have h1:=Tk.kill (s:=s) h0 r0 r1 (Bool.eq_false_iff.2 hb)
  have h2:=h1.trans (Tk.fold (f:=En.settle) (fun e u h0 u0 u1=>Tk.settle hn h0 u0 u1) (hs.ofAt r0 r1) h1.ok)
  generalize (rowAt s.of r).foldl En.settle (En.upL s { e with dead:=e.dead.set r.toNat true } r)=e2 at *
  split
  ·have h3:=h2.trans (Tk.backsD h2.ok q0 q1)
   have h4:=h3.trans (Tk.fold (f:=En.onMinus2) (fun e u h0 u0 u1=>Tk.minus2 hn h0 u0 u1) (hs.beatsAt r0 r1) h3.ok)
   exact h4.trans (Tk.look hn h4.ok q0 q1)
  ·exact h2
theorem Tk.noD (hs:EsOk n m np s) (h0:EnOk n m np e) (q0:0≤q) (q1:q < n):Tk n m np s e (En.onNoD s e q):=by
 unfold En.onNoD
 have h1:=Tk.fold (f:=En.onNoD1 s) (fun e u h0 u0 u1=>Tk.noD1 hs h0 u0 u1) (hs.inAt q0 q1) h0
 exact h1.trans (Tk.look hs.small.1 h1.ok q0 q1)
theorem Tk.does {first i:Nat} (hs:EsOk n m np s) (h0:EnOk n m np e) (q0:0≤q) (q1:q < n) (k0:1≤k) (k1:k≤4):Tk n m np s e (En.does s first i e (q,k)):=by
 have hn:=hs.small.1
 have hf:=hs.foesAt q0 q1
 obtain rfl | rfl | rfl | rfl:k=1∨k=2∨k=3∨k=4:=by omega
 ·rw [does_1]
  unfold En.onPlusD
  have h1:=Tk.fold (f:=En.onPlusD1 s) (fun e u h0 u0 u1=>Tk.plusD1 hs h0 u0 u1) (hs.inAt q0 q1) h0
  have h2:=h1.trans (Tk.fold (f:=En.onPlusD2) (fun e u h0 u0 u1=>Tk.plusD2 hn h0 u0 u1) hf h1.ok)
  exact h2.trans (Tk.look hn h2.ok q0 q1)
 ·by_cases hi:first≤i
  ·rw [does_late hi]
   unfold En.onLate
   have h1:=Tk.fold (s:=s) (f:=En.onLate1) (fun e u h0 u0 u1=>Tk.late1 hn h0 u0 u1) hf h0
   exact h1.trans (Tk.noD hs h1.ok q0 q1)
  ·rw [does_noD hi]
   exact Tk.noD hs h0 q0 q1
 ·rw [does_3]
  exact Tk.fold (f:=En.onPlus1 s) (fun e u h0 u0 u1=>Tk.plus1 hs h0 u0 u1) (hs.inAt q0 q1) h0
 ·rw [does_4]
  exact Tk.fold (f:=En.onMinus1 s) (fun e u h0 u0 u1=>Tk.minus1 hs h0 u0 u1) (hs.inAt q0 q1) h0
end
end Go.Proofs.YtbcdgcodnkgdoaaGreat
namespace Go.Proofs.YtbcdgcodnkgdoaaGreat
open Go Go.RowKit
abbrev hdT (t:ThV) (r:Int):Int:=(ruleAt t r).2.1
abbrev bdT (t:ThV) (r:Int):List Int:=(ruleAt t r).2.2
abbrev stT (t:ThV) (r:Int):Bool:=(ruleAt t r).1 == 1
abbrev foT (t:ThV) (q:Int):List Int:=rowAt (tFoes t) q
abbrev btT (t:ThV) (r:Int):List Int:=rowAt (tBeats t) r
section
variable (t:ThV) (m:Nat) (fact:Int→Bool) (P:Int→Int→Prop) (q:Int)
def K1:Prop:=fact q=true∨∃ (r:Int),(0≤r∧r < m)∧stT t r=true∧hdT t r=q∧∀ b∈bdT t r,P b 1
def K2:Prop:=fact q=false∧∀ (r:Int),0≤r→r < m→stT t r=true→hdT t r=q→∃ b∈bdT t r,P b 2
def Won (s:Int):Prop:=(∃ b∈bdT t s,P b 4)∨∃ (x:Int),(0≤x∧x < m)∧supD t x=true∧hdT t x=q∧s∈btT t x∧∀ b∈bdT t x,P b 3
def K3:Prop:=P q 1∨((∃ (r:Int),(0≤r∧r < m)∧supD t r=true∧hdT t r=q∧∀ b∈bdT t r,P b 3)∧(∀ f∈foT t q,P f 2)∧∀ (s:Int),0≤s→s < m→hdT t s∈foT t q→Won t m P q s)
def Stand (s:Int):Prop:=(∀ b∈bdT t s,P b 3)∧∀ (x:Int),0≤x→x < m→supD t x=true→hdT t x=q→s∈btT t x→∃ b∈bdT t x,P b 4
def K4:Prop:=P q 2∧((∀ (r:Int),0≤r→r < m→supD t r=true→hdT t r=q→∃ b∈bdT t r,P b 4)∨(∃ f∈foT t q,P f 1)∨∃ (s:Int),(0≤s∧s < m)∧hdT t s∈foT t q∧Stand t m P q s)
structure Clsd (n:Nat):Prop where
 k1:∀ (q:Int),0≤q→q < n→K1 t m fact P q→P q 1
 k2:∀ (q:Int),0≤q→q < n→K2 t m fact P q→P q 2
 k3:∀ (q:Int),0≤q→q < n→K3 t m P q→P q 3
 k4:∀ (q:Int),0≤q→q < n→K4 t m P q→P q 4
end
def Lf (t:ThV) (n m:Nat) (fact:Int→Bool) (q k:Int):Prop:=∀ P,Clsd t m fact P n→P q k
section
variable {t:ThV} {n m:Nat} {fact:Int→Bool} {P P':Int→Int→Prop} {q k:Int}
theorem K1.mono (hP:∀ q k,P q k→P' q k) (h:K1 t m fact P q):K1 t m fact P' q:=h.imp id (fun ⟨r,a,b,c,d⟩=>⟨r,a,b,c,fun x hx=>hP _ _ (d x hx)⟩)
theorem K2.mono (hP:∀ q k,P q k→P' q k) (h:K2 t m fact P q):K2 t m fact P' q:=⟨h.1,fun r a b c d=>by
 obtain ⟨x,hx,hp⟩:=h.2 r a b c d
 exact ⟨x,hx,hP _ _ hp⟩⟩
theorem Won.mono {s:Int} (hP:∀ q k,P q k→P' q k) (h:Won t m P q s):Won t m P' q s:=h.imp (fun ⟨b,hb,hp⟩=>⟨b,hb,hP _ _ hp⟩) (fun ⟨x,a,b,c,d,e⟩=>⟨x,a,b,c,d,fun y hy=>hP _ _ (e y hy)⟩)
theorem K3.mono (hP:∀ q k,P q k→P' q k) (h:K3 t m P q):K3 t m P' q:=h.imp (hP _ _) (fun ⟨⟨r,a,b,c,d⟩,e,g⟩=>⟨⟨r,a,b,c,fun x hx=>hP _ _ (d x hx)⟩,fun f hf=>hP _ _ (e f hf),fun s s0 s1 hs=>(g s s0 s1 hs).mono hP⟩)
theorem Stand.mono {s:Int} (hP:∀ q k,P q k→P' q k) (h:Stand t m P q s):Stand t m P' q s:=⟨fun b hb=>hP _ _ (h.1 b hb),fun x a b c d e=>by
 obtain ⟨y,hy,hp⟩:=h.2 x a b c d e
 exact ⟨y,hy,hP _ _ hp⟩⟩
theorem K4.mono (hP:∀ q k,P q k→P' q k) (h:K4 t m P q):K4 t m P' q:=⟨hP _ _ h.1,h.2.imp (fun g r a b c d=>by
 obtain ⟨y,hy,hp⟩:=g r a b c d
 exact ⟨y,hy,hP _ _ hp⟩) (fun g=>g.imp (fun ⟨f,hf,hp⟩=>⟨f,hf,hP _ _ hp⟩) (fun ⟨s,a,b,c⟩=>⟨s,a,b,c.mono hP⟩))⟩
theorem lf_le (h:Clsd t m fact P n):∀ q k,Lf t n m fact q k→P q k:=fun q k hl=>hl P h
theorem lf_closed:Clsd t m fact (Lf t n m fact) n:=
 ⟨fun q q0 q1 h P hP=>hP.k1 q q0 q1 (h.mono (lf_le hP)),fun q q0 q1 h P hP=>hP.k2 q q0 q1 (h.mono (lf_le hP)),fun q q0 q1 h P hP=>hP.k3 q q0 q1 (h.mono (lf_le hP)),fun q q0 q1 h P hP=>hP.k4 q q0 q1 (h.mono (lf_le hP))⟩
def Ks4 (t:ThV) (m:Nat) (fact:Int→Bool) (P:Int→Int→Prop) (q k:Int):Prop:=(k=1∧K1 t m fact P q)∨(k=2∧K2 t m fact P q)∨(k=3∧K3 t m P q)∨(k=4∧K4 t m P q)
theorem lf_says (h:Lf t n m fact q k):(0≤q∧q < n)∧Ks4 t m fact (Lf t n m fact) q k:=by
 refine h (fun q k=>(0≤q∧q < n)∧Ks4 t m fact (Lf t n m fact) q k) ?_
 have up:∀ (q k:Int),((0≤q∧q < n)∧Ks4 t m fact (Lf t n m fact) q k)→Lf t n m fact q k:=fun q k ⟨⟨q0,q1⟩,h⟩=>by
  rcases h with ⟨rfl,h⟩ | ⟨rfl,h⟩ | ⟨rfl,h⟩ | ⟨rfl,h⟩
  ·exact lf_closed.k1 q q0 q1 h
  ·exact lf_closed.k2 q q0 q1 h
  ·exact lf_closed.k3 q q0 q1 h
  ·exact lf_closed.k4 q q0 q1 h
 exact ⟨fun q q0 q1 h=>⟨⟨q0,q1⟩,.inl ⟨rfl,h.mono up⟩⟩,fun q q0 q1 h=>⟨⟨q0,q1⟩,.inr (.inl ⟨rfl,h.mono up⟩)⟩,fun q q0 q1 h=>⟨⟨q0,q1⟩,.inr (.inr (.inl ⟨rfl,h.mono up⟩))⟩,fun q q0 q1 h=>⟨⟨q0,q1⟩,.inr (.inr (.inr ⟨rfl,h.mono up⟩))⟩⟩
theorem lf_k1 (h:Lf t n m fact q 1):K1 t m fact (Lf t n m fact) q:=by
 rcases (lf_says h).2 with ⟨_,h⟩ | ⟨h,_⟩ | ⟨h,_⟩ | ⟨h,_⟩
 ·exact h
 all_goals omega
theorem lf_k2 (h:Lf t n m fact q 2):K2 t m fact (Lf t n m fact) q:=by
 rcases (lf_says h).2 with ⟨h,_⟩ | ⟨_,h⟩ | ⟨h,_⟩ | ⟨h,_⟩
 ·omega
 ·exact h
 all_goals omega
theorem lf_k3 (h:Lf t n m fact q 3):K3 t m (Lf t n m fact) q:=by
 rcases (lf_says h).2 with ⟨h,_⟩ | ⟨h,_⟩ | ⟨_,h⟩ | ⟨h,_⟩
 ·omega
 ·omega
 ·exact h
 ·omega
theorem lf_k4 (h:Lf t n m fact q 4):K4 t m (Lf t n m fact) q:=by
 rcases (lf_says h).2 with ⟨h,_⟩ | ⟨h,_⟩ | ⟨h,_⟩ | ⟨_,h⟩
 ·omega
 ·omega
 ·omega
 ·exact h
theorem lf_coh (h:Lf t n m fact q k):(k=1→¬ Lf t n m fact q 2)∧(k=2→¬ Lf t n m fact q 1)∧(k=3→¬ Lf t n m fact q 4)∧(k=4→¬ Lf t n m fact q 3):=by
 have key:Clsd t m fact (fun q k=>Lf t n m fact q k∧(k=1→¬ Lf t n m fact q 2)∧(k=2→¬ Lf t n m fact q 1)∧(k=3→¬ Lf t n m fact q 4)∧(k=4→¬ Lf t n m fact q 3)) n:=by
  refine ⟨fun q q0 q1 h=>?_,fun q q0 q1 h=>?_,fun q q0 q1 h=>?_,fun q q0 q1 h=>?_⟩
  ·refine ⟨lf_closed.k1 q q0 q1 (h.mono (fun _ _ h=>h.1)),fun _ h2=>?_,fun h=>by omega,fun h=>by omega,fun h=>by omega⟩
   have h3:=lf_k2 h2
   rcases h with h | ⟨r,hr,a,b,c⟩
   ·rw [h3.1] at h;cases h
   ·obtain ⟨x,hx,hp⟩:=h3.2 r hr.1 hr.2 a b
    exact (c x hx).2.1 rfl hp
  ·refine ⟨lf_closed.k2 q q0 q1 (h.mono (fun _ _ h=>h.1)),fun h=>by omega,fun _ h2=>?_,fun h=>by omega,fun h=>by omega⟩
   rcases lf_k1 h2 with h3 | ⟨r,hr,a,b,c⟩
   ·rw [h.1] at h3;cases h3
   ·obtain ⟨x,hx,hp⟩:=h.2 r hr.1 hr.2 a b
    exact hp.2.2.1 rfl (c x hx)
  ·refine ⟨lf_closed.k3 q q0 q1 (h.mono (fun _ _ h=>h.1)),fun h=>by omega,fun h=>by omega,fun _ h2=>?_,fun h=>by omega⟩
   obtain ⟨h3,h4⟩:=lf_k4 h2
   rcases h with h | ⟨⟨r,hr,a,b,c⟩,d,e⟩
   ·exact h.2.1 rfl h3
   ·rcases h4 with h4 | ⟨f,hf,hp⟩ | ⟨s,hs,hsf,hst⟩
    ·obtain ⟨x,hx,hp⟩:=h4 r hr.1 hr.2 a b
     exact (c x hx).2.2.2.1 rfl hp
    ·exact (d f hf).2.2.1 rfl hp
    ·rcases e s hs.1 hs.2 hsf with ⟨x,hx,hp⟩ | ⟨y,hy,ya,yb,yc,yd⟩
     ·exact hp.2.2.2.2 rfl (hst.1 x hx)
     ·obtain ⟨x,hx,hp⟩:=hst.2 y hy.1 hy.2 ya yb yc
      exact (yd x hx).2.2.2.1 rfl hp
  ·refine ⟨lf_closed.k4 q q0 q1 (h.mono (fun _ _ h=>h.1)),fun h=>by omega,fun h=>by omega,fun h=>by omega,fun _ h2=>?_⟩
   obtain ⟨h3,h4⟩:=h
   rcases lf_k3 h2 with h5 | ⟨⟨r,hr,a,b,c⟩,d,e⟩
   ·exact h3.2.2.1 rfl h5
   ·rcases h4 with h4 | ⟨f,hf,hp⟩ | ⟨s,hs,hsf,hst⟩
    ·obtain ⟨x,hx,hp⟩:=h4 r hr.1 hr.2 a b
     exact hp.2.2.2.2 rfl (c x hx)
    ·exact hp.2.1 rfl (d f hf)
    ·rcases e s hs.1 hs.2 hsf with ⟨x,hx,hp⟩ | ⟨y,hy,ya,yb,yc,yd⟩
     ·exact (hst.1 x hx).2.2.2.1 rfl hp
     ·obtain ⟨x,hx,hp⟩:=hst.2 y hy.1 hy.2 ya yb yc
      exact hp.2.2.2.2 rfl (yd x hx)
 exact (lf_le key q k h).2
theorem lf_coh3:¬ (Lf t n m fact q 3∧Lf t n m fact q 4):=fun h=>(lf_coh h.1).2.2.1 rfl h.2
theorem lf_coh1:¬ (Lf t n m fact q 1∧Lf t n m fact q 2):=fun h=>(lf_coh h.1).1 rfl h.2
end
end Go.Proofs.YtbcdgcodnkgdoaaGreat
