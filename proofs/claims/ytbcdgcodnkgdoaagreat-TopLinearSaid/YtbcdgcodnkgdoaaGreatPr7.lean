/- Parts of the proof: What fast's counters say: one that was told is worked off. · fast's marks and what is told. · fast's tells are just and complete, step by step. · fast's tells are just and complete: the smaller steps. · fast's tells are just and complete: the other steps. · fast's tells are just and complete: one that was told is worked off. · fast's D tags are just and complete. · fast's D tags: the steps of +d and -d do not touch them. · fast's D tags are just and complete: one that was told is worked off. · What fast's updates count. · What fast's updates count: all steps. · What follows of a theory: the least of all sets of tags that the conditions close; it never says +d and -d of one literal. · The rounds of fast: what is told is just and, at the end, all that follows. · fast's beginning: what is laid, up to the foes. · Rising lists; what the checks of a theory say, plainly. Conditions: none. -/
import Derived.Test.YtbcdgcodnkgdoaaGreatPr6
/- What fast's counters say: one that was told is worked off. Conditions: none. -/
set_option linter.unusedVariables false
set_option linter.unusedSimpArgs false
namespace Go.Proofs.YtbcdgcodnkgdoaaGreat
open Go Go.RowKit
section
section
variable {n m np:Nat} {s:Es} {pq ps:Int→Int} {fact:Int→Bool} {dl dl' df df':Int→Int→Int→Bool} {c c':Cr} {p q r x f k:Int}
theorem jb.cg (h:jb n m s fact dl c) (h1:∀ (r:Int),0≤r→r < m→∀ b∈bd s r,dl' r b 1=dl r b 1) (h2:∀ (r:Int),0≤r→r < m→∀ b∈bd s r,dl' r b 2=dl r b 2):jb n m s fact dl' c:=
 ⟨h.lnD,h.ldD,h.lst,fun r r0 r1 hs=>by rw [h.needD r r0 r1 hs];congr 1;exact c9 fun b hb=>by rw [h1 r r0 r1 b hb],fun r r0 r1=>by
  rw [h.deadD r r0 r1]
  congr 1
  refine Bool.eq_iff_iff.2 ?_;rw [List.any_eq_true,List.any_eq_true];exact ⟨fun ⟨b,hb,hd⟩=>⟨b,hb,by rw [h2 r r0 r1 b hb];exact hd⟩,fun ⟨b,hb,hd⟩=>⟨b,hb,by rw [← h2 r r0 r1 b hb];exact hd⟩⟩,h.strict,h.strictF⟩
theorem gq.cg (h:gq n m np s pq ps dl df c) (h3:∀ (r:Int),0≤r→r < m→∀ b∈bd s r,dl' r b 3=dl r b 3) (h4:∀ (r:Int),0≤r→r < m→∀ b∈bd s r,dl' r b 4=dl r b 4) (g1:∀ (q:Int),0≤q→q < n→∀ f∈ap (aH s.t) q,df' q f 1=df q f 1) (g2:∀ (q:Int),0≤q→q < n→∀ f∈ap (aH s.t) q,df' q f 2=df q f 2):gq n m np s pq ps dl' df' c:=by
 have hcnt:∀ (y:Int),0≤y→y < n→(ap (aH s.t) y).countP (fun f=>!df' y f 2)=(ap (aH s.t) y).countP (fun f=>!df y f 2):=fun y y0 y1=>c9 fun b hb=>by rw [g2 y y0 y1 b hb]
 refine ⟨h.lnd,h.ldd,h.lbk,h.lbd,h.lop,h.lcl,h.lsd,h.pr,fun r r0 r1=>by rw [h.need r r0 r1];congr 1;exact c9 fun b hb=>by rw [h3 r r0 r1 b hb],fun r r0 r1=>?_,h.backs,h.backed,fun y y0 y1=>by rw [hcnt y y0 y1];exact h.opn1 y y0 y1,fun y y0 y1=>by rw [hcnt y y0 y1];exact h.opn2 y y0 y1,fun y y0 y1 hy=>?_,fun y y0 y1 f hf hd=>h.clash2 y y0 y1 f hf (by rw [← g1 y y0 y1 f hf];exact hd),h.sett,h.left,h.stand⟩
 ·rw [h.dead r r0 r1]
  refine Bool.eq_iff_iff.2 ?_;rw [List.any_eq_true,List.any_eq_true];exact ⟨fun ⟨b,hb,hd⟩=>⟨b,hb,by rw [h4 r r0 r1 b hb];exact hd⟩,fun ⟨b,hb,hd⟩=>⟨b,hb,by rw [← h4 r r0 r1 b hb];exact hd⟩⟩
 ·obtain ⟨f,hf,hd⟩:=h.clash1 y y0 y1 hy
  exact ⟨f,hf,by rw [g1 y y0 y1 f hf];exact hd⟩
def m5 (dl:Int→Int→Int→Bool) (L:List Int) (q k:Int):Int→Int→Int→Bool:=fun r b k'=>dl r b k' || (L.contains r&&b == q&&k' == k)
theorem jr {L:List Int}:m5 (upd dl r q k) L q k=m5 dl (r::L) q k:=by
 funext r' b k'
 unfold m5 upd;rw [List.contains_cons];cases dl r' b k' <;> cases (r' == r) <;> cases (b == q) <;> cases (k' == k) <;> simp
theorem jL {P:(Int→Int→Int→Bool)→Cr→Prop} {g:Cr→Int→Cr} {ok:Int→Prop} (hstep:∀ dl c r,ok r→dl r q k=false→P dl c→P (upd dl r q k) (g c r)):∀ {L:List Int} {dl:Int→Int→Int→Bool} {c:Cr},L.Nodup→(∀ r∈L,ok r∧dl r q k=false)→P dl c→P (m5 dl L q k) (L.foldl g c)
 | [],dl,c,_,_,h=>by
  have:m5 dl [] q k=dl:=by funext r b k';simp [m5]
  rw [this];exact h
 | r::L,dl,c,hn,hL,h=>by
  rw [List.nodup_cons] at hn;obtain ⟨h1,h2⟩:=hL r (List.mem_cons_self ..)
  have:=jL hstep (L:=L) hn.2 (fun r' hr'=>⟨(hL r' (List.mem_cons_of_mem _ hr')).1,by
   rw [lg (r:=r) (fun (e:r'=r)=>hn.1 (by rw [← e];exact hr'))];exact (hL r' (List.mem_cons_of_mem _ hr')).2⟩) (hstep dl c r h1 h2 h)
  rw [jr] at this;exact this
theorem jK {P:(Int→Int→Int→Bool)→Cr→Prop} {g:Cr→Int→Cr} {ok:Int→Prop} (hstep:∀ dl c r,ok r→P dl c→P (upd dl r q k) (g c r)):∀ {L:List Int} {dl:Int→Int→Int→Bool} {c:Cr},(∀ r∈L,ok r)→P dl c→P (m5 dl L q k) (L.foldl g c)
 | [],dl,c,_,h=>by
  have:m5 dl [] q k=dl:=by funext r b k';simp [m5]
  rw [this];exact h
 | r::L,dl,c,hL,h=>by
  have:=jK hstep (L:=L) (fun r' hr'=>hL r' (List.mem_cons_of_mem _ hr')) (hstep dl c r (hL r (List.mem_cons_self ..)) h);rw [jr] at this;exact this
structure Can (n m np:Nat) (s:Es) (pq ps:Int→Int) (fact:Int→Bool) (laid Pr:Int→Int→Bool) (c:Cr):Prop where
 d:jb n m s fact (fun _ b k=>Pr b k) c
 s:gq n m np s pq ps (fun _ b k=>Pr b k) (fun _ f k=>Pr f k || laid f k) c
def eE (Pr:Int→Int→Bool) (q k:Int):Int→Int→Bool:=fun b k'=>Pr b k' || (b == q&&k' == k)
variable {laid Pr:Int→Int→Bool}
theorem dE {b k':Int} (h:k'≠k):eE Pr q k b k'=Pr b k':=by simp [eE,h]
theorem dU (hc:Con n m np s pq ps) (q0:0≤q) (q1:q < n) (hr:0≤r∧r < m) {b:Int} (hb:b∈bd s r) {k':Int}:eE Pr q k b k'=m5 (fun _ b k=>Pr b k) (ap s.inn q) q k r b k':=by
 unfold eE m5;by_cases e:b=q
 ·subst e
  have:(ap s.inn b).contains r=true:=by rw [List.contains_iff_mem];exact ((hc.inn b q0 q1).2 r).2 ⟨hr,hb⟩
  rw [this];simp
 ·have:(b == q)=false:=by rw [beq_eq_false_iff_ne];exact e
  rw [this];simp
theorem pF (hsym:∀ (q:Int),0≤q→q < n→∀ f∈ap (aH s.t) q,q∈ap (aH s.t) f) {y:Int} (y0:0≤y) (y1:y < n) (hff:f∈ap (aH s.t) y):(eE Pr q k f k || laid f k)=m5 (fun _ f k=>Pr f k || laid f k) (ap (aH s.t) q) q k y f k:=by
 unfold eE m5;by_cases e:f=q
 ·subst e
  have:(ap (aH s.t) f).contains y=true:=by rw [List.contains_iff_mem];exact hsym y y0 y1 f hff
  rw [this];simp
 ·have:(f == q)=false:=by rw [beq_eq_false_iff_ne];exact e
  rw [this];simp
theorem Can.plusD (hc:Con n m np s pq ps) (hsym:∀ (q:Int),0≤q→q < n→∀ f∈ap (aH s.t) q,q∈ap (aH s.t) f) (h:Can n m np s pq ps fact laid Pr c) (q0:0≤q) (q1:q < n) (hP:Pr q 1=false):Can n m np s pq ps fact laid (eE Pr q 1) (Cr.onPlusD s c q):=by
 unfold Cr.onPlusD;obtain ⟨hn1,hi⟩:=hc.inn q q0 q1;obtain ⟨hn2,_,hf⟩:=hc.foes q q0 q1
 have h1:=jL (q:=q) (k:=1) (P:=fun dl c=>jb n m s fact dl c∧gq n m np s pq ps (fun _ b k=>Pr b k) (fun _ f k=>Pr f k || laid f k) c) (g:=Cr.onPlusD1 s) (ok:=fun r=>(0≤r∧r < m)∧q∈bd s r)
  (fun dl c r hr hd ⟨a1,a2⟩=>⟨a1.plusD1 hc hr.1.1 hr.1.2 hr.2 hd,a2.congr (by unfold Cr.onPlusD1;split <;> rfl) (fun _ _=>rfl) (fun _ _=>rfl)⟩) hn1 (fun r hr=>⟨(hi r).1 hr,hP⟩) ⟨h.d,h.s⟩
 obtain ⟨a1,a2⟩:=h1;generalize (ap s.inn q).foldl (Cr.onPlusD1 s) c=c1 at *;have hd1:jb n m s fact (fun _ b k=>eE Pr q 1 b k) c1:=a1.cg (fun r r0 r1 b hb=>dU hc q0 q1 ⟨r0,r1⟩ hb) (fun r r0 r1 b hb=>dU hc q0 q1 ⟨r0,r1⟩ hb)
 have h2:=jK (q:=q) (k:=1) (c:=c1) (P:=fun df c=>jb n m s fact (fun _ b k=>eE Pr q 1 b k) c∧gq n m np s pq ps (fun _ b k=>Pr b k) df c) (g:=Cr.onPlusD2) (dl:=fun _ f k=>Pr f k || laid f k) (ok:=fun f=>(0≤f∧f < n)∧q∈ap (aH s.t) f)
  (fun df c f hr ⟨a1,a2⟩=>⟨a1.congr (by unfold Cr.onPlusD2;split <;> rfl) (by unfold Cr.onPlusD2;split <;> rfl) (by unfold Cr.onPlusD2;split <;> rfl) (fun _ _=>rfl) (fun _ _=>rfl),a2.clashS hc hr.1.1 hr.1.2 hr.2⟩) (L:=ap (aH s.t) q) (fun f hff=>⟨hf f hff,hsym q q0 q1 f hff⟩) ⟨hd1,a2⟩
 refine ⟨h2.1,h2.2.cg (fun r r0 r1 b hb=>dE (by decide)) (fun r r0 r1 b hb=>dE (by decide)) (fun y y0 y1 f hff=>?_) (fun y y0 y1 f hff=>?_)⟩
 ·exact pF hsym y0 y1 hff
 ·rw [dE (by decide)];unfold m5;simp
theorem yn (hc:Con n m np s pq ps) (hd:jb n m s fact (fun _ b k=>Pr b k) c) (hs:gq n m np s pq ps (fun _ b k=>Pr b k) df c) (q0:0≤q) (q1:q < n):jb n m s fact (fun _ b k=>eE Pr q 2 b k) (Cr.onNoD s c q)∧gq n m np s pq ps (fun _ b k=>eE Pr q 2 b k) df (Cr.onNoD s c q):=by
 unfold Cr.onNoD;obtain ⟨hn1,hi⟩:=hc.inn q q0 q1
 have h1:=jK (q:=q) (k:=2) (c:=c) (P:=fun dl c=>jb n m s fact dl c∧gq n m np s pq ps (fun _ b k=>Pr b k) df c) (g:=Cr.onNoD1 s) (ok:=fun r=>(0≤r∧r < m)∧q∈bd s r)
  (fun dl c r hr ⟨a1,a2⟩=>⟨a1.noD1 hc hc.ok.small.2 hr.1.1 hr.1.2 hr.2,a2.congr (by unfold Cr.onNoD1;split <;> rfl) (fun _ _=>rfl) (fun _ _=>rfl)⟩) (L:=ap s.inn q) (fun r hr=>(hi r).1 hr) ⟨hd,hs⟩
 exact ⟨h1.1.cg (fun r r0 r1 b hb=>dU hc q0 q1 ⟨r0,r1⟩ hb) (fun r r0 r1 b hb=>dU hc q0 q1 ⟨r0,r1⟩ hb),h1.2.cg (fun r r0 r1 b hb=>dE (by decide)) (fun r r0 r1 b hb=>dE (by decide)) (fun _ _ _ _ _=>rfl) (fun _ _ _ _ _=>rfl)⟩
theorem Can.noD (hc:Con n m np s pq ps) (h:Can n m np s pq ps fact laid Pr c) (q0:0≤q) (q1:q < n) (hl:laid q 2=true):Can n m np s pq ps fact laid (eE Pr q 2) (Cr.onNoD s c q):=by
 obtain ⟨h1,h2⟩:=yn hc h.d h.s q0 q1;refine ⟨h1,h2.cg (fun _ _ _ _ _=>rfl) (fun _ _ _ _ _=>rfl) (fun y y0 y1 f hf=>by rw [dE (by decide)]) (fun y y0 y1 f hf=>?_)⟩;unfold eE;by_cases e:f=q
 ·subst e;rw [hl];simp
 ·have:(f == q)=false:=by rw [beq_eq_false_iff_ne];exact e
  rw [this];simp
theorem Can.late (hc:Con n m np s pq ps) (hsym:∀ (q:Int),0≤q→q < n→∀ f∈ap (aH s.t) q,q∈ap (aH s.t) f) (h:Can n m np s pq ps fact laid Pr c) (q0:0≤q) (q1:q < n) (hP:Pr q 2=false) (hl:laid q 2=false):Can n m np s pq ps fact laid (eE Pr q 2) (Cr.onLate s c q):=by
 unfold Cr.onLate;obtain ⟨hn2,_,hf⟩:=hc.foes q q0 q1
 have h2:=jL (q:=q) (k:=2) (c:=c) (P:=fun df c=>jb n m s fact (fun _ b k=>Pr b k) c∧gq n m np s pq ps (fun _ b k=>Pr b k) df c) (g:=Cr.onLate1) (dl:=fun _ f k=>Pr f k || laid f k) (ok:=fun f=>(0≤f∧f < n)∧q∈ap (aH s.t) f)
  (fun df c f hr hd ⟨a1,a2⟩=>⟨a1.congr (by unfold Cr.onLate1;split <;> rfl) (by unfold Cr.onLate1;split <;> rfl) (by unfold Cr.onLate1;split <;> rfl) (fun _ _=>rfl) (fun _ _=>rfl),a2.lateS hc hr.1.1 hr.1.2 hr.2 hd⟩) (L:=ap (aH s.t) q) hn2 (fun f hff=>⟨⟨hf f hff,hsym q q0 q1 f hff⟩,by rw [hP,hl];rfl⟩) ⟨h.d,h.s⟩
 obtain ⟨g1,g2⟩:=yn hc h2.1 h2.2 q0 q1;refine ⟨g1,g2.cg (fun _ _ _ _ _=>rfl) (fun _ _ _ _ _=>rfl) (fun y y0 y1 f hff=>?_) (fun y y0 y1 f hff=>pF hsym y0 y1 hff)⟩;rw [dE (by decide)];unfold m5;simp
theorem Can.plus (hc:Con n m np s pq ps) (h:Can n m np s pq ps fact laid Pr c) (q0:0≤q) (q1:q < n) (hP:Pr q 3=false) (hco:∀ b,eE Pr q 3 b 3=true→Pr b 4=false):Can n m np s pq ps fact laid (eE Pr q 3) (Cr.onPlus s c q):=by
 unfold Cr.onPlus;obtain ⟨hn1,hi⟩:=hc.inn q q0 q1
 have h1:=jL (q:=q) (k:=3) (c:=c) (dl:=fun _ b k=>Pr b k) (P:=fun dl c=>jb n m s fact (fun _ b k=>Pr b k) c∧gq n m np s pq ps dl (fun _ f k=>Pr f k || laid f k) c∧(∀ r b,dl r b 3=true→eE Pr q 3 b 3=true)∧∀ r b,dl r b 4=Pr b 4) (g:=Cr.onPlus1 s) (ok:=fun r=>(0≤r∧r < m)∧q∈bd s r)
  (fun dl c r hr hd ⟨a1,a2,a3,a4⟩=>by
   have hU:∀ r' b,upd dl r q 3 r' b 3=true→eE Pr q 3 b 3=true:=fun r' b hu=>by
    unfold upd at hu;rw [Bool.or_eq_true,Bool.and_eq_true,Bool.and_eq_true] at hu;rcases hu with hu | hu
    ·exact a3 r' b hu
    ·rw [beq_iff_eq.1 hu.1.2];simp [eE]
   refine ⟨?_,a2.plus1 hc hr.1.1 hr.1.2 hr.2 hd (fun hall b hb=>by rw [a4 r b];exact hco b (hU r b (hall b hb))),hU,fun r' b=>by rw [mZ (by decide)];exact a4 r' b⟩;have F:=xY (c:={ c with need:=En.dec c.need r }) hc a2.lbd a2.lsd (a2.pr.congr rfl rfl) hr.1.1 hr.1.2;unfold Cr.onPlus1;dsimp only;split
   ·exact a1.congr (by rw [F.eq]) (by rw [F.eq]) (by rw [F.eq]) (fun _ _=>rfl) (fun _ _=>rfl)
   ·exact a1.congr rfl rfl rfl (fun _ _=>rfl) (fun _ _=>rfl)) (L:=ap s.inn q) hn1 (fun r hr=>⟨(hi r).1 hr,hP⟩) ⟨h.d,h.s,fun r b hb=>by simp only [eE];rw [hb];rfl,fun _ _=>rfl⟩
 obtain ⟨a1,a2,_,_⟩:=h1;exact ⟨a1.cg (fun r r0 r1 b hb=>dE (by decide)) (fun r r0 r1 b hb=>dE (by decide)),a2.cg (fun r r0 r1 b hb=>dU hc q0 q1 ⟨r0,r1⟩ hb) (fun r r0 r1 b hb=>dU hc q0 q1 ⟨r0,r1⟩ hb) (fun y y0 y1 f hf=>by rw [dE (by decide)]) (fun y y0 y1 f hf=>by rw [dE (by decide)])⟩
theorem zW (c:Cr) (hc:Con n m np s pq ps) (h:gq n m np s pq ps dl df c) (r0:0≤r) (r1:r < m):(Cr.onMinus1 s c r).needD=c.needD∧(Cr.onMinus1 s c r).deadD=c.deadD∧(Cr.onMinus1 s c r).strict=c.strict:=by
 have hst:∀ (L:List Int) (c:Cr),(L.foldl Cr.settle c).needD=c.needD∧(L.foldl Cr.settle c).deadD=c.deadD∧(L.foldl Cr.settle c).strict=c.strict:=fun L=>by
  induction L with
  | nil=>intro c;exact ⟨rfl,rfl,rfl⟩
  | cons p L ih=>
   intro c;rw [List.foldl_cons];obtain ⟨e1,e2,e3⟩:=ih (c.settle p);rw [e1,e2,e3];unfold Cr.settle;split <;> exact ⟨rfl,rfl,rfl⟩
 have hmi:∀ (L:List Int) (c:Cr),(L.foldl Cr.onMinus2 c).needD=c.needD∧(L.foldl Cr.onMinus2 c).deadD=c.deadD∧(L.foldl Cr.onMinus2 c).strict=c.strict:=fun L=>by
  induction L with
  | nil=>intro c;exact ⟨rfl,rfl,rfl⟩
  | cons p L ih=>
   intro c;rw [List.foldl_cons];obtain ⟨e1,e2,e3⟩:=ih (c.onMinus2 p);rw [e1,e2,e3];unfold Cr.onMinus2 Cr.stand;split <;> exact ⟨rfl,rfl,rfl⟩
 unfold Cr.onMinus1;split
 ·exact ⟨rfl,rfl,rfl⟩
 ·dsimp only
  obtain ⟨e1,e2,e3⟩:=hst (ap s.of r) { c with dead:=c.dead.set r.toNat true };split
  ·obtain ⟨g1,g2,g3⟩:=hmi (ap s.beats r) { ((ap s.of r).foldl Cr.settle { c with dead:=c.dead.set r.toNat true }) with backs:=En.dec ((ap s.of r).foldl Cr.settle { c with dead:=c.dead.set r.toNat true }).backs (ai s.t r).2.1 }
   exact ⟨g1.trans e1,g2.trans e2,g3.trans e3⟩
  ·exact ⟨e1,e2,e3⟩
theorem Can.minus (hc:Con n m np s pq ps) (h:Can n m np s pq ps fact laid Pr c) (q0:0≤q) (q1:q < n):Can n m np s pq ps fact laid (eE Pr q 4) (Cr.onMinus s c q):=by
 unfold Cr.onMinus;obtain ⟨hn1,hi⟩:=hc.inn q q0 q1
 have h1:=jK (q:=q) (k:=4) (c:=c) (dl:=fun _ b k=>Pr b k) (P:=fun dl c=>jb n m s fact (fun _ b k=>Pr b k) c∧gq n m np s pq ps dl (fun _ f k=>Pr f k || laid f k) c) (g:=Cr.onMinus1 s) (ok:=fun r=>(0≤r∧r < m)∧q∈bd s r)
  (fun dl c r hr ⟨a1,a2⟩=>⟨(have e:=zW c hc a2 hr.1.1 hr.1.2;a1.congr e.1 e.2.1 e.2.2 (fun _ _=>rfl) (fun _ _=>rfl)),a2.minus1 hc hr.1.1 hr.1.2 hr.2⟩) (L:=ap s.inn q) (fun r hr=>(hi r).1 hr) ⟨h.d,h.s⟩
 obtain ⟨a1,a2⟩:=h1;exact ⟨a1.cg (fun r r0 r1 b hb=>dE (by decide)) (fun r r0 r1 b hb=>dE (by decide)),a2.cg (fun r r0 r1 b hb=>dU hc q0 q1 ⟨r0,r1⟩ hb) (fun r r0 r1 b hb=>dU hc q0 q1 ⟨r0,r1⟩ hb) (fun y y0 y1 f hf=>by rw [dE (by decide)]) (fun y y0 y1 f hf=>by rw [dE (by decide)])⟩
theorem Can.does {first i:Nat} (hc:Con n m np s pq ps) (hsym:∀ (q:Int),0≤q→q < n→∀ f∈ap (aH s.t) q,q∈ap (aH s.t) f) (h:Can n m np s pq ps fact laid Pr c) (q0:0≤q) (q1:q < n) (k0:1≤k) (k1:k≤4) (hP:Pr q k=false) (hl:k=2→(laid q 2=true↔i < first)) (hco:∀ b,¬ (eE Pr q k b 3=true∧eE Pr q k b 4=true)):Can n m np s pq ps fact laid (eE Pr q k) (Cr.does s first i c (q,k)):=by
 obtain rfl | rfl | rfl | rfl:k=1∨k=2∨k=3∨k=4:=by omega
 ·exact h.plusD hc hsym q0 q1 hP
 ·by_cases hi:first≤i
  ·have e:Cr.does s first i c (q,2)=Cr.onLate s c q:=by simp [Cr.does,hi]
   rw [e];refine h.late hc hsym q0 q1 hP ?_;cases hh:laid q 2 with
   | false=>rfl
   | true=>have:=(hl rfl).1 hh;omega
  ·have e:Cr.does s first i c (q,2)=Cr.onNoD s c q:=by simp only [Cr.does,if_neg hi];rfl
   rw [e];exact h.noD hc q0 q1 ((hl rfl).2 (by omega))
 ·refine h.plus hc q0 q1 hP (fun b hb=>?_)
  cases hh:Pr b 4 with
  | false=>rfl
  | true=>exact absurd ⟨hb,by rw [dE (by decide)];exact hh⟩ (hco b)
 ·exact h.minus hc q0 q1
end
end
section
structure TM (n:Nat) (e:En):Prop where
 lm:e.marks.length=n
 mks:∀ x∈e.marks,0≤x∧x < 16
 has:∀ (q k:Int),0≤q→q < n→1≤k→k≤4→(e.has q k=true↔(q,k)∈e.told)
 rng:∀ p∈e.told,(0≤p.1∧p.1 < n)∧1≤p.2∧p.2≤4
 nd:e.told.Nodup
section
variable {n m np:Nat} {e e':En} {q k x j:Int}
theorem yx {x k:Int} (x0:0≤x) (x1:x < 16) (k0:1≤k) (k1:k≤4):0≤dT .u8 x (kY .u8 1 (k - 1))∧dT .u8 x (kY .u8 1 (k - 1)) < 16:=CD x0 x1 k0 k1
theorem dH (h:TM n e) (q0:0≤q) (q1:q < n) (k0:1≤k) (k1:k≤4) (x0:0≤x) (x1:x < n) (j0:1≤j) (j1:j≤4):(e.tell q k).has x j=(e.has x j || (x == q&&j == k)):=by
 have hx:=h.mks _ (dw (d:=0) h.lm q0 q1);unfold En.tell;by_cases hb:e.has q k=true
 ·rw [if_pos hb]
  by_cases ex:x=q
  ·by_cases ej:j=k
   ·rw [ex,ej,hb];rfl
   ·have:(j == k)=false:=by rw [beq_eq_false_iff_ne];exact ej
    rw [this];simp
  ·have:(x == q)=false:=by rw [beq_eq_false_iff_ne];exact ex
   rw [this];simp
 ·rw [if_neg hb]
  show En.bit ((e.marks.set q.toNat _).getD x.toNat 0) j=_;rw [aV h.lm q0 q1 x0];by_cases ex:x=q
  ·subst ex
   rw [if_pos rfl,oB hx.1 hx.2 k0 k1 j0 j1];show (decide (j=k) || e.has x j)=_;rw [Bool.or_comm]
   congr 1
   by_cases ej:j=k
   ·subst ej;simp
   ·rw [decide_eq_false ej,show (j == k)=false from by rw [beq_eq_false_iff_ne];exact ej];simp
  ·have:(x == q)=false:=by rw [beq_eq_false_iff_ne];exact ex
   rw [if_neg ex,this];simp
   rfl
theorem TM.tell (h:TM n e) (q0:0≤q) (q1:q < n) (k0:1≤k) (k1:k≤4):TM n (e.tell q k):=by
 by_cases hb:e.has q k=true
 ·have:e.tell q k=e:=by unfold En.tell;rw [if_pos hb]
  rw [this];exact h
 have hx:=h.mks _ (dw (d:=0) h.lm q0 q1);have ht:(e.tell q k).told=e.told++[(q,k)]:=by unfold En.tell;rw [if_neg hb]
 have hm:(e.tell q k).marks=e.marks.set q.toNat (dT .u8 (e.marks.getD q.toNat 0) (kY .u8 1 (k - 1))):=by unfold En.tell;rw [if_neg hb]
 refine ⟨by rw [hm,List.length_set];exact h.lm,fun y hy=>?_,fun x j x0 x1 j0 j1=>?_,fun p hp=>?_,?_⟩
 ·rw [hm] at hy
  rcases List.mem_or_eq_of_mem_set hy with hy | rfl
  ·exact h.mks y hy
  ·exact yx hx.1 hx.2 k0 k1
 ·rw [dH h q0 q1 k0 k1 x0 x1 j0 j1,ht,Bool.or_eq_true,h.has x j x0 x1 j0 j1,List.mem_append,List.mem_singleton,Bool.and_eq_true,beq_iff_eq,beq_iff_eq,Prod.mk.injEq]
 ·rw [ht] at hp
  rcases List.mem_append.1 hp with hp | hp
  ·exact h.rng p hp
  ·obtain rfl:=List.mem_singleton.1 hp
   exact ⟨⟨q0,q1⟩,k0,k1⟩
 ·rw [ht,List.nodup_append]
  refine ⟨h.nd,by simp,fun a ha b hb2=>?_⟩;rw [List.mem_singleton] at hb2;subst hb2
  rintro rfl
  exact hb ((h.has q k q0 q1 k0 k1).2 ha)
def Up (n:Nat) (e e':En):Prop:=∀ (q k:Int),0≤q→q < n→1≤k→k≤4→e.has q k=true→e'.has q k=true
theorem Up.refl:Up n e e:=fun _ _ _ _ _ _ h=>h
theorem Up.trans {e2:En} (h:Up n e e') (h2:Up n e' e2):Up n e e2:=fun q k a b c d hh=>h2 q k a b c d (h q k a b c d hh)
theorem Up.tell (h:TM n e) (q0:0≤q) (q1:q < n) (k0:1≤k) (k1:k≤4):Up n e (e.tell q k):=fun x j x0 x1 j0 j1 hh=>by rw [dH h q0 q1 k0 k1 x0 x1 j0 j1,hh];rfl
def eU (c:Cr) (q:Int):Bool:=gb c.backed q&&(gi c.opn q == 0)&&(gi c.attacks q == 0)
def eM (c:Cr) (q:Int):Bool:=(gi c.backs q == 0) || gb c.clash q || gb c.standing q
theorem gF:e.look1 q=if (e.has q 1 || eU e.core q)=true then e.tell q 3 else e:=rfl
theorem gE:e.look2 q=if (e.has q 2&&eM e.core q)=true then e.tell q 4 else e:=rfl
theorem TM.look (h:TM n e) (q0:0≤q) (q1:q < n):TM n (e.look q)∧Up n e (e.look q):=by
 unfold En.look
 have h1:TM n (e.look1 q)∧Up n e (e.look1 q):=by
  rw [gF];split
  ·exact ⟨h.tell q0 q1 (by omega) (by omega),Up.tell h q0 q1 (by omega) (by omega)⟩
  ·exact ⟨h,Up.refl⟩
 obtain ⟨a1,a2⟩:=h1;rw [gE];split
 ·exact ⟨a1.tell q0 q1 (by omega) (by omega),a2.trans (Up.tell a1 q0 q1 (by omega) (by omega))⟩
 ·exact ⟨a1,a2⟩
theorem xr (h:TM n e) (q0:0≤q) (q1:q < n) (hc:e.has q 1=true∨eU e.core q=true):(e.look q).has q 3=true:=by
 have h1:(e.look1 q).has q 3=true∧TM n (e.look1 q):=by
  rw [gF,if_pos (by rw [Bool.or_eq_true];exact hc),dH h q0 q1 (by omega) (by omega) q0 q1 (by omega) (by omega)];exact ⟨by simp,h.tell q0 q1 (by omega) (by omega)⟩
 unfold En.look;rw [gE];split
 ·exact Up.tell h1.2 q0 q1 (by omega) (by omega) q 3 q0 q1 (by omega) (by omega) h1.1
 ·exact h1.1
theorem xp (h:TM n e) (q0:0≤q) (q1:q < n) (hd:e.has q 2=true) (hc:eM e.core q=true):(e.look q).has q 4=true:=by
 have h1:TM n (e.look1 q)∧(e.look1 q).has q 2=true:=by
  rw [gF];split
  ·exact ⟨h.tell q0 q1 (by omega) (by omega),Up.tell h q0 q1 (by omega) (by omega) q 2 q0 q1 (by omega) (by omega) hd⟩
  ·exact ⟨h,hd⟩
 unfold En.look;rw [gE,if_pos (by rw [Bool.and_eq_true,ox];exact ⟨h1.2,hc⟩),dH h1.1 q0 q1 (by omega) (by omega) q0 q1 (by omega) (by omega)];simp
def J (n:Nat) (C:Cr) (e:En):Prop:=∀ (q:Int),0≤q→q < n→(e.has q 3=true→e.has q 1=true∨eU C q=true)∧(e.has q 4=true→e.has q 2=true∧eM C q=true)
def Pre (n:Nat) (c C:Cr):Prop:=∀ (q:Int),0≤q→q < n→(eU c q=true→eU C q=true)∧(eM c q=true→eM C q=true)
theorem Pre.refl {c:Cr}:Pre n c c:=fun q _ _=>⟨id,id⟩
theorem J.mono {c C:Cr} (h:J n c e) (hp:Pre n c C):J n C e:=fun q q0 q1=>⟨fun h3=>((h q q0 q1).1 h3).imp id (hp q q0 q1).1,fun h4=>⟨((h q q0 q1).2 h4).1,(hp q q0 q1).2 ((h q q0 q1).2 h4).2⟩⟩
theorem J.tell12 {C:Cr} (ht:TM n e) (h:J n C e) (q0:0≤q) (q1:q < n) (k0:1≤k) (k1:k≤2):J n C (e.tell q k):=fun x x0 x1=>by
 have hh:∀ j,1≤j→j≤4→(e.tell q k).has x j=(e.has x j || (x == q&&j == k)):=fun j j0 j1=>dH ht q0 q1 k0 (by omega) x0 x1 j0 j1;rw [hh 3 (by omega) (by omega),hh 4 (by omega) (by omega),hh 1 (by omega) (by omega),hh 2 (by omega) (by omega)];have e3:((3:Int) == k)=false:=by rw [beq_eq_false_iff_ne];omega
 have e4:((4:Int) == k)=false:=by rw [beq_eq_false_iff_ne];omega
 rw [e3,e4,Bool.and_false,Bool.or_false,Bool.or_false];exact ⟨fun h3=>((h x x0 x1).1 h3).imp (fun h1=>by rw [h1];rfl) id,fun h4=>⟨by rw [((h x x0 x1).2 h4).1];rfl,((h x x0 x1).2 h4).2⟩⟩
theorem J.look {C:Cr} (ht:TM n e) (h:J n C e) (hp:Pre n e.core C) (q0:0≤q) (q1:q < n):J n C (e.look q):=by
 unfold En.look
 have h1:J n C (e.look1 q)∧TM n (e.look1 q):=by
  rw [gF];split
  ·rename_i hc
   rw [Bool.or_eq_true] at hc;refine ⟨fun x x0 x1=>?_,ht.tell q0 q1 (by omega) (by omega)⟩;have hh:∀ j,1≤j→j≤4→(e.tell q 3).has x j=(e.has x j || (x == q&&j == 3)):=fun j j0 j1=>dH ht q0 q1 (by omega) (by omega) x0 x1 j0 j1;rw [hh 3 (by omega) (by omega),hh 4 (by omega) (by omega),hh 1 (by omega) (by omega),hh 2 (by omega) (by omega)];refine ⟨fun h3=>?_,fun h4=>?_⟩
   ·rw [Bool.or_eq_true,Bool.and_eq_true] at h3
    rcases h3 with h3 | ⟨h3,_⟩
    ·exact ((h x x0 x1).1 h3).imp (fun h1=>by rw [h1];rfl) id
    ·obtain rfl:=beq_iff_eq.1 h3
     exact hc.imp (fun h1=>by rw [h1];rfl) (hp x x0 x1).1
   ·have:((4:Int) == 3)=false:=by decide
    rw [this,Bool.and_false,Bool.or_false] at h4;exact ⟨by rw [((h x x0 x1).2 h4).1];rfl,((h x x0 x1).2 h4).2⟩
  ·exact ⟨h,ht⟩
 obtain ⟨h1,ht1⟩:=h1;have hp1:Pre n (e.look1 q).core C:=by rw [ox];exact hp
 generalize e.look1 q=e1 at *;rw [gE];split
 ·rename_i hc
  rw [Bool.and_eq_true] at hc;intro x x0 x1;have hh:∀ j,1≤j→j≤4→(e1.tell q 4).has x j=(e1.has x j || (x == q&&j == 4)):=fun j j0 j1=>dH ht1 q0 q1 (by omega) (by omega) x0 x1 j0 j1;rw [hh 3 (by omega) (by omega),hh 4 (by omega) (by omega),hh 1 (by omega) (by omega),hh 2 (by omega) (by omega)];refine ⟨fun h3=>?_,fun h4=>?_⟩
  ·have:((3:Int) == 4)=false:=by decide
   rw [this,Bool.and_false,Bool.or_false] at h3;exact ((h1 x x0 x1).1 h3).imp (fun h1=>by rw [h1];rfl) id
  ·rw [Bool.or_eq_true,Bool.and_eq_true] at h4
   rcases h4 with h4 | ⟨h4,_⟩
   ·exact ⟨by rw [((h1 x x0 x1).2 h4).1];rfl,((h1 x x0 x1).2 h4).2⟩
   ·obtain rfl:=beq_iff_eq.1 h4
    exact ⟨by rw [hc.1];rfl,(hp1 x x0 x1).2 hc.2⟩
 ·exact h1
end
end
section
def cU (Pr:Int→Int→Bool) (e:En) (q:Int):Prop:=((Pr q 1=true∨eU e.core q=true)→e.has q 3=true)∧(Pr q 2=true→eM e.core q=true→e.has q 4=true)
structure Kp (n:Nat) (Pr:Int→Int→Bool) (X:Int→Prop) (e:En):Prop where
 tm:TM n e
 j:J n e.core e
 cl:∀ (q:Int),0≤q→q < n→¬ X q→cU Pr e q
 p1:∀ (q:Int),0≤q→q < n→Pr q 1=true→e.has q 1=true
 p2:∀ (q:Int),0≤q→q < n→Pr q 2=true→e.has q 2=true
section
variable {n m np:Nat} {s:Es} {pq ps:Int→Int} {Pr:Int→Int→Bool} {X Y:Int→Prop} {e e1:En} {q r p k h f:Int}
theorem Kp.weaken (h:Kp n Pr X e) (hX:∀ q,X q→Y q):Kp n Pr Y e:=⟨h.tm,h.j,fun q q0 q1 hq=>h.cl q q0 q1 (fun k=>hq (hX q k)),h.p1,h.p2⟩
theorem cQ (hm:e1.marks=e.marks):e1.has q k=e.has q k:=by unfold En.has;rw [hm]
theorem TM.same (h:TM n e) (hm:e1.marks=e.marks) (ht:e1.told=e.told):TM n e1:=⟨by rw [hm];exact h.lm,by rw [hm];exact h.mks,fun q k a b c d=>by rw [cQ hm,ht];exact h.has q k a b c d,by rw [ht];exact h.rng,by rw [ht];exact h.nd⟩
theorem Kp.mod (h:Kp n Pr X e) (hm:e1.marks=e.marks) (ht:e1.told=e.told) (hp:Pre n e.core e1.core) (hs:∀ (x:Int),0≤x→x < n→¬ Y x→¬ X x∧eU e1.core x=eU e.core x∧eM e1.core x=eM e.core x):Kp n Pr Y e1:=by
 refine ⟨h.tm.same hm ht,fun q q0 q1=>?_,fun q q0 q1 hq=>?_,fun q q0 q1 hq=>by rw [cQ hm];exact h.p1 q q0 q1 hq,fun q q0 q1 hq=>by rw [cQ hm];exact h.p2 q q0 q1 hq⟩
 ·have:=(h.j.mono hp) q q0 q1
  rw [cQ hm,cQ hm,cQ hm,cQ hm];exact this
 ·obtain ⟨h1,h2,h3⟩:=hs q q0 q1 hq
  have:=h.cl q q0 q1 h1;unfold cU at this ⊢;rw [h2,h3,cQ hm,cQ hm];exact this
theorem Kp.same (h:Kp n Pr X e) (hm:e1.marks=e.marks) (ht:e1.told=e.told) (hc:e1.core=e.core):Kp n Pr X e1:=h.mod hm ht (by rw [hc];exact Pre.refl) (fun x _ _ hx=>⟨hx,by rw [hc],by rw [hc]⟩)
theorem Kp.ups (h:Kp n Pr X e):Kp n Pr X (e.ups k):=h.same rfl rfl rfl
theorem Kp.upL (h:Kp n Pr X e):Kp n Pr X (En.upL s e r):=by unfold En.upL;split <;> first | exact h.ups | exact h
theorem Kp.tell (h:Kp n Pr X e) (q0:0≤q) (q1:q < n) (k0:1≤k) (k1:k≤2):Kp n Pr X (e.tell q k):=by
 have hu:=Up.tell h.tm q0 q1 k0 (by omega:k≤4);refine ⟨h.tm.tell q0 q1 k0 (by omega),by rw [dS];exact h.j.tell12 h.tm q0 q1 k0 k1,fun x x0 x1 hx=>?_,fun x x0 x1 hx=>hu x 1 x0 x1 (by omega) (by omega) (h.p1 x x0 x1 hx),fun x x0 x1 hx=>hu x 2 x0 x1 (by omega) (by omega) (h.p2 x x0 x1 hx)⟩;have:=h.cl x x0 x1 hx;unfold cU at this ⊢;rw [dS];exact ⟨fun k=>hu x 3 x0 x1 (by omega) (by omega) (this.1 k),fun a b=>hu x 4 x0 x1 (by omega) (by omega) (this.2 a b)⟩
theorem Kp.look (h:Kp n Pr X e) (q0:0≤q) (q1:q < n):Kp n Pr (fun x=>X x∧x≠q) (e.look q):=by
 obtain ⟨ht,hu⟩:=h.tm.look q0 q1;refine ⟨ht,by rw [dD];exact h.j.look h.tm Pre.refl q0 q1,fun x x0 x1 hx=>?_,fun x x0 x1 hx=>hu x 1 x0 x1 (by omega) (by omega) (h.p1 x x0 x1 hx),fun x x0 x1 hx=>hu x 2 x0 x1 (by omega) (by omega) (h.p2 x x0 x1 hx)⟩;unfold cU;rw [dD];by_cases ex:x=q
 ·subst ex
  exact ⟨fun k=>xr h.tm q0 q1 (k.imp (h.p1 x x0 x1) id),fun a b=>xp h.tm q0 q1 (h.p2 x x0 x1 a) b⟩
 ·have:=h.cl x x0 x1 (fun k=>hx ⟨k,ex⟩)
  exact ⟨fun k=>hu x 3 x0 x1 (by omega) (by omega) (this.1 k),fun a b=>hu x 4 x0 x1 (by omega) (by omega) (this.2 a b)⟩
theorem Kp.turn (h:Kp n Pr X e) (hm:e1.marks=e.marks) (ht:e1.told=e.told) (hp:Pre n e.core e1.core) (q0:0≤q) (q1:q < n) (hs:∀ (x:Int),0≤x→x < n→x≠q→eU e1.core x=eU e.core x∧eM e1.core x=eM e.core x):Kp n Pr X (e1.look q):=
 ((h.mod (Y:=fun x=>X x∨x=q) hm ht hp (fun x x0 x1 hx=>⟨fun k=>hx (.inl k),hs x x0 x1 (fun k=>hx (.inr k))⟩)).look q0 q1).weaken (fun x hx=>hx.1.elim id (fun k=>absurd k hx.2))
theorem uF (hc:Con n m np s pq ps) {c:Cr} (h:gk n np pq ps c) (p0:0≤p) (p1:p < np):Pre n c (c.settle p)∧∀ (x:Int),0≤x→x < n→x≠pq p→eU (c.settle p) x=eU c x∧eM (c.settle p) x=eM c x:=by
 obtain ⟨h1,k1⟩:=lT hc h p0 p1;have e1:=k1.eq;have hb:(c.settle p).backed=c.backed:=by rw [e1]
 have ho:(c.settle p).opn=c.opn:=by rw [e1]
 have hk:(c.settle p).backs=c.backs:=by rw [e1]
 have hcl:(c.settle p).clash=c.clash:=by rw [e1]
 have hst:(c.settle p).standing=c.standing:=by rw [e1]
 have h2:∀ x,eM (c.settle p) x=eM c x:=fun x=>by unfold eM;rw [hk,hcl,hst]
 refine ⟨fun q q0 q1=>⟨fun hq=>?_,fun hq=>by rw [h2];exact hq⟩,fun x x0 x1 hx=>⟨?_,h2 x⟩⟩
 ·unfold eU at hq ⊢
  rw [hb,ho];rw [Bool.and_eq_true] at hq ⊢;refine ⟨hq.1,?_⟩;have hz:=beq_iff_eq.1 hq.2;rw [beq_iff_eq,h1.att q q0 q1];rw [h.att q q0 q1] at hz;refine cz.2 fun i i0 i1=>?_;have:=cz.1 hz i i0 i1;rw [k1.sett i i0 i1];cases hpq:(pq i == q) with
  | false=>rfl
  | true=>
   rw [hpq] at this;simp only [Bool.true_and,Bool.not_eq_false'] at this;rw [this];rfl
 ·unfold eU
  rw [hb,ho]
  congr 1
  congr 1
  rw [h1.att x x0 x1,h.att x x0 x1];refine bL fun i i0 i1=>?_;rw [k1.sett i i0 i1];by_cases ei:i=p
  ·subst ei
   have:(pq i == x)=false:=by rw [beq_eq_false_iff_ne];exact fun k=>hx k.symm
   rw [this];rfl
  ·have:[p].contains i=false:=by simp [ei]
   rw [this,Bool.or_false]
theorem Kp.settle (hc:Con n m np s pq ps) (h:Kp n Pr X e) (hp:gk n np pq ps e.core) (p0:0≤p) (p1:p < np):Kp n Pr X (e.settle p):=by
 obtain ⟨⟨q0,q1⟩,_⟩:=hc.pr p p0 p1;obtain ⟨hp1,_⟩:=hp.prq p p0 p1;obtain ⟨a1,a2⟩:=uF hc hp p0 p1;unfold En.settle;by_cases hb:(e.pair p).2.2.1=true
 ·rw [if_pos hb];exact h
 ·rw [if_neg hb]
  have hcs:(({ e with pairs:=e.pairs.set p.toNat ((e.pair p).1,(e.pair p).2.1,true,(e.pair p).2.2.2),attacks:=En.dec e.attacks (e.pair p).1 }:En).ups 2).core=e.core.settle p:=by unfold Cr.settle;rw [if_neg (show ¬ (e.core.pair p).2.2.1=true from hb)];rfl
  rw [show (e.pair p).1=pq p from hp1];rw [show (e.pair p).1=pq p from hp1] at hcs;exact h.turn rfl rfl (by rw [hcs];exact a1) q0 q1 (fun x x0 x1 hx=>by rw [hcs];exact a2 x x0 x1 hx)
theorem Kp.settles (hc:Con n m np s pq ps):∀ {L:List Int} {e:En},Kp n Pr X e→gk n np pq ps e.core→(∀ p∈L,0≤p∧p < np)→Kp n Pr X (L.foldl En.settle e)
 | [],e,h,_,_=>h
 | p::L,e,h,hp,hL=>by
  obtain ⟨p0,p1⟩:=hL p (List.mem_cons_self ..);rw [List.foldl_cons];exact Kp.settles hc (L:=L) (h.settle hc hp p0 p1) (by rw [gW];exact (lT hc hp p0 p1).1) (fun p hp=>hL p (List.mem_cons_of_mem _ hp))
end
end
section
section
variable {n m np:Nat} {s:Es} {pq ps:Int→Int} {dl df:Int→Int→Int→Bool} {Pr:Int→Int→Bool} {X Y:Int→Prop} {e e1:En} {q r p k h f:Int}
theorem kN {c c':Cr} (h1:gb c'.backed q=gb c.backed q) (h2:gi c'.opn q=gi c.opn q) (h3:gi c'.attacks q=gi c.attacks q):eU c' q=eU c q:=by unfold eU;rw [h1,h2,h3]
theorem iR {c c':Cr} (h1:gi c'.backs q=gi c.backs q) (h2:gb c'.clash q=gb c.clash q) (h3:gb c'.standing q=gb c.standing q):eM c' q=eM c q:=by unfold eM;rw [h1,h2,h3]
theorem v8 (hc:Con n m np s pq ps) {c:Cr} (hl:c.standing.length=n) (h:gk n np pq ps c) (p0:0≤p) (p1:p < np):Pre n c (c.stand p)∧∀ (x:Int),0≤x→x < n→x≠pq p→eU (c.stand p) x=eU c x∧eM (c.stand p) x=eM c x:=by
 obtain ⟨e1,l1,k1⟩:=js hc hl h p0 p1;have h1:∀ x,eU (c.stand p) x=eU c x:=fun x=>kN (by rw [e1]) (by rw [e1]) (by rw [e1]);have hk:(c.stand p).backs=c.backs:=by rw [e1]
 have hcl:(c.stand p).clash=c.clash:=by rw [e1]
 refine ⟨fun q q0 q1=>⟨fun hq=>by rw [h1];exact hq,fun hq=>?_⟩,fun x x0 x1 hx=>⟨h1 x,iR (by rw [hk]) (by rw [hcl]) ?_⟩⟩
 ·unfold eM at hq ⊢
  rw [hk,hcl,k1 q q0 q1];rw [Bool.or_eq_true] at hq ⊢;exact hq.imp id (fun k=>by rw [k];rfl)
 ·rw [k1 x x0 x1]
  have:dJ c pq ps [p] x=false:=by
   have:(pq p == x)=false:=by rw [beq_eq_false_iff_ne];exact fun k=>hx k.symm
   unfold dJ;simp [this]
  rw [this,Bool.or_false]
theorem Kp.stand (hc:Con n m np s pq ps) (h:Kp n Pr X e) (hl:e.standing.length=n) (hp:gk n np pq ps e.core) (p0:0≤p) (p1:p < np):Kp n Pr X (e.stand p):=by
 obtain ⟨⟨q0,q1⟩,_⟩:=hc.pr p p0 p1;obtain ⟨hp1,_⟩:=hp.prq p p0 p1;obtain ⟨a1,a2⟩:=v8 hc (c:=e.core) hl hp p0 p1;by_cases hb:((e.need.getD (e.pair p).2.1.toNat 0 == 0)&&((e.pair p).2.2.2 == 0)&&!e.standing.getD (e.pair p).1.toNat false)=true
 ·have hcs:(({ e with standing:=e.standing.set (e.pair p).1.toNat true }:En).ups 1).core=e.core.stand p:=by unfold Cr.stand;rw [if_pos (show ((e.core.need.getD (e.core.pair p).2.1.toNat 0 == 0)&&((e.core.pair p).2.2.2 == 0)&&!e.core.standing.getD (e.core.pair p).1.toNat false)=true from hb)];rfl
  have he:e.stand p=((({ e with standing:=e.standing.set (e.pair p).1.toNat true }:En).ups 1).look (e.pair p).1):=by unfold En.stand;rw [if_pos hb]
  rw [he,show (e.pair p).1=pq p from hp1];rw [show (e.pair p).1=pq p from hp1] at hcs;exact h.turn rfl rfl (by rw [hcs];exact a1) q0 q1 (fun x x0 x1 hx=>by rw [hcs];exact a2 x x0 x1 hx)
 ·have he:e.stand p=e:=by unfold En.stand;rw [if_neg hb]
  rw [he];exact h
theorem Kp.stands (hc:Con n m np s pq ps):∀ {L:List Int} {e:En},Kp n Pr X e→e.standing.length=n→gk n np pq ps e.core→(∀ p∈L,0≤p∧p < np)→Kp n Pr X (L.foldl En.stand e)
 | [],e,h,_,_,_=>h
 | p::L,e,h,hl,hp,hL=>by
  obtain ⟨p0,p1⟩:=hL p (List.mem_cons_self ..);rw [List.foldl_cons];obtain ⟨e1,l1,_⟩:=js hc (c:=e.core) hl hp p0 p1;have hcs:=kM (e:=e) (p:=p);refine Kp.stands hc (L:=L) (h.stand hc hl hp p0 p1) ?_ (by rw [hcs];exact hp.congr (by rw [e1]) (by rw [e1])) (fun p hp=>hL p (List.mem_cons_of_mem _ hp));show (e.stand p).core.standing.length=n;rw [hcs];exact l1
theorem Kp.fire1 (hc:Con n m np s pq ps) (h:Kp n Pr X e) (hl:e.backed.length=n) (hp:gk n np pq ps e.core) (r0:0≤r) (r1:r < m):Kp n Pr X (En.fire1 s e r):=by
 obtain ⟨h0,h1⟩:=hc.head r r0 r1;unfold En.fire1;by_cases hs:cZ s.t r=true
 ·rw [if_pos hs]
  dsimp only;obtain ⟨e2,he2⟩:∃ e2,e2=(if e.backed.getD (ai s.t r).2.1.toNat false=true then e else ({ e with backed:=e.backed.set (ai s.t r).2.1.toNat true }:En).ups 1):=⟨_,rfl⟩;rw [← he2];obtain ⟨b1,b2,b3⟩:=sL (c:=e.core) (n:=n) hl h0 h1;have hcs:e2.core=e.core.back (hd s r):=by rw [he2];unfold Cr.back;show (if e.core.backed.getD (hd s r).toNat false=true then e else _).core=_;split <;> rfl
  have hm:e2.marks=e.marks∧e2.told=e.told:=by rw [he2];split <;> exact ⟨rfl,rfl⟩
  have hk:(e.core.back (hd s r)).backs=e.core.backs:=by rw [b1]
  have hcl:(e.core.back (hd s r)).clash=e.core.clash:=by rw [b1]
  have hst:(e.core.back (hd s r)).standing=e.core.standing:=by rw [b1]
  have ho:(e.core.back (hd s r)).opn=e.core.opn:=by rw [b1]
  have ha:(e.core.back (hd s r)).attacks=e.core.attacks:=by rw [b1]
  have hc2:∀ x,eM (e.core.back (hd s r)) x=eM e.core x:=fun x=>iR (by rw [hk]) (by rw [hcl]) (by rw [hst])
  have h2:Kp n Pr (fun x=>X x∨x=hd s r) e2:=by
   refine h.mod hm.1 hm.2 (fun q q0 q1=>⟨fun hq=>?_,fun hq=>by rw [hcs,hc2];exact hq⟩) (fun x x0 x1 hx=>⟨fun k=>hx (.inl k),?_,by rw [hcs];exact hc2 x⟩)
   ·rw [hcs]
    unfold eU at hq ⊢;rw [ho,ha];rw [Bool.and_eq_true,Bool.and_eq_true] at hq ⊢;exact ⟨⟨(b3 q q0 q1).2 (.inl hq.1.1),hq.1.2⟩,hq.2⟩
   ·rw [hcs]
    refine kN ?_ (by rw [ho]) (by rw [ha]);refine Bool.eq_iff_iff.2 ?_;rw [b3 x x0 x1];exact ⟨fun k=>k.elim id (fun e=>absurd (.inr e.symm) hx),.inl⟩
  have hp2:gk n np pq ps e2.core:=by rw [hcs];exact hp.congr (by rw [b1]) (by rw [b1])
  have h3:=h2.settles hc hp2 (L:=ap s.beats r) (fun p hp=>((hc.beats r r0 r1).2 p hp).1);exact (h3.look h0 h1).weaken (fun x hx=>hx.1.elim id (fun k=>absurd k hx.2))
 ·rw [if_neg hs];exact h
theorem Kp.fire (hc:Con n m np s pq ps) (h:Kp n Pr X e) (hl:e.backed.length=n) (hl2:e.standing.length=n) (hp:gk n np pq ps e.core) (r0:0≤r) (r1:r < m):Kp n Pr X (En.fire s e r):=by
 unfold En.fire;have hcs:=oy (s:=s) (e:=e) (r:=r)
 have F:gk n np pq ps (Cr.fire1 s e.core r)∧(Cr.fire1 s e.core r).standing=e.core.standing:=by
  unfold Cr.fire1;split
  ·obtain ⟨h0,h1⟩:=hc.head r r0 r1
   obtain ⟨b1,b2,b3⟩:=sL (c:=e.core) (n:=n) hl h0 h1;obtain ⟨a1,a2⟩:=fo hc (L:=ap s.beats r) (c:=e.core.back (hd s r)) (hp.congr (by rw [b1]) (by rw [b1])) (fun p hp=>((hc.beats r r0 r1).2 p hp).1);refine ⟨a1,?_⟩;have:=a2.eq;have hst:(e.core.back (hd s r)).standing=e.core.standing:=by rw [b1]
   exact (congrArg Cr.standing this).trans hst
  ·exact ⟨hp,rfl⟩
 refine (h.fire1 hc hl hp r0 r1).stands hc ?_ (by rw [hcs];exact F.1) (fun p hp=>(((hc.of r r0 r1).2 p).1 hp).1);show (En.fire1 s e r).core.standing.length=n;rw [hcs,F.2];exact hl2
theorem Kp.plus1 (hc:Con n m np s pq ps) (h:Kp n Pr X e) (hs:gq n m np s pq ps dl df e.core) (r0:0≤r) (r1:r < m):Kp n Pr X (En.onPlus1 s e r):=by
 unfold En.onPlus1;dsimp only;have hcs:(En.lower s e r).core={ e.core with need:=En.dec e.core.need r }:=by unfold En.lower;rw [iQ];rfl
 have h1:Kp n Pr X (En.lower s e r):=by
  unfold En.lower;exact Kp.upL (h.mod rfl rfl (fun q _ _=>⟨id,id⟩) (fun x x0 x1 hx=>⟨hx,rfl,rfl⟩))
 split
 ·refine h1.fire hc ?_ ?_ (by rw [hcs];exact hs.pr.congr rfl rfl) r0 r1
  ·show (En.lower s e r).core.backed.length=n;rw [hcs];exact hs.lbd
  ·show (En.lower s e r).core.standing.length=n;rw [hcs];exact hs.lsd
 ·exact h1
end
end
section
section
variable {n m np:Nat} {s:Es} {pq ps:Int→Int} {dl df:Int→Int→Int→Bool} {Pr:Int→Int→Bool} {X Y:Int→Prop} {e e1:En} {q r p k h f:Int}
theorem Kp.plusD1 (hc:Con n m np s pq ps) (h:Kp n Pr X e) (r0:0≤r) (r1:r < m):Kp n Pr X (En.onPlusD1 s e r):=by
 obtain ⟨h0,h1⟩:=hc.head r r0 r1;unfold En.onPlusD1
 have h2:Kp n Pr X (En.lowerD s e r):=by
  unfold En.lowerD;exact Kp.upL (h.mod rfl rfl (fun q _ _=>⟨id,id⟩) (fun x x0 x1 hx=>⟨hx,rfl,rfl⟩))
 split
 ·dsimp only
  split
  ·exact h2.tell h0 h1 (by omega) (by omega)
  ·exact h2
 ·exact h
theorem Kp.plusD2 (h:Kp n Pr X e) (hl:e.clash.length=n) (f0:0≤f) (f1:f < n):Kp n Pr X (En.onPlusD2 e f):=by
 unfold En.onPlusD2;split
 ·have hset:∀ (x:Int),0≤x→gb (e.clash.set f.toNat true) x=if x=f then true else gb e.clash x:=fun x x0=>aV hl f0 f1 x0
  refine h.turn rfl rfl (fun x x0 x1=>⟨id,fun hq=>?_⟩) f0 f1 (fun x x0 x1 hx=>⟨rfl,iR rfl ?_ rfl⟩)
  ·unfold eM at hq ⊢
   show (gi e.backs x == 0 || gb (e.clash.set f.toNat true) x || gb e.standing x)=true;rw [hset x x0];split
   ·simp
   ·exact hq
  ·show gb (e.clash.set f.toNat true) x=gb e.clash x
   rw [hset x x0,if_neg hx]
 ·exact h
theorem Kp.noD1 (hc:Con n m np s pq ps) (h:Kp n Pr X e) (r0:0≤r) (r1:r < m):Kp n Pr X (En.onNoD1 s e r):=by
 obtain ⟨h0,h1⟩:=hc.head r r0 r1;unfold En.onNoD1;split
 ·dsimp only
  have h2:Kp n Pr X (En.upL s { e with deadD:=e.deadD.set r.toNat true } r):=Kp.upL (h.mod rfl rfl (fun q _ _=>⟨id,id⟩) (fun x x0 x1 hx=>⟨hx,rfl,rfl⟩));generalize En.upL s { e with deadD:=e.deadD.set r.toNat true } r=e2 at *;have h3:Kp n Pr X (({ e2 with strict:=En.dec e2.strict (ai s.t r).2.1 }:En).ups 1):=(h2.mod (e1:={ e2 with strict:=En.dec e2.strict (ai s.t r).2.1 }) rfl rfl (fun q _ _=>⟨id,id⟩) (fun x x0 x1 hx=>⟨hx,rfl,rfl⟩)).ups;split
  ·exact h3.tell h0 h1 (by omega) (by omega)
  ·exact h3
 ·exact h
theorem Kp.late1 (hc:Con n m np s pq ps) (h:Kp n Pr X e) (hs:gq n m np s pq ps dl df e.core) (f0:0≤f) (f1:f < n) (hq:q∈ap (aH s.t) f) (hn:df f q 2=false):Kp n Pr X (En.onLate1 e f):=by
 obtain ⟨o1,o2⟩:=hs.opn1 f f0 f1
 have hge:1≤gi e.core.opn f:=by
  by_cases hz:(ap (aH s.t) f).countP (fun g=>!df f g 2)=0
  ·have:=dC.1 hz q hq
   rw [hn] at this;cases this
  ·omega
 unfold En.onLate1;split
 ·have hset:∀ (x:Int),0≤x→gi (En.dec e.opn f) x=if x=f then gi e.opn f - 1 else gi e.opn x:=fun x x0=>i8 hs.lop f0 f1 x0 (by show _≤gi e.core.opn f;omega) (by show gi e.core.opn f≤_;omega)
  refine h.turn rfl rfl (fun x x0 x1=>⟨fun hy=>?_,id⟩) f0 f1 (fun x x0 x1 hx=>⟨kN rfl ?_ rfl,rfl⟩)
  ·unfold eU at hy ⊢
   rw [Bool.and_eq_true,Bool.and_eq_true] at hy ⊢;refine ⟨⟨hy.1.1,?_⟩,hy.2⟩;show (gi (En.dec e.opn f) x == 0)=true;rw [hset x x0];by_cases ex:x=f
   ·subst ex
    have:=beq_iff_eq.1 hy.1.2;omega
   ·rw [if_neg ex];exact hy.1.2
  ·show gi (En.dec e.opn f) x=gi e.opn x
   rw [hset x x0,if_neg hx]
 ·exact h
theorem Kp.minus2 (hc:Con n m np s pq ps) (h:Kp n Pr X e) (hl:e.standing.length=n) (hp:gk n np pq ps e.core) (p0:0≤p) (p1:p < np):Kp n Pr X (En.onMinus2 e p):=by
 unfold En.onMinus2;have hpx:∀ (x:Int),0≤x→((e.core.pairs.set p.toNat ((e.pair p).1,(e.pair p).2.1,(e.pair p).2.2.1,En.w64 ((e.pair p).2.2.2 - 1))).getD x.toNat (0,0,false,0))=if x=p then ((e.pair p).1,(e.pair p).2.1,(e.pair p).2.2.1,En.w64 ((e.pair p).2.2.2 - 1)) else e.core.pair x:=fun x x0=>gS hp.lpr p0 p1 x0
 refine Kp.stand hc (h.mod (e1:={ e with pairs:=e.pairs.set p.toNat ((e.pair p).1,(e.pair p).2.1,(e.pair p).2.2.1,En.w64 ((e.pair p).2.2.2 - 1)) }) rfl rfl (fun q _ _=>⟨id,id⟩) (fun x x0 x1 hx=>⟨hx,rfl,rfl⟩)).ups hl ?_ p0 p1;refine ⟨by show (e.pairs.set _ _).length=np;rw [List.length_set];exact hp.lpr,hp.lat,fun x x0 x1=>?_,fun y y0 y1=>?_⟩
 ·show (((e.core.pairs.set _ _).getD x.toNat (0,0,false,0)).1=_)∧(((e.core.pairs.set _ _).getD x.toNat (0,0,false,0)).2.1=_)
  rw [hpx x x0];split
  ·rename_i ex;subst ex;exact hp.prq x x0 x1
  ·exact hp.prq x x0 x1
 ·rw [show gi (({ e with pairs:=e.pairs.set p.toNat ((e.pair p).1,(e.pair p).2.1,(e.pair p).2.2.1,En.w64 ((e.pair p).2.2.2 - 1)) }:En).ups 1).core.attacks y=gi e.core.attacks y from rfl,hp.att y y0 y1]
  refine bL fun i i0 i1=>?_;show _=(pq i == y&&!((e.core.pairs.set _ _).getD i.toNat (0,0,false,0)).2.2.1);rw [hpx i i0];split
  ·rename_i ex;subst ex;rfl
  ·rfl
theorem xf (hc:Con n m np s pq ps) {c:Cr} (hl:c.standing.length=n) (hp:gk n np pq ps c) (p0:0≤p) (p1:p < np):gk n np pq ps (c.onMinus2 p)∧(c.onMinus2 p).standing.length=n:=by
 have hpx:∀ (x:Int),0≤x→((c.pairs.set p.toNat ((c.pair p).1,(c.pair p).2.1,(c.pair p).2.2.1,En.w64 ((c.pair p).2.2.2 - 1))).getD x.toNat (0,0,false,0))=if x=p then ((c.pair p).1,(c.pair p).2.1,(c.pair p).2.2.1,En.w64 ((c.pair p).2.2.2 - 1)) else c.pair x:=fun x x0=>gS hp.lpr p0 p1 x0
 have h1:gk n np pq ps { c with pairs:=c.pairs.set p.toNat ((c.pair p).1,(c.pair p).2.1,(c.pair p).2.2.1,En.w64 ((c.pair p).2.2.2 - 1)) }:=by
  refine ⟨by show (c.pairs.set _ _).length=np;rw [List.length_set];exact hp.lpr,hp.lat,fun x x0 x1=>?_,fun y y0 y1=>?_⟩
  ·show (((c.pairs.set _ _).getD x.toNat (0,0,false,0)).1=_)∧(((c.pairs.set _ _).getD x.toNat (0,0,false,0)).2.1=_)
   rw [hpx x x0];split
   ·rename_i ex;subst ex;exact hp.prq x x0 x1
   ·exact hp.prq x x0 x1
  ·show gi c.attacks y=_
   rw [hp.att y y0 y1];refine bL fun i i0 i1=>?_;show _=(pq i == y&&!((c.pairs.set _ _).getD i.toNat (0,0,false,0)).2.2.1);rw [hpx i i0];split
   ·rename_i ex;subst ex;rfl
   ·rfl
 obtain ⟨e1,l1,_⟩:=js hc (c:={ c with pairs:=c.pairs.set p.toNat ((c.pair p).1,(c.pair p).2.1,(c.pair p).2.2.1,En.w64 ((c.pair p).2.2.2 - 1)) }) hl h1 p0 p1;unfold Cr.onMinus2;exact ⟨h1.congr (by rw [e1]) (by rw [e1]),l1⟩
theorem Kp.minus2s (hc:Con n m np s pq ps):∀ {L:List Int} {e:En},Kp n Pr X e→e.standing.length=n→gk n np pq ps e.core→(∀ p∈L,0≤p∧p < np)→Kp n Pr X (L.foldl En.onMinus2 e)
 | [],e,h,_,_,_=>h
 | p::L,e,h,hl,hp,hL=>by
  obtain ⟨p0,p1⟩:=hL p (List.mem_cons_self ..);rw [List.foldl_cons];obtain ⟨g1,g2⟩:=xf hc (c:=e.core) hl hp p0 p1;have hcs:=jZ (e:=e) (p:=p);refine Kp.minus2s hc (L:=L) (h.minus2 hc hl hp p0 p1) ?_ (by rw [hcs];exact g1) (fun p hp=>hL p (List.mem_cons_of_mem _ hp));show (En.onMinus2 e p).core.standing.length=n;rw [hcs];exact g2
theorem Kp.minus1 (hc:Con n m np s pq ps) (h:Kp n Pr X e) (hs:gq n m np s pq ps dl df e.core) (r0:0≤r) (r1:r < m):Kp n Pr X (En.onMinus1 s e r):=by
 have hm:=hc.ok.small.2;obtain ⟨h0,h1⟩:=hc.head r r0 r1;unfold En.onMinus1;by_cases hb:e.dead.getD r.toNat false=true
 ·rw [if_pos hb];exact h
 ·rw [if_neg hb]
  dsimp only;have hb2:gb e.core.dead r=false:=Bool.eq_false_iff.2 hb;have h2:Kp n Pr X (En.upL s { e with dead:=e.dead.set r.toNat true } r):=Kp.upL (h.mod rfl rfl (fun q _ _=>⟨id,id⟩) (fun x x0 x1 hx=>⟨hx,rfl,rfl⟩));have hcs:(En.upL s { e with dead:=e.dead.set r.toNat true } r).core={ e.core with dead:=e.core.dead.set r.toNat true }:=by rw [iQ];rfl
  generalize En.upL s { e with dead:=e.dead.set r.toNat true } r=e2 at *;have hp2:gk n np pq ps e2.core:=by rw [hcs];exact hs.pr.congr rfl rfl
  have hof:∀ p∈ap s.of r,0≤p∧p < np:=fun p hp=>(((hc.of r r0 r1).2 p).1 hp).1;have h3:=h2.settles hc hp2 hof;have hcs3:=cw (f:=En.settle) (g:=Cr.settle) (fun _ _=>gW) (l:=ap s.of r) (e:=e2);obtain ⟨p3,k3⟩:=fo hc hp2 hof;have e3:=k3.eq;rw [← hcs3] at p3 e3;generalize (ap s.of r).foldl En.settle e2=e4 at *;by_cases hsup:cZ s.t r=true
  ·rw [if_pos hsup]
   have hbk:e4.core.backs=e.core.backs:=by rw [e3,hcs]
   have hst:e4.core.standing=e.core.standing:=by rw [e3,hcs]
   have hR:=hs.backsR hm h0 h1
   have hge:gi e.core.backs (hd s r)≠0:=fun hz=>by
    rw [hs.backs _ h0 h1] at hz;have:=cz.1 hz r r0 r1;rw [hsup,hb2] at this;simp at this
   have lbk:e4.backs.length=n:=by show e4.core.backs.length=n;rw [hbk];exact hs.lbk
   have hbg:∀ (y:Int),0≤y→gi (En.dec e4.backs (hd s r)) y=if y=hd s r then gi e4.backs (hd s r) - 1 else gi e4.backs y:=fun y y0=>i8 lbk h0 h1 y0 (by show _≤gi e4.core.backs _;rw [hbk];omega) (by show gi e4.core.backs _≤_;rw [hbk];omega)
   have h5:Kp n Pr (fun x=>X x∨x=hd s r) (({ e4 with backs:=En.dec e4.backs (hd s r) }:En).ups 1):=by
    refine Kp.ups (h3.mod (e1:={ e4 with backs:=En.dec e4.backs (hd s r) }) rfl rfl (fun y y0 y1=>⟨id,fun hq=>?_⟩) (fun x x0 x1 hx=>⟨fun k=>hx (.inl k),rfl,iR ?_ rfl rfl⟩))
    ·unfold eM at hq ⊢
     show (gi (En.dec e4.backs (hd s r)) y == 0 || gb e4.clash y || gb e4.standing y)=true;rw [hbg y y0];by_cases ey:y=hd s r
     ·subst ey
      rw [Bool.or_eq_true,Bool.or_eq_true] at hq ⊢;refine hq.imp (fun k=>k.imp (fun k=>?_) id) id;have:=beq_iff_eq.1 k;rw [hbk] at this;exact absurd this hge
     ·rw [if_neg ey];exact hq
    ·show gi (En.dec e4.backs (hd s r)) x=gi e4.backs x
     rw [hbg x x0,if_neg (fun k=>hx (.inr k))]
   have h6:=h5.minus2s hc (L:=ap s.beats r) (by show e4.core.standing.length=n;rw [hst];exact hs.lsd) (p3.congr rfl rfl) (fun p hp=>((hc.beats r r0 r1).2 p hp).1);exact (h6.look h0 h1).weaken (fun x hx=>hx.1.elim id (fun k=>absurd k hx.2))
  ·rw [if_neg hsup];exact h3
end
end
section
section
variable {n m np:Nat} {s:Es} {pq ps:Int→Int} {fact:Int→Bool} {dl df:Int→Int→Int→Bool} {laid Pr:Int→Int→Bool} {X Y:Int→Prop} {e e1:En} {q r p k h f:Int}
theorem jM {P:(Int→Int→Int→Bool)→Cr→Prop} {g:Cr→Int→Cr} {f:En→Int→En} {ok:Int→Prop} (hcore:∀ e r,(f e r).core=g e.core r) (hstep:∀ dl c r,ok r→dl r q k=false→P dl c→P (upd dl r q k) (g c r))
 (hK:∀ dl e r,ok r→dl r q k=false→P dl e.core→Kp n Pr X e→Kp n Pr X (f e r)):∀ {L:List Int} {dl:Int→Int→Int→Bool} {e:En},L.Nodup→(∀ r∈L,ok r∧dl r q k=false)→P dl e.core→Kp n Pr X e→Kp n Pr X (L.foldl f e)
 | [],dl,e,_,_,_,h=>h
 | r::L,dl,e,hn,hL,hP,h=>by
  rw [List.nodup_cons] at hn;obtain ⟨h1,h2⟩:=hL r (List.mem_cons_self ..);rw [List.foldl_cons]
  exact jM hcore hstep hK (L:=L) (dl:=upd dl r q k) hn.2 (fun r' hr'=>⟨(hL r' (List.mem_cons_of_mem _ hr')).1,by
   rw [lg (r:=r) (fun (e:r'=r)=>hn.1 (by rw [← e];exact hr'))];exact (hL r' (List.mem_cons_of_mem _ hr')).2⟩) (by rw [hcore];exact hstep dl e.core r h1 h2 hP) (hK dl e r h1 h2 hP h)
theorem tV {P:Cr→Prop} {g:Cr→Int→Cr} {f:En→Int→En} {ok:Int→Prop} (hcore:∀ e r,(f e r).core=g e.core r) (hstep:∀ c r,ok r→P c→P (g c r))
 (hK:∀ e r,ok r→P e.core→Kp n Pr X e→Kp n Pr X (f e r)):∀ {L:List Int} {e:En},(∀ r∈L,ok r)→P e.core→Kp n Pr X e→Kp n Pr X (L.foldl f e)
 | [],e,_,_,h=>h
 | r::L,e,hL,hP,h=>by
  rw [List.foldl_cons];exact tV hcore hstep hK (L:=L) (fun r hr=>hL r (List.mem_cons_of_mem _ hr)) (by rw [hcore];exact hstep _ _ (hL r (List.mem_cons_self ..)) hP) (hK e r (hL r (List.mem_cons_self ..)) hP h)
theorem Kp.add12 (h:Kp n Pr X e) (q0:0≤q) (q1:q < n) (hh:e.has q k=true):Kp n (eE Pr q k) (fun x=>X x∨x=q) e:=by
 have hx:∀ x j,x≠q→eE Pr q k x j=Pr x j:=fun x j hx=>by simp [eE,hx]
 refine ⟨h.tm,h.j,fun x x0 x1 hX=>?_,fun x x0 x1 hP=>?_,fun x x0 x1 hP=>?_⟩
 ·have hne:x≠q:=fun k=>hX (.inr k)
  have:=h.cl x x0 x1 (fun k=>hX (.inl k));unfold cU at this ⊢;rw [hx x 1 hne,hx x 2 hne];exact this
 ·unfold eE at hP
  rw [Bool.or_eq_true,Bool.and_eq_true] at hP;rcases hP with hP | ⟨h1,h2⟩
  ·exact h.p1 x x0 x1 hP
  ·rw [beq_iff_eq.1 h1,beq_iff_eq.1 h2];exact hh
 ·unfold eE at hP
  rw [Bool.or_eq_true,Bool.and_eq_true] at hP;rcases hP with hP | ⟨h1,h2⟩
  ·exact h.p2 x x0 x1 hP
  ·rw [beq_iff_eq.1 h1,beq_iff_eq.1 h2];exact hh
theorem uo (h:Kp n Pr X e) (hk:3≤k):Kp n (eE Pr q k) X e:=by
 have h1:∀ x,eE Pr q k x 1=Pr x 1:=fun x=>dE (by omega);have h2:∀ x,eE Pr q k x 2=Pr x 2:=fun x=>dE (by omega);refine ⟨h.tm,h.j,fun x x0 x1 hX=>?_,fun x x0 x1 hP=>h.p1 x x0 x1 (by rw [← h1];exact hP),fun x x0 x1 hP=>h.p2 x x0 x1 (by rw [← h2];exact hP)⟩;have:=h.cl x x0 x1 hX;unfold cU at this ⊢;rw [h1,h2];exact this
theorem Kp.drop (h:Kp n Pr (fun x=>(X x∨x=q)∧x≠q) e):Kp n Pr X e:=h.weaken (fun x hx=>hx.1.elim id (fun k=>absurd k hx.2))
theorem Kp.plusD (hc:Con n m np s pq ps) (h:Kp n Pr X e) (hl:e.clash.length=n) (q0:0≤q) (q1:q < n) (hh:e.has q 1=true):Kp n (eE Pr q 1) X (En.onPlusD s e q):=by
 unfold En.onPlusD;obtain ⟨_,hi⟩:=hc.inn q q0 q1;obtain ⟨_,_,hf⟩:=hc.foes q q0 q1;have h1:=tV (P:=fun c=>c.clash.length=n) (g:=Cr.onPlusD1 s) (f:=En.onPlusD1 s) (ok:=fun r=>0≤r∧r < m) (fun _ _=>e8) (fun c r _ hP=>by unfold Cr.onPlusD1;split <;> exact hP) (fun e r hr _ h=>h.plusD1 hc hr.1 hr.2) (L:=ap s.inn q) (fun r hr=>((hi r).1 hr).1) hl (h.add12 q0 q1 hh)
 have hl1:((ap s.inn q).foldl (En.onPlusD1 s) e).core.clash.length=n:=by
  rw [cw (g:=Cr.onPlusD1 s) (fun _ _=>e8)]
  have:∀ (L:List Int) (c:Cr),(L.foldl (Cr.onPlusD1 s) c).clash=c.clash:=fun L=>by
   induction L with
   | nil=>intro c;rfl
   | cons r L ih=>intro c;rw [List.foldl_cons,ih];unfold Cr.onPlusD1;split <;> rfl
  rw [this];exact hl
 have h2:=tV (P:=fun c=>c.clash.length=n) (g:=Cr.onPlusD2) (f:=En.onPlusD2) (ok:=fun f=>0≤f∧f < n) (fun _ _=>jY) (fun c r _ hP=>by unfold Cr.onPlusD2;split <;> first | exact hP | (show (c.clash.set _ _).length=n;rw [List.length_set];exact hP)) (fun e r hr hP h=>h.plusD2 hP hr.1 hr.2) (L:=ap (aH s.t) q) hf hl1 h1;exact (h2.look q0 q1).drop
theorem Kp.noD (hc:Con n m np s pq ps) (h:Kp n Pr X e) (q0:0≤q) (q1:q < n) (hh:e.has q 2=true):Kp n (eE Pr q 2) X (En.onNoD s e q):=by
 unfold En.onNoD;obtain ⟨_,hi⟩:=hc.inn q q0 q1;have h1:=tV (P:=fun _=>True) (g:=Cr.onNoD1 s) (f:=En.onNoD1 s) (ok:=fun r=>0≤r∧r < m) (fun _ _=>jk) (fun _ _ _ h=>h) (fun e r hr _ h=>h.noD1 hc hr.1 hr.2) (L:=ap s.inn q) (fun r hr=>((hi r).1 hr).1) trivial (h.add12 q0 q1 hh);exact (h1.look q0 q1).drop
theorem Kp.late (hc:Con n m np s pq ps) (hsym:∀ (q:Int),0≤q→q < n→∀ f∈ap (aH s.t) q,q∈ap (aH s.t) f) (hC:Can n m np s pq ps fact laid Pr e.core) (h:Kp n Pr X e) (q0:0≤q) (q1:q < n) (hh:e.has q 2=true) (hP:Pr q 2=false) (hl:laid q 2=false):Kp n (eE Pr q 2) X (En.onLate s e q):=by
 unfold En.onLate;obtain ⟨hn2,_,hf⟩:=hc.foes q q0 q1
 have h1:=jM (q:=q) (k:=2) (P:=fun df c=>gq n m np s pq ps (fun _ b k=>Pr b k) df c) (g:=Cr.onLate1) (f:=En.onLate1) (dl:=fun _ f k=>Pr f k || laid f k) (ok:=fun f=>(0≤f∧f < n)∧q∈ap (aH s.t) f) (fun _ _=>iE)
  (fun df c f hr hd a=>a.lateS hc hr.1.1 hr.1.2 hr.2 hd) (fun df e f hr hd a h=>h.late1 hc a hr.1.1 hr.1.2 hr.2 hd) (L:=ap (aH s.t) q) hn2 (fun f hff=>⟨⟨hf f hff,hsym q q0 q1 f hff⟩,by rw [hP,hl];rfl⟩) hC.s h
 refine h1.noD hc q0 q1 ?_
 have:∀ (L:List Int) (e:En),(∀ f∈L,0≤f∧f < n)→TM n e→e.has q 2=true→(L.foldl En.onLate1 e).has q 2=true:=fun L=>by
  induction L with
  | nil=>intro e _ _ h;exact h
  | cons f L ih=>
   intro e hL ht h;rw [List.foldl_cons];obtain ⟨f0,f1⟩:=hL f (List.mem_cons_self ..)
   have hx:TM n (En.onLate1 e f)∧(En.onLate1 e f).has q 2=true:=by
    unfold En.onLate1;split
    ·obtain ⟨t1,u1⟩:=TM.look (q:=f) (ht.same (e1:=({ e with opn:=En.dec e.opn f }:En).ups 1) rfl rfl) f0 f1
     exact ⟨t1,u1 q 2 q0 q1 (by omega) (by omega) h⟩
    ·exact ⟨ht,h⟩
   exact ih _ (fun f hf=>hL f (List.mem_cons_of_mem _ hf)) hx.1 hx.2
 exact this _ _ hf h.tm hh
theorem Kp.plus (hc:Con n m np s pq ps) (hC:Can n m np s pq ps fact laid Pr e.core) (h:Kp n Pr X e) (q0:0≤q) (q1:q < n) (hP:Pr q 3=false) (hco:∀ b,eE Pr q 3 b 3=true→Pr b 4=false):Kp n (eE Pr q 3) X (En.onPlus s e q):=by
 unfold En.onPlus;obtain ⟨hn1,hi⟩:=hc.inn q q0 q1
 exact uo (jM (q:=q) (k:=3) (dl:=fun _ b k=>Pr b k) (P:=fun dl c=>gq n m np s pq ps dl (fun _ f k=>Pr f k || laid f k) c∧(∀ r b,dl r b 3=true→eE Pr q 3 b 3=true)∧∀ r b,dl r b 4=Pr b 4) (g:=Cr.onPlus1 s) (f:=En.onPlus1 s) (ok:=fun r=>(0≤r∧r < m)∧q∈bd s r) (fun _ _=>lc)
  (fun dl c r hr hd ⟨a2,a3,a4⟩=>by
   have hU:∀ r' b,upd dl r q 3 r' b 3=true→eE Pr q 3 b 3=true:=fun r' b hu=>by
    unfold upd at hu;rw [Bool.or_eq_true,Bool.and_eq_true,Bool.and_eq_true] at hu;rcases hu with hu | hu
    ·exact a3 r' b hu
    ·rw [beq_iff_eq.1 hu.1.2];simp [eE]
   exact ⟨a2.plus1 hc hr.1.1 hr.1.2 hr.2 hd (fun hall b hb=>by rw [a4 r b];exact hco b (hU r b (hall b hb))),hU,fun r' b=>by rw [mZ (by decide)];exact a4 r' b⟩)
  (fun dl e r hr hd ⟨a2,_,_⟩ h=>h.plus1 hc a2 hr.1.1 hr.1.2) (L:=ap s.inn q) hn1 (fun r hr=>⟨(hi r).1 hr,hP⟩) ⟨hC.s,fun r b hb=>by simp only [eE];rw [hb];rfl,fun _ _=>rfl⟩ h) (by omega)
theorem Kp.minus (hc:Con n m np s pq ps) (hC:Can n m np s pq ps fact laid Pr e.core) (h:Kp n Pr X e) (q0:0≤q) (q1:q < n) (hP:Pr q 4=false):Kp n (eE Pr q 4) X (En.onMinus s e q):=by
 unfold En.onMinus;obtain ⟨hn1,hi⟩:=hc.inn q q0 q1
 exact uo (jM (q:=q) (k:=4) (dl:=fun _ b k=>Pr b k) (P:=fun dl c=>gq n m np s pq ps dl (fun _ f k=>Pr f k || laid f k) c) (g:=Cr.onMinus1 s) (f:=En.onMinus1 s) (ok:=fun r=>(0≤r∧r < m)∧q∈bd s r) (fun _ _=>j3)
  (fun dl c r hr hd a=>a.minus1 hc hr.1.1 hr.1.2 hr.2) (fun dl e r hr hd a h=>h.minus1 hc a hr.1.1 hr.1.2) (L:=ap s.inn q) hn1 (fun r hr=>⟨(hi r).1 hr,hP⟩) hC.s h) (by omega)
theorem Kp.does {first i:Nat} (hc:Con n m np s pq ps) (hsym:∀ (q:Int),0≤q→q < n→∀ f∈ap (aH s.t) q,q∈ap (aH s.t) f) (hC:Can n m np s pq ps fact laid Pr e.core) (h:Kp n Pr X e) (q0:0≤q) (q1:q < n) (k0:1≤k) (k1:k≤4) (hh:e.has q k=true) (hP:Pr q k=false) (hl:k=2→(laid q 2=true↔i < first)) (hco:∀ b,¬ (eE Pr q k b 3=true∧eE Pr q k b 4=true)):Kp n (eE Pr q k) X (En.does s first i e (q,k)):=by
 obtain rfl | rfl | rfl | rfl:k=1∨k=2∨k=3∨k=4:=by omega
 ·exact h.plusD hc hC.s.lcl q0 q1 hh
 ·by_cases hi:first≤i
  ·rw [jQ hi]
   refine h.late hc hsym hC q0 q1 hh hP ?_;cases hx:laid q 2 with
   | false=>rfl
   | true=>have:=(hl rfl).1 hx;omega
  ·rw [lz hi]
   exact h.noD hc q0 q1 hh
 ·refine h.plus hc hC q0 q1 hP (fun b hb=>?_)
  cases hx:Pr b 4 with
  | false=>rfl
  | true=>exact absurd ⟨hb,by rw [dE (by decide)];exact hx⟩ (hco b)
 ·exact h.minus hc hC q0 q1 hP
end
end
section
structure Ks (n m:Nat) (s:Es) (fact:Int→Bool) (dl:Int→Int→Int→Bool) (e:En):Prop where
 s1:∀ (q:Int),0≤q→q < n→e.has q 1=true→fact q=true∨∃ (r:Int),(0≤r∧r < m)∧fC s r=true∧hd s r=q∧∀ b∈bd s r,dl r b 1=true
 s2:∀ (q:Int),0≤q→q < n→e.has q 2=true→fact q=false∧∀ (r:Int),0≤r→r < m→fC s r=true→hd s r=q→∃ b∈bd s r,dl r b 2=true
 c0:∀ (q:Int),0≤q→q < n→fact q=true→e.has q 1=true
 c1:∀ (r:Int),0≤r→r < m→fC s r=true→(∀ b∈bd s r,dl r b 1=true)→e.has (hd s r) 1=true
 c2:∀ (q:Int),0≤q→q < n→fact q=false→(∀ (r:Int),0≤r→r < m→fC s r=true→hd s r=q→∃ b∈bd s r,dl r b 2=true)→e.has q 2=true
def eB (n:Nat) (e e':En):Prop:=∀ (q k:Int),0≤q→q < n→1≤k→k≤2→e'.has q k=e.has q k
section
variable {n m np:Nat} {s:Es} {pq ps:Int→Int} {fact:Int→Bool} {dl dl':Int→Int→Int→Bool} {e e':En} {q r k:Int}
theorem Ks.same (h:Ks n m s fact dl e) (hc:Con n m np s pq ps) (he:eB n e e') (h1:∀ (r:Int),0≤r→r < m→∀ b∈bd s r,dl' r b 1=dl r b 1) (h2:∀ (r:Int),0≤r→r < m→∀ b∈bd s r,dl' r b 2=dl r b 2):Ks n m s fact dl' e':=by
 refine ⟨fun q q0 q1 hh=>?_,fun q q0 q1 hh=>?_,fun q q0 q1 hf=>by rw [he q 1 q0 q1 (by omega) (by omega)];exact h.c0 q q0 q1 hf,fun r r0 r1 hs ha=>?_,fun q q0 q1 hf ha=>?_⟩
 ·rw [he q 1 q0 q1 (by omega) (by omega)] at hh
  exact (h.s1 q q0 q1 hh).imp id (fun ⟨r,hr,a,b,c⟩=>⟨r,hr,a,b,fun x hx=>by rw [h1 r hr.1 hr.2 x hx];exact c x hx⟩)
 ·rw [he q 2 q0 q1 (by omega) (by omega)] at hh
  obtain ⟨a,b⟩:=h.s2 q q0 q1 hh;refine ⟨a,fun r r0 r1 hs hq=>?_⟩;obtain ⟨x,hx,hd⟩:=b r r0 r1 hs hq;exact ⟨x,hx,by rw [h2 r r0 r1 x hx];exact hd⟩
 ·obtain ⟨h0,h3⟩:=hc.head r r0 r1
  rw [he _ 1 h0 h3 (by omega) (by omega)];exact h.c1 r r0 r1 hs (fun b hb=>by rw [← h1 r r0 r1 b hb];exact ha b hb)
 ·rw [he q 2 q0 q1 (by omega) (by omega)]
  refine h.c2 q q0 q1 hf (fun r r0 r1 hs hq=>?_);obtain ⟨x,hx,hd⟩:=ha r r0 r1 hs hq;exact ⟨x,hx,by rw [← h2 r r0 r1 x hx];exact hd⟩
theorem eB.refl:eB n e e:=fun _ _ _ _ _ _=>rfl
theorem eB.trans {e2:En} (h:eB n e e') (h2:eB n e' e2):eB n e e2:=fun q k a b c d=>(h2 q k a b c d).trans (h q k a b c d)
theorem eB.tell (ht:TM n e) (q0:0≤q) (q1:q < n) (k0:3≤k) (k1:k≤4):eB n e (e.tell q k):=fun x j x0 x1 j0 j1=>by
 rw [dH ht q0 q1 (by omega) k1 x0 x1 j0 (by omega)];have:(j == k)=false:=by rw [beq_eq_false_iff_ne];omega
 rw [this];simp
theorem eB.look (ht:TM n e) (q0:0≤q) (q1:q < n):eB n e (e.look q):=by
 unfold En.look
 have h1:eB n e (e.look1 q)∧TM n (e.look1 q):=by
  rw [gF];split
  ·exact ⟨eB.tell ht q0 q1 (by omega) (by omega),ht.tell q0 q1 (by omega) (by omega)⟩
  ·exact ⟨eB.refl,ht⟩
 rw [gE];split
 ·exact h1.1.trans (eB.tell h1.2 q0 q1 (by omega) (by omega))
 ·exact h1.1
theorem oJ {b k:Int} {r':Int} (hr:r'≠r):upd dl r q k r' b k=dl r' b k:=lg hr
theorem Ks.plusD1 (hc:Con n m np s pq ps) (hD:jb n m s fact dl e.core) (ht:TM n e) (h:Ks n m s fact dl e) (r0:0≤r) (r1:r < m) (hq:q∈bd s r) (hn:dl r q 1=false):Ks n m s fact (upd dl r q 1) (En.onPlusD1 s e r):=by
 obtain ⟨h0,h1⟩:=hc.head r r0 r1;have hU2:∀ r' b,upd dl r q 1 r' b 2=dl r' b 2:=fun r' b=>mZ (by decide);have hD2:=hD.plusD1 hc r0 r1 hq hn;by_cases hs:fC s r=true
 ·have hnd:=hD2.needD r r0 r1 hs
  obtain ⟨e1,he1⟩:∃ e1,e1=En.lowerD s e r:=⟨_,rfl⟩;have hm:e1.marks=e.marks∧e1.told=e.told:=by rw [he1];unfold En.lowerD En.upL;split <;> exact ⟨rfl,rfl⟩
  have hcs:e1.core=Cr.onPlusD1 s e.core r:=by rw [he1];unfold Cr.onPlusD1 En.lowerD;rw [if_pos hs,iQ];rfl
  have hE:En.onPlusD1 s e r=if gi e1.core.needD r == 0 then e1.tell (hd s r) 1 else e1:=by rw [he1];unfold En.onPlusD1;rw [if_pos hs];rfl
  have ht1:TM n e1:=ht.same hm.1 hm.2;have hh:∀ x j,e1.has x j=e.has x j:=fun x j=>cQ hm.1
  have hall:gi e1.core.needD r=0↔∀ b∈bd s r,upd dl r q 1 r b 1=true:=by
   rw [hcs,hnd];constructor
   ·intro hz b hb
    have:=dC.1 (show (bd s r).countP (fun b=>!upd dl r q 1 r b 1)=0 by omega) b hb
    simpa using this
   ·intro ha
    have:(bd s r).countP (fun b=>!upd dl r q 1 r b 1)=0:=dC.2 fun b hb=>by rw [ha b hb];rfl
    omega
  have hhas:∀ (x j:Int),0≤x→x < n→1≤j→j≤4→((En.onPlusD1 s e r).has x j=true↔e.has x j=true∨(gi e1.core.needD r=0∧x=hd s r∧j=1)):=fun x j x0 x1 j0 j1=>by
   rw [hE];by_cases hz:gi e1.core.needD r=0
   ·rw [if_pos (beq_iff_eq.2 hz),dH ht1 h0 h1 (by omega) (by omega) x0 x1 j0 j1,hh,Bool.or_eq_true,Bool.and_eq_true,beq_iff_eq,beq_iff_eq]
    exact or_congr Iff.rfl ⟨fun k=>⟨hz,k⟩,fun k=>k.2⟩
   ·rw [if_neg (by rw [beq_iff_eq];exact hz),hh]
    exact ⟨.inl,fun k=>k.elim id (fun k=>absurd k.1 hz)⟩
  refine ⟨fun x x0 x1 hx=>?_,fun x x0 x1 hx=>?_,fun x x0 x1 hf=>(hhas x 1 x0 x1 (by omega) (by omega)).2 (.inl (h.c0 x x0 x1 hf)),fun r' r0' r1' hs' ha=>?_,fun x x0 x1 hf ha=>?_⟩
  ·rcases (hhas x 1 x0 x1 (by omega) (by omega)).1 hx with k | ⟨k1,k2,_⟩
   ·exact (h.s1 x x0 x1 k).imp id (fun ⟨r',hr,a,b,c⟩=>⟨r',hr,a,b,fun y hy=>nz (c y hy)⟩)
   ·exact .inr ⟨r,⟨r0,r1⟩,hs,k2.symm,hall.1 k1⟩
  ·rcases (hhas x 2 x0 x1 (by omega) (by omega)).1 hx with k | ⟨_,_,k⟩
   ·simp only [hU2];exact h.s2 x x0 x1 k
   ·omega
  ·obtain ⟨g0,g1⟩:=hc.head r' r0' r1'
   rw [hhas _ 1 g0 g1 (by omega) (by omega)];by_cases er:r'=r
   ·subst er;exact .inr ⟨hall.2 ha,rfl,rfl⟩
   ·exact .inl (h.c1 r' r0' r1' hs' (fun b hb=>(oJ (dl:=dl) (q:=q) (b:=b) (k:=1) er).symm.trans (ha b hb)))
  ·rw [hhas x 2 x0 x1 (by omega) (by omega)]
   simp only [hU2] at ha;exact .inl (h.c2 x x0 x1 hf ha)
 ·have hE:En.onPlusD1 s e r=e:=by unfold En.onPlusD1;rw [if_neg hs]
  rw [hE];refine ⟨fun x x0 x1 hx=>(h.s1 x x0 x1 hx).imp id (fun ⟨r',hr,a,b,c⟩=>⟨r',hr,a,b,fun y hy=>nz (c y hy)⟩),fun x x0 x1 hx=>by simp only [hU2];exact h.s2 x x0 x1 hx,h.c0,fun r' r0' r1' hs' ha=>h.c1 r' r0' r1' hs' (fun b hb=>?_),fun x x0 x1 hf ha=>h.c2 x x0 x1 hf (by simp only [hU2] at ha;exact ha)⟩;exact (oJ (dl:=dl) (r:=r) (q:=q) (b:=b) (k:=1) (fun (er:r'=r)=>hs (by rw [← er];exact hs'))).symm.trans (ha b hb)
theorem Ks.noD1 (hc:Con n m np s pq ps) (hD:jb n m s fact dl e.core) (ht:TM n e) (h:Ks n m s fact dl e) (r0:0≤r) (r1:r < m) (hq:q∈bd s r):Ks n m s fact (upd dl r q 2) (En.onNoD1 s e r):=by
 obtain ⟨h0,h1⟩:=hc.head r r0 r1;have hU1:∀ r' b,upd dl r q 2 r' b 1=dl r' b 1:=fun r' b=>mZ (by decide);have hD2:=hD.noD1 (q:=q) hc hc.ok.small.2 r0 r1 hq;by_cases hs:(fC s r&&!gb e.core.deadD r)=true
 ·obtain ⟨e1,he1⟩:∃ e1,e1=(({ (En.upL s { e with deadD:=e.deadD.set r.toNat true } r) with strict:=En.dec (En.upL s { e with deadD:=e.deadD.set r.toNat true } r).strict (hd s r) }:En).ups 1):=⟨_,rfl⟩
  have hm:e1.marks=e.marks∧e1.told=e.told:=by rw [he1];unfold En.upL;split <;> exact ⟨rfl,rfl⟩
  have hcs:e1.core=Cr.onNoD1 s e.core r:=by rw [he1];unfold Cr.onNoD1;rw [if_pos hs];unfold En.upL;split <;> rfl
  have hE:En.onNoD1 s e r=if gi e1.core.strict (hd s r) == 0 then e1.tell (hd s r) 2 else e1:=by rw [he1];unfold En.onNoD1;rw [if_pos (show ((ai s.t r).1 == 1&&!e.deadD.getD r.toNat false)=true from hs)];rfl
  have ht1:TM n e1:=ht.same hm.1 hm.2;have hh:∀ x j,e1.has x j=e.has x j:=fun x j=>cQ hm.1;rw [← hcs] at hD2
  have hall:gi e1.core.strict (hd s r)=0↔fact (hd s r)=false∧∀ (r':Int),0≤r'→r' < m→fC s r'=true→hd s r'=hd s r→∃ b∈bd s r',upd dl r q 2 r' b 2=true:=by
   cases hf:fact (hd s r) with
   | true=>
    rw [hD2.strictF _ h0 h1 hf];have:=ci m (fun r'=>fC s r'&&(hd s r' == hd s r)&&gb e1.core.deadD r');exact ⟨fun k=>by omega,fun k=>by cases k.1⟩
   | false=>
    rw [hD2.strict _ h0 h1 hf];constructor
    ·intro hz
     refine ⟨rfl,fun r' r0' r1' hs' hr'=>?_⟩;have:=cz.1 hz r' r0' r1';rw [hs',hr',hD2.deadD r' r0' r1',hs'] at this;simp only [beq_self_eq_true,Bool.true_and,Bool.not_eq_false'] at this;exact List.any_eq_true.1 this
    ·rintro ⟨_,ha⟩
     refine cz.2 fun i i0 i1=>?_;cases hsi:fC s i with
     | false=>rfl
     | true=>
      by_cases hi:hd s i=hd s r
      ·rw [hD2.deadD i i0 i1,hsi,List.any_eq_true.2 (ha i i0 i1 hsi hi)]
       simp
      ·have:(hd s i == hd s r)=false:=by rw [beq_eq_false_iff_ne];exact hi
       rw [this];rfl
  have hhas:∀ (x j:Int),0≤x→x < n→1≤j→j≤4→((En.onNoD1 s e r).has x j=true↔e.has x j=true∨(gi e1.core.strict (hd s r)=0∧x=hd s r∧j=2)):=fun x j x0 x1 j0 j1=>by
   rw [hE];by_cases hz:gi e1.core.strict (hd s r)=0
   ·rw [if_pos (beq_iff_eq.2 hz),dH ht1 h0 h1 (by omega) (by omega) x0 x1 j0 j1,hh,Bool.or_eq_true,Bool.and_eq_true,beq_iff_eq,beq_iff_eq]
    exact or_congr Iff.rfl ⟨fun k=>⟨hz,k⟩,fun k=>k.2⟩
   ·rw [if_neg (by rw [beq_iff_eq];exact hz),hh]
    exact ⟨.inl,fun k=>k.elim id (fun k=>absurd k.1 hz)⟩
  refine ⟨fun x x0 x1 hx=>?_,fun x x0 x1 hx=>?_,fun x x0 x1 hf=>(hhas x 1 x0 x1 (by omega) (by omega)).2 (.inl (h.c0 x x0 x1 hf)),fun r' r0' r1' hs' ha=>?_,fun x x0 x1 hf ha=>?_⟩
  ·rcases (hhas x 1 x0 x1 (by omega) (by omega)).1 hx with k | ⟨_,_,k⟩
   ·simp only [hU1];exact h.s1 x x0 x1 k
   ·omega
  ·rcases (hhas x 2 x0 x1 (by omega) (by omega)).1 hx with k | ⟨k1,k2,_⟩
   ·obtain ⟨a,b⟩:=h.s2 x x0 x1 k
    refine ⟨a,fun r' r0' r1' hs' hr'=>?_⟩;obtain ⟨y,hy,hd1⟩:=b r' r0' r1' hs' hr';exact ⟨y,hy,nz hd1⟩
   ·subst k2;exact hall.1 k1
  ·obtain ⟨g0,g1⟩:=hc.head r' r0' r1'
   rw [hhas _ 1 g0 g1 (by omega) (by omega)];simp only [hU1] at ha;exact .inl (h.c1 r' r0' r1' hs' ha)
  ·rw [hhas x 2 x0 x1 (by omega) (by omega)]
   by_cases ex:x=hd s r
   ·subst ex;exact .inr ⟨hall.2 ⟨hf,ha⟩,rfl,rfl⟩
   ·refine .inl (h.c2 x x0 x1 hf (fun r' r0' r1' hs' hr'=>?_))
    obtain ⟨y,hy,hd1⟩:=ha r' r0' r1' hs' hr';exact ⟨y,hy,(oJ (dl:=dl) (r:=r) (q:=q) (b:=y) (k:=2) (fun (er:r'=r)=>ex (by rw [← hr',er]))).symm.trans hd1⟩
 ·have hE:En.onNoD1 s e r=e:=by unfold En.onNoD1;rw [if_neg (show ¬ ((ai s.t r).1 == 1&&!e.deadD.getD r.toNat false)=true from hs)]
  rw [hE];refine ⟨fun x x0 x1 hx=>by simp only [hU1];exact h.s1 x x0 x1 hx,fun x x0 x1 hx=>?_,h.c0,fun r' r0' r1' hs' ha=>h.c1 r' r0' r1' hs' (by simp only [hU1] at ha;exact ha),fun x x0 x1 hf ha=>h.c2 x x0 x1 hf (fun r' r0' r1' hs' hr'=>?_)⟩
  ·obtain ⟨a,b⟩:=h.s2 x x0 x1 hx
   refine ⟨a,fun r' r0' r1' hs' hr'=>?_⟩;obtain ⟨y,hy,hd1⟩:=b r' r0' r1' hs' hr';exact ⟨y,hy,nz hd1⟩
  ·by_cases er:r'=r
   ·subst er
    have hdd:gb e.core.deadD r'=true:=by
     cases hd2:gb e.core.deadD r' with
     | true=>rfl
     | false=>exact absurd (by rw [hs',hd2];rfl) hs
    rw [hD.deadD r' r0' r1',hs'] at hdd;exact List.any_eq_true.1 hdd
   ·obtain ⟨y,hy,hd1⟩:=ha r' r0' r1' hs' hr'
    exact ⟨y,hy,(oJ (dl:=dl) (r:=r) (q:=q) (b:=y) (k:=2) er).symm.trans hd1⟩
end
end
section
structure T12 (n m np:Nat) (e e':En):Prop where
 ok:aE n m np e'
 tm:TM n e'
 same:eB n e e'
section
variable {n m np:Nat} {s:Es} {pq ps:Int→Int} {fact:Int→Bool} {dl dl':Int→Int→Int→Bool} {e e' e1:En} {q r k p f:Int}
theorem T12.refl (h0:aE n m np e) (h:TM n e):T12 n m np e e:=⟨h0,h,eB.refl⟩
theorem T12.trans {e2:En} (h:T12 n m np e e') (h2:T12 n m np e' e2):T12 n m np e e2:=⟨h2.ok,h2.tm,h.same.trans h2.same⟩
theorem T12.of (h0:aE n m np e1) (h:TM n e) (hm:e1.marks=e.marks) (ht:e1.told=e.told):T12 n m np e e1:=⟨h0,h.same hm ht,fun q k _ _ _ _=>cQ hm⟩
theorem T12.look (hn:n≤4096) (h0:aE n m np e) (h:TM n e) (q0:0≤q) (q1:q < n):T12 n m np e (e.look q):=⟨h0.look hn q0 q1,(h.look q0 q1).1,eB.look h q0 q1⟩
theorem T12.turn (hn:n≤4096) (h0:aE n m np e1) (h:TM n e) (hm:e1.marks=e.marks) (ht:e1.told=e.told) (q0:0≤q) (q1:q < n):T12 n m np e (e1.look q):=(T12.of h0 h hm ht).trans (T12.look hn h0 (h.same hm ht) q0 q1)
theorem T12.fold {f:En→Int→En} {N:Nat} (hf:∀ (e:En) (u:Int),aE n m np e→TM n e→0≤u→u < N→T12 n m np e (f e u)):∀ {l:List Int} {e:En},(∀ u∈l,0≤u∧u < N)→aE n m np e→TM n e→T12 n m np e (l.foldl f e)
 | [],e,_,h0,h=>T12.refl h0 h
 | a::l,e,hl,h0,h=>by
  rw [List.foldl_cons];obtain ⟨a0,a1⟩:=hl a (List.mem_cons_self ..);have h1:=hf e a h0 h a0 a1;exact h1.trans (T12.fold hf (fun u hu=>hl u (List.mem_cons_of_mem _ hu)) h1.ok h1.tm)
theorem T12.settle (hn:n≤4096) (h0:aE n m np e) (h:TM n e) (p0:0≤p) (p1:p < np):T12 n m np e (e.settle p):=by
 obtain ⟨⟨q0,q1⟩,_⟩:=h0.pair p0 p1;unfold En.settle;split
 ·exact T12.refl h0 h
 ·exact T12.turn hn (aE.ups ((h0.settle1 p0 p1).attacks1 _ _)) h rfl rfl q0 q1
theorem T12.stand (hn:n≤4096) (h0:aE n m np e) (h:TM n e) (p0:0≤p) (p1:p < np):T12 n m np e (e.stand p):=by
 obtain ⟨⟨q0,q1⟩,_⟩:=h0.pair p0 p1;unfold En.stand;split
 ·exact T12.turn hn (aE.ups (h0.standing1 _ _)) h rfl rfl q0 q1
 ·exact T12.refl h0 h
theorem T12.upL (h0:aE n m np e) (h:TM n e):T12 n m np e (En.upL s e r):=by unfold En.upL;split <;> first | exact T12.of h0.ups h rfl rfl | exact T12.refl h0 h
theorem T12.fire (hs:fJ n m np s) (h0:aE n m np e) (h:TM n e) (r0:0≤r) (r1:r < m):T12 n m np e (En.fire s e r):=by
 have hn:=hs.small.1
 have h1:T12 n m np e (En.fire1 s e r):=by
  unfold En.fire1;obtain ⟨q0,q1⟩:=hs.headAt r0 r1;split
  ·dsimp only
   have h2:T12 n m np e (if e.backed.getD (ai s.t r).2.1.toNat false then e else ({ e with backed:=e.backed.set (ai s.t r).2.1.toNat true }:En).ups 1):=by
    split
    ·exact T12.refl h0 h
    ·exact T12.of (aE.ups (h0.backed1 _ _)) h rfl rfl
   have h3:=T12.fold (f:=En.settle) (fun e u h0 h u0 u1=>T12.settle hn h0 h u0 u1) (hs.beatsAt r0 r1) h2.ok h2.tm;exact (h2.trans h3).trans (T12.look hn h3.ok h3.tm q0 q1)
  ·exact T12.refl h0 h
 exact h1.trans (T12.fold (f:=En.stand) (fun e u h0 h u0 u1=>T12.stand hn h0 h u0 u1) (hs.ofAt r0 r1) h1.ok h1.tm)
theorem T12.plus1 (hs:fJ n m np s) (h0:aE n m np e) (h:TM n e) (r0:0≤r) (r1:r < m):T12 n m np e (En.onPlus1 s e r):=by
 unfold En.onPlus1;dsimp only
 have h1:T12 n m np e (En.lower s e r):=by
  unfold En.lower;exact (T12.of (h0.need1 _ _) h rfl rfl:T12 n m np e { e with need:=En.dec e.need r }).trans (T12.upL (h0.need1 _ _) (h.same rfl rfl))
 split
 ·exact h1.trans (T12.fire hs h1.ok h1.tm r0 r1)
 ·exact h1
theorem T12.minus1 (hs:fJ n m np s) (h0:aE n m np e) (h:TM n e) (r0:0≤r) (r1:r < m):T12 n m np e (En.onMinus1 s e r):=by
 have hn:=hs.small.1;obtain ⟨q0,q1⟩:=hs.headAt r0 r1;unfold En.onMinus1;split
 ·exact T12.refl h0 h
 ·dsimp only
  have h1:T12 n m np e (En.upL s { e with dead:=e.dead.set r.toNat true } r):=(T12.of (h0.dead1 _ _) h rfl rfl:T12 n m np e { e with dead:=e.dead.set r.toNat true }).trans (T12.upL (h0.dead1 _ _) (h.same rfl rfl));have h2:=h1.trans (T12.fold (f:=En.settle) (fun e u h0 h u0 u1=>T12.settle hn h0 h u0 u1) (hs.ofAt r0 r1) h1.ok h1.tm);generalize (ap s.of r).foldl En.settle (En.upL s { e with dead:=e.dead.set r.toNat true } r)=e2 at *;split
  ·have h3:T12 n m np e (({ e2 with backs:=En.dec e2.backs (ai s.t r).2.1 }:En).ups 1):=h2.trans (T12.of (aE.ups (h2.ok.backs1 _ _)) h2.tm rfl rfl)
   have h4:=h3.trans (T12.fold (f:=En.onMinus2) (fun e u h0 h u0 u1=>by
    unfold En.onMinus2;have h5:T12 n m np e (({ e with pairs:=e.pairs.set u.toNat ((e.pair u).1,(e.pair u).2.1,(e.pair u).2.2.1,En.w64 ((e.pair u).2.2.2 - 1)) }:En).ups 1):=T12.of (aE.ups (h0.left1 u0 u1)) h rfl rfl;exact h5.trans (T12.stand hn h5.ok h5.tm u0 u1)) (hs.beatsAt r0 r1) h3.ok h3.tm)
   exact h4.trans (T12.look hn h4.ok h4.tm q0 q1)
  ·exact h2
theorem T12.plusD2 (hn:n≤4096) (h0:aE n m np e) (h:TM n e) (f0:0≤f) (f1:f < n):T12 n m np e (En.onPlusD2 e f):=by
 unfold En.onPlusD2;split
 ·exact T12.turn hn (aE.ups (h0.clash1 _ _)) h rfl rfl f0 f1
 ·exact T12.refl h0 h
theorem T12.late1 (hn:n≤4096) (h0:aE n m np e) (h:TM n e) (f0:0≤f) (f1:f < n):T12 n m np e (En.onLate1 e f):=by
 unfold En.onLate1;split
 ·exact T12.turn hn (aE.ups (h0.opn1 _ _)) h rfl rfl f0 f1
 ·exact T12.refl h0 h
end
end
section
section
variable {n m np:Nat} {s:Es} {pq ps:Int→Int} {fact:Int→Bool} {dl dl':Int→Int→Int→Bool} {laid Pr:Int→Int→Bool} {e e' e1:En} {q r k p f:Int}
theorem xX {P:(Int→Int→Int→Bool)→En→Prop} {g:En→Int→En} {ok:Int→Prop} (hstep:∀ dl c r,ok r→dl r q k=false→P dl c→P (upd dl r q k) (g c r)):∀ {L:List Int} {dl:Int→Int→Int→Bool} {c:En},L.Nodup→(∀ r∈L,ok r∧dl r q k=false)→P dl c→P (m5 dl L q k) (L.foldl g c)
 | [],dl,c,_,_,h=>by
  have:m5 dl [] q k=dl:=by funext r b k';simp [m5]
  rw [this];exact h
 | r::L,dl,c,hn,hL,h=>by
  rw [List.nodup_cons] at hn;obtain ⟨h1,h2⟩:=hL r (List.mem_cons_self ..)
  have:=xX hstep (L:=L) hn.2 (fun r' hr'=>⟨(hL r' (List.mem_cons_of_mem _ hr')).1,by
   rw [lg (r:=r) (fun (e:r'=r)=>hn.1 (by rw [← e];exact hr'))];exact (hL r' (List.mem_cons_of_mem _ hr')).2⟩) (hstep dl c r h1 h2 h)
  rw [jr] at this;exact this
theorem tU {P:(Int→Int→Int→Bool)→En→Prop} {g:En→Int→En} {ok:Int→Prop} (hstep:∀ dl c r,ok r→P dl c→P (upd dl r q k) (g c r)):∀ {L:List Int} {dl:Int→Int→Int→Bool} {c:En},(∀ r∈L,ok r)→P dl c→P (m5 dl L q k) (L.foldl g c)
 | [],dl,c,_,h=>by
  have:m5 dl [] q k=dl:=by funext r b k';simp [m5]
  rw [this];exact h
 | r::L,dl,c,hL,h=>by
  have:=tU hstep (L:=L) (fun r' hr'=>hL r' (List.mem_cons_of_mem _ hr')) (hstep dl c r (hL r (List.mem_cons_self ..)) h);rw [jr] at this;exact this
theorem v7 (hc:Con n m np s pq ps) (ht:TM n e) (r0:0≤r) (r1:r < m):TM n (En.onPlusD1 s e r):=by
 obtain ⟨h0,h1⟩:=hc.head r r0 r1;unfold En.onPlusD1;split
 ·dsimp only
  have h2:TM n (En.lowerD s e r):=by
   unfold En.lowerD En.upL;split
   ·exact ht.same rfl rfl
   ·exact ht.same rfl rfl
  split
  ·exact h2.tell h0 h1 (by omega) (by omega)
  ·exact h2
 ·exact ht
theorem Cj (hc:Con n m np s pq ps) (ht:TM n e) (r0:0≤r) (r1:r < m):TM n (En.onNoD1 s e r):=by
 obtain ⟨h0,h1⟩:=hc.head r r0 r1;unfold En.onNoD1;split
 ·dsimp only
  have h2:TM n (En.upL s { e with deadD:=e.deadD.set r.toNat true } r):=by
   unfold En.upL;split
   ·exact ht.same rfl rfl
   ·exact ht.same rfl rfl
  generalize En.upL s { e with deadD:=e.deadD.set r.toNat true } r=e2 at *;have h3:TM n (({ e2 with strict:=En.dec e2.strict (ai s.t r).2.1 }:En).ups 1):=h2.same rfl rfl;split
  ·exact h3.tell h0 h1 (by omega) (by omega)
  ·exact h3
 ·exact ht
theorem Ks.plusD (hc:Con n m np s pq ps) (h0:aE n m np e) (hD:jb n m s fact (fun _ b k=>Pr b k) e.core) (ht:TM n e) (h:Ks n m s fact (fun _ b k=>Pr b k) e) (q0:0≤q) (q1:q < n) (hP:Pr q 1=false):Ks n m s fact (fun _ b k=>eE Pr q 1 b k) (En.onPlusD s e q):=by
 unfold En.onPlusD;have hn:=hc.ok.small.1;obtain ⟨hn1,hi⟩:=hc.inn q q0 q1;obtain ⟨hn2,_,hf⟩:=hc.foes q q0 q1
 have h1:=xX (q:=q) (k:=1) (P:=fun dl e=>aE n m np e∧jb n m s fact dl e.core∧TM n e∧Ks n m s fact dl e) (g:=En.onPlusD1 s) (ok:=fun r=>(0≤r∧r < m)∧q∈bd s r)
  (fun dl e r hr hd ⟨a0,a1,a2,a3⟩=>⟨a0.onPlusD1 hc.ok hr.1.1 hr.1.2,by rw [e8];exact a1.plusD1 hc hr.1.1 hr.1.2 hr.2 hd,v7 hc a2 hr.1.1 hr.1.2,a3.plusD1 hc a1 a2 hr.1.1 hr.1.2 hr.2 hd⟩) hn1 (fun r hr=>⟨(hi r).1 hr,hP⟩) ⟨h0,hD,ht,h⟩
 obtain ⟨a0,a1,a2,a3⟩:=h1;have h2:=T12.fold (f:=En.onPlusD2) (fun e u h0 h u0 u1=>T12.plusD2 hn h0 h u0 u1) hf a0 a2;have h3:=h2.trans (T12.look hn h2.ok h2.tm q0 q1);exact a3.same hc h3.same (fun r r0 r1 b hb=>dU hc q0 q1 ⟨r0,r1⟩ hb) (fun r r0 r1 b hb=>dU hc q0 q1 ⟨r0,r1⟩ hb)
theorem Ks.noD (hc:Con n m np s pq ps) (h0:aE n m np e) (hD:jb n m s fact (fun _ b k=>Pr b k) e.core) (ht:TM n e) (h:Ks n m s fact (fun _ b k=>Pr b k) e) (q0:0≤q) (q1:q < n):Ks n m s fact (fun _ b k=>eE Pr q 2 b k) (En.onNoD s e q):=by
 unfold En.onNoD;have hn:=hc.ok.small.1;obtain ⟨hn1,hi⟩:=hc.inn q q0 q1
 have h1:=tU (q:=q) (k:=2) (P:=fun dl e=>aE n m np e∧jb n m s fact dl e.core∧TM n e∧Ks n m s fact dl e) (g:=En.onNoD1 s) (ok:=fun r=>(0≤r∧r < m)∧q∈bd s r)
  (fun dl e r hr ⟨a0,a1,a2,a3⟩=>⟨a0.onNoD1 hc.ok hr.1.1 hr.1.2,by rw [jk];exact a1.noD1 hc hc.ok.small.2 hr.1.1 hr.1.2 hr.2,Cj hc a2 hr.1.1 hr.1.2,a3.noD1 hc a1 a2 hr.1.1 hr.1.2 hr.2⟩) (L:=ap s.inn q) (fun r hr=>(hi r).1 hr) ⟨h0,hD,ht,h⟩
 obtain ⟨a0,a1,a2,a3⟩:=h1;exact a3.same hc (T12.look hn a0 a2 q0 q1).same (fun r r0 r1 b hb=>dU hc q0 q1 ⟨r0,r1⟩ hb) (fun r r0 r1 b hb=>dU hc q0 q1 ⟨r0,r1⟩ hb)
theorem CY {c:Cr}:(Cr.onLate1 c f).needD=c.needD∧(Cr.onLate1 c f).deadD=c.deadD∧(Cr.onLate1 c f).strict=c.strict:=by
 unfold Cr.onLate1;split <;> exact ⟨rfl,rfl,rfl⟩
theorem xD:∀ {L:List Int} {c:Cr},(L.foldl Cr.onLate1 c).needD=c.needD∧(L.foldl Cr.onLate1 c).deadD=c.deadD∧(L.foldl Cr.onLate1 c).strict=c.strict
 | [],c=>⟨rfl,rfl,rfl⟩
 | f::L,c=>by
  rw [List.foldl_cons];obtain ⟨h1,h2,h3⟩:=xD (L:=L) (c:=Cr.onLate1 c f);obtain ⟨g1,g2,g3⟩:=CY (c:=c) (f:=f);exact ⟨h1.trans g1,h2.trans g2,h3.trans g3⟩
theorem Ks.late (hc:Con n m np s pq ps) (h0:aE n m np e) (hD:jb n m s fact (fun _ b k=>Pr b k) e.core) (ht:TM n e) (h:Ks n m s fact (fun _ b k=>Pr b k) e) (q0:0≤q) (q1:q < n):Ks n m s fact (fun _ b k=>eE Pr q 2 b k) (En.onLate s e q):=by
 unfold En.onLate;have hn:=hc.ok.small.1;obtain ⟨hn2,_,hf⟩:=hc.foes q q0 q1;have h2:=T12.fold (f:=En.onLate1) (fun e u h0 h u0 u1=>T12.late1 hn h0 h u0 u1) hf h0 ht;have hcs:=cw (f:=En.onLate1) (g:=Cr.onLate1) (fun _ _=>iE) (l:=ap (aH s.t) q) (e:=e);obtain ⟨g1,g2,g3⟩:=xD (L:=ap (aH s.t) q) (c:=e.core);exact (h.same hc h2.same (fun _ _ _ _ _=>rfl) (fun _ _ _ _ _=>rfl)).noD hc h2.ok (by rw [hcs];exact hD.congr g1 g2 g3 (fun _ _=>rfl) (fun _ _=>rfl)) h2.tm q0 q1
theorem Ks.plus (hc:Con n m np s pq ps) (h0:aE n m np e) (ht:TM n e) (h:Ks n m s fact (fun _ b k=>Pr b k) e) (q0:0≤q) (q1:q < n):Ks n m s fact (fun _ b k=>eE Pr q 3 b k) (En.onPlus s e q):=by
 unfold En.onPlus;obtain ⟨hn1,hi⟩:=hc.inn q q0 q1;have h2:=T12.fold (f:=En.onPlus1 s) (fun e u h0 h u0 u1=>T12.plus1 hc.ok h0 h u0 u1) (l:=ap s.inn q) (fun r hr=>((hi r).1 hr).1) h0 ht;exact h.same hc h2.same (fun r r0 r1 b hb=>dE (by decide)) (fun r r0 r1 b hb=>dE (by decide))
theorem Ks.minus (hc:Con n m np s pq ps) (h0:aE n m np e) (ht:TM n e) (h:Ks n m s fact (fun _ b k=>Pr b k) e) (q0:0≤q) (q1:q < n):Ks n m s fact (fun _ b k=>eE Pr q 4 b k) (En.onMinus s e q):=by
 unfold En.onMinus;obtain ⟨hn1,hi⟩:=hc.inn q q0 q1;have h2:=T12.fold (f:=En.onMinus1 s) (fun e u h0 h u0 u1=>T12.minus1 hc.ok h0 h u0 u1) (l:=ap s.inn q) (fun r hr=>((hi r).1 hr).1) h0 ht;exact h.same hc h2.same (fun r r0 r1 b hb=>dE (by decide)) (fun r r0 r1 b hb=>dE (by decide))
theorem Ks.does {first i:Nat} (hc:Con n m np s pq ps) (h0:aE n m np e) (hD:jb n m s fact (fun _ b k=>Pr b k) e.core) (ht:TM n e) (h:Ks n m s fact (fun _ b k=>Pr b k) e) (q0:0≤q) (q1:q < n) (k0:1≤k) (k1:k≤4) (hP:Pr q k=false):Ks n m s fact (fun _ b k'=>eE Pr q k b k') (En.does s first i e (q,k)):=by
 obtain rfl | rfl | rfl | rfl:k=1∨k=2∨k=3∨k=4:=by omega
 ·exact h.plusD hc h0 hD ht q0 q1 hP
 ·by_cases hi:first≤i
  ·rw [jQ hi];exact h.late hc h0 hD ht q0 q1
  ·rw [lz hi];exact h.noD hc h0 hD ht q0 q1
 ·exact h.plus hc h0 ht q0 q1
 ·exact h.minus hc h0 ht q0 q1
structure Inv (n m np:Nat) (s:Es) (pq ps:Int→Int) (fact:Int→Bool) (laid Pr:Int→Int→Bool) (e:En):Prop where
 ok:aE n m np e
 can:Can n m np s pq ps fact laid Pr e.core
 kp:Kp n Pr (fun _=>False) e
 ks:Ks n m s fact (fun _ b k=>Pr b k) e
theorem Inv.ups (h:Inv n m np s pq ps fact laid Pr e) (v:Int):Inv n m np s pq ps fact laid Pr (e.ups v):=⟨h.ok.ups,h.can,h.kp.ups,⟨h.ks.s1,h.ks.s2,h.ks.c0,h.ks.c1,h.ks.c2⟩⟩
theorem Inv.does {first i:Nat} (hc:Con n m np s pq ps) (hsym:∀ (q:Int),0≤q→q < n→∀ f∈ap (aH s.t) q,q∈ap (aH s.t) f) (h:Inv n m np s pq ps fact laid Pr e) (q0:0≤q) (q1:q < n) (k0:1≤k) (k1:k≤4) (hh:e.has q k=true) (hP:Pr q k=false) (hl:k=2→(laid q 2=true↔i < first)) (hco:∀ b,¬ (eE Pr q k b 3=true∧eE Pr q k b 4=true)):Inv n m np s pq ps fact laid (eE Pr q k) (En.does s first i e (q,k)):=
 ⟨h.ok.does hc.ok q0 q1,by rw [qZ];exact h.can.does hc hsym q0 q1 k0 k1 hP hl hco,h.kp.does hc hsym h.can q0 q1 k0 k1 hh hP hl hco,h.ks.does hc h.ok h.can.d h.kp.tm q0 q1 k0 k1 hP⟩
end
end
section
def sm:Nat→(Int→Int)→Int
 | 0,_=>0
 | k + 1,f=>sm k f + f k
section
variable {n m:Nat} {f g:Int→Int} {x:Int}
theorem cP:∀ {n:Nat},(∀ (i:Int),0≤i→i < n→g i=f i)→sm n g=sm n f
 | 0,_=>rfl
 | n + 1,h=>by
  unfold sm;rw [cP (n:=n) (fun i h0 h1=>h i h0 (by omega)),h n (by omega) (by omega)]
theorem wb:∀ {n:Nat},0≤x→x < n→(∀ (i:Int),0≤i→i < n→i≠x→g i=f i)→sm n g=sm n f + (g x - f x)
 | 0,h0,h1,_=>by omega
 | n + 1,h0,h1,h=>by
  unfold sm;by_cases e:x=n
  ·subst e
   rw [cP (f:=f) (g:=g) (n:=n) (fun i i0 i1=>h i i0 (by omega) (by omega))];omega
  ·rw [wb (n:=n) h0 (by omega) (fun i i0 i1 hi=>h i i0 (by omega) hi),h n (by omega) (by omega) (fun k=>e k.symm)]
   omega
theorem lh:∀ {n:Nat},(∀ (i:Int),0≤i→i < n→g i≤f i)→sm n g≤sm n f
 | 0,_=>by unfold sm;omega
 | n + 1,h=>by
  unfold sm;have:=lh (n:=n) (fun i h0 h1=>h i h0 (by omega));have:=h n (by omega) (by omega);omega
theorem gx:∀ {n:Nat},sm n (fun i=>f i + g i)=sm n f + sm n g
 | 0=>by unfold sm;omega
 | n + 1=>by unfold sm;rw [gx (n:=n)];dsimp only;omega
theorem nF:∀ {n:Nat},sm n (fun i=>f i - g i)=sm n f - sm n g
 | 0=>by unfold sm;omega
 | n + 1=>by unfold sm;rw [nF (n:=n)];dsimp only;omega
theorem lQ:∀ {n:Nat},sm n (fun _=>0)=0
 | 0=>rfl
 | n + 1=>by unfold sm;rw [lQ (n:=n)];rfl
theorem gv (h:∀ (i:Int),0≤i→i < n→0≤f i):0≤sm n f:=by
 have:=lh (n:=n) (f:=f) (g:=fun _=>0) h;rw [lQ] at this;exact this
theorem ln (c:Int):∀ {n:Nat},sm n (fun _=>c)=n * c
 | 0=>by unfold sm;omega
 | n + 1=>by
  unfold sm;rw [ln c (n:=n),Int.natCast_add,Int.add_mul];dsimp only;omega
end
abbrev b1 (b:Bool):Int:=cond b 1 0
def vp (c:Cr) (p:Int):Int:=2 * b1 (c.sett p) - c.left p
def vq (c:Cr) (q:Int):Int:=b1 (gb c.backed q) + b1 (gb c.clash q) + b1 (gb c.standing q) - gi c.opn q - gi c.strict q - gi c.backs q
def vr (s:Es) (c:Cr) (r:Int):Int:=cond (En.long s r) (b1 (gb c.deadD r) + b1 (gb c.dead r) - gi c.needD r - gi c.need r) 0
def V (n m np:Nat) (s:Es) (c:Cr):Int:=sm np (vp c) + sm n (vq c) + sm m (vr s c)
def Cg (a b:Int):Prop:=∃ j:Int,a=b + 18446744073709551616 * j
theorem Cg.refl {a:Int}:Cg a a:=⟨0,by omega⟩
theorem Cg.of {a b:Int} (h:a=b):Cg a b:=⟨0,by omega⟩
theorem Cg.trans {a b c:Int} (h:Cg a b) (h2:Cg b c):Cg a c:=by
 obtain ⟨j,h⟩:=h;obtain ⟨k,h2⟩:=h2;exact ⟨j + k,by omega⟩
theorem pC (x:Int):Cg (En.w64 x) x:=by
 unfold En.w64;rw [IntKind.wrap_i64];refine ⟨-((x + 9223372036854775808) / 18446744073709551616),?_⟩;omega
abbrev Ri (x:Int):Prop:=-9223372036854775808≤x∧x≤9223372036854775807
theorem vV (x:Int):Ri (En.w64 x):=by
 unfold En.w64;rw [IntKind.wrap_i64];unfold Ri;omega
structure Tk (n m np:Nat) (s:Es) (e e':En):Prop where
 ok:aE n m np e'
 pre:e.told <+: e'.told
 up:Cg (e'.up - V n m np s e'.core - 2 * (e'.told.length:Nat)) (e.up - V n m np s e.core - 2 * (e.told.length:Nat))
 rg:Ri e.up→Ri e'.up
section
variable {n m np:Nat} {s:Es} {e e' e1:En} {q r k p f v:Int} {c c':Cr}
theorem Tk.refl (h0:aE n m np e):Tk n m np s e e:=⟨h0,List.prefix_refl _,Cg.refl,id⟩
theorem Tk.trans {e2:En} (h:Tk n m np s e e') (h2:Tk n m np s e' e2):Tk n m np s e e2:=⟨h2.ok,h.pre.trans h2.pre,h2.up.trans h.up,fun k=>h2.rg (h.rg k)⟩
theorem Tk.of (h0:aE n m np e1) (ht:e1.told=e.told) (hr:Ri e.up→Ri e1.up) (hu:Cg (e1.up - V n m np s e1.core) (e.up - V n m np s e.core)):Tk n m np s e e1:=by
 refine ⟨h0,by rw [ht];exact List.prefix_refl _,?_,hr⟩;rw [ht];obtain ⟨j,hj⟩:=hu;exact ⟨j,by omega⟩
theorem Tk.tell (hn:n≤4096) (h0:aE n m np e) (q0:0≤q) (q1:q < n) (k0:1≤k) (k1:k≤4):Tk n m np s e (e.tell q k):=by
 refine ⟨h0.tell hn q0 q1 k0 k1,?_,?_,fun hr=>?_⟩
 ·unfold En.tell
  split
  ·exact List.prefix_refl _
  ·exact List.prefix_append _ _
 ·rw [dS]
  unfold En.tell;split
  ·exact Cg.refl
  ·dsimp only
   rw [List.length_append,List.length_singleton];obtain ⟨j,hj⟩:=pC (e.up + 2);exact ⟨j,by omega⟩
 ·unfold En.tell
  split
  ·exact hr
  ·exact vV _
theorem Tk.look (hn:n≤4096) (h0:aE n m np e) (q0:0≤q) (q1:q < n):Tk n m np s e (e.look q):=by
 unfold En.look
 have h1:Tk n m np s e (e.look1 q):=by
  rw [gF];split
  ·exact Tk.tell hn h0 q0 q1 (by omega) (by omega)
  ·exact Tk.refl h0
 rw [gE];split
 ·exact h1.trans (Tk.tell hn h1.ok q0 q1 (by omega) (by omega))
 ·exact h1
theorem Tk.fold {f:En→Int→En} {N:Nat} (hf:∀ (e:En) (u:Int),aE n m np e→0≤u→u < N→Tk n m np s e (f e u)):∀ {l:List Int} {e:En},(∀ u∈l,0≤u∧u < N)→aE n m np e→Tk n m np s e (l.foldl f e)
 | [],e,_,h0=>Tk.refl h0
 | a::l,e,hl,h0=>by
  rw [List.foldl_cons];obtain ⟨a0,a1⟩:=hl a (List.mem_cons_self ..);have h1:=hf e a h0 a0 a1;exact h1.trans (Tk.fold hf (fun u hu=>hl u (List.mem_cons_of_mem _ hu)) h1.ok)
theorem Tk.ups (h0:aE n m np e1) (ht:e1.told=e.told) (hu:e1.up=e.up) (hv:Cg (V n m np s e1.core) (V n m np s e.core + v)):Tk n m np s e (e1.ups v):=by
 refine Tk.of h0.ups ht (fun _=>vV _) ?_;rw [lA];show Cg (En.w64 (e1.up + v) - _) _;rw [hu];obtain ⟨j,hj⟩:=pC (e.up + v);obtain ⟨i,hi⟩:=hv;exact ⟨j - i,by omega⟩
theorem ov {l:List Int} (hl:l.length=n) (q0:0≤q) (q1:q < n):(∀ (x:Int),0≤x→x≠q→gi (En.dec l q) x=gi l x)∧Cg (gi (En.dec l q) q) (gi l q - 1):=by
 have h:∀ (x:Int),0≤x→gi (En.dec l q) x=if x=q then En.w64 (gi l q - 1) else gi l x:=fun x x0=>aV hl q0 q1 x0
 refine ⟨fun x x0 hx=>by rw [h x x0,if_neg hx],?_⟩;rw [h q q0,if_pos rfl];exact pC _
theorem vx (hp:c'.pairs=c.pairs) (hr:c'.needD=c.needD∧c'.need=c.need∧c'.deadD=c.deadD∧c'.dead=c.dead) (q0:0≤q) (q1:q < n) (hq:∀ (x:Int),0≤x→x < n→x≠q→vq c' x=vq c x) (hv:Cg (vq c' q) (vq c q + v)):Cg (V n m np s c') (V n m np s c + v):=by
 unfold V;rw [wb q0 q1 hq];have e1:sm np (vp c')=sm np (vp c):=cP fun i _ _=>by unfold vp Cr.sett Cr.left Cr.pair;rw [hp]
 have e2:sm m (vr s c')=sm m (vr s c):=cP fun i _ _=>by unfold vr;rw [hr.1,hr.2.1,hr.2.2.1,hr.2.2.2]
 rw [e1,e2];obtain ⟨j,hj⟩:=hv;exact ⟨j,by omega⟩
theorem BU (hp:c'.pairs=c.pairs) (hl:c'.backed=c.backed∧c'.clash=c.clash∧c'.standing=c.standing∧c'.opn=c.opn∧c'.strict=c.strict∧c'.backs=c.backs) (r0:0≤r) (r1:r < m) (hq:∀ (x:Int),0≤x→x < m→x≠r→vr s c' x=vr s c x) (hv:Cg (vr s c' r) (vr s c r + v)):Cg (V n m np s c') (V n m np s c + v):=by
 unfold V;rw [wb r0 r1 hq];have e1:sm np (vp c')=sm np (vp c):=cP fun i _ _=>by unfold vp Cr.sett Cr.left Cr.pair;rw [hp]
 have e2:sm n (vq c')=sm n (vq c):=cP fun i _ _=>by unfold vq;rw [hl.1,hl.2.1,hl.2.2.1,hl.2.2.2.1,hl.2.2.2.2.1,hl.2.2.2.2.2]
 rw [e1,e2];obtain ⟨j,hj⟩:=hv;exact ⟨j,by omega⟩
theorem BV (hl:c'.backed=c.backed∧c'.clash=c.clash∧c'.standing=c.standing∧c'.opn=c.opn∧c'.strict=c.strict∧c'.backs=c.backs) (hr:c'.needD=c.needD∧c'.need=c.need∧c'.deadD=c.deadD∧c'.dead=c.dead) (p0:0≤p) (p1:p < np) (hq:∀ (x:Int),0≤x→x < np→x≠p→vp c' x=vp c x) (hv:Cg (vp c' p) (vp c p + v)):Cg (V n m np s c') (V n m np s c + v):=by
 unfold V;rw [wb p0 p1 hq];have e1:sm m (vr s c')=sm m (vr s c):=cP fun i _ _=>by unfold vr;rw [hr.1,hr.2.1,hr.2.2.1,hr.2.2.2]
 have e2:sm n (vq c')=sm n (vq c):=cP fun i _ _=>by unfold vq;rw [hl.1,hl.2.1,hl.2.2.1,hl.2.2.2.1,hl.2.2.2.2.1,hl.2.2.2.2.2]
 rw [e1,e2];obtain ⟨j,hj⟩:=hv;exact ⟨j,by omega⟩
theorem Tk.settle (hn:n≤4096) (h0:aE n m np e) (p0:0≤p) (p1:p < np):Tk n m np s e (e.settle p):=by
 obtain ⟨⟨q0,q1⟩,_⟩:=h0.pair p0 p1;unfold En.settle;by_cases hb:(e.pair p).2.2.1=true
 ·rw [if_pos hb];exact Tk.refl h0
 ·rw [if_neg hb]
  have h1:Tk n m np s e (({ e with pairs:=e.pairs.set p.toNat ((e.pair p).1,(e.pair p).2.1,true,(e.pair p).2.2.2),attacks:=En.dec e.attacks (e.pair p).1 }:En).ups 2):=by
   refine Tk.ups ((h0.settle1 p0 p1).attacks1 _ _) rfl rfl ?_;have hpx:∀ (x:Int),0≤x→((e.core.pairs.set p.toNat ((e.pair p).1,(e.pair p).2.1,true,(e.pair p).2.2.2)).getD x.toNat (0,0,false,0))=if x=p then ((e.pair p).1,(e.pair p).2.1,true,(e.pair p).2.2.2) else e.core.pair x:=fun x x0=>gS (np:=np) h0.pairs p0 p1 x0
   refine BV (p:=p) ⟨rfl,rfl,rfl,rfl,rfl,rfl⟩ ⟨rfl,rfl,rfl,rfl⟩ p0 p1 (fun x x0 x1 hx=>?_) (Cg.of ?_)
   ·show 2 * b1 ((e.core.pairs.set _ _).getD x.toNat (0,0,false,0)).2.2.1 - ((e.core.pairs.set _ _).getD x.toNat (0,0,false,0)).2.2.2=_
    rw [hpx x x0,if_neg hx]
    rfl
   ·show 2 * b1 ((e.core.pairs.set _ _).getD p.toNat (0,0,false,0)).2.2.1 - ((e.core.pairs.set _ _).getD p.toNat (0,0,false,0)).2.2.2=2 * b1 (e.pair p).2.2.1 - (e.pair p).2.2.2 + 2
    rw [hpx p p0,if_pos rfl,Bool.eq_false_iff.2 hb];show 2 * 1 - (e.pair p).2.2.2=2 * 0 - (e.pair p).2.2.2 + 2;omega
  exact h1.trans (Tk.look hn h1.ok q0 q1)
theorem Tk.stand (hn:n≤4096) (h0:aE n m np e) (p0:0≤p) (p1:p < np):Tk n m np s e (e.stand p):=by
 obtain ⟨⟨q0,q1⟩,_⟩:=h0.pair p0 p1;unfold En.stand;split
 ·rename_i hb
  rw [Bool.and_eq_true,Bool.not_eq_true'] at hb
  have h1:Tk n m np s e (({ e with standing:=e.standing.set (e.pair p).1.toNat true }:En).ups 1):=by
   refine Tk.ups (h0.standing1 _ _) rfl rfl ?_;have hset:∀ (x:Int),0≤x→gb (e.standing.set (e.pair p).1.toNat true) x=if x=(e.pair p).1 then true else gb e.standing x:=fun x x0=>aV h0.standing q0 q1 x0
   refine vx rfl ⟨rfl,rfl,rfl,rfl⟩ q0 q1 (fun x x0 x1 hx=>?_) (Cg.of ?_)
   ·show _ + b1 (gb (e.standing.set (e.pair p).1.toNat true) x) - _ - _ - _=_
    rw [hset x x0,if_neg hx]
    rfl
   ·show b1 (gb e.backed _) + b1 (gb e.clash _) + b1 (gb (e.standing.set (e.pair p).1.toNat true) (e.pair p).1) - gi e.opn _ - gi e.strict _ - gi e.backs _=b1 (gb e.backed _) + b1 (gb e.clash _) + b1 (gb e.standing (e.pair p).1) - gi e.opn _ - gi e.strict _ - gi e.backs _ + 1
    rw [hset _ q0,if_pos rfl,show gb e.standing (e.pair p).1=false from hb.2];show _ + 1 - _ - _ - _=_ + 0 - _ - _ - _ + 1;omega
  exact h1.trans (Tk.look hn h1.ok q0 q1)
 ·exact Tk.refl h0
theorem hJ:b1 true=1:=rfl
theorem cE:b1 false=0:=rfl
theorem Tk.upL (h0:aE n m np e1) (ht:e1.told=e.told) (hu:e1.up=e.up) (r0:0≤r) (r1:r < m) (hp:e1.core.pairs=e.core.pairs) (hl:e1.core.backed=e.core.backed∧e1.core.clash=e.core.clash∧e1.core.standing=e.core.standing∧e1.core.opn=e.core.opn∧e1.core.strict=e.core.strict∧e1.core.backs=e.core.backs)
 (hq:∀ (x:Int),0≤x→x < m→x≠r→vr s e1.core x=vr s e.core x) (hv:Cg (b1 (gb e1.core.deadD r) + b1 (gb e1.core.dead r) - gi e1.core.needD r - gi e1.core.need r) (b1 (gb e.core.deadD r) + b1 (gb e.core.dead r) - gi e.core.needD r - gi e.core.need r + 1)):Tk n m np s e (En.upL s e1 r):=by
 unfold En.upL;by_cases hb:En.long s r=true
 ·rw [if_pos hb]
  refine Tk.ups h0 ht hu (BU hp hl r0 r1 hq ?_);unfold vr;rw [hb];exact hv
 ·rw [if_neg hb]
  refine Tk.of h0 ht (fun k=>by rw [hu];exact k) ?_;rw [hu]
  have:Cg (V n m np s e1.core) (V n m np s e.core + 0):=by
   refine BU hp hl r0 r1 hq ?_;unfold vr;rw [Bool.eq_false_iff.2 hb];exact Cg.refl
  obtain ⟨j,hj⟩:=this;exact ⟨-j,by omega⟩
theorem Tk.lower (h0:aE n m np e) (r0:0≤r) (r1:r < m):Tk n m np s e (En.lower s e r):=by
 unfold En.lower;obtain ⟨g1,g2⟩:=ov h0.need r0 r1;refine Tk.upL (h0.need1 _ _) rfl rfl r0 r1 rfl ⟨rfl,rfl,rfl,rfl,rfl,rfl⟩ (fun x x0 x1 hx=>?_) ?_
 ·show cond _ (_ - gi (En.dec e.need r) x) 0=_
  rw [g1 x x0 hx];rfl
 ·obtain ⟨j,hj⟩:=g2
  refine ⟨-j,?_⟩;show _ - gi (En.dec e.need r) r=_ - gi e.need r + 1 + _;rw [hj];show b1 (gb e.deadD r) + b1 (gb e.dead r) - gi e.needD r - _=b1 (gb e.deadD r) + b1 (gb e.dead r) - gi e.needD r - _ + 1 + _;omega
theorem Tk.lowerD (h0:aE n m np e) (r0:0≤r) (r1:r < m):Tk n m np s e (En.lowerD s e r):=by
 unfold En.lowerD;obtain ⟨g1,g2⟩:=ov h0.needD r0 r1;refine Tk.upL (h0.needD1 _ _) rfl rfl r0 r1 rfl ⟨rfl,rfl,rfl,rfl,rfl,rfl⟩ (fun x x0 x1 hx=>?_) ?_
 ·show cond _ (_ - gi (En.dec e.needD r) x - _) 0=_
  rw [g1 x x0 hx];rfl
 ·obtain ⟨j,hj⟩:=g2
  refine ⟨-j,?_⟩;show _ - gi (En.dec e.needD r) r - _=_ - gi e.needD r - _ + 1 + _;rw [hj];show b1 (gb e.deadD r) + b1 (gb e.dead r) - _ - gi e.need r=b1 (gb e.deadD r) + b1 (gb e.dead r) - _ - gi e.need r + 1 + _;omega
theorem Tk.killD (h0:aE n m np e) (r0:0≤r) (r1:r < m) (hb:gb e.deadD r=false):Tk n m np s e (En.upL s { e with deadD:=e.deadD.set r.toNat true } r):=by
 have hset:∀ (x:Int),0≤x→gb (e.deadD.set r.toNat true) x=if x=r then true else gb e.deadD x:=fun x x0=>aV h0.deadD r0 r1 x0
 refine Tk.upL (h0.deadD1 _ _) rfl rfl r0 r1 rfl ⟨rfl,rfl,rfl,rfl,rfl,rfl⟩ (fun x x0 x1 hx=>?_) (Cg.of ?_)
 ·show cond _ (b1 (gb (e.deadD.set r.toNat true) x) + _ - _ - _) 0=_
  rw [hset x x0,if_neg hx];rfl
 ·show b1 (gb (e.deadD.set r.toNat true) r) + b1 (gb e.dead r) - gi e.needD r - gi e.need r=b1 (gb e.deadD r) + b1 (gb e.dead r) - gi e.needD r - gi e.need r + 1
  rw [hset r r0,if_pos rfl,hb,hJ,cE];omega
theorem Tk.kill (h0:aE n m np e) (r0:0≤r) (r1:r < m) (hb:gb e.dead r=false):Tk n m np s e (En.upL s { e with dead:=e.dead.set r.toNat true } r):=by
 have hset:∀ (x:Int),0≤x→gb (e.dead.set r.toNat true) x=if x=r then true else gb e.dead x:=fun x x0=>aV h0.dead r0 r1 x0
 refine Tk.upL (h0.dead1 _ _) rfl rfl r0 r1 rfl ⟨rfl,rfl,rfl,rfl,rfl,rfl⟩ (fun x x0 x1 hx=>?_) (Cg.of ?_)
 ·show cond _ (_ + b1 (gb (e.dead.set r.toNat true) x) - _ - _) 0=_
  rw [hset x x0,if_neg hx];rfl
 ·show b1 (gb e.deadD r) + b1 (gb (e.dead.set r.toNat true) r) - gi e.needD r - gi e.need r=b1 (gb e.deadD r) + b1 (gb e.dead r) - gi e.needD r - gi e.need r + 1
  rw [hset r r0,if_pos rfl,hb,hJ,cE];omega
end
end
section
section
variable {n m np:Nat} {s:Es} {e e' e1:En} {q r k p f v:Int} {c c':Cr}
theorem Tk.fire1 (hs:fJ n m np s) (h0:aE n m np e) (r0:0≤r) (r1:r < m):Tk n m np s e (En.fire1 s e r):=by
 have hn:=hs.small.1;unfold En.fire1;obtain ⟨q0,q1⟩:=hs.headAt r0 r1;split
 ·dsimp only
  have h2:Tk n m np s e (if e.backed.getD (ai s.t r).2.1.toNat false then e else ({ e with backed:=e.backed.set (ai s.t r).2.1.toNat true }:En).ups 1):=by
   split
   ·exact Tk.refl h0
   ·rename_i hb
    refine Tk.ups (h0.backed1 _ _) rfl rfl ?_;have hset:∀ (x:Int),0≤x→gb (e.backed.set (ai s.t r).2.1.toNat true) x=if x=(ai s.t r).2.1 then true else gb e.backed x:=fun x x0=>aV h0.backed q0 q1 x0
    refine vx rfl ⟨rfl,rfl,rfl,rfl⟩ q0 q1 (fun x x0 x1 hx=>?_) (Cg.of ?_)
    ·show b1 (gb (e.backed.set (ai s.t r).2.1.toNat true) x) + _ + _ - _ - _ - _=_
     rw [hset x x0,if_neg hx]
     rfl
    ·show b1 (gb (e.backed.set (ai s.t r).2.1.toNat true) (ai s.t r).2.1) + b1 (gb e.clash _) + b1 (gb e.standing _) - gi e.opn _ - gi e.strict _ - gi e.backs _=b1 (gb e.backed (ai s.t r).2.1) + b1 (gb e.clash _) + b1 (gb e.standing _) - gi e.opn _ - gi e.strict _ - gi e.backs _ + 1
     rw [hset _ q0,if_pos rfl,show gb e.backed (ai s.t r).2.1=false from Bool.eq_false_iff.2 hb,hJ,cE];omega
  have h3:=h2.trans (Tk.fold (f:=En.settle) (fun e u h0 u0 u1=>Tk.settle hn h0 u0 u1) (hs.beatsAt r0 r1) h2.ok);exact h3.trans (Tk.look hn h3.ok q0 q1)
 ·exact Tk.refl h0
theorem Tk.fire (hs:fJ n m np s) (h0:aE n m np e) (r0:0≤r) (r1:r < m):Tk n m np s e (En.fire s e r):=by
 have h1:=Tk.fire1 hs h0 r0 r1;exact h1.trans (Tk.fold (f:=En.stand) (fun e u h0 u0 u1=>Tk.stand hs.small.1 h0 u0 u1) (hs.ofAt r0 r1) h1.ok)
theorem Tk.plus1 (hs:fJ n m np s) (h0:aE n m np e) (r0:0≤r) (r1:r < m):Tk n m np s e (En.onPlus1 s e r):=by
 unfold En.onPlus1;dsimp only;have h1:=Tk.lower (s:=s) h0 r0 r1;split
 ·exact h1.trans (Tk.fire hs h1.ok r0 r1)
 ·exact h1
theorem Tk.plusD1 (hs:fJ n m np s) (h0:aE n m np e) (r0:0≤r) (r1:r < m):Tk n m np s e (En.onPlusD1 s e r):=by
 obtain ⟨q0,q1⟩:=hs.headAt r0 r1;unfold En.onPlusD1;split
 ·dsimp only
  have h1:=Tk.lowerD (s:=s) h0 r0 r1;split
  ·exact h1.trans (Tk.tell hs.small.1 h1.ok q0 q1 (by omega) (by omega))
  ·exact h1
 ·exact Tk.refl h0
theorem Tk.plusD2 (hn:n≤4096) (h0:aE n m np e) (f0:0≤f) (f1:f < n):Tk n m np s e (En.onPlusD2 e f):=by
 unfold En.onPlusD2;split
 ·rename_i hb
  rw [Bool.and_eq_true,Bool.not_eq_true'] at hb
  have h1:Tk n m np s e (({ e with clash:=e.clash.set f.toNat true }:En).ups 1):=by
   refine Tk.ups (h0.clash1 _ _) rfl rfl ?_;have hset:∀ (x:Int),0≤x→gb (e.clash.set f.toNat true) x=if x=f then true else gb e.clash x:=fun x x0=>aV h0.clash f0 f1 x0
   refine vx rfl ⟨rfl,rfl,rfl,rfl⟩ f0 f1 (fun x x0 x1 hx=>?_) (Cg.of ?_)
   ·show _ + b1 (gb (e.clash.set f.toNat true) x) + _ - _ - _ - _=_
    rw [hset x x0,if_neg hx]
    rfl
   ·show b1 (gb e.backed f) + b1 (gb (e.clash.set f.toNat true) f) + b1 (gb e.standing f) - gi e.opn f - gi e.strict f - gi e.backs f=b1 (gb e.backed f) + b1 (gb e.clash f) + b1 (gb e.standing f) - gi e.opn f - gi e.strict f - gi e.backs f + 1
    rw [hset _ f0,if_pos rfl,show gb e.clash f=false from hb.2,hJ,cE];omega
  exact h1.trans (Tk.look hn h1.ok f0 f1)
 ·exact Tk.refl h0
theorem vy (h0:aE n m np e) (q0:0≤q) (q1:q < n):Tk n m np s e (({ e with strict:=En.dec e.strict q }:En).ups 1):=by
 refine Tk.ups (h0.strict1 _ _) rfl rfl ?_;obtain ⟨g1,g2⟩:=ov h0.strict q0 q1;refine vx rfl ⟨rfl,rfl,rfl,rfl⟩ q0 q1 (fun x x0 x1 hx=>?_) ?_
 ·show _ - gi (En.dec e.strict q) x - _=_
  rw [g1 x x0 hx]
  rfl
 ·obtain ⟨j,hj⟩:=g2
  refine ⟨-j,?_⟩;show b1 (gb e.backed q) + b1 (gb e.clash q) + b1 (gb e.standing q) - gi e.opn q - gi (En.dec e.strict q) q - gi e.backs q=b1 (gb e.backed q) + b1 (gb e.clash q) + b1 (gb e.standing q) - gi e.opn q - gi e.strict q - gi e.backs q + 1 + _;rw [hj];omega
theorem yJ (h0:aE n m np e) (q0:0≤q) (q1:q < n):Tk n m np s e (({ e with backs:=En.dec e.backs q }:En).ups 1):=by
 refine Tk.ups (h0.backs1 _ _) rfl rfl ?_;obtain ⟨g1,g2⟩:=ov h0.backs q0 q1;refine vx rfl ⟨rfl,rfl,rfl,rfl⟩ q0 q1 (fun x x0 x1 hx=>?_) ?_
 ·show _ - gi (En.dec e.backs q) x=_
  rw [g1 x x0 hx]
  rfl
 ·obtain ⟨j,hj⟩:=g2
  refine ⟨-j,?_⟩;show b1 (gb e.backed q) + b1 (gb e.clash q) + b1 (gb e.standing q) - gi e.opn q - gi e.strict q - gi (En.dec e.backs q) q=b1 (gb e.backed q) + b1 (gb e.clash q) + b1 (gb e.standing q) - gi e.opn q - gi e.strict q - gi e.backs q + 1 + _;rw [hj];omega
theorem Ds (h0:aE n m np e) (q0:0≤q) (q1:q < n):Tk n m np s e (({ e with opn:=En.dec e.opn q }:En).ups 1):=by
 refine Tk.ups (h0.opn1 _ _) rfl rfl ?_;obtain ⟨g1,g2⟩:=ov h0.opn q0 q1;refine vx rfl ⟨rfl,rfl,rfl,rfl⟩ q0 q1 (fun x x0 x1 hx=>?_) ?_
 ·show _ - gi (En.dec e.opn q) x - _ - _=_
  rw [g1 x x0 hx]
  rfl
 ·obtain ⟨j,hj⟩:=g2
  refine ⟨-j,?_⟩;show b1 (gb e.backed q) + b1 (gb e.clash q) + b1 (gb e.standing q) - gi (En.dec e.opn q) q - gi e.strict q - gi e.backs q=b1 (gb e.backed q) + b1 (gb e.clash q) + b1 (gb e.standing q) - gi e.opn q - gi e.strict q - gi e.backs q + 1 + _;rw [hj];omega
theorem Tk.noD1 (hs:fJ n m np s) (h0:aE n m np e) (r0:0≤r) (r1:r < m):Tk n m np s e (En.onNoD1 s e r):=by
 obtain ⟨q0,q1⟩:=hs.headAt r0 r1;unfold En.onNoD1;split
 ·rename_i hb
  rw [Bool.and_eq_true,Bool.not_eq_true'] at hb;dsimp only;have h1:=Tk.killD (s:=s) h0 r0 r1 hb.2;generalize En.upL s { e with deadD:=e.deadD.set r.toNat true } r=e2 at *;have h2:=h1.trans (vy h1.ok q0 q1);split
  ·exact h2.trans (Tk.tell hs.small.1 h2.ok q0 q1 (by omega) (by omega))
  ·exact h2
 ·exact Tk.refl h0
theorem Tk.late1 (hn:n≤4096) (h0:aE n m np e) (f0:0≤f) (f1:f < n):Tk n m np s e (En.onLate1 e f):=by
 unfold En.onLate1;split
 ·have h1:=Ds (s:=s) h0 f0 f1
  exact h1.trans (Tk.look hn h1.ok f0 f1)
 ·exact Tk.refl h0
theorem Tk.minus2 (hn:n≤4096) (h0:aE n m np e) (p0:0≤p) (p1:p < np):Tk n m np s e (En.onMinus2 e p):=by
 unfold En.onMinus2
 have h1:Tk n m np s e (({ e with pairs:=e.pairs.set p.toNat ((e.pair p).1,(e.pair p).2.1,(e.pair p).2.2.1,En.w64 ((e.pair p).2.2.2 - 1)) }:En).ups 1):=by
  refine Tk.ups (h0.left1 p0 p1) rfl rfl ?_;have hpx:∀ (x:Int),0≤x→((e.core.pairs.set p.toNat ((e.pair p).1,(e.pair p).2.1,(e.pair p).2.2.1,En.w64 ((e.pair p).2.2.2 - 1))).getD x.toNat (0,0,false,0))=if x=p then ((e.pair p).1,(e.pair p).2.1,(e.pair p).2.2.1,En.w64 ((e.pair p).2.2.2 - 1)) else e.core.pair x:=fun x x0=>gS (np:=np) h0.pairs p0 p1 x0
  refine BV (p:=p) ⟨rfl,rfl,rfl,rfl,rfl,rfl⟩ ⟨rfl,rfl,rfl,rfl⟩ p0 p1 (fun x x0 x1 hx=>?_) ?_
  ·show 2 * b1 ((e.core.pairs.set _ _).getD x.toNat (0,0,false,0)).2.2.1 - ((e.core.pairs.set _ _).getD x.toNat (0,0,false,0)).2.2.2=_
   rw [hpx x x0,if_neg hx]
   rfl
  ·obtain ⟨j,hj⟩:=pC ((e.pair p).2.2.2 - 1)
   refine ⟨-j,?_⟩;show 2 * b1 ((e.core.pairs.set _ _).getD p.toNat (0,0,false,0)).2.2.1 - ((e.core.pairs.set _ _).getD p.toNat (0,0,false,0)).2.2.2=2 * b1 (e.pair p).2.2.1 - (e.pair p).2.2.2 + 1 + _;rw [hpx p p0,if_pos rfl];show 2 * b1 (e.pair p).2.2.1 - En.w64 ((e.pair p).2.2.2 - 1)=_;rw [hj];omega
 exact h1.trans (Tk.stand hn h1.ok p0 p1)
theorem Tk.minus1 (hs:fJ n m np s) (h0:aE n m np e) (r0:0≤r) (r1:r < m):Tk n m np s e (En.onMinus1 s e r):=by
 have hn:=hs.small.1;obtain ⟨q0,q1⟩:=hs.headAt r0 r1;unfold En.onMinus1;by_cases hb:e.dead.getD r.toNat false=true
 ·rw [if_pos hb];exact Tk.refl h0
 ·rw [if_neg hb]
  dsimp only;have h1:=Tk.kill (s:=s) h0 r0 r1 (Bool.eq_false_iff.2 hb);have h2:=h1.trans (Tk.fold (f:=En.settle) (fun e u h0 u0 u1=>Tk.settle hn h0 u0 u1) (hs.ofAt r0 r1) h1.ok);generalize (ap s.of r).foldl En.settle (En.upL s { e with dead:=e.dead.set r.toNat true } r)=e2 at *;split
  ·have h3:=h2.trans (yJ h2.ok q0 q1)
   have h4:=h3.trans (Tk.fold (f:=En.onMinus2) (fun e u h0 u0 u1=>Tk.minus2 hn h0 u0 u1) (hs.beatsAt r0 r1) h3.ok);exact h4.trans (Tk.look hn h4.ok q0 q1)
  ·exact h2
theorem Tk.noD (hs:fJ n m np s) (h0:aE n m np e) (q0:0≤q) (q1:q < n):Tk n m np s e (En.onNoD s e q):=by
 unfold En.onNoD;have h1:=Tk.fold (f:=En.onNoD1 s) (fun e u h0 u0 u1=>Tk.noD1 hs h0 u0 u1) (hs.inAt q0 q1) h0;exact h1.trans (Tk.look hs.small.1 h1.ok q0 q1)
theorem Tk.does {first i:Nat} (hs:fJ n m np s) (h0:aE n m np e) (q0:0≤q) (q1:q < n) (k0:1≤k) (k1:k≤4):Tk n m np s e (En.does s first i e (q,k)):=by
 have hn:=hs.small.1;have hf:=hs.foesAt q0 q1;obtain rfl | rfl | rfl | rfl:k=1∨k=2∨k=3∨k=4:=by omega
 ·rw [BN]
  unfold En.onPlusD;have h1:=Tk.fold (f:=En.onPlusD1 s) (fun e u h0 u0 u1=>Tk.plusD1 hs h0 u0 u1) (hs.inAt q0 q1) h0;have h2:=h1.trans (Tk.fold (f:=En.onPlusD2) (fun e u h0 u0 u1=>Tk.plusD2 hn h0 u0 u1) hf h1.ok);exact h2.trans (Tk.look hn h2.ok q0 q1)
 ·by_cases hi:first≤i
  ·rw [jQ hi]
   unfold En.onLate;have h1:=Tk.fold (s:=s) (f:=En.onLate1) (fun e u h0 u0 u1=>Tk.late1 hn h0 u0 u1) hf h0;exact h1.trans (Tk.noD hs h1.ok q0 q1)
  ·rw [lz hi]
   exact Tk.noD hs h0 q0 q1
 ·rw [BM]
  exact Tk.fold (f:=En.onPlus1 s) (fun e u h0 u0 u1=>Tk.plus1 hs h0 u0 u1) (hs.inAt q0 q1) h0
 ·rw [BL]
  exact Tk.fold (f:=En.onMinus1 s) (fun e u h0 u0 u1=>Tk.minus1 hs h0 u0 u1) (hs.inAt q0 q1) h0
end
end
section
abbrev hdT (t:ThV) (r:Int):Int:=(ai t r).2.1
abbrev bdT (t:ThV) (r:Int):List Int:=(ai t r).2.2
abbrev stT (t:ThV) (r:Int):Bool:=(ai t r).1 == 1
abbrev foT (t:ThV) (q:Int):List Int:=ap (aH t) q
abbrev btT (t:ThV) (r:Int):List Int:=ap (aN t) r
section
variable (t:ThV) (m:Nat) (fact:Int→Bool) (P:Int→Int→Prop) (q:Int)
def K1:Prop:=fact q=true∨∃ (r:Int),(0≤r∧r < m)∧stT t r=true∧hdT t r=q∧∀ b∈bdT t r,P b 1
def K2:Prop:=fact q=false∧∀ (r:Int),0≤r→r < m→stT t r=true→hdT t r=q→∃ b∈bdT t r,P b 2
def Won (s:Int):Prop:=(∃ b∈bdT t s,P b 4)∨∃ (x:Int),(0≤x∧x < m)∧cZ t x=true∧hdT t x=q∧s∈btT t x∧∀ b∈bdT t x,P b 3
def K3:Prop:=P q 1∨((∃ (r:Int),(0≤r∧r < m)∧cZ t r=true∧hdT t r=q∧∀ b∈bdT t r,P b 3)∧(∀ f∈foT t q,P f 2)∧∀ (s:Int),0≤s→s < m→hdT t s∈foT t q→Won t m P q s)
def vz (s:Int):Prop:=(∀ b∈bdT t s,P b 3)∧∀ (x:Int),0≤x→x < m→cZ t x=true→hdT t x=q→s∈btT t x→∃ b∈bdT t x,P b 4
def K4:Prop:=P q 2∧((∀ (r:Int),0≤r→r < m→cZ t r=true→hdT t r=q→∃ b∈bdT t r,P b 4)∨(∃ f∈foT t q,P f 1)∨∃ (s:Int),(0≤s∧s < m)∧hdT t s∈foT t q∧vz t m P q s)
structure DW (n:Nat):Prop where
 k1:∀ (q:Int),0≤q→q < n→K1 t m fact P q→P q 1
 k2:∀ (q:Int),0≤q→q < n→K2 t m fact P q→P q 2
 k3:∀ (q:Int),0≤q→q < n→K3 t m P q→P q 3
 k4:∀ (q:Int),0≤q→q < n→K4 t m P q→P q 4
end
def Lf (t:ThV) (n m:Nat) (fact:Int→Bool) (q k:Int):Prop:=∀ P,DW t m fact P n→P q k
section
variable {t:ThV} {n m:Nat} {fact:Int→Bool} {P P':Int→Int→Prop} {q k:Int}
theorem K1.mono (hP:∀ q k,P q k→P' q k) (h:K1 t m fact P q):K1 t m fact P' q:=h.imp id (fun ⟨r,a,b,c,d⟩=>⟨r,a,b,c,fun x hx=>hP _ _ (d x hx)⟩)
theorem K2.mono (hP:∀ q k,P q k→P' q k) (h:K2 t m fact P q):K2 t m fact P' q:=⟨h.1,fun r a b c d=>by
 obtain ⟨x,hx,hp⟩:=h.2 r a b c d;exact ⟨x,hx,hP _ _ hp⟩⟩
theorem Won.mono {s:Int} (hP:∀ q k,P q k→P' q k) (h:Won t m P q s):Won t m P' q s:=h.imp (fun ⟨b,hb,hp⟩=>⟨b,hb,hP _ _ hp⟩) (fun ⟨x,a,b,c,d,e⟩=>⟨x,a,b,c,d,fun y hy=>hP _ _ (e y hy)⟩)
theorem K3.mono (hP:∀ q k,P q k→P' q k) (h:K3 t m P q):K3 t m P' q:=h.imp (hP _ _) (fun ⟨⟨r,a,b,c,d⟩,e,g⟩=>⟨⟨r,a,b,c,fun x hx=>hP _ _ (d x hx)⟩,fun f hf=>hP _ _ (e f hf),fun s s0 s1 hs=>(g s s0 s1 hs).mono hP⟩)
theorem vz.mono {s:Int} (hP:∀ q k,P q k→P' q k) (h:vz t m P q s):vz t m P' q s:=⟨fun b hb=>hP _ _ (h.1 b hb),fun x a b c d e=>by
 obtain ⟨y,hy,hp⟩:=h.2 x a b c d e;exact ⟨y,hy,hP _ _ hp⟩⟩
theorem K4.mono (hP:∀ q k,P q k→P' q k) (h:K4 t m P q):K4 t m P' q:=⟨hP _ _ h.1,h.2.imp (fun g r a b c d=>by
 obtain ⟨y,hy,hp⟩:=g r a b c d;exact ⟨y,hy,hP _ _ hp⟩) (fun g=>g.imp (fun ⟨f,hf,hp⟩=>⟨f,hf,hP _ _ hp⟩) (fun ⟨s,a,b,c⟩=>⟨s,a,b,c.mono hP⟩))⟩
theorem rY (h:DW t m fact P n):∀ q k,Lf t n m fact q k→P q k:=fun q k hl=>hl P h
theorem bK:DW t m fact (Lf t n m fact) n:=
 ⟨fun q q0 q1 h P hP=>hP.k1 q q0 q1 (h.mono (rY hP)),fun q q0 q1 h P hP=>hP.k2 q q0 q1 (h.mono (rY hP)),fun q q0 q1 h P hP=>hP.k3 q q0 q1 (h.mono (rY hP)),fun q q0 q1 h P hP=>hP.k4 q q0 q1 (h.mono (rY hP))⟩
def Ks4 (t:ThV) (m:Nat) (fact:Int→Bool) (P:Int→Int→Prop) (q k:Int):Prop:=(k=1∧K1 t m fact P q)∨(k=2∧K2 t m fact P q)∨(k=3∧K3 t m P q)∨(k=4∧K4 t m P q)
theorem oX (h:Lf t n m fact q k):(0≤q∧q < n)∧Ks4 t m fact (Lf t n m fact) q k:=by
 refine h (fun q k=>(0≤q∧q < n)∧Ks4 t m fact (Lf t n m fact) q k) ?_
 have up:∀ (q k:Int),((0≤q∧q < n)∧Ks4 t m fact (Lf t n m fact) q k)→Lf t n m fact q k:=fun q k ⟨⟨q0,q1⟩,h⟩=>by
  rcases h with ⟨rfl,h⟩ | ⟨rfl,h⟩ | ⟨rfl,h⟩ | ⟨rfl,h⟩
  ·exact bK.k1 q q0 q1 h
  ·exact bK.k2 q q0 q1 h
  ·exact bK.k3 q q0 q1 h
  ·exact bK.k4 q q0 q1 h
 exact ⟨fun q q0 q1 h=>⟨⟨q0,q1⟩,.inl ⟨rfl,h.mono up⟩⟩,fun q q0 q1 h=>⟨⟨q0,q1⟩,.inr (.inl ⟨rfl,h.mono up⟩)⟩,fun q q0 q1 h=>⟨⟨q0,q1⟩,.inr (.inr (.inl ⟨rfl,h.mono up⟩))⟩,fun q q0 q1 h=>⟨⟨q0,q1⟩,.inr (.inr (.inr ⟨rfl,h.mono up⟩))⟩⟩
theorem F9 (h:Lf t n m fact q 1):K1 t m fact (Lf t n m fact) q:=by
 rcases (oX h).2 with ⟨_,h⟩ | ⟨h,_⟩ | ⟨h,_⟩ | ⟨h,_⟩
 ·exact h
 all_goals omega
theorem F8 (h:Lf t n m fact q 2):K2 t m fact (Lf t n m fact) q:=by
 rcases (oX h).2 with ⟨h,_⟩ | ⟨_,h⟩ | ⟨h,_⟩ | ⟨h,_⟩
 ·omega
 ·exact h
 all_goals omega
theorem F7 (h:Lf t n m fact q 3):K3 t m (Lf t n m fact) q:=by
 rcases (oX h).2 with ⟨h,_⟩ | ⟨h,_⟩ | ⟨_,h⟩ | ⟨h,_⟩
 ·omega
 ·omega
 ·exact h
 ·omega
theorem F6 (h:Lf t n m fact q 4):K4 t m (Lf t n m fact) q:=by
 rcases (oX h).2 with ⟨h,_⟩ | ⟨h,_⟩ | ⟨h,_⟩ | ⟨_,h⟩
 ·omega
 ·omega
 ·omega
 ·exact h
theorem Bx (h:Lf t n m fact q k):(k=1→¬ Lf t n m fact q 2)∧(k=2→¬ Lf t n m fact q 1)∧(k=3→¬ Lf t n m fact q 4)∧(k=4→¬ Lf t n m fact q 3):=by
 have key:DW t m fact (fun q k=>Lf t n m fact q k∧(k=1→¬ Lf t n m fact q 2)∧(k=2→¬ Lf t n m fact q 1)∧(k=3→¬ Lf t n m fact q 4)∧(k=4→¬ Lf t n m fact q 3)) n:=by
  refine ⟨fun q q0 q1 h=>?_,fun q q0 q1 h=>?_,fun q q0 q1 h=>?_,fun q q0 q1 h=>?_⟩
  ·refine ⟨bK.k1 q q0 q1 (h.mono (fun _ _ h=>h.1)),fun _ h2=>?_,fun h=>by omega,fun h=>by omega,fun h=>by omega⟩
   have h3:=F8 h2;rcases h with h | ⟨r,hr,a,b,c⟩
   ·rw [h3.1] at h;cases h
   ·obtain ⟨x,hx,hp⟩:=h3.2 r hr.1 hr.2 a b
    exact (c x hx).2.1 rfl hp
  ·refine ⟨bK.k2 q q0 q1 (h.mono (fun _ _ h=>h.1)),fun h=>by omega,fun _ h2=>?_,fun h=>by omega,fun h=>by omega⟩
   rcases F9 h2 with h3 | ⟨r,hr,a,b,c⟩
   ·rw [h.1] at h3;cases h3
   ·obtain ⟨x,hx,hp⟩:=h.2 r hr.1 hr.2 a b
    exact hp.2.2.1 rfl (c x hx)
  ·refine ⟨bK.k3 q q0 q1 (h.mono (fun _ _ h=>h.1)),fun h=>by omega,fun h=>by omega,fun _ h2=>?_,fun h=>by omega⟩
   obtain ⟨h3,h4⟩:=F6 h2;rcases h with h | ⟨⟨r,hr,a,b,c⟩,d,e⟩
   ·exact h.2.1 rfl h3
   ·rcases h4 with h4 | ⟨f,hf,hp⟩ | ⟨s,hs,hsf,hst⟩
    ·obtain ⟨x,hx,hp⟩:=h4 r hr.1 hr.2 a b
     exact (c x hx).2.2.2.1 rfl hp
    ·exact (d f hf).2.2.1 rfl hp
    ·rcases e s hs.1 hs.2 hsf with ⟨x,hx,hp⟩ | ⟨y,hy,ya,yb,yc,yd⟩
     ·exact hp.2.2.2.2 rfl (hst.1 x hx)
     ·obtain ⟨x,hx,hp⟩:=hst.2 y hy.1 hy.2 ya yb yc
      exact (yd x hx).2.2.2.1 rfl hp
  ·refine ⟨bK.k4 q q0 q1 (h.mono (fun _ _ h=>h.1)),fun h=>by omega,fun h=>by omega,fun h=>by omega,fun _ h2=>?_⟩
   obtain ⟨h3,h4⟩:=h;rcases F7 h2 with h5 | ⟨⟨r,hr,a,b,c⟩,d,e⟩
   ·exact h3.2.2.1 rfl h5
   ·rcases h4 with h4 | ⟨f,hf,hp⟩ | ⟨s,hs,hsf,hst⟩
    ·obtain ⟨x,hx,hp⟩:=h4 r hr.1 hr.2 a b
     exact hp.2.2.2.2 rfl (c x hx)
    ·exact hp.2.1 rfl (d f hf)
    ·rcases e s hs.1 hs.2 hsf with ⟨x,hx,hp⟩ | ⟨y,hy,ya,yb,yc,yd⟩
     ·exact (hst.1 x hx).2.2.2.1 rfl hp
     ·obtain ⟨x,hx,hp⟩:=hst.2 y hy.1 hy.2 ya yb yc
      exact hp.2.2.2.2 rfl (yd x hx)
 exact (rY key q k h).2
theorem xw:¬ (Lf t n m fact q 3∧Lf t n m fact q 4):=fun h=>(Bx h.1).2.2.1 rfl h.2
theorem CU:¬ (Lf t n m fact q 1∧Lf t n m fact q 2):=fun h=>(Bx h.1).1 rfl h.2
end
end
section
structure DV (n m np:Nat) (s:Es) (pq ps:Int→Int):Prop where
 sym:∀ (q:Int),0≤q→q < n→∀ f∈foT s.t q,q∈foT s.t f
 pin:∀ (p:Int),0≤p→p < np→hdT s.t (ps p)∈foT s.t (pq p)
 pall:∀ (q x:Int),0≤q→q < n→0≤x→x < m→hdT s.t x∈foT s.t q→(∃ (r:Int),(0≤r∧r < m)∧cZ s.t r=true∧hdT s.t r=q)→∃ (p:Int),(0≤p∧p < np)∧pq p=q∧ps p=x
 bts:∀ (x p:Int),0≤x→x < m→0≤p→p < np→(p∈ap s.beats x↔cZ s.t x=true∧hdT s.t x=pq p∧ps p∈btT s.t x)
 one:∀ (p p':Int),0≤p→p < np→0≤p'→p' < np→pq p=pq p'→ps p=ps p'→p=p'
 psup:∀ (p:Int),0≤p→p < np→∃ (r:Int),(0≤r∧r < m)∧cZ s.t r=true∧hdT s.t r=pq p
theorem ER {m:Nat} {f:Int→Bool} (h:cN m f≠0):∃ (r:Int),(0≤r∧r < m)∧f r=true:=by
 refine Classical.byContradiction fun k=>h (cz.2 fun i i0 i1=>?_);cases hf:f i with
 | false=>rfl
 | true=>exact absurd ⟨i,⟨i0,i1⟩,hf⟩ k
section
variable {n m np:Nat} {s:Es} {pq ps:Int→Int} {fact:Int→Bool} {laid Pr:Int→Int→Bool} {e e':En} {q r k p f:Int}
theorem dh {dl df:Int→Int→Int→Bool} {c:Cr} (h:gq n m np s pq ps dl df c) (r0:0≤r) (r1:r < m):gi c.need r=0↔∀ b∈bd s r,dl r b 3=true:=by
 rw [h.need r r0 r1];constructor
 ·intro hz b hb
  have:=dC.1 (show (bd s r).countP (fun b=>!dl r b 3)=0 by omega) b hb
  simpa using this
 ·intro ha
  have:(bd s r).countP (fun b=>!dl r b 3)=0:=dC.2 fun b hb=>by rw [ha b hb];rfl
  omega
theorem jW {dl df:Int→Int→Int→Bool} {c:Cr} (h:gq n m np s pq ps dl df c) (r0:0≤r) (r1:r < m):gb c.dead r=true↔∃ b∈bd s r,dl r b 4=true:=by
 rw [h.dead r r0 r1,List.any_eq_true]
theorem Inv.sound (hc:Con n m np s pq ps) (hp:DV n m np s pq ps) (h:Inv n m np s pq ps fact laid Pr e) (hPr:∀ q k,Pr q k=true→Lf s.t n m fact q k) (hla:∀ q k,laid q k=true→Lf s.t n m fact q k):
 ∀ (q k:Int),0≤q→q < n→1≤k→k≤4→e.has q k=true→Lf s.t n m fact q k:=by
 have s1:∀ (q:Int),0≤q→q < n→e.has q 1=true→Lf s.t n m fact q 1:=fun q q0 q1 hh=>by
  refine bK.k1 q q0 q1 ?_;rcases h.ks.s1 q q0 q1 hh with h1 | ⟨r,hr,a,b,c⟩
  ·exact .inl h1
  ·exact .inr ⟨r,hr,a,b,fun x hx=>hPr _ _ (c x hx)⟩
 have s2:∀ (q:Int),0≤q→q < n→e.has q 2=true→Lf s.t n m fact q 2:=fun q q0 q1 hh=>by
  refine bK.k2 q q0 q1 ?_;obtain ⟨h1,h2⟩:=h.ks.s2 q q0 q1 hh;refine ⟨h1,fun r r0 r1 a b=>?_⟩;obtain ⟨x,hx,hd1⟩:=h2 r r0 r1 a b;exact ⟨x,hx,hPr _ _ hd1⟩
 have hS:=h.can.s;have hneed:∀ (r:Int),0≤r→r < m→gi e.core.need r=0→∀ b∈bdT s.t r,Lf s.t n m fact b 3:=fun r r0 r1 hz b hb=>hPr _ _ ((dh hS r0 r1).1 hz b hb)
 have hdead:∀ (r:Int),0≤r→r < m→gb e.core.dead r=true→∃ b∈bdT s.t r,Lf s.t n m fact b 4:=fun r r0 r1 hz=>by
  obtain ⟨b,hb,hd1⟩:=(jW hS r0 r1).1 hz;exact ⟨b,hb,hPr _ _ hd1⟩
 intro q k q0 q1 k0 k1 hh;obtain rfl | rfl | rfl | rfl:k=1∨k=2∨k=3∨k=4:=by omega
 ·exact s1 q q0 q1 hh
 ·exact s2 q q0 q1 hh
 ·refine bK.k3 q q0 q1 ?_
  rcases (h.kp.j q q0 q1).1 hh with h1 | h1
  ·exact .inl (s1 q q0 q1 h1)
  ·refine .inr ?_
   unfold eU at h1;rw [Bool.and_eq_true,Bool.and_eq_true,beq_iff_eq,beq_iff_eq] at h1;obtain ⟨⟨h1,h2⟩,h3⟩:=h1;obtain ⟨r,hr,a,b,c⟩:=(hS.backed q q0 q1).1 h1;refine ⟨⟨r,hr,a,b,hneed r hr.1 hr.2 c⟩,fun f hf=>?_,fun x x0 x1 hx=>?_⟩
   ·have o1:=(hS.opn1 q q0 q1).1
    have:=dC.1 (show (ap (aH s.t) q).countP (fun f=>!(Pr f 2 || laid f 2))=0 by omega) f hf;rw [Bool.not_eq_false',Bool.or_eq_true] at this;exact this.elim (hPr _ _) (hla _ _)
   ·obtain ⟨p,hpr,e1,e2⟩:=hp.pall q x q0 q1 x0 x1 hx ⟨r,hr,a,b⟩
    rw [hS.pr.att q q0 q1] at h3;have:=cz.1 h3 p hpr.1 hpr.2;rw [e1,beq_self_eq_true,Bool.true_and,Bool.not_eq_false'] at this;rcases (hS.sett p hpr.1 hpr.2).1 this with h4 | ⟨y,hy,h4,h5⟩
    ·rw [e2] at h4
     exact .inl (hdead x x0 x1 h4)
    ·obtain ⟨g1,g2,g3⟩:=(hp.bts y p hy.1 hy.2 hpr.1 hpr.2).1 h4
     exact .inr ⟨y,hy,g1,by rw [g2,e1],by rw [← e2];exact g3,hneed y hy.1 hy.2 h5⟩
 ·refine bK.k4 q q0 q1 ?_
  obtain ⟨h1,h2⟩:=(h.kp.j q q0 q1).2 hh;refine ⟨s2 q q0 q1 h1,?_⟩;unfold eM at h2;rw [Bool.or_eq_true,Bool.or_eq_true,beq_iff_eq] at h2;rcases h2 with (h2 | h2) | h2
  ·refine .inl fun r r0 r1 a b=>hdead r r0 r1 ?_
   rw [hS.backs q q0 q1] at h2;have:=cz.1 h2 r r0 r1;rw [a,show (hd s r == q)=true from beq_iff_eq.2 b,Bool.true_and,Bool.true_and,Bool.not_eq_false'] at this;exact this
  ·obtain ⟨f,hf,hd1⟩:=hS.clash1 q q0 q1 h2
   rw [Bool.or_eq_true] at hd1;exact .inr (.inl ⟨f,hf,hd1.elim (hPr _ _) (hla _ _)⟩)
  ·obtain ⟨p,hpr,e1,h3,h4⟩:=(hS.stand q q0 q1).1 h2
   have hps:=(hc.pr p hpr.1 hpr.2).2;refine .inr (.inr ⟨ps p,hps,by rw [← e1];exact hp.pin p hpr.1 hpr.2,hneed _ hps.1 hps.2 h3,fun x x0 x1 a b c=>hdead x x0 x1 ?_⟩);rw [hS.left p hpr.1 hpr.2] at h4;have:=cz.1 h4 x x0 x1;rw [decide_eq_true ((hp.bts x p x0 x1 hpr.1 hpr.2).2 ⟨a,by rw [b,e1],c⟩),Bool.true_and,Bool.not_eq_false'] at this;exact this
def AU (n:Nat) (e:En) (q k:Int):Prop:=(0≤q∧q < n)∧(1≤k∧k≤4)∧e.has q k=true
theorem Inv.complete (hc:Con n m np s pq ps) (hp:DV n m np s pq ps) (h:Inv n m np s pq ps fact laid Pr e) (hall:∀ (q k:Int),0≤q→q < n→1≤k→k≤4→e.has q k=true→Pr q k=true):DW s.t m fact (AU n e) n:=by
 have hS:=h.can.s;have hT:∀ q k,AU n e q k→Pr q k=true:=fun q k ht=>hall q k ht.1.1 ht.1.2 ht.2.1.1 ht.2.1.2 ht.2.2;have hneed:∀ (r:Int),0≤r→r < m→(∀ b∈bdT s.t r,AU n e b 3)→gi e.core.need r=0:=fun r r0 r1 ha=>(dh hS r0 r1).2 (fun b hb=>hT _ _ (ha b hb));have hdead:∀ (r:Int),0≤r→r < m→(∃ b∈bdT s.t r,AU n e b 4)→gb e.core.dead r=true:=fun r r0 r1 ⟨b,hb,ha⟩=>(jW hS r0 r1).2 ⟨b,hb,hT _ _ ha⟩;refine ⟨fun q q0 q1 hk=>⟨⟨q0,q1⟩,by omega,?_⟩,fun q q0 q1 hk=>⟨⟨q0,q1⟩,by omega,?_⟩,fun q q0 q1 hk=>⟨⟨q0,q1⟩,by omega,?_⟩,fun q q0 q1 hk=>⟨⟨q0,q1⟩,by omega,?_⟩⟩
 ·rcases hk with hk | ⟨r,hr,a,b,c⟩
  ·exact h.ks.c0 q q0 q1 hk
  ·rw [← b]
   exact h.ks.c1 r hr.1 hr.2 a (fun x hx=>hT _ _ (c x hx))
 ·refine h.ks.c2 q q0 q1 hk.1 (fun r r0 r1 a b=>?_)
  obtain ⟨x,hx,hp⟩:=hk.2 r r0 r1 a b;exact ⟨x,hx,hT _ _ hp⟩
 ·refine (h.kp.cl q q0 q1 (fun k=>k)).1 ?_
  rcases hk with hk | ⟨⟨r,hr,a,b,c⟩,d,g⟩
  ·exact .inl (hT _ _ hk)
  ·refine .inr ?_
   have hb:gb e.core.backed q=true:=(hS.backed q q0 q1).2 ⟨r,hr,a,b,hneed r hr.1 hr.2 c⟩;unfold eU;rw [Bool.and_eq_true,Bool.and_eq_true,beq_iff_eq,beq_iff_eq];refine ⟨⟨hb,?_⟩,?_⟩
   ·rcases hS.opn2 q q0 q1 with ho | ⟨_,ho⟩
    ·rw [ho]
     have:(ap (aH s.t) q).countP (fun f=>!(Pr f 2 || laid f 2))=0:=dC.2 fun f hf=>by rw [hT _ _ (d f hf)];rfl
     omega
    ·rw [ho] at hb;cases hb
   ·rw [hS.pr.att q q0 q1]
    refine cz.2 fun p p0 p1=>?_;by_cases e1:pq p=q
    ·have hps:=(hc.pr p p0 p1).2
     have hst:e.core.sett p=true:=by
      refine (hS.sett p p0 p1).2 ?_;rcases g (ps p) hps.1 hps.2 (by rw [← e1];exact hp.pin p p0 p1) with h4 | ⟨y,hy,ya,yb,yc,yd⟩
      ·exact .inl (hdead _ hps.1 hps.2 h4)
      ·exact .inr ⟨y,hy,(hp.bts y p hy.1 hy.2 p0 p1).2 ⟨ya,by rw [yb,e1],yc⟩,hneed y hy.1 hy.2 yd⟩
     rw [hst];simp
    ·rw [beq_eq_false_iff_ne.2 e1];rfl
 ·obtain ⟨h1,h2⟩:=hk
  refine (h.kp.cl q q0 q1 (fun k=>k)).2 (hT _ _ h1) ?_;unfold eM;rw [Bool.or_eq_true,Bool.or_eq_true,beq_iff_eq]
  have hb0:(∀ (r:Int),0≤r→r < m→cZ s.t r=true→hdT s.t r=q→gb e.core.dead r=true)→gi e.core.backs q=0:=fun ha=>by
   rw [hS.backs q q0 q1];refine cz.2 fun r r0 r1=>?_;cases hs:cZ s.t r with
   | false=>rfl
   | true=>
    by_cases e1:hd s r=q
    ·rw [ha r r0 r1 hs e1];simp
    ·rw [beq_eq_false_iff_ne.2 e1];rfl
  rcases h2 with h2 | ⟨f,hf,h2⟩ | ⟨x,hx,hxf,h2,h3⟩
  ·exact .inl (.inl (hb0 fun r r0 r1 a b=>hdead r r0 r1 (h2 r r0 r1 a b)))
  ·rcases hS.clash2 q q0 q1 f hf (by rw [hT _ _ h2];rfl) with h3 | h3
   ·exact .inl (.inr h3)
   ·exact .inl (.inl h3)
  ·by_cases hr:∃ (r:Int),(0≤r∧r < m)∧cZ s.t r=true∧hdT s.t r=q
   ·obtain ⟨p,hpr,e1,e2⟩:=hp.pall q x q0 q1 hx.1 hx.2 hxf hr
    refine .inr ((hS.stand q q0 q1).2 ⟨p,hpr,e1,by rw [e2];exact hneed x hx.1 hx.2 h2,?_⟩);rw [hS.left p hpr.1 hpr.2];refine cz.2 fun y y0 y1=>?_;by_cases hb:p∈ap s.beats y
    ·obtain ⟨g1,g2,g3⟩:=(hp.bts y p y0 y1 hpr.1 hpr.2).1 hb
     rw [hdead y y0 y1 (h3 y y0 y1 g1 (by rw [g2,e1]) (by rw [← e2];exact g3))];simp
    ·rw [decide_eq_false hb];rfl
   ·exact .inl (.inl (hb0 fun r r0 r1 a b=>absurd ⟨r,⟨r0,r1⟩,a,b⟩ hr))
def PrI (i:Nat) (l:List (Int × Int)) (q k:Int):Bool:=decide ((q,k)∈l.take i)
theorem jc {i:Nat} {l:List (Int × Int)}:PrI i l q k=true↔(q,k)∈l.take i:=decide_eq_true_iff
theorem zK {i:Nat} {l l':List (Int × Int)} (hi:l[i]?=some (q,k)) (hl:l <+: l'):PrI (i + 1) l'=eE (PrI i l) q k:=by
 obtain ⟨l2,rfl⟩:=hl;obtain ⟨hlt,hge⟩:=List.getElem?_eq_some_iff.1 hi
 funext x j
 refine Bool.eq_iff_iff.2 ?_;unfold eE;rw [jc,Bool.or_eq_true,jc,List.take_append_of_le_length (by omega),List.take_add_one,hi,List.mem_append,Bool.and_eq_true,beq_iff_eq,beq_iff_eq];simp
abbrev GF (n m np:Nat) (s:Es) (pq ps:Int→Int) (fact:Int→Bool) (laid:Int→Int→Bool) (first:Nat) (Q:Cr→Prop):Prop:=∀ (Pr:Int→Int→Bool) (c:Cr) (i:Nat) (q k:Int),Can n m np s pq ps fact laid Pr c→0≤q→q < n→1≤k→k≤4→Pr q k=false→(k=2→(laid q 2=true↔i < first))→Q c→Q (Cr.does s first i c (q,k))
theorem sU {laidL:List (Int × Int)} {Q:Cr→Prop} (hQ:GF n m np s pq ps fact (fun q k=>decide ((q,k)∈laidL)) laidL.length Q) (hc:Con n m np s pq ps) (hp:DV n m np s pq ps) (hlf:∀ x∈laidL,Lf s.t n m fact x.1 x.2):∀ (k i:Nat) {e:En},4 * n≤k + i→i≤e.told.length→laidL <+: e.told→Inv n m np s pq ps fact (fun q k=>decide ((q,k)∈laidL)) (PrI i e.told) e→(∀ x∈e.told,Lf s.t n m fact x.1 x.2)→Q e.core→
 ∃ e',En.work s laidL.length k i e=e'∧Inv n m np s pq ps fact (fun q k=>decide ((q,k)∈laidL)) (PrI e'.told.length e'.told) e'∧(∀ x∈e'.told,Lf s.t n m fact x.1 x.2)∧laidL <+: e'.told∧Q e'.core∧(Ri e.up→Ri e'.up) ∧
  Cg (e'.up - V n m np s e'.core - 3 * (e'.told.length:Nat)) (e.up - V n m np s e.core - 2 * (e.told.length:Nat) - i)
 | 0,i,e,hk,hi,hpre,hI,hL,hq=>by
  have hm:=hI.ok.most;obtain rfl:i=e.told.length:=by omega
  exact ⟨e,rfl,hI,hL,hpre,hq,id,Cg.of (by omega)⟩
 | k + 1,i,e,hk,hi,hpre,hI,hL,hq=>by
  unfold En.work;cases hx:e.told[i]? with
  | none=>
   rw [List.getElem?_eq_none_iff] at hx;obtain rfl:i=e.told.length:=by omega
   exact ⟨e,rfl,hI,hL,hpre,hq,id,Cg.of (by omega)⟩
  | some x=>
   obtain ⟨q,j⟩:=x;dsimp only;obtain ⟨hlt,hge⟩:=List.getElem?_eq_some_iff.1 hx;have hmem:(q,j)∈e.told:=List.mem_of_getElem? hx;obtain ⟨⟨q0,q1⟩,j0,j1⟩:=hI.kp.tm.rng _ hmem;have hh:e.has q j=true:=(hI.kp.tm.has q j q0 q1 j0 j1).2 hmem
   have hP:PrI i e.told q j=false:=by
    refine Bool.eq_false_iff.2 fun h=>?_;rw [jc,List.mem_take_iff_getElem] at h;obtain ⟨a,ha,hae⟩:=h;have:=(List.getElem?_inj (i:=a) (j:=i) (by omega) hI.kp.tm.nd).1 (by rw [hx,List.getElem?_eq_getElem (by omega),hae]);omega
   have hl:decide ((q,j)∈laidL)=true↔i < laidL.length:=by
    rw [decide_eq_true_iff];obtain ⟨l2,hl2⟩:=hpre;constructor
    ·intro hm
     obtain ⟨a,ha,hae⟩:=List.getElem_of_mem hm;have hlt2:a < e.told.length:=by rw [← hl2,List.length_append];omega
     have e2:e.told[a]'hlt2=(q,j):=by
      simp only [← hl2];rw [List.getElem_append_left ha];exact hae
     have:=(List.getElem?_inj (i:=a) (j:=i) hlt2 hI.kp.tm.nd).1 (by rw [hx,List.getElem?_eq_getElem hlt2,e2]);omega
    ·intro hm
     have e2:e.told[i]'hlt=laidL[i]'hm:=by
      simp only [← hl2];rw [List.getElem_append_left hm]
     rw [← hge,e2];exact List.getElem_mem hm
   have hPr2:∀ b j',eE (PrI i e.told) q j b j'=true→Lf s.t n m fact b j':=fun b j' h=>by
    unfold eE at h;rw [Bool.or_eq_true,jc,Bool.and_eq_true,beq_iff_eq,beq_iff_eq] at h;rcases h with h | ⟨rfl,rfl⟩
    ·exact hL _ (List.mem_of_mem_take h)
    ·exact hL _ hmem
   have hI2:=hI.ups 1;have hI3:=hI2.does (first:=laidL.length) (i:=i) hc hp.sym q0 q1 j0 j1 hh hP (fun hj=>by subst hj;exact hl) (fun b hb=>xw ⟨hPr2 b 3 hb.1,hPr2 b 4 hb.2⟩);have hT:=Tk.does (first:=laidL.length) (i:=i) hc.ok hI2.ok q0 q1 j0 j1;have hpe:e.told <+: (En.does s laidL.length i (e.ups 1) (q,j)).told:=hT.pre;have hlen:=hpe.length_le;have hS:=hI3.sound hc hp hPr2 (fun b j' hb=>hlf _ (decide_eq_true_iff.1 hb));rw [← zK hx hpe] at hI3
   obtain ⟨e',h1,h2,h3,h4,hq2,hr,h5⟩:=sU hQ hc hp hlf k (i + 1) (e:=En.does s laidL.length i (e.ups 1) (q,j)) (by omega) (by omega) (hpre.trans hpe) hI3 (fun x hx=>by
    obtain ⟨⟨x0,x1⟩,y0,y1⟩:=hI3.kp.tm.rng x hx;exact hS x.1 x.2 x0 x1 y0 y1 ((hI3.kp.tm.has x.1 x.2 x0 x1 y0 y1).2 hx)) (by rw [qZ,lA];exact hQ _ _ _ _ _ hI.can q0 q1 j0 j1 hP (fun hj=>by subst hj;exact hl) hq)
   refine ⟨e',h1,h2,h3,h4,hq2,fun _=>hr (hT.rg (vV _)),h5.trans ?_⟩;obtain ⟨a,ha⟩:=hT.up;obtain ⟨b,hb⟩:=pC (e.up + 1);rw [show (e.ups 1).up=En.w64 (e.up + 1) from rfl,lA,show (e.ups 1).told=e.told from rfl,hb] at ha;refine ⟨a + b,?_⟩;dsimp only at ha ⊢;generalize En.does s laidL.length i (e.ups 1) (q,j)=e2 at *;omega
end
end
section
structure THk (n m:Nat) (t:ThV):Prop where
 tok:TOk n m t
 body:∀ (r:Int),0≤r→r < m→(bdT t r).Nodup
 foes:∀ (q:Int),0≤q→q < n→(foT t q).Nodup
 sym:∀ (q:Int),0≤q→q < n→∀ f∈foT t q,q∈foT t f
 beats:∀ (r:Int),0≤r→r < m→(btT t r).Nodup
 beatf:∀ (r:Int),0≤r→r < m→∀ x∈btT t r,hdT t x∈foT t (hdT t r)
section
variable {n m:Nat} {t:ThV} {e:En} {q r x k:Int} {i:Nat} {facts:List Int}
theorem tR {l:List Int} (hl:l.length=n) (q0:0≤q) (q1:q < n) (x0:0≤x) (h0:-9223372036854775808≤gi l q) (h1:gi l q≤9223372036854775806):gi (En.inc l q) x=if x=q then gi l q + 1 else gi l x:=by
 unfold En.inc;dsimp only [gi] at h0 h1 ⊢;have:=aV (v:=En.w64 (l.getD q.toNat 0 + 1)) (d:=(0:Int)) hl q0 q1 x0;rw [ny (by omega) (by omega)] at this;rw [ny (by omega) (by omega)];exact this
theorem xO {l:List Int}:(En.inc l q).length=l.length:=by unfold En.inc;rw [List.length_set]
theorem qF:gi (List.replicate n 0) q=0:=by
 dsimp only [gi];rw [List.getD_eq_getElem?_getD,List.getElem?_replicate];split <;> rfl
theorem iD:gb (List.replicate n false) q=false:=by
 dsimp only [gb];rw [List.getD_eq_getElem?_getD,List.getElem?_replicate];split <;> rfl
structure L1 (n m:Nat) (t:ThV) (i:Nat) (e:En):Prop where
 eq:e={ En.lay0 n m with needD:=e.needD,need:=e.need,strict:=e.strict,backs:=e.backs }
 ok:LOk n m e
 needD:∀ (r:Int),0≤r→r < i→gi e.needD r=((bdT t r).length:Nat)
 need:∀ (r:Int),0≤r→r < i→gi e.need r=((bdT t r).length:Nat)
 strict:∀ (q:Int),0≤q→q < n→gi e.strict q=cN i (fun r=>stT t r&&(hdT t r == q))
 backs:∀ (q:Int),0≤q→q < n→gi e.backs q=cN i (fun r=>cZ t r&&(hdT t r == q))
theorem xC (ht:TOk n m t) (hi:i < m) (h:L1 n m t i e):L1 n m t (i + 1) (En.lay1 t e i):=by
 obtain ⟨⟨h0,h1⟩,_⟩:=ht.rule (r:=(i:Int)) (by omega) (by omega);have hm:=ht.small.2;have hset:∀ (l:List Int) (v x:Int),l.length=m→0≤x→gi (l.set i v) x=if x=i then v else gi l x:=fun l v x hl x0=>aV (q:=(i:Int)) hl (by omega) (by omega) x0
 -- bodies
 have hB:L1 n m t i (En.lay1B t e i)∧gi (En.lay1B t e i).needD i=((bdT t i).length:Nat)∧gi (En.lay1B t e i).need i=((bdT t i).length:Nat):=by
  have e1:=h.eq;refine ⟨⟨?_,h.ok.lay1B,fun r r0 r1=>?_,fun r r0 r1=>?_,h.strict,h.backs⟩,?_,?_⟩
  ·unfold En.lay1B
   rw [e1]
  ·show gi (e.needD.set i _) r=_
   rw [hset _ _ _ h.ok.ok.needD r0,if_neg (by omega)];exact h.needD r r0 r1
  ·show gi (e.need.set i _) r=_
   rw [hset _ _ _ h.ok.ok.need r0,if_neg (by omega)];exact h.need r r0 r1
  ·show gi (e.needD.set i _) i=_
   rw [hset _ _ _ h.ok.ok.needD (by omega),if_pos rfl]
  ·show gi (e.need.set i _) i=_
   rw [hset _ _ _ h.ok.ok.need (by omega),if_pos rfl]
 obtain ⟨hB,hB1,hB2⟩:=hB;unfold En.lay1;generalize En.lay1B t e i=e1 at *
 -- strict rules
 have hS:LOk n m (En.lay1S t e1 i)∧(En.lay1S t e1 i)={ e1 with strict:=(En.lay1S t e1 i).strict }∧∀ (q:Int),0≤q→q < n→gi (En.lay1S t e1 i).strict q=cN (i + 1) (fun r=>stT t r&&(hdT t r == q)):=by
  refine ⟨hB.ok.lay1S,?_,fun q q0 q1=>?_⟩
  ·unfold En.lay1S;split <;> rfl
  ·rw [dM,← hB.strict q q0 q1]
   have hR:=hB.strict _ h0 h1;have hc1:=ci i (fun r=>stT t r&&(hdT t r == (ai t i).2.1));have hc2:=nu i (fun r=>stT t r&&(hdT t r == (ai t i).2.1));unfold En.lay1S;by_cases hs:((ai t i).1 == 1)=true
   ·rw [if_pos hs]
    show gi (En.inc e1.strict (ai t i).2.1) q=_;rw [tR hB.ok.ok.strict h0 h1 q0 (by omega) (by omega)];by_cases eq:q=(ai t i).2.1
    ·subst eq
     rw [if_pos rfl,if_pos (by rw [show stT t i=true from hs];simp)]
    ·rw [if_neg eq,if_neg (by rw [show (hdT t i == q)=false from beq_eq_false_iff_ne.2 (fun k=>eq k.symm)];simp)]
     omega
   ·rw [if_neg hs,if_neg (by rw [show stT t i=false from Bool.eq_false_iff.2 hs];simp)]
    omega
 obtain ⟨hS0,hS1,hS2⟩:=hS;generalize En.lay1S t e1 i=e2 at *;have hbk:e2.backs=e1.backs:=by rw [hS1]
 have hnD:e2.needD=e1.needD:=by rw [hS1]
 have hnn:e2.need=e1.need:=by rw [hS1]
 have hK:LOk n m (En.lay1K t e2 i)∧(En.lay1K t e2 i)={ e2 with backs:=(En.lay1K t e2 i).backs }∧∀ (q:Int),0≤q→q < n→gi (En.lay1K t e2 i).backs q=cN (i + 1) (fun r=>cZ t r&&(hdT t r == q)):=by
  refine ⟨hS0.lay1K,?_,fun q q0 q1=>?_⟩
  ·unfold En.lay1K;split <;> rfl
  ·rw [dM,← hB.backs q q0 q1,← hbk]
   have hR:=hB.backs _ h0 h1;rw [← hbk] at hR;have hc1:=ci i (fun r=>cZ t r&&(hdT t r == (ai t i).2.1));have hc2:=nu i (fun r=>cZ t r&&(hdT t r == (ai t i).2.1));unfold En.lay1K;by_cases hs:cZ t i=true
   ·rw [if_pos hs]
    show gi (En.inc e2.backs (ai t i).2.1) q=_;rw [tR hS0.ok.backs h0 h1 q0 (by omega) (by omega)];by_cases eq:q=(ai t i).2.1
    ·subst eq
     rw [if_pos rfl,if_pos (by rw [hs];simp)]
    ·rw [if_neg eq,if_neg (by rw [show (hdT t i == q)=false from beq_eq_false_iff_ne.2 (fun k=>eq k.symm)];simp)]
     omega
   ·rw [if_neg hs,if_neg (by rw [Bool.eq_false_iff.2 hs];simp)]
    omega
 obtain ⟨hK0,hK1,hK2⟩:=hK;generalize En.lay1K t e2 i=e3 at *;have x1:e3.needD=e1.needD:=by rw [hK1];exact hnD
 have x2:e3.need=e1.need:=by rw [hK1];exact hnn
 have x3:e3.strict=e2.strict:=by rw [hK1]
 refine ⟨?_,hK0,fun r r0 r1=>?_,fun r r0 r1=>?_,fun q q0 q1=>by rw [x3];exact hS2 q q0 q1,hK2⟩
 ·have:=hB.eq
  rw [hK1,hS1,this]
 ·rw [x1]
  by_cases e:r=i
  ·subst e;exact hB1
  ·exact hB.needD r r0 (by omega)
 ·rw [x2]
  by_cases e:r=i
  ·subst e;exact hB2
  ·exact hB.need r r0 (by omega)
theorem Ae (ht:TOk n m t):L1 n m t m (dN (En.lay1 t) m 0 (En.lay0 n m)):=by
 have:=co (f:=En.lay1 t) (fun i e=>L1 n m t i e) m 0 (En.lay0 n m) (fun j e _ hj h=>xC ht (by omega) h) ⟨rfl,LOk.new n m,fun r r0 r1=>by omega,fun r r0 r1=>by omega,fun q q0 q1=>qF,fun q q0 q1=>qF⟩;rw [Nat.zero_add] at this;exact this
theorem AL (k0:1≤k) (k1:k≤4):En.bit 0 k=false:=by
 obtain rfl | rfl | rfl | rfl:k=1∨k=2∨k=3∨k=4:=by omega
 all_goals decide +kernel
theorem tP (hm:e.marks=List.replicate n 0) (k0:1≤k) (k1:k≤4):e.has q k=false:=by
 unfold En.has;rw [hm,show (List.replicate n (0:Int)).getD q.toNat 0=0 from qF];exact AL k0 k1
theorem TM.new (hm:e.marks=List.replicate n 0) (ht:e.told=[]):TM n e:=by
 refine ⟨by rw [hm];simp,fun x hx=>?_,fun q k _ _ k0 k1=>?_,fun p hp=>?_,by rw [ht];simp⟩
 ·rw [hm] at hx
  obtain rfl:=(List.mem_replicate.1 hx).2;omega
 ·rw [tP hm k0 k1,ht];simp
 ·rw [ht] at hp;cases hp
theorem tI:∀ {l:List Int} {e:En},(∀ q∈l,0≤q∧q < n)→TM n e→TM n (l.foldl En.lay2 e)∧(l.foldl En.lay2 e).core=e.core∧∀ (x j:Int),0≤x→x < n→1≤j→j≤4→((l.foldl En.lay2 e).has x j=true↔e.has x j=true∨(j=1∧x∈l))
 | [],e,_,h=>⟨h,rfl,fun x j _ _ _ _=>by simp⟩
 | q::l,e,hl,h=>by
  obtain ⟨q0,q1⟩:=hl q (List.mem_cons_self ..);obtain ⟨h1,h2,h3⟩:=tI (l:=l) (e:=En.lay2 e q) (fun u hu=>hl u (List.mem_cons_of_mem _ hu)) (h.tell q0 q1 (by omega) (by omega));rw [List.foldl_cons];refine ⟨h1,h2.trans dS,fun x j x0 x1 j0 j1=>?_⟩;rw [h3 x j x0 x1 j0 j1];unfold En.lay2;rw [dH h q0 q1 (by omega) (by omega) x0 x1 j0 j1,Bool.or_eq_true,Bool.and_eq_true,beq_iff_eq,beq_iff_eq,List.mem_cons];constructor
  ·rintro ((k | ⟨k1,k2⟩) | ⟨k1,k2⟩)
   ·exact .inl k
   ·exact .inr ⟨k2,.inl k1⟩
   ·exact .inr ⟨k1,.inr k2⟩
  ·rintro (k | ⟨k1,k2 | k2⟩)
   ·exact .inl (.inl k)
   ·exact .inl (.inr ⟨k2,k1⟩)
   ·exact .inr ⟨k1,k2⟩
theorem qt:∀ {l:List Int} {L:List Bool},L.length=n→(∀ q∈l,0≤q∧q < n)→(l.foldl En.lay2F L).length=n∧∀ (x:Int),0≤x→x < n→(gb (l.foldl En.lay2F L) x=true↔gb L x=true∨x∈l)
 | [],L,hL,_=>⟨hL,fun x _ _=>by simp⟩
 | q::l,L,hL,hl=>by
  obtain ⟨q0,q1⟩:=hl q (List.mem_cons_self ..);obtain ⟨h1,h2⟩:=qt (l:=l) (L:=En.lay2F L q) (by unfold En.lay2F;rw [List.length_set];exact hL) (fun u hu=>hl u (List.mem_cons_of_mem _ hu));rw [List.foldl_cons];refine ⟨h1,fun x x0 x1=>?_⟩;rw [h2 x x0 x1];unfold En.lay2F;rw [show gb (L.set q.toNat true) x=if x=q then true else gb L x from aV hL q0 q1 x0,List.mem_cons];split
  ·rename_i e;subst e;simp
  ·rename_i e
   exact ⟨fun k=>k.imp id .inr,fun k=>k.imp id (fun k=>k.elim (fun e2=>absurd e2 e) id)⟩
theorem Ad (ht:TOk n m t) {e:En} (h:TM n e):TM n (dN (En.lay3 t) m 0 e)∧(dN (En.lay3 t) m 0 e).core=e.core∧∀ (x j:Int),0≤x→x < n→1≤j→j≤4→((dN (En.lay3 t) m 0 e).has x j=true↔e.has x j=true∨(j=1∧∃ (r:Int),(0≤r∧r < m)∧stT t r=true∧hdT t r=x∧bdT t r=[])):=by
 have:=co (f:=En.lay3 t) (fun i e2=>TM n e2∧e2.core=e.core∧∀ (x j:Int),0≤x→x < n→1≤j→j≤4→(e2.has x j=true↔e.has x j=true∨(j=1∧∃ (r:Int),(0≤r∧r < i)∧stT t r=true∧hdT t r=x∧bdT t r=[]))) m 0 e (fun i e2 _ hi ⟨a,b,c⟩=>?_) ⟨h,rfl,fun x j _ _ _ _=>⟨.inl,fun k=>k.elim id (fun ⟨_,r,hr,_⟩=>by omega)⟩⟩
 ·rw [Nat.zero_add] at this
  exact this
 ·obtain ⟨⟨h0,h1⟩,_⟩:=ht.rule (r:=(i:Int)) (by omega) (by omega)
  unfold En.lay3;by_cases hb:((ai t i).1 == 1&&((ai t i).2.2.length == 0))=true
  ·rw [if_pos hb]
   rw [Bool.and_eq_true,beq_iff_eq (b:=0),List.length_eq_zero_iff] at hb;refine ⟨a.tell h0 h1 (by omega) (by omega),dS.trans b,fun x j x0 x1 j0 j1=>?_⟩;rw [dH a h0 h1 (by omega) (by omega) x0 x1 j0 j1,Bool.or_eq_true,Bool.and_eq_true,beq_iff_eq,beq_iff_eq,c x j x0 x1 j0 j1];constructor
   ·rintro ((k | ⟨k,r,hr,k2⟩) | ⟨k,k2⟩)
    ·exact .inl k
    ·exact .inr ⟨k,r,by omega,k2⟩
    ·exact .inr ⟨k2,i,by omega,hb.1,k.symm,hb.2⟩
   ·rintro (k | ⟨k,r,hr,k2,k3,k4⟩)
    ·exact .inl (.inl k)
    ·by_cases e:r=i
     ·subst e;exact .inr ⟨k3.symm,k⟩
     ·exact .inl (.inr ⟨k,r,by omega,k2,k3,k4⟩)
  ·rw [if_neg hb]
   refine ⟨a,b,fun x j x0 x1 j0 j1=>?_⟩;rw [c x j x0 x1 j0 j1];refine or_congr Iff.rfl (and_congr Iff.rfl ⟨fun ⟨r,hr,k⟩=>⟨r,by omega,k⟩,fun ⟨r,hr,k2,k3,k4⟩=>⟨r,?_,k2,k3,k4⟩⟩);by_cases e:r=i
   ·subst e
    refine absurd ?_ hb;rw [Bool.and_eq_true];exact ⟨k2,by rw [show (ai t i).2.2=[] from k4];rfl⟩
   ·omega
theorem Ac {F:List Bool} {e:En} (hls:e.strict.length=n) (h:TM n e):TM n (dN (En.lay4 F) n 0 e)∧(dN (En.lay4 F) n 0 e).core={ e.core with strict:=(dN (En.lay4 F) n 0 e).strict }∧(dN (En.lay4 F) n 0 e).strict.length=n ∧
 (∀ (x j:Int),0≤x→x < n→1≤j→j≤4→((dN (En.lay4 F) n 0 e).has x j=true↔e.has x j=true∨(j=2∧gb F x=false∧gi e.strict x=0)))∧∀ (x:Int),0≤x→x < n→gi (dN (En.lay4 F) n 0 e).strict x=if gb F x=true then -1 else gi e.strict x:=by
 have:=co (f:=En.lay4 F) (fun i e2=>TM n e2∧e2.core={ e.core with strict:=e2.strict }∧e2.strict.length=n∧(∀ (x j:Int),0≤x→x < n→1≤j→j≤4→(e2.has x j=true↔e.has x j=true∨(j=2∧x < i∧gb F x=false∧gi e.strict x=0)))∧∀ (x:Int),0≤x→x < n→gi e2.strict x=if x < i∧gb F x=true then -1 else gi e.strict x) n 0 e (fun i e2 _ hi ⟨a,b,b2,c,d⟩=>?_) ⟨h,rfl,hls,fun x j x0 _ _ _=>⟨.inl,fun k=>k.elim id (fun ⟨_,hr,_⟩=>by omega)⟩,fun x x0 x1=>by rw [if_neg (by omega)]⟩
 ·rw [Nat.zero_add] at this
  obtain ⟨a,b,b2,c,d⟩:=this;refine ⟨a,b,b2,fun x j x0 x1 j0 j1=>?_,fun x x0 x1=>?_⟩
  ·rw [c x j x0 x1 j0 j1]
   exact or_congr Iff.rfl (and_congr Iff.rfl ⟨fun k=>k.2,fun k=>⟨x1,k⟩⟩)
  ·rw [d x x0 x1]
   by_cases hf:gb F x=true
   ·rw [if_pos ⟨x1,hf⟩,if_pos hf]
   ·rw [if_neg (fun k=>hf k.2),if_neg hf]
 ·have q0:(0:Int)≤i:=by omega
  have q1:(i:Int) < n:=by omega
  unfold En.lay4;by_cases hf:F.getD i false=true
  ·rw [if_pos hf]
   have hf2:gb F (i:Int)=true:=hf;have hset:∀ (x:Int),0≤x→gi (e2.strict.set i (-1)) x=if x=i then -1 else gi e2.strict x:=fun x x0=>aV (q:=(i:Int)) b2 q0 q1 x0
   refine ⟨a.same rfl rfl,?_,by show (e2.strict.set _ _).length=n;rw [List.length_set];exact b2,fun x j x0 x1 j0 j1=>?_,fun x x0 x1=>?_⟩
   ·show ({ e2.core with strict:=e2.strict.set i (-1) }:Cr)=_
    rw [b]
   ·show e2.has x j=true↔_
    rw [c x j x0 x1 j0 j1];refine or_congr Iff.rfl (and_congr Iff.rfl ⟨fun ⟨k,k2⟩=>⟨by omega,k2⟩,fun ⟨k,k2,k3⟩=>⟨?_,k2,k3⟩⟩);by_cases e:x=i
    ·subst e;rw [hf2] at k2;cases k2
    ·omega
   ·show gi (e2.strict.set i (-1)) x=_
    rw [hset x x0];by_cases e:x=i
    ·subst e;rw [if_pos rfl,if_pos ⟨by omega,hf2⟩]
    ·rw [if_neg e,d x x0 x1]
     by_cases hx:x < i∧gb F x=true
     ·rw [if_pos hx,if_pos ⟨by omega,hx.2⟩]
     ·rw [if_neg hx,if_neg (fun k=>hx ⟨by omega,k.2⟩)]
  ·rw [if_neg hf]
   have hf2:gb F (i:Int)=false:=Bool.eq_false_iff.2 hf;have hsi:gi e2.strict i=gi e.strict i:=by rw [d i q0 q1,if_neg (fun k=>by omega)]
   have hd2:∀ (x:Int),0≤x→x < n→gi e2.strict x=if x < (i + 1:Nat)∧gb F x=true then -1 else gi e.strict x:=fun x x0 x1=>by
    rw [d x x0 x1];by_cases hx:x < i∧gb F x=true
    ·rw [if_pos hx,if_pos ⟨by omega,hx.2⟩]
    ·rw [if_neg hx,if_neg (fun k=>hx ⟨by
      by_cases e:x=i
      ·subst e;rw [hf2] at k;cases k.2
      ·omega,k.2⟩)]
   by_cases hz:(e2.strict.getD i 0 == 0)=true
   ·rw [if_pos hz]
    have hz2:gi e.strict i=0:=by rw [← hsi];exact beq_iff_eq.1 hz
    refine ⟨a.tell q0 q1 (by omega) (by omega),?_,by rw [show (e2.tell i 2).strict=(e2.tell i 2).core.strict from rfl,dS];exact b2,fun x j x0 x1 j0 j1=>?_,fun x x0 x1=>?_⟩
    ·rw [show (e2.tell i 2).strict=(e2.tell i 2).core.strict from rfl,dS];exact b
    ·rw [dH a q0 q1 (by omega) (by omega) x0 x1 j0 j1,Bool.or_eq_true,Bool.and_eq_true,beq_iff_eq,beq_iff_eq,c x j x0 x1 j0 j1]
     constructor
     ·rintro ((k | ⟨k,k2,k3⟩) | ⟨k,k2⟩)
      ·exact .inl k
      ·exact .inr ⟨k,by omega,k3⟩
      ·subst k;exact .inr ⟨k2,by omega,hf2,hz2⟩
     ·rintro (k | ⟨k,k2,k3⟩)
      ·exact .inl (.inl k)
      ·by_cases e:x=i
       ·exact .inr ⟨e,k⟩
       ·exact .inl (.inr ⟨k,by omega,k3⟩)
    ·rw [show (e2.tell i 2).strict=(e2.tell i 2).core.strict from rfl,dS];exact hd2 x x0 x1
   ·rw [if_neg hz]
    have hz2:¬ gi e.strict i=0:=by rw [← hsi];exact fun k=>hz (beq_iff_eq.2 k)
    refine ⟨a,b,b2,fun x j x0 x1 j0 j1=>?_,hd2⟩;rw [c x j x0 x1 j0 j1];refine or_congr Iff.rfl (and_congr Iff.rfl ⟨fun ⟨k,k2⟩=>⟨by omega,k2⟩,fun ⟨k,k2,k3⟩=>⟨?_,k2,k3⟩⟩);by_cases e:x=i
    ·subst e;exact absurd k3 hz2
    ·omega
end
end
section
theorem l5 {n:Int}:∀ {l:List Int} {p:Int},du n p l=true→(∀ x∈l,p < x)∧l.Pairwise (· < ·)
 | [],_,_=>⟨fun x hx=>(by cases hx),.nil⟩
 | y::l,p,h=>by
  unfold du at h;rw [Bool.and_eq_true,decide_eq_true_eq] at h;obtain ⟨h1,h2⟩:=l5 h.2;refine ⟨fun x hx=>?_,.cons h1 h2⟩;rcases List.mem_cons.1 hx with rfl | hx
  ·exact h.1.2.2
  ·have:=h1 x hx
   omega
theorem iB {l:List Int} {n:Int} (h:bg l n=true):l.Nodup:=((l5 h).2).imp (fun h=>Int.ne_of_lt h)
theorem pN {l:List Int} (h:l.Pairwise (· < ·)) {a b:Nat} {x y:Int} (ha:l[a]?=some x) (hb:l[b]?=some y) (hab:a≤b):x≤y:=by
 obtain ⟨ha1,ha2⟩:=List.getElem?_eq_some_iff.1 ha;obtain ⟨hb1,hb2⟩:=List.getElem?_eq_some_iff.1 hb;rcases Nat.lt_or_ge a b with hl | hl
 ·have:=List.pairwise_iff_getElem.1 h a b ha1 hb1 hl
  omega
 ·have:a=b:=by omega
  subst this;rw [ha] at hb;cases hb
  exact Int.le_refl _
theorem jE {l:List Int} {x:Int} {k:Nat}:mj l x k=true↔∃ y,l[k]?=some y∧y < x:=by
 unfold mj;cases h:l[k]? with
 | none=>simp
 | some y=>simp
theorem xS {l:List Int} {n x:Int} (h:bg l n=true):vK l x=decide (x∈l):=by
 have hs:=(l5 h).2
 obtain ⟨h1,h2,h3⟩:=pd (mj l x) l.length 0 l.length (by omega) (Nat.zero_le _) (fun k hk=>by omega) (fun k hk=>by
  refine Bool.eq_false_iff.2 fun hc=>?_;obtain ⟨y,hy,_⟩:=jE.1 hc;have:=(List.getElem?_eq_some_iff.1 hy).1;omega) (fun a b hab hb=>by
  obtain ⟨y,hy,hyx⟩:=jE.1 hb;have hbl:=(List.getElem?_eq_some_iff.1 hy).1;obtain ⟨z,hz⟩:∃ z,l[a]?=some z:=⟨l[a],List.getElem?_eq_getElem (by omega)⟩;exact jE.2 ⟨z,hz,by have:=pN hs hz hy hab;omega⟩)
 change bsD l x≤_ at h1;change ∀ k,k < bsD l x→_ at h2;change ∀ k,bsD l x≤k→_ at h3;unfold vK;refine Bool.eq_iff_iff.2 ?_;rw [decide_eq_true_iff];constructor
 ·intro hh
  cases hk:l[bsD l x]? with
  | none=>rw [hk] at hh;cases hh
  | some y=>
   rw [hk] at hh;have:=of_decide_eq_true hh;subst this;exact List.mem_of_getElem? hk
 ·intro hm
  obtain ⟨j,hj,hje⟩:=List.getElem_of_mem hm;have hjs:l[j]?=some x:=by rw [List.getElem?_eq_getElem hj,hje]
  have hb:bsD l x≤j:=by
   rcases Nat.lt_or_ge j (bsD l x) with hl | hl
   ·obtain ⟨y,hy,hyx⟩:=jE.1 (h2 j hl)
    rw [hjs] at hy;cases hy
    omega
   ·exact hl
  have hbl:bsD l x < l.length:=by omega
  have hbs:l[bsD l x]?=some l[bsD l x]:=List.getElem?_eq_getElem hbl;have hle:=pN hs hbs hjs hb
  have hnl:¬ l[bsD l x] < x:=fun hlt=>by
   have:=h3 (bsD l x) (Nat.le_refl _);rw [jE.2 ⟨_,hbs,hlt⟩] at this;cases this
  rw [hbs];exact decide_eq_true (by omega)
theorem q7 {t:ThV} {q:Int} {l:List Int}:iF t q l=!eR t q l:=by
 unfold iF eR;cases hr:bg l t.1 with
 | false=>simp
 | true=>
  rw [xS hr];by_cases h1:(64:Int) < l.length
  ·rw [decide_eq_true h1,decide_eq_false (show ¬ (l.length:Int)≤64 by omega)]
   simp
  ·rw [decide_eq_false h1,decide_eq_true (show (l.length:Int)≤64 by omega)]
   cases decide (q∈l) <;> cases gJ t q l <;> rfl
theorem kH {t:ThV}:∀ {l:List (List Int)} {q:Int},0≤q→(0≤i9 t l q↔∃ (i:Nat) (x:List Int),l[i]?=some x∧iF t (q + i) x=true)
 | [],q,_=>by simp [i9]
 | y::l,q,hq=>by
  unfold i9;cases hb:iF t q y with
  | true=>exact ⟨fun _=>⟨0,y,rfl,by rw [show q + ((0:Nat):Int)=q by omega];exact hb⟩,fun _=>hq⟩
  | false=>
   rw [if_neg (by decide),kH (by omega)];constructor
   ·rintro ⟨i,x,h1,h2⟩
    exact ⟨i + 1,x,h1,by rw [show q + ((i + 1:Nat):Int)=q + 1 + i by omega];exact h2⟩
   ·rintro ⟨i,x,h1,h2⟩
    cases i with
    | zero=>
     simp only [List.getElem?_cons_zero,Option.some.injEq] at h1;subst h1;rw [show q + ((0:Nat):Int)=q by omega,hb] at h2;cases h2
    | succ i=>exact ⟨i,x,h1,by rw [show q + 1 + (i:Int)=q + ((i + 1:Nat):Int) by omega];exact h2⟩
theorem jm {t:ThV}:∀ {l:List (List Int)} {q:Int},0≤q→(0≤gj t l q↔∃ (i:Nat) (x:List Int),l[i]?=some x∧cV t (q + i) x=true)
 | [],q,_=>by simp [gj]
 | y::l,q,hq=>by
  unfold gj;cases hb:cV t q y with
  | true=>exact ⟨fun _=>⟨0,y,rfl,by rw [show q + ((0:Nat):Int)=q by omega];exact hb⟩,fun _=>hq⟩
  | false=>
   rw [if_neg (by decide),jm (by omega)];constructor
   ·rintro ⟨i,x,h1,h2⟩
    exact ⟨i + 1,x,h1,by rw [show q + ((i + 1:Nat):Int)=q + 1 + i by omega];exact h2⟩
   ·rintro ⟨i,x,h1,h2⟩
    cases i with
    | zero=>
     simp only [List.getElem?_cons_zero,Option.some.injEq] at h1;subst h1;rw [show q + ((0:Nat):Int)=q by omega,hb] at h2;cases h2
    | succ i=>exact ⟨i,x,h1,by rw [show q + 1 + (i:Int)=q + ((i + 1:Nat):Int) by omega];exact h2⟩
theorem o6 {t:ThV} {q:Int} {n:Int} (h:bg (cq t (ai t q).2.1) n=true):∀ {l:List Int},mw t q l=l.all (fun s=>decide ((ai t s).2.1∈cq t (ai t q).2.1))
 | []=>rfl
 | s::l=>by
  unfold mw;rw [o6 h,xS h]
  rfl
end
end Go.Proofs.YtbcdgcodnkgdoaaGreat
