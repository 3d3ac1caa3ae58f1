/- Parts of the proof: lexpriorref12.pairs. · lexpriorref12.back. · The engine in memory: rules to load from and to store into its slices. · fast's has, tell, look. · fast's look. · fast's settle, stand, support. · fast's stand, support. · fast's support, lower, kill. · fast's fire, onPlus. · fast's onPlus, onPlusD, onNoD, onLateNoD. · fast's onMinus. · Lists of lists of numbers, of one's own, their types known: one row opened, and put back. · A list of maps of numbers, of one's own: one map taken out, and put back. · fast's lay and pair as plain functions. · fast's lay and pair: what may be. Conditions: none. -/
import Derived.Test.YtbcdgcodnkgdoaaGreatPr3
/- lexpriorref12.pairs. Conditions: none. -/
set_option linter.unusedVariables false
set_option linter.unusedSimpArgs false
set_option maxRecDepth 10000
namespace Go.Proofs.YtbcdgcodnkgdoaaGreat
open Go Go.RowKit
section
theorem nU {hd:List Int} {a:Int} (ha:0≤a) (hh:∀ f,0≤aF hd f):∀ (l:List Int) (n:Int),n≤dz hd a l n
 | [],n=>Int.le_refl _
 | f::r,n=>by
  unfold dz;have:=nU ha hh r (n + a * aF hd f);have:=Int.mul_nonneg ha (hh f);omega
theorem nX {hd:List Int} (hh:∀ f,0≤aF hd f):∀ (L:List (List Int)) (q n:Int),n≤c7 hd L q n
 | [],q,n=>Int.le_refl _
 | l::r,q,n=>by
  unfold c7;have:=nX hh r (q + 1) (dz hd (aF hd q) l n);have:=nU (hh q) hh l n;omega
def fw (t:ThV):Int:=if 65536 < gy t then 65537 else gy t
theorem i7 {n:Nat}:∀ (l:List i3) (L:List Int) (i:Int),0≤i→ii n i L→ii n (i + (l.length:Nat)) (ep l L)
 | [],L,i,_,h=>by simpa [ep] using h
 | r::l,L,i,hi,h=>by
  have:=i7 l (gH L r.2.1) (i + 1) (by omega) (h.inc hi _);unfold ep;rw [List.length_cons];have e:i + ((l.length + 1:Nat):Int)=i + 1 + (l.length:Nat):=by omega
  rw [e];exact this
attribute [local irreducible] RW CW
set_option maxHeartbeats 8000000 in
theorem nJ {t:ThV} {x:TC} {w:World} (h:gp (mem w (fun b=>¬ No b)) t x) (hk:j6 t):Ret Tryz.prog 27 [.agg (x.th t).toArray] w (.int .i64 (fw t)):=by
 have hle:=hq0 w;have hk0:=hk;obtain ⟨hL,hM,hF,hC,hR⟩:=hk;refine Calls.enter Tryz.func27 rfl _ rfl rfl (S:=No) (H:=[]) trivial ?_;refine bZ ?_;refine aS (l:=x.th t) rfl rfl fun b1 _=>?_;refine Jd (Jb (Ja ?_));refine JE ?_;have hn:t.1=((aH t).length:Int):=hL;generalize hnn:(aH t).length=n at *;refine dY Tryz.call59 rfl (fun w2 hw=>uJ (h.mono (au hw)) hk0 hn) rfl fun B0=>?_;refine Jd (Jb (Ja (Jd (Jb ?_))))
 have hcn:ii n 4096 (fR t):=by
  have:=i7 (n:=n) (ao t) (List.replicate t.1.toNat 0) 0 (Int.le_refl _) ⟨by simp;omega,fun v hv=>by rw [List.eq_of_mem_replicate hv];exact ⟨Int.le_refl _,Int.le_refl _⟩⟩;exact ⟨this.1,fun v hv=>by have:=this.2 v hv;omega⟩
 have hpos:∀ f,0≤aF (fR t) f:=fun f=>(hcn.at (by omega) f).1;have hD:gy t=c7 (fR t) (aH t) 0 0:=rfl;generalize fR t=hd at *;refine ar ?_;refine Ja (Jd (Jb ?_));refine ak ?_
 refine aI (ι:={ q:Nat × Int // q.1≤n∧0≤q.2∧q.2≤65536∧gy t=c7 hd ((aH t).drop q.1) q.1 q.2 }) (fun q=>[(1,aK b1),(3,slV B0 n),(4,.int .i64 q.1.2),(5,.int .i64 q.1.1)])
  (fun q=>[ax 3 1 (slV B0 n) (hd.map bY),blk b1 (x.th t) 25]) (fun q=>n - q.1.1) ⟨(0,0),Nat.zero_le _,Int.le_refl _,by dsimp only;omega,hD⟩ ⟨rfl,rfl,rfl,rfl,trivial⟩ (fun h=>h) ?_
 intro ⟨⟨q,s⟩,hq,hs0,hs1,hS⟩;dsimp only at hq hs0 hs1 hS ⊢;refine ar ?_;refine Ja (Jc (Je ?_));refine JB ?_;refine Jk (Jb ?_);refine ay rfl (fun hlt=>?_) (fun hge=>?_);rotate_left
 ·rw [List.drop_eq_nil_of_le (by omega),c7] at hS
  refine aG rfl (ah ?_);refine Ja (Jc (Jd (Jb ?_)));exact aw rfl Tryz.results27 rfl rfl fun w hw=>⟨by unfold fw;rw [hS,if_neg (by omega)],hw.kp⟩
 have hlt':q < (aH t).length:=by omega
 rw [List.drop_eq_getElem_cons hlt',c7] at hS;obtain ⟨B,O,A2,c2,hA,hm,hl⟩:=dQ h.foes (List.getElem?_eq_getElem hlt');obtain ⟨hl64,hlr⟩:=hF _ (List.getElem_mem hlt');generalize (aH t)[q]=l at *;have hgq:=cM (q:=(q:Int)) hcn.1 (by omega) (by omega);have hbq:=hcn.at (by omega) (q:Int);refine al (ah ?_);refine ar ?_;refine ak ?_;refine ar ?_;refine Ja (Jd (Jb ?_));refine ak ?_
 refine aI (ι:={ k:Nat × Int // k.1≤l.length∧0≤k.2∧k.2≤65536 + k.1 * 16777216∧dz hd (aF hd q) l s=dz hd (aF hd q) (l.drop k.1) k.2 }) (fun k=>[(1,aK b1),(3,slV B0 n),(4,.int .i64 k.1.2),(5,.int .i64 q),(6,.int .i64 k.1.1)])
  (fun _=>[ax 3 1 (slV B0 n) (hd.map bY),blk b1 (x.th t) 25]) (fun k=>l.length - k.1.1) ⟨(0,s),Nat.zero_le _,hs0,by dsimp only;omega,rfl⟩ ⟨rfl,rfl,rfl,rfl,rfl,trivial⟩ (fun h=>h) ?_
 intro ⟨⟨k,u⟩,hk,hu0,hu1,hT⟩;dsimp only at hk hu0 hu1 hT ⊢;refine ar ?_;refine Ja (Jc (Je ?_));refine JB ?_;refine Jc ?_;refine aa hA rfl rfl (by omega) (by omega) rfl ?_;refine ac rfl hle (aT hm) rfl rfl ?_;refine Jg (Jk (Jb ?_));refine ay rfl (fun hlt2=>?_) (fun hge2=>?_);rotate_left
 ·rw [List.drop_eq_nil_of_le (by omega),dz] at hT
  refine aG rfl (ah ?_);refine Ja (Jc (Jm (Jb ?_)));have hge:=nX hpos ((aH t).drop (q + 1)) ((q:Int) + 1) u;rw [hT] at hS;refine ay rfl (fun h3=>?_) (fun h3=>?_)
  ·refine Ja (Jd (Jb ?_))
   exact aw rfl Tryz.results27 rfl rfl fun w hw=>⟨by unfold fw;rw [if_pos (by omega)],hw.kp⟩
  refine al (ah ?_);refine aj (Jc ?_);refine Ka ?_;refine Jd (aq ?_);exact Pa ⟨(q + 1,u),by dsimp only;omega,hu0,by dsimp only;omega,hS⟩
 have hlt3:k < l.length:=by omega
 rw [List.drop_eq_getElem_cons hlt3,dz] at hT;obtain ⟨B3,O3,hA3,hm3,_⟩:=aR hl (List.getElem?_eq_getElem hlt3);obtain ⟨f0,f1⟩:=bU hlr _ (List.getElem_mem hlt3);generalize l[k]=f at *;have hgf:=cM (q:=f) hcn.1 f0 (by omega);have hbf:=hcn.at (by omega) f;have hm1:0≤aF hd q * aF hd f:=Int.mul_nonneg hbq.1 hbf.1;have hm2:aF hd q * aF hd f≤4096 * 4096:=Int.mul_le_mul hbq.2 hbf.2 hbf.1 (by omega);generalize hp:aF hd q * aF hd f=p at *;refine al (ah ?_);refine ar ?_;refine ak ?_;refine dZ (by kernel_rfl) rfl ?_;refine Xc (Xc (Xc ?_));refine Aw (fun _ _=>av rfl rfl (by omega) (by omega) rfl Dn) ?_;refine Aw (fun _ _=>az [] (i:=q) (j:=0) rfl (by simp) (bI hgq) rfl rfl rfl Dn) ?_;refine Xc (Xe ?_);refine Aw (fun _ _=>JB Dn) ?_;refine Xc ?_;refine Aw (fun _ _=>aa hA rfl rfl (by omega) (by omega) rfl Dn) ?_;refine Aw (fun _ _=>ac rfl hle (aT hm) rfl rfl Dn) ?_;refine Xc ?_;refine Aw (fun _ _=>aa hA3 rfl rfl (by omega) (by omega) rfl Dn) ?_;refine Aw (fun _ _=>ac rfl hle (aT hm3) rfl rfl Dn) ?_;refine Aw (fun _ _=>av rfl rfl f0 (by omega) rfl Dn) ?_;refine Aw (fun _ _=>az [] (i:=f.toNat) (j:=0) rfl (by simp) (bI hgf) rfl rfl rfl Dn) ?_;refine Aw (fun _ _=>yP rfl rfl (c:=p) (by rw [hp];exact w64 (by omega) (by omega)) rfl Dn) ?_;refine Aw (fun _ _=>cY rfl rfl (w64 (by omega) (by omega)) rfl Dn) ?_;refine Aq fun bs=>?_;refine Jd ?_;refine aq (ah ?_);refine aj (Jc ?_);refine Ka ?_;refine Jd (aq ?_);exact Pa ⟨(k + 1,u + p),by dsimp only;omega,by dsimp only;omega,by dsimp only;omega,hT⟩
end
section
def RP (nx:Int→List Int) (r y:Int):Prop:=∀ S:Int→Prop,(∀ z∈nx r,S z)→(∀ x z,S x→z∈nx x→S z)→S y
theorem RP.one {nx:Int→List Int} {r z:Int} (h:z∈nx r):RP nx r z:=fun S h1 _=>h1 z h
theorem RP.next {nx:Int→List Int} {r x z:Int} (h:RP nx r x) (hz:z∈nx x):RP nx r z:=fun S h1 h2=>h2 x z (h S h1 h2) hz
theorem Gq {nx:Int→List Int} {r x z:Int} (h:x=r∨RP nx r x) (hz:z∈nx x):RP nx r z:=h.elim (fun e=>.one (e ▸ hz)) (fun h=>h.next hz)
noncomputable def vN (t:ThV) (r:Int):Bool:=@decide (RP (aQ t) r r) (Classical.propDecidable _)
theorem jX {t:ThV} {r:Int}:vN t r=true↔RP (aQ t) r r:=by unfold vN;simp
def gu (l:List Bool):Nat:=l.countP (fun b=>!b)
theorem nC:∀ {l:List Bool} {i:Nat},l[i]?=some false→gu (l.set i true) + 1=gu l
 | [],i,h=>by simp at h
 | b::l,0,h=>by
  simp only [List.getElem?_cons_zero,Option.some.injEq] at h;subst h;simp [gu]
 | b::l,i + 1,h=>by
  have:=nC (l:=l) (i:=i) (by simpa using h);unfold gu at *;rw [List.set_cons_succ,List.countP_cons,List.countP_cons];omega
theorem lN (l:List Bool):gu l≤l.length:=List.countP_le_length
structure Bk (n:Nat) (nx:Int→List Int) (r:Int) (x:Int) (i:Nat) (seen:List Bool) (todo:List Int):Prop where
 len:seen.length=n
 tr:∀ y∈todo,(0≤y∧y < n)∧(y=r∨RP nx r y)
 sr:∀ y:Int,0≤y→y < n→eO seen y=true→RP nx r y
 cl:∀ y:Int,0≤y→y < n→(y=r∨eO seen y=true)→y∈todo∨y=x∨∀ z∈nx y,eO seen z=true∧z≠r
 pf:∀ z∈(nx x).take i,eO seen z=true∧z≠r
 most:todo.length + gu seen≤n + 1
attribute [local irreducible] RW CW
set_option maxHeartbeats 8000000 in
theorem AN {t:ThV} {x:TC} {w:World} {r:Int} {n:Nat} (h:gp (mem w (fun b=>¬ No b)) t x) (hn:(aN t).length=n) (hn4:n≤4096) (hnx:∀ v:Int,0≤v→v < n→∀ w∈aQ t v,0≤w∧w < n) (r0:0≤r) (r1:r < n):
 Ret Tryz.prog 58 [.slice x.A3 (aN t).length x.c3,.int .i64 r] w (.bool (vN t r)):=by
 have hle:=hq0 w;rw [hn];refine Calls.enter Tryz.func58 rfl _ rfl rfl (S:=No) (H:=[]) trivial ?_;refine Ja (Jd (Jb (Ja (Jc (Jg ?_)))));refine bF (n:=n) (zc:=[.bool false]) rfl rfl rfl rfl rfl (by unfold dK;omega) (by omega) rfl fun BS=>?_;refine Jd (Jb (Ja (Jc ?_)));refine sR (e:=3) (sz:=1) [bY r] rfl (fun w=>by kernel_rfl) rfl (by simp) (by unfold dK;omega) rfl fun BT=>?_;refine Jd (Jb ?_);refine ar ?_;refine ak ?_;have rep:∀ y,eO (List.replicate n false) y=false:=fun y=>oN n y;have hB0:Bk n (aQ t) r r 0 (List.replicate n false) [r]:=⟨by simp,fun y hy=>by rw [List.mem_singleton.1 hy];exact ⟨⟨r0,r1⟩,.inl rfl⟩,fun y _ _ hy=>(by rw [rep] at hy;cases hy),fun y _ _ hy=>.inl (hy.elim (fun e=>by rw [e];simp) (fun h=>by rw [rep] at h;cases h)),fun z hz=>by simp at hz,by have:=lN (List.replicate n false);rw [List.length_replicate] at this;show 1 + _≤_;omega⟩
 refine aI (ι:={ q:List Bool × List Int × (Option Addr × Nat × Nat) // ∃ i,i=0∧Bk n (aQ t) r r i q.1 q.2.1∧(∀ y:Int,0≤y→y < n→(y=r∨eO q.1 y=true)→y∈q.2.1∨∀ z∈aQ t y,eO q.1 z=true∧z≠r) }) (fun q=>[(0,.slice x.A3 n x.c3),(1,.int .i64 r),(5,slV BS n),(6,.slice q.1.2.2.1 q.1.2.2.2.1 q.1.2.2.2.2)])
  (fun q=>[ax 3 1 (.slice q.1.2.2.1 q.1.2.2.2.1 q.1.2.2.2.2) (q.1.2.1.map bY),ax 4 1 (slV BS n) (q.1.1.map bu)]) (fun q=>2 * gu q.1.1 + q.1.2.1.length)
  ⟨(List.replicate n false,[r],(some ⟨BT,0,none⟩,1,1)),0,rfl,hB0,fun y y0 y1 hy=>.inl (hy.elim (fun e=>by rw [e];simp) (fun h=>by rw [rep] at h;cases h))⟩ ⟨rfl,rfl,rfl,rfl,trivial⟩ (fun h=>by rw [List.map_replicate];exact h) ?_
 intro ⟨⟨seen,todo,⟨vA,vn,vc⟩⟩,i0,hi0,hB,hcl⟩;subst hi0;dsimp only at hB hcl ⊢
 refine fk (φ:=vn=todo.length∧(todo≠[]→∃ B,vA=some ⟨B,0,none⟩)∧todo.length≤vc) (fun w hw=>by
  obtain ⟨A,c,h1,h2,h3⟩:=gC (pre:=[]) hw;rw [List.length_map] at h1 h3;injection h1 with e1 e2 e3;subst e1;subst e3;exact ⟨e2,fun hne=>h2 (by simpa using hne),h3⟩) (fun ⟨hvn,hvA,hvc⟩=>?_)
 subst hvn;refine ar ?_;refine Ja (Jc (Jg (Jm (Jb ?_))));refine ay rfl (fun hlt=>?_) (fun hge=>?_);rotate_left
 ·have hnil:todo=[]:=List.length_eq_zero_iff.1 (by omega)
  subst hnil;refine aG rfl (ah ?_);refine Ja (Jd (Jb ?_));refine aw rfl Tryz.results58 rfl rfl fun w hw=>⟨?_,hw.kp⟩
  have hno:vN t r=false:=by
   refine Bool.eq_false_iff.2 fun hc=>?_;have hc:=jX.1 hc
   have hall:∀ y:Int,0≤y→y < n→(y=r∨eO seen y=true)→∀ z∈aQ t y,(0≤z∧z < n)∧eO seen z=true∧z≠r:=fun y y0 y1 hy z hz=>by
    rcases hcl y y0 y1 hy with k | k
    ·cases k
    ·exact ⟨hnx y y0 y1 z hz,k z hz⟩
   have:=hc (fun y=>(0≤y∧y < n)∧eO seen y=true∧y≠r) (hall r r0 r1 (.inl rfl)) (fun y z hy hz=>hall y hy.1.1 hy.1.2 (.inr hy.2.1) z hz);exact this.2.2 rfl
  rw [hno]
 obtain ⟨todo',xx,hsplit⟩:∃ t' y,todo=t'++[y]:=by
  rcases List.eq_nil_or_concat todo with e | ⟨t',y,e⟩
  ·rw [e] at hlt;simp at hlt
  ·exact ⟨t',y,by rw [e,List.concat_eq_append]⟩
 subst hsplit;obtain ⟨TB,rfl⟩:=hvA (by simp);have hlen:(todo'++[xx]).length=todo'.length + 1:=by simp
 rw [hlen] at hvc hlt ⊢;have hmost:=hB.most;rw [hlen] at hmost;obtain ⟨⟨x0,x1⟩,hxr⟩:=hB.tr xx (by simp);obtain ⟨B,O,A2,c2,hA,hm,hl⟩:=iS h x0 (by rw [hn];exact x1);have hxin:=hnx xx x0 x1;have hxs:=aP hl;unfold br at hxs;have gw:((todo'++[xx]).map bY)[todo'.length]?=some [.int .i64 xx]:=by rw [List.map_append,List.getElem?_append_right (by simp)];simp
 refine al (ah ?_);refine ak ?_;refine Ja (Jc (Jc (Jg ?_)));refine eG (c:=(todo'.length:Int)) rfl rfl (by rw [w64 (by omega) (by omega)];omega) rfl ?_;refine av rfl rfl (by omega) (by omega) rfl ?_;refine az [] (i:=todo'.length) (j:=0) rfl (by simp) gw rfl rfl rfl ?_;refine Jd (Jb (Ja (Jc (Jc (Jg ?_)))));refine eG (c:=(todo'.length:Int)) rfl rfl (by rw [w64 (by omega) (by omega)];omega) rfl ?_;refine oD rfl rfl (by omega) (by omega) rfl ?_;refine mQ [] (ax 3 1 (.slice (some ⟨TB,0,none⟩) todo'.length vc) (todo'.map bY)) (fun w F hp=>ts rfl hp) ?_;refine Jd (Jb (Ja (Jd (Jb ?_))));refine ak ?_
 have hB1:Bk n (aQ t) r xx 0 seen todo':=⟨hB.len,fun y hy=>hB.tr y (List.mem_append_left _ hy),hB.sr,fun y y0 y1 hy=>by
  rcases hcl y y0 y1 hy with k | k
  ·rcases List.mem_append.1 k with k | k
   ·exact .inl k
   ·exact .inr (.inl (List.mem_singleton.1 k))
  ·exact .inr (.inr k),fun z hz=>by simp at hz,by omega⟩
 have hu0:=lN seen;have hsl:=hB.len;generalize hM:2 * gu seen + todo'.length=M
 refine aI (ι:={ q:Nat × List Bool × List Int × (Option Addr × Nat × Nat) // q.1≤(aQ t xx).length∧Bk n (aQ t) r xx q.1 q.2.1 q.2.2.1∧2 * gu q.2.1 + q.2.2.1.length≤M }) (fun q=>[(0,.slice x.A3 n x.c3),(1,.int .i64 r),(5,slV BS n),(6,.slice q.1.2.2.2.1 q.1.2.2.2.2.1 q.1.2.2.2.2.2),(7,.int .i64 xx),(8,.int .i64 q.1.1)])
  (fun q=>[ax 3 1 (.slice q.1.2.2.2.1 q.1.2.2.2.2.1 q.1.2.2.2.2.2) (q.1.2.2.1.map bY),ax 4 1 (slV BS n) (q.1.2.1.map bu)]) (fun q=>(aQ t xx).length - q.1.1)
  ⟨(0,seen,todo',(some ⟨TB,0,none⟩,todo'.length,vc)),Nat.zero_le _,hB1,by dsimp only;omega⟩ ⟨rfl,rfl,rfl,rfl,rfl,rfl,trivial⟩ (fun h=>h) ?_
 intro ⟨⟨i,se,td,⟨uA,un,uc⟩⟩,hi,hK,hMe⟩;dsimp only at hi hK hMe ⊢;refine ar ?_;refine Ja (Jc (Jc (Jc ?_)));refine aa hA rfl rfl x0 x1 rfl ?_;refine ac rfl hle hm rfl rfl ?_;refine Jg (Jk (Jb ?_));refine ay rfl (fun hlt2=>?_) (fun hge2=>?_);rotate_left
 ·have hpf:=hK.pf
  rw [List.take_of_length_le (by omega)] at hpf;refine aG rfl ?_;refine bp ⟨(se,td,(uA,un,uc)),0,rfl,⟨hK.len,hK.tr,hK.sr,fun y y0 y1 hy=>(hK.cl y y0 y1 hy).imp id (fun k=>.inr (k.elim (fun e=>by rw [e];exact hpf) id)),fun z hz=>by simp at hz,hK.most⟩,fun y y0 y1 hy=>(hK.cl y y0 y1 hy).imp id (fun k=>k.elim (fun e=>by rw [e];exact hpf) id)⟩ ⟨rfl,rfl,rfl,rfl,trivial⟩ (fun h=>h) ?_;show 2 * gu se + td.length < 2 * gu seen + (todo'.length + 1);omega
 have hlt3:i < (aQ t xx).length:=by omega
 obtain ⟨B3,O3,hA3,hm3,_⟩:=aR hl (List.getElem?_eq_getElem hlt3);have hzm:=List.getElem_mem hlt3;have htake:(aQ t xx).take (i + 1)=(aQ t xx).take i++[(aQ t xx)[i]]:=by rw [List.take_add_one,List.getElem?_eq_getElem hlt3];rfl
 generalize (aQ t xx)[i]=z at *;obtain ⟨z0,z1⟩:=hxin z hzm;have hrz:RP (aQ t) r z:=Gq hxr hzm;have gon:=tv hK.len z0 z1;refine al (ah ?_);refine ar ?_;refine ak ?_;refine Ja (Jc (Jc ?_));refine aa hA rfl rfl x0 x1 rfl ?_;refine ac rfl hle hm rfl rfl ?_;refine Jc ?_;refine aa hA3 rfl rfl (by omega) (by omega) rfl ?_;refine ac rfl hle (aT hm3) rfl rfl ?_;refine Jd (Jb ?_);refine ar ?_;refine Ja (Jc (Jc (Ji (Jb ?_))));refine ay rfl (fun hzr=>?_) (fun hzr=>?_)
 ·refine Ja (Jd (Jb ?_))
  refine aw rfl Tryz.results58 rfl rfl fun w hw=>⟨?_,hw.kp⟩;rw [jX.2 (hzr ▸ hrz)]
 refine al (ah ?_);refine Ja (Jc (Jc ?_));refine av rfl rfl z0 z1 rfl ?_;refine az [_] (i:=z.toNat) (j:=0) rfl (by simp) (jC gon) rfl rfl rfl ?_;refine Js (Jb ?_)
 have step:∀ (se2:List Bool) (td2:List Int),(∀ y:Int,0≤y→(eO se y=true→eO se2 y=true))→eO se2 z=true→∀ y∈(aQ t xx).take (i + 1),eO se2 y=true∧y≠r:=fun se2 td2 h1 h2 y hy=>by
  rw [htake] at hy;rcases List.mem_append.1 hy with hy | hy
  ·have hym:=List.mem_of_mem_take hy
   exact ⟨h1 y (hxin y hym).1 (hK.pf y hy).1,(hK.pf y hy).2⟩
  ·rw [List.mem_singleton.1 hy];exact ⟨h2,hzr⟩
 cases hsz:eO se z with
 | true=>
  refine ch rfl ?_;refine al (ah ?_);refine aj (Jc ?_);refine Ka ?_;refine Jd (aq ?_);exact bp ⟨(i + 1,se,td,(uA,un,uc)),hlt3,⟨hK.len,hK.tr,hK.sr,hK.cl,step se td (fun _ _ h=>h) hsz,hK.most⟩,hMe⟩ ⟨rfl,rfl,rfl,rfl,rfl,rfl,trivial⟩ (fun h=>h) (by show _ - (i + 1) < _ - i;omega)
 | false=>
  have hset:∀ y:Int,0≤y→eO (se.set z.toNat true) y=if z=y then true else eO se y:=fun y y0=>jA z0 (by rw [hK.len];omega) y0
  have hun:=nC (show se[z.toNat]?=some false by rw [gon,hsz]);have hmo:=hK.most;have hul:=lN se;have hkl:=hK.len;refine cn rfl ?_;refine ar ?_;refine aj ?_;refine Jc (Jc ?_);refine av rfl rfl z0 z1 rfl ?_;refine aM [_] (v:=.bool true) (i:=z.toNat) (j:=0) rfl (by simp) rfl rfl rfl (jC gon) (Nat.zero_lt_succ _) ?_;rw [show (se.map bu).set z.toNat ([Value.bool (eO se z)].set 0 (.bool true))=(se.set z.toNat true).map bu from List.map_set.symm];refine aq (ah ?_);refine aj ?_;refine Jc (Jc ?_);refine bW (e:=3) (c:=[.int .i64 z]) rfl (fun w=>by kernel_rfl) rfl fun b _=>?_;refine eS [_] (e:=3) (sz:=1) (news:=[bY z]) (zc:=[.int .i64 0]) rfl rfl rfl rfl rfl (by simp) (by simp [Value.oneCell']) (fun w hw hn=>?_) ?_ ?_ rfl fun u1=>?_
  ·exact ⟨b,0,rfl,a9 (St.blk (pre:=[]) hw)⟩
  ·rw [List.length_map];show (td.length + 1) * 8≤_;omega
  ·rw [List.length_map];unfold dK;omega
  rw [show td.map bY++[bY z]=(td++[z]).map bY by rw [List.map_append];rfl];refine fY (φ:=∃ A nn c,u1=.slice A nn c) (fun w hw=>by obtain ⟨A,c,h,_⟩:=gC (pre:=[_]) hw;exact ⟨A,_,c,h⟩) (fun ⟨A,nn,c,hu⟩=>?_);subst hu;refine Jd ?_;refine aq (ah ?_);refine aj (Jc ?_);refine Ka ?_;refine Jd (aq ?_);refine kc ⟨(i + 1,se.set z.toNat true,td++[z],(A,nn,c)),hlt3,⟨by rw [List.length_set];exact hK.len,fun y hy=>?_,fun y y0 y1 hy=>?_,fun y y0 y1 hy=>?_,step _ (td++[z]) (fun y y0 hy=>by rw [hset y y0];split <;> first | rfl | exact hy) (by rw [hset z z0,if_pos rfl]),?_⟩,?_⟩ [1,2] ⟨rfl,rfl,rfl,rfl,rfl,rfl,trivial⟩ rfl (by show _ - (i + 1) < _ - i;omega)
  ·rcases List.mem_append.1 hy with hy | hy
   ·exact hK.tr y hy
   ·rw [List.mem_singleton.1 hy];exact ⟨⟨z0,z1⟩,.inr hrz⟩
  ·rw [hset y y0] at hy
   split at hy
   ·rename_i e;subst e;exact hrz
   ·exact hK.sr y y0 y1 hy
  ·have hup:∀ v:Int,0≤v→eO se v=true→eO (se.set z.toNat true) v=true:=fun v v0 hv=>by rw [hset v v0];split <;> first | rfl | exact hv
   by_cases e:z=y
   ·subst e;exact .inl (by simp)
   ·have hy2:y=r∨eO se y=true:=hy.imp id (fun k=>by rw [hset y y0,if_neg e] at k;exact k)
    rcases hK.cl y y0 y1 hy2 with k | k | k
    ·exact .inl (List.mem_append_left _ k)
    ·exact .inr (.inl k)
    ·exact .inr (.inr fun v hv=>⟨hup v (hnx y y0 y1 v hv).1 (k v hv).1,(k v hv).2⟩)
  ·show (td++[z]).length + gu (se.set z.toNat true)≤n + 1
   rw [List.length_append,List.length_singleton];omega
  ·show 2 * gu (se.set z.toNat true) + (td++[z]).length≤M
   rw [List.length_append,List.length_singleton];omega
end
section
attribute [local irreducible] RW CW
section
variable {E:Env} {ops:Array Oper} {Q:Pst} {rest:List Oper} {G:List (Nat × Value)} {X:List HP} {dst be n m np:Nat} {ty:TypeId} {pos:String} {af:Array Edge} {x y:Operand} {a:EAd} {z:ECs} {sv:Value} {e:En} {q v:Int} {bv:Bool}
theorem Ba (hk:aE n m np e) (hx:ev G x=some (.pointer (some ⟨a.m,0 + q.toNat * 1,none⟩))) (h0:0≤q) (h1:q < n) (hN:Nat.blt dst E.N=true) (k:RW Tryz.prog E ops Q rest ((dst,.int .u8 (e.marks.getD q.toNat 0))::G) (enH be a z n m sv e++X)):
 RW Tryz.prog E ops Q (⟨some dst,.load 45 x,ty,pos,af,none⟩::rest) G (enH be a z n m sv e++X):=
 az [_] (i:=q.toNat) (j:=0) hx (by simp) (by rw [List.getElem?_map,getD_some (d:=0) hk.marks h0 h1];rfl) rfl rfl hN k
theorem ES.marks (hk:aE n m np e) (hx:ev G x=some (.pointer (some ⟨a.m,0 + q.toNat * 1,none⟩))) (hy:ev G y=some (.int .u8 v)) (h0:0≤q) (h1:q < n) (k:RW Tryz.prog E ops Q rest G (enH be a z n m sv { e with marks:=e.marks.set q.toNat v }++X)):
 RW Tryz.prog E ops Q (⟨none,.store 45 x y,ty,pos,af,none⟩::rest) G (enH be a z n m sv e++X):=
 aM [_] (i:=q.toNat) (j:=0) (cs:=[.int .u8 (e.marks.getD q.toNat 0)]) hx (by simp) hy rfl rfl (by rw [List.getElem?_map,getD_some (d:=0) hk.marks h0 h1];rfl) (Nat.zero_lt_succ _) (by
  rw [show (e.marks.map gD).set q.toNat ([Value.int .u8 (e.marks.getD q.toNat 0)].set 0 (.int .u8 v))=(e.marks.set q.toNat v).map gD from List.map_set.symm];exact k)
theorem ut (hk:aE n m np e) (hx:ev G x=some (.pointer (some ⟨a.nd,0 + q.toNat * 1,none⟩))) (h0:0≤q) (h1:q < m) (hN:Nat.blt dst E.N=true) (k:RW Tryz.prog E ops Q rest ((dst,.int .i64 (e.needD.getD q.toNat 0))::G) (enH be a z n m sv e++X)):
 RW Tryz.prog E ops Q (⟨some dst,.load 3 x,ty,pos,af,none⟩::rest) G (enH be a z n m sv e++X):=
 az [_,_,_] (i:=q.toNat) (j:=0) hx (by simp) (by rw [List.getElem?_map,getD_some (d:=0) hk.needD h0 h1];rfl) rfl rfl hN k
theorem ES.needD (hk:aE n m np e) (hx:ev G x=some (.pointer (some ⟨a.nd,0 + q.toNat * 1,none⟩))) (hy:ev G y=some (.int .i64 v)) (h0:0≤q) (h1:q < m) (k:RW Tryz.prog E ops Q rest G (enH be a z n m sv { e with needD:=e.needD.set q.toNat v }++X)):
 RW Tryz.prog E ops Q (⟨none,.store 3 x y,ty,pos,af,none⟩::rest) G (enH be a z n m sv e++X):=
 aM [_,_,_] (i:=q.toNat) (j:=0) (cs:=[.int .i64 (e.needD.getD q.toNat 0)]) hx (by simp) hy rfl rfl (by rw [List.getElem?_map,getD_some (d:=0) hk.needD h0 h1];rfl) (Nat.zero_lt_succ _) (by
  rw [show (e.needD.map bY).set q.toNat ([Value.int .i64 (e.needD.getD q.toNat 0)].set 0 (.int .i64 v))=(e.needD.set q.toNat v).map bY from List.map_set.symm];exact k)
theorem mT (hk:aE n m np e) (hx:ev G x=some (.pointer (some ⟨a.nn,0 + q.toNat * 1,none⟩))) (h0:0≤q) (h1:q < m) (hN:Nat.blt dst E.N=true) (k:RW Tryz.prog E ops Q rest ((dst,.int .i64 (e.need.getD q.toNat 0))::G) (enH be a z n m sv e++X)):
 RW Tryz.prog E ops Q (⟨some dst,.load 3 x,ty,pos,af,none⟩::rest) G (enH be a z n m sv e++X):=
 az [_,_,_,_] (i:=q.toNat) (j:=0) hx (by simp) (by rw [List.getElem?_map,getD_some (d:=0) hk.need h0 h1];rfl) rfl rfl hN k
theorem ES.need (hk:aE n m np e) (hx:ev G x=some (.pointer (some ⟨a.nn,0 + q.toNat * 1,none⟩))) (hy:ev G y=some (.int .i64 v)) (h0:0≤q) (h1:q < m) (k:RW Tryz.prog E ops Q rest G (enH be a z n m sv { e with need:=e.need.set q.toNat v }++X)):
 RW Tryz.prog E ops Q (⟨none,.store 3 x y,ty,pos,af,none⟩::rest) G (enH be a z n m sv e++X):=
 aM [_,_,_,_] (i:=q.toNat) (j:=0) (cs:=[.int .i64 (e.need.getD q.toNat 0)]) hx (by simp) hy rfl rfl (by rw [List.getElem?_map,getD_some (d:=0) hk.need h0 h1];rfl) (Nat.zero_lt_succ _) (by
  rw [show (e.need.map bY).set q.toNat ([Value.int .i64 (e.need.getD q.toNat 0)].set 0 (.int .i64 v))=(e.need.set q.toNat v).map bY from List.map_set.symm];exact k)
theorem Bb (hk:aE n m np e) (hx:ev G x=some (.pointer (some ⟨a.dd,0 + q.toNat * 1,none⟩))) (h0:0≤q) (h1:q < m) (hN:Nat.blt dst E.N=true) (k:RW Tryz.prog E ops Q rest ((dst,.bool (e.deadD.getD q.toNat false))::G) (enH be a z n m sv e++X)):
 RW Tryz.prog E ops Q (⟨some dst,.load 4 x,ty,pos,af,none⟩::rest) G (enH be a z n m sv e++X):=
 az [_,_,_,_,_] (i:=q.toNat) (j:=0) hx (by simp) (by rw [List.getElem?_map,getD_some (d:=false) hk.deadD h0 h1];rfl) rfl rfl hN k
theorem ES.deadD (hk:aE n m np e) (hx:ev G x=some (.pointer (some ⟨a.dd,0 + q.toNat * 1,none⟩))) (hy:ev G y=some (.bool bv)) (h0:0≤q) (h1:q < m) (k:RW Tryz.prog E ops Q rest G (enH be a z n m sv { e with deadD:=e.deadD.set q.toNat bv }++X)):
 RW Tryz.prog E ops Q (⟨none,.store 4 x y,ty,pos,af,none⟩::rest) G (enH be a z n m sv e++X):=
 aM [_,_,_,_,_] (i:=q.toNat) (j:=0) (cs:=[.bool (e.deadD.getD q.toNat false)]) hx (by simp) hy rfl rfl (by rw [List.getElem?_map,getD_some (d:=false) hk.deadD h0 h1];rfl) (Nat.zero_lt_succ _) (by
  rw [show (e.deadD.map bu).set q.toNat ([Value.bool (e.deadD.getD q.toNat false)].set 0 (.bool bv))=(e.deadD.set q.toNat bv).map bu from List.map_set.symm];exact k)
theorem DI (hk:aE n m np e) (hx:ev G x=some (.pointer (some ⟨a.dx,0 + q.toNat * 1,none⟩))) (h0:0≤q) (h1:q < m) (hN:Nat.blt dst E.N=true) (k:RW Tryz.prog E ops Q rest ((dst,.bool (e.dead.getD q.toNat false))::G) (enH be a z n m sv e++X)):
 RW Tryz.prog E ops Q (⟨some dst,.load 4 x,ty,pos,af,none⟩::rest) G (enH be a z n m sv e++X):=
 az [_,_,_,_,_,_] (i:=q.toNat) (j:=0) hx (by simp) (by rw [List.getElem?_map,getD_some (d:=false) hk.dead h0 h1];rfl) rfl rfl hN k
theorem ES.dead (hk:aE n m np e) (hx:ev G x=some (.pointer (some ⟨a.dx,0 + q.toNat * 1,none⟩))) (hy:ev G y=some (.bool bv)) (h0:0≤q) (h1:q < m) (k:RW Tryz.prog E ops Q rest G (enH be a z n m sv { e with dead:=e.dead.set q.toNat bv }++X)):
 RW Tryz.prog E ops Q (⟨none,.store 4 x y,ty,pos,af,none⟩::rest) G (enH be a z n m sv e++X):=
 aM [_,_,_,_,_,_] (i:=q.toNat) (j:=0) (cs:=[.bool (e.dead.getD q.toNat false)]) hx (by simp) hy rfl rfl (by rw [List.getElem?_map,getD_some (d:=false) hk.dead h0 h1];rfl) (Nat.zero_lt_succ _) (by
  rw [show (e.dead.map bu).set q.toNat ([Value.bool (e.dead.getD q.toNat false)].set 0 (.bool bv))=(e.dead.set q.toNat bv).map bu from List.map_set.symm];exact k)
theorem kh (hk:aE n m np e) (hx:ev G x=some (.pointer (some ⟨a.st,0 + q.toNat * 1,none⟩))) (h0:0≤q) (h1:q < n) (hN:Nat.blt dst E.N=true) (k:RW Tryz.prog E ops Q rest ((dst,.int .i64 (e.strict.getD q.toNat 0))::G) (enH be a z n m sv e++X)):
 RW Tryz.prog E ops Q (⟨some dst,.load 3 x,ty,pos,af,none⟩::rest) G (enH be a z n m sv e++X):=
 az [_,_,_,_,_,_,_] (i:=q.toNat) (j:=0) hx (by simp) (by rw [List.getElem?_map,getD_some (d:=0) hk.strict h0 h1];rfl) rfl rfl hN k
theorem ES.strict (hk:aE n m np e) (hx:ev G x=some (.pointer (some ⟨a.st,0 + q.toNat * 1,none⟩))) (hy:ev G y=some (.int .i64 v)) (h0:0≤q) (h1:q < n) (k:RW Tryz.prog E ops Q rest G (enH be a z n m sv { e with strict:=e.strict.set q.toNat v }++X)):
 RW Tryz.prog E ops Q (⟨none,.store 3 x y,ty,pos,af,none⟩::rest) G (enH be a z n m sv e++X):=
 aM [_,_,_,_,_,_,_] (i:=q.toNat) (j:=0) (cs:=[.int .i64 (e.strict.getD q.toNat 0)]) hx (by simp) hy rfl rfl (by rw [List.getElem?_map,getD_some (d:=0) hk.strict h0 h1];rfl) (Nat.zero_lt_succ _) (by
  rw [show (e.strict.map bY).set q.toNat ([Value.int .i64 (e.strict.getD q.toNat 0)].set 0 (.int .i64 v))=(e.strict.set q.toNat v).map bY from List.map_set.symm];exact k)
theorem iU (hk:aE n m np e) (hx:ev G x=some (.pointer (some ⟨a.bk,0 + q.toNat * 1,none⟩))) (h0:0≤q) (h1:q < n) (hN:Nat.blt dst E.N=true) (k:RW Tryz.prog E ops Q rest ((dst,.int .i64 (e.backs.getD q.toNat 0))::G) (enH be a z n m sv e++X)):
 RW Tryz.prog E ops Q (⟨some dst,.load 3 x,ty,pos,af,none⟩::rest) G (enH be a z n m sv e++X):=
 az [_,_,_,_,_,_,_,_] (i:=q.toNat) (j:=0) hx (by simp) (by rw [List.getElem?_map,getD_some (d:=0) hk.backs h0 h1];rfl) rfl rfl hN k
theorem ES.backs (hk:aE n m np e) (hx:ev G x=some (.pointer (some ⟨a.bk,0 + q.toNat * 1,none⟩))) (hy:ev G y=some (.int .i64 v)) (h0:0≤q) (h1:q < n) (k:RW Tryz.prog E ops Q rest G (enH be a z n m sv { e with backs:=e.backs.set q.toNat v }++X)):
 RW Tryz.prog E ops Q (⟨none,.store 3 x y,ty,pos,af,none⟩::rest) G (enH be a z n m sv e++X):=
 aM [_,_,_,_,_,_,_,_] (i:=q.toNat) (j:=0) (cs:=[.int .i64 (e.backs.getD q.toNat 0)]) hx (by simp) hy rfl rfl (by rw [List.getElem?_map,getD_some (d:=0) hk.backs h0 h1];rfl) (Nat.zero_lt_succ _) (by
  rw [show (e.backs.map bY).set q.toNat ([Value.int .i64 (e.backs.getD q.toNat 0)].set 0 (.int .i64 v))=(e.backs.set q.toNat v).map bY from List.map_set.symm];exact k)
theorem mU (hk:aE n m np e) (hx:ev G x=some (.pointer (some ⟨a.bd,0 + q.toNat * 1,none⟩))) (h0:0≤q) (h1:q < n) (hN:Nat.blt dst E.N=true) (k:RW Tryz.prog E ops Q rest ((dst,.bool (e.backed.getD q.toNat false))::G) (enH be a z n m sv e++X)):
 RW Tryz.prog E ops Q (⟨some dst,.load 4 x,ty,pos,af,none⟩::rest) G (enH be a z n m sv e++X):=
 az [_,_,_,_,_,_,_,_,_] (i:=q.toNat) (j:=0) hx (by simp) (by rw [List.getElem?_map,getD_some (d:=false) hk.backed h0 h1];rfl) rfl rfl hN k
theorem ES.backed (hk:aE n m np e) (hx:ev G x=some (.pointer (some ⟨a.bd,0 + q.toNat * 1,none⟩))) (hy:ev G y=some (.bool bv)) (h0:0≤q) (h1:q < n) (k:RW Tryz.prog E ops Q rest G (enH be a z n m sv { e with backed:=e.backed.set q.toNat bv }++X)):
 RW Tryz.prog E ops Q (⟨none,.store 4 x y,ty,pos,af,none⟩::rest) G (enH be a z n m sv e++X):=
 aM [_,_,_,_,_,_,_,_,_] (i:=q.toNat) (j:=0) (cs:=[.bool (e.backed.getD q.toNat false)]) hx (by simp) hy rfl rfl (by rw [List.getElem?_map,getD_some (d:=false) hk.backed h0 h1];rfl) (Nat.zero_lt_succ _) (by
  rw [show (e.backed.map bu).set q.toNat ([Value.bool (e.backed.getD q.toNat false)].set 0 (.bool bv))=(e.backed.set q.toNat bv).map bu from List.map_set.symm];exact k)
theorem ur (hk:aE n m np e) (hx:ev G x=some (.pointer (some ⟨a.op,0 + q.toNat * 1,none⟩))) (h0:0≤q) (h1:q < n) (hN:Nat.blt dst E.N=true) (k:RW Tryz.prog E ops Q rest ((dst,.int .i64 (e.opn.getD q.toNat 0))::G) (enH be a z n m sv e++X)):
 RW Tryz.prog E ops Q (⟨some dst,.load 3 x,ty,pos,af,none⟩::rest) G (enH be a z n m sv e++X):=
 az [_,_,_,_,_,_,_,_,_,_] (i:=q.toNat) (j:=0) hx (by simp) (by rw [List.getElem?_map,getD_some (d:=0) hk.opn h0 h1];rfl) rfl rfl hN k
theorem ES.opn (hk:aE n m np e) (hx:ev G x=some (.pointer (some ⟨a.op,0 + q.toNat * 1,none⟩))) (hy:ev G y=some (.int .i64 v)) (h0:0≤q) (h1:q < n) (k:RW Tryz.prog E ops Q rest G (enH be a z n m sv { e with opn:=e.opn.set q.toNat v }++X)):
 RW Tryz.prog E ops Q (⟨none,.store 3 x y,ty,pos,af,none⟩::rest) G (enH be a z n m sv e++X):=
 aM [_,_,_,_,_,_,_,_,_,_] (i:=q.toNat) (j:=0) (cs:=[.int .i64 (e.opn.getD q.toNat 0)]) hx (by simp) hy rfl rfl (by rw [List.getElem?_map,getD_some (d:=0) hk.opn h0 h1];rfl) (Nat.zero_lt_succ _) (by
  rw [show (e.opn.map bY).set q.toNat ([Value.int .i64 (e.opn.getD q.toNat 0)].set 0 (.int .i64 v))=(e.opn.set q.toNat v).map bY from List.map_set.symm];exact k)
theorem lH (hk:aE n m np e) (hx:ev G x=some (.pointer (some ⟨a.cl,0 + q.toNat * 1,none⟩))) (h0:0≤q) (h1:q < n) (hN:Nat.blt dst E.N=true) (k:RW Tryz.prog E ops Q rest ((dst,.bool (e.clash.getD q.toNat false))::G) (enH be a z n m sv e++X)):
 RW Tryz.prog E ops Q (⟨some dst,.load 4 x,ty,pos,af,none⟩::rest) G (enH be a z n m sv e++X):=
 az [_,_,_,_,_,_,_,_,_,_,_] (i:=q.toNat) (j:=0) hx (by simp) (by rw [List.getElem?_map,getD_some (d:=false) hk.clash h0 h1];rfl) rfl rfl hN k
theorem ES.clash (hk:aE n m np e) (hx:ev G x=some (.pointer (some ⟨a.cl,0 + q.toNat * 1,none⟩))) (hy:ev G y=some (.bool bv)) (h0:0≤q) (h1:q < n) (k:RW Tryz.prog E ops Q rest G (enH be a z n m sv { e with clash:=e.clash.set q.toNat bv }++X)):
 RW Tryz.prog E ops Q (⟨none,.store 4 x y,ty,pos,af,none⟩::rest) G (enH be a z n m sv e++X):=
 aM [_,_,_,_,_,_,_,_,_,_,_] (i:=q.toNat) (j:=0) (cs:=[.bool (e.clash.getD q.toNat false)]) hx (by simp) hy rfl rfl (by rw [List.getElem?_map,getD_some (d:=false) hk.clash h0 h1];rfl) (Nat.zero_lt_succ _) (by
  rw [show (e.clash.map bu).set q.toNat ([Value.bool (e.clash.getD q.toNat false)].set 0 (.bool bv))=(e.clash.set q.toNat bv).map bu from List.map_set.symm];exact k)
theorem iV (hk:aE n m np e) (hx:ev G x=some (.pointer (some ⟨a.at_,0 + q.toNat * 1,none⟩))) (h0:0≤q) (h1:q < n) (hN:Nat.blt dst E.N=true) (k:RW Tryz.prog E ops Q rest ((dst,.int .i64 (e.attacks.getD q.toNat 0))::G) (enH be a z n m sv e++X)):
 RW Tryz.prog E ops Q (⟨some dst,.load 3 x,ty,pos,af,none⟩::rest) G (enH be a z n m sv e++X):=
 az [_,_,_,_,_,_,_,_,_,_,_,_] (i:=q.toNat) (j:=0) hx (by simp) (by rw [List.getElem?_map,getD_some (d:=0) hk.attacks h0 h1];rfl) rfl rfl hN k
theorem ES.attacks (hk:aE n m np e) (hx:ev G x=some (.pointer (some ⟨a.at_,0 + q.toNat * 1,none⟩))) (hy:ev G y=some (.int .i64 v)) (h0:0≤q) (h1:q < n) (k:RW Tryz.prog E ops Q rest G (enH be a z n m sv { e with attacks:=e.attacks.set q.toNat v }++X)):
 RW Tryz.prog E ops Q (⟨none,.store 3 x y,ty,pos,af,none⟩::rest) G (enH be a z n m sv e++X):=
 aM [_,_,_,_,_,_,_,_,_,_,_,_] (i:=q.toNat) (j:=0) (cs:=[.int .i64 (e.attacks.getD q.toNat 0)]) hx (by simp) hy rfl rfl (by rw [List.getElem?_map,getD_some (d:=0) hk.attacks h0 h1];rfl) (Nat.zero_lt_succ _) (by
  rw [show (e.attacks.map bY).set q.toNat ([Value.int .i64 (e.attacks.getD q.toNat 0)].set 0 (.int .i64 v))=(e.attacks.set q.toNat v).map bY from List.map_set.symm];exact k)
theorem mS (hk:aE n m np e) (hx:ev G x=some (.pointer (some ⟨a.sd,0 + q.toNat * 1,none⟩))) (h0:0≤q) (h1:q < n) (hN:Nat.blt dst E.N=true) (k:RW Tryz.prog E ops Q rest ((dst,.bool (e.standing.getD q.toNat false))::G) (enH be a z n m sv e++X)):
 RW Tryz.prog E ops Q (⟨some dst,.load 4 x,ty,pos,af,none⟩::rest) G (enH be a z n m sv e++X):=
 az [_,_,_,_,_,_,_,_,_,_,_,_,_] (i:=q.toNat) (j:=0) hx (by simp) (by rw [List.getElem?_map,getD_some (d:=false) hk.standing h0 h1];rfl) rfl rfl hN k
theorem ES.standing (hk:aE n m np e) (hx:ev G x=some (.pointer (some ⟨a.sd,0 + q.toNat * 1,none⟩))) (hy:ev G y=some (.bool bv)) (h0:0≤q) (h1:q < n) (k:RW Tryz.prog E ops Q rest G (enH be a z n m sv { e with standing:=e.standing.set q.toNat bv }++X)):
 RW Tryz.prog E ops Q (⟨none,.store 4 x y,ty,pos,af,none⟩::rest) G (enH be a z n m sv e++X):=
 aM [_,_,_,_,_,_,_,_,_,_,_,_,_] (i:=q.toNat) (j:=0) (cs:=[.bool (e.standing.getD q.toNat false)]) hx (by simp) hy rfl rfl (by rw [List.getElem?_map,getD_some (d:=false) hk.standing h0 h1];rfl) (Nat.zero_lt_succ _) (by
  rw [show (e.standing.map bu).set q.toNat ([Value.bool (e.standing.getD q.toNat false)].set 0 (.bool bv))=(e.standing.set q.toNat bv).map bu from List.map_set.symm];exact k)
theorem Fe {O:Nat} {t:TypeId} {d:TypeDesc} {zz v:Value} {sz by_:Nat} [T:Ty Tryz.prog t d zz sz by_] (hx:ev G x=some (.pointer (some ⟨be,O,none⟩))) (hv:(enC a z n m sv e.qd e.up)[O]?=some v) (hd:bH d=false) (hN:Nat.blt dst E.N=true) (k:RW Tryz.prog E ops Q rest ((dst,v)::G) (enH be a z n m sv e++X)):
 RW Tryz.prog E ops Q (⟨some dst,.load t x,ty,pos,af,none⟩::rest) G (enH be a z n m sv e++X):=
 dG [] hx hv hd hN k
theorem Eh {O:Nat} {t:TypeId} {d:TypeDesc} {zz v:Value} {sz by_:Nat} [T:Ty Tryz.prog t d zz sz by_] (k:RW Tryz.prog E ops Q rest ((dst,v)::G) (enH be a z n m sv e++X)) (hx:ev G x=some (.pointer (some ⟨be,O,none⟩)):=by exact rfl) (hv:(enC a z n m sv e.qd e.up)[O]?=some v:=by exact rfl) (hd:bH d=false:=by exact rfl) (hN:Nat.blt dst E.N=true:=by exact rfl):
 RW Tryz.prog E ops Q (⟨some dst,.load t x,ty,pos,af,none⟩::rest) G (enH be a z n m sv e++X):=Fe hx hv hd hN k
theorem Fd {t ee:TypeId} {B nn sz by_ sz' by':Nat} {zz z':Value} {d:TypeDesc} {kk:IntKind} {q:Int} [T:Ty Tryz.prog t (.slice ee) zz sz by_] [T2:Ty Tryz.prog ee d z' sz' by'] (hx:ev G x=some (slV B nn)) (hy:ev G y=some (.int kk q)) (h0:0≤q) (h1:q < nn) (hN:Nat.blt dst E.N=true)
 (k:RW Tryz.prog E ops Q rest ((dst,.pointer (some ⟨B,0 + q.toNat * sz',none⟩))::G) X):RW Tryz.prog E ops Q (⟨some dst,.indexAddr t x y,ty,pos,af,none⟩::rest) G X:=
 av hx hy h0 h1 hN k
theorem Ei {t ee:TypeId} {B nn sz by_ sz' by':Nat} {zz z':Value} {d:TypeDesc} {kk:IntKind} {q:Int} [T:Ty Tryz.prog t (.slice ee) zz sz by_] [T2:Ty Tryz.prog ee d z' sz' by'] (k:RW Tryz.prog E ops Q rest ((dst,.pointer (some ⟨B,0 + q.toNat * sz',none⟩))::G) X) (hx:ev G x=some (slV B nn):=by exact rfl) (hy:ev G y=some (.int kk q):=by exact rfl) (h0:0≤q:=by assumption) (h1:q < nn:=by assumption) (hN:Nat.blt dst E.N=true:=by exact rfl):RW Tryz.prog E ops Q (⟨some dst,.indexAddr t x y,ty,pos,af,none⟩::rest) G X:=Fd hx hy h0 h1 hN k
theorem ES.qd {u:Int} (hx:ev G x=some (.pointer (some ⟨be,7,none⟩))) (hy:ev G y=some (.int .i64 u)) (k:RW Tryz.prog E ops Q rest G (enH be a z n m sv { e with qd:=u }++X)):
 RW Tryz.prog E ops Q (⟨none,.store 3 x y,ty,pos,af,none⟩::rest) G (enH be a z n m sv e++X):=
 bQ [] rfl hx hy rfl rfl (Nat.lt_of_sub_eq_succ rfl) k
theorem ES.up {u:Int} (hx:ev G x=some (.pointer (some ⟨be,8,none⟩))) (hy:ev G y=some (.int .i64 u)) (k:RW Tryz.prog E ops Q rest G (enH be a z n m sv { e with up:=u }++X)):
 RW Tryz.prog E ops Q (⟨none,.store 3 x y,ty,pos,af,none⟩::rest) G (enH be a z n m sv e++X):=
 bQ [] rfl hx hy rfl rfl (Nat.lt_of_sub_eq_succ rfl) k
theorem Gt {O b:Nat} {c:List Value} {te t:TypeId} {d:TypeDesc} {zz v:Value} {sz by_:Nat} [T:Ty Tryz.prog t d zz sz by_] (hx:ev G x=some (.pointer (some ⟨b,O,none⟩))) (hv:c[O]?=some v) (hd:bH d=false) (hN:Nat.blt dst E.N=true) (k:RW Tryz.prog E ops Q rest ((dst,v)::G) (enH be a z n m sv e++blk b c te::X)):
 RW Tryz.prog E ops Q (⟨some dst,.load t x,ty,pos,af,none⟩::rest) G (enH be a z n m sv e++blk b c te::X):=dG (enH be a z n m sv e) hx hv hd hN k
theorem El {O b:Nat} {c:List Value} {te t:TypeId} {d:TypeDesc} {zz v:Value} {sz by_:Nat} [T:Ty Tryz.prog t d zz sz by_] (k:RW Tryz.prog E ops Q rest ((dst,v)::G) (enH be a z n m sv e++blk b c te::X)) (hx:ev G x=some (.pointer (some ⟨b,O,none⟩)):=by exact rfl) (hv:c[O]?=some v:=by exact rfl) (hd:bH d=false:=by exact rfl) (hN:Nat.blt dst E.N=true:=by exact rfl):
 RW Tryz.prog E ops Q (⟨some dst,.load t x,ty,pos,af,none⟩::rest) G (enH be a z n m sv e++blk b c te::X):=Gt hx hv hd hN k
theorem jx (hk:aE n m np e) {p:Int} (p0:0≤p) (p1:p < np):(e.pairs.map fx)[p.toNat]?=some (fx (e.pair p)):=by
 rw [List.getElem?_map,getD_some (d:=(0,0,false,0)) hk.pairs p0 p1];rfl
theorem ig {B O j:Nat} {p:Int} {u:Value} {t:TypeId} {d:TypeDesc} {zz:Value} {sz by_:Nat} [T:Ty Tryz.prog t d zz sz by_] (hk:aE n m np e) (hB:z.pA=some ⟨B,0,none⟩) (hx:ev G x=some (.pointer (some ⟨B,O,none⟩))) (hO:O=p.toNat * 4 + j) (p0:0≤p) (p1:p < np) (hu:(fx (e.pair p))[j]?=some u) (hd:bH d=false) (hN:Nat.blt dst E.N=true)
 (k:RW Tryz.prog E ops Q rest ((dst,u)::G) (enH be a z n m sv e++X)):RW Tryz.prog E ops Q (⟨some dst,.load t x,ty,pos,af,none⟩::rest) G (enH be a z n m sv e++X):=by
 obtain ⟨s,tx,first,iA,oA,bA,pA,ic,oc,bc,pc,np2⟩:=z;dsimp only at hB;subst hB;exact az [_,_,_,_,_,_,_,_,_,_,_,_,_,_] (i:=p.toNat) (j:=j) hx hO (jx hk p0 p1) hu hd hN k
theorem A9 {B O:Nat} {p:Int} (hk:aE n m np e) (hB:z.pA=some ⟨B,0,none⟩) (hx:ev G x=some (.pointer (some ⟨B,O,none⟩))) (hO:O=p.toNat * 4) (p0:0≤p) (p1:p < np) (hN:Nat.blt dst E.N=true)
 (k:RW Tryz.prog E ops Q rest ((dst,.agg (fx (e.pair p)).toArray)::G) (enH be a z n m sv e++X)):RW Tryz.prog E ops Q (⟨some dst,.load 148 x,ty,pos,af,none⟩::rest) G (enH be a z n m sv e++X):=by
 obtain ⟨s,tx,first,iA,oA,bA,pA,ic,oc,bc,pc,np2⟩:=z;dsimp only at hB;subst hB;exact oE [_,_,_,_,_,_,_,_,_,_,_,_,_,_] (i:=p.toNat) hx hO (jx hk p0 p1) rfl rfl hN k
theorem oG {B O:Nat} {p:Int} (hk:aE n m np e) (hB:z.pA=some ⟨B,0,none⟩) (hx:ev G x=some (.pointer (some ⟨B,O,none⟩))) (hO:O=p.toNat * 4 + 2) (hy:ev G y=some (.bool true)) (p0:0≤p) (p1:p < np)
 (k:RW Tryz.prog E ops Q rest G (enH be a z n m sv { e with pairs:=e.pairs.set p.toNat ((e.pair p).1,(e.pair p).2.1,true,(e.pair p).2.2.2) }++X)):RW Tryz.prog E ops Q (⟨none,.store 4 x y,ty,pos,af,none⟩::rest) G (enH be a z n m sv e++X):=by
 obtain ⟨s,tx,first,iA,oA,bA,pA,ic,oc,bc,pc,np2⟩:=z;dsimp only at hB;subst hB
 exact aM [_,_,_,_,_,_,_,_,_,_,_,_,_,_] (i:=p.toNat) (j:=2) hx hO hy rfl rfl (jx hk p0 p1) (Nat.lt_of_sub_eq_succ rfl) (by
  rw [show (e.pairs.map fx).set p.toNat ((fx (e.pair p)).set 2 (.bool true))=(e.pairs.set p.toNat ((e.pair p).1,(e.pair p).2.1,true,(e.pair p).2.2.2)).map fx by rw [List.map_set];rfl];exact k)
theorem ES.left {B O:Nat} {p u:Int} (hk:aE n m np e) (hB:z.pA=some ⟨B,0,none⟩) (hx:ev G x=some (.pointer (some ⟨B,O,none⟩))) (hO:O=p.toNat * 4 + 3) (hy:ev G y=some (.int .i64 u)) (p0:0≤p) (p1:p < np)
 (k:RW Tryz.prog E ops Q rest G (enH be a z n m sv { e with pairs:=e.pairs.set p.toNat ((e.pair p).1,(e.pair p).2.1,(e.pair p).2.2.1,u) }++X)):RW Tryz.prog E ops Q (⟨none,.store 3 x y,ty,pos,af,none⟩::rest) G (enH be a z n m sv e++X):=by
 obtain ⟨s,tx,first,iA,oA,bA,pA,ic,oc,bc,pc,np2⟩:=z;dsimp only at hB;subst hB
 exact aM [_,_,_,_,_,_,_,_,_,_,_,_,_,_] (i:=p.toNat) (j:=3) hx hO hy rfl rfl (jx hk p0 p1) (Nat.lt_of_sub_eq_succ rfl) (by
  rw [show (e.pairs.map fx).set p.toNat ((fx (e.pair p)).set 3 (.int .i64 u))=(e.pairs.set p.toNat ((e.pair p).1,(e.pair p).2.1,(e.pair p).2.2.1,u)).map fx by rw [List.map_set];rfl];exact k)
end
end
section
theorem CC {w0 w:World} {S:Nat→Prop} {pre r:List HP} {e:TypeId} {sz B n c i j:Nat} {es:List (List Value)} {cs:List Value} {v:Value} (h:St w0 S (pre++ax e sz (.slice (some ⟨B,0,none⟩) n c) es::r) w) (hi:es[i]?=some cs) (hj:cs[j]?=some v):mem w (fun b=>¬ No b) B (i * sz + j) v:=by
 have h2:=wQ h hi j v hj;obtain ⟨F,hp,hF⟩:=h.get;rcases hp with ⟨hp,_⟩ | ⟨B',c',tl,h1,h3,h4,h5⟩
 ·cases hp
 simp only [Value.slice.injEq,Option.some.injEq,Addr.mk.injEq] at h1;obtain ⟨⟨rfl,_⟩,_,_⟩:=h1;exact ⟨⟨fun hb=>hb,dy h4 _⟩,h2⟩
attribute [local irreducible] RW CW
theorem Az {be bm n:Nat} {x q k:Int} {w:World} (hb:mem w (fun b=>¬ No b) be 4 (slV bm n)) (hm:mem w (fun b=>¬ No b) bm q.toNat (.int .u8 x)) (q0:0≤q) (q1:q < n) (h1:1≤k) (h2:k≤4):
 Ret Tryz.prog 81 [aK be,.int .i64 q,.int .i64 k] w (.bool (En.bit x k)):=by
 have hle:=hq0 w;refine Calls.enter Tryz.func81 rfl _ rfl rfl (S:=No) (H:=[]) trivial ?_;refine Ja (Jd (Jb (Ja (Jc (Jf (Je ?_))))));refine ac rfl hle hb rfl rfl ?_;refine Jc ?_;refine aa rfl rfl rfl q0 q1 rfl ?_;refine ac (v:=.int .u8 x) rfl hle (by rw [Nat.mul_one,Nat.zero_add];exact hm) rfl rfl ?_;refine Jc ?_;refine eG rfl rfl (w64 (by omega) (by omega)) rfl ?_;refine BY rfl rfl (by omega) rfl rfl ?_;refine jp rfl rfl rfl rfl ?_;refine Ji (Jd (Jb ?_));exact aw rfl Tryz.results81 rfl rfl fun w hw=>⟨rfl,hw.kp⟩
section
variable {be n m np:Nat} {a:EAd} {z:ECs} {e:En} {q k:Int} {X:List HP}
theorem qJ {w0 w:World} {S:Nat→Prop} {sv:Value} (hw:St w0 S (enH be a z n m sv e++X) w) (hk:aE n m np e) (q0:0≤q) (q1:q < n) (h1:1≤k) (h2:k≤4):Ret Tryz.prog 81 [aK be,.int .i64 q,.int .i64 k] w (.bool (e.has q k)):=by
 refine Az (bm:=a.m) (gh (fun h=>h) (St.blk (pre:=[]) hw) 4 _ rfl) ?_ q0 q1 h1 h2;have h3:(e.marks.map gD)[q.toNat]?=some (gD (e.marks.getD q.toNat 0)):=by rw [List.getElem?_map,getD_some (d:=0) hk.marks q0 q1];rfl
 have:=CC (pre:=[_]) hw h3 (j:=0) rfl
 simpa using this
theorem eN (hn:n≤4096) (hk:aE n m np e) (q0:0≤q) (q1:q < n) (k0:1≤k) (k1:k≤4) {sv:Value} (w:World) (F:Nat→Prop) (hH:Sep (enH be a z n m sv e) w F):
 iT Tryz.prog 80 [aK be,.int .i64 q,.int .i64 k] w F (fun _:Value=>.tuple #[]) (fun sv2=>enH be a z n m sv2 (e.tell q k)):=by
 refine Calls.enter Tryz.func80 rfl _ rfl rfl (S:=F) (H:=enH be a z n m sv e++[]) hH ?_;refine ar ?_;refine Ja (Jc (Jc (Jc ?_)));refine aD Tryz.call81 rfl (fun w hw=>qJ hw hk q0 q1 k0 k1) rfl ?_;refine Jb ?_;refine ce rfl (fun hb=>?_) (fun hb=>?_)
 ·have he:e.tell q k=e:=by unfold En.tell;rw [if_pos hb]
  rw [he];exact aZ (rs:=[]) (vs:=[]) rfl Tryz.results80 rfl aL.nil fun w hw=>⟨sv,rfl,hw⟩
 have he:e.tell q k={ e with marks:=e.marks.set q.toNat (dT .u8 (e.marks.getD q.toNat 0) (kY .u8 1 (k - 1))),told:=e.told++[(q,k)],qd:=En.w64 (e.qd + 1),up:=En.w64 (e.up + 2) }:=by unfold En.tell;rw [if_neg (by simp [hb])]
 rw [he];have hmost:=hk.most;refine al (ah ?_);refine bR (by kernel_rfl) rfl ?_;refine Xc (Xf (Xe ?_));refine Aw (fun _ _=>Eh Dn) ?_;refine Xc ?_;refine Aw (fun _ _=>Ei Dn) ?_;refine Aw (fun _ _=>Ba (by assumption) rfl (by assumption) (by assumption) rfl Dn) ?_;refine Xc ?_;refine Aw (fun _ _=>eG rfl rfl (w64 (by omega) (by omega)) rfl Dn) ?_;refine Aw (fun _ _=>BZ rfl rfl (by omega) rfl rfl Dn) ?_;refine Aw (fun _ _=>B9 rfl rfl rfl rfl Dn) ?_;refine Aw (fun _ _=>Ei Dn) ?_;refine Aq fun bs=>?_;refine ES.marks (X:=[]) hk rfl rfl q0 q1 ?_;refine aq (ah ?_);refine Ja (Jc (Jc (Jf (Je ?_))));refine Eh ?_;refine Jc (Jc ?_);refine eQ (v:=.agg #[.int .i64 q,.int .i64 k]) rfl (fun w=>by kernel_rfl) rfl ?_;refine bW (e:=111) (c:=ku (q,k)) rfl (fun w=>by kernel_rfl) rfl fun b _=>?_;refine eS [_,_,_] (e:=111) (sz:=2) (news:=[ku (q,k)]) (zc:=[.int .i64 0,.int .i64 0]) rfl rfl rfl rfl rfl (by simp) (by simp [Value.oneCell']) (fun w hw hn=>?_) ?_ ?_ rfl fun u1=>?_
 ·exact ⟨b,0,rfl,a9 (St.blk (pre:=[]) hw)⟩
 ·rw [List.length_map];show (e.told.length + 1) * 16≤_;omega
 ·rw [List.length_map];show e.told.length + 1≤_;unfold dK;omega
 rw [show e.told.map ku++[ku (q,k)]=(e.told++[(q,k)]).map ku by rw [List.map_append];rfl];refine fY (φ:=∃ A nn c,u1=.slice A nn c) (fun w hw=>by obtain ⟨A,c,h,_⟩:=gC (pre:=[_,_,_]) hw;exact ⟨A,_,c,h⟩) (fun ⟨A,nn,c,hu⟩=>?_);refine mP (blk be (enC a z n m sv e.qd e.up) 73::enR a z n m u1 { e with marks:=e.marks.set q.toNat (dT .u8 (e.marks.getD q.toNat 0) (kY .u8 1 (k - 1))),told:=e.told++[(q,k)] }) (fun w A h=>lF h) ?_;refine Jf (Je ?_);refine bQ [] rfl rfl rfl (by rw [hu];rfl) (by rw [hu];rfl) (Nat.lt_of_sub_eq_succ rfl) ?_;refine mP (enH be a z n m u1 { e with marks:=e.marks.set q.toNat (dT .u8 (e.marks.getD q.toNat 0) (kY .u8 1 (k - 1))),told:=e.told++[(q,k)] }) (fun w A h=>h) ?_;refine Jb (Ja (Jc (Jf (Je (Je ?_)))));refine Eh ?_;refine cY rfl rfl rfl rfl ?_;refine Jf (Je (Je ?_));refine ES.qd (X:=[]) rfl rfl ?_;refine Jb ?_;refine aj ?_;refine Jc (Jf (Je (Je ?_)));refine Eh ?_;refine cY rfl rfl rfl rfl ?_;refine Jf (Je (Je ?_));refine ES.up (X:=[]) rfl rfl ?_;refine aq ?_;exact eC (rs:=[]) (vs:=[]) Tryz.results80 rfl aL.nil fun w hw=>⟨u1,rfl,hw⟩
end
end
section
attribute [local irreducible] RW CW
section
variable {be n m np:Nat} {a:EAd} {z:ECs} {e:En} {q k:Int} {X:List HP}
set_option maxHeartbeats 8000000 in
theorem eP (hn:n≤4096) (hk:aE n m np e) (q0:0≤q) (q1:q < n) {sv:Value} (w:World) (F:Nat→Prop) (hH:Sep (enH be a z n m sv e) w F):
 iT Tryz.prog 52 [aK be,.int .i64 q] w F (fun _:Value=>.tuple #[]) (fun sv2=>enH be a z n m sv2 (e.look q)):=by
 refine Calls.enter Tryz.func52 rfl _ rfl rfl (S:=F) (H:=enH be a z n m sv e++[]) hH ?_;unfold En.look;refine bf (ι:=Value) (fun _=>[(0,aK be),(1,.int .i64 q)]) (fun sv2=>enH be a z n m sv2 (e.look1 q)++[]) ?_ (fun sv2=>?_)
 ·refine Ja (Jc (Jc ?_))
  refine aD Tryz.call81 rfl (fun w hw=>qJ (k:=1) hw hk q0 q1 (by omega) (by omega)) rfl ?_;refine Jc ?_;refine j8 7 rfl (fun h1=>?_) (fun h1=>?_)
  ·(iterate 27 refine Jz ?_);refine Jv (Jb ?_)
   refine cn rfl ?_;refine aj ?_;refine Jc (Jc ?_);refine a8 (enH be a z n m sv e) Tryz.call80 rfl (fun w F _ hC _=>eN (k:=3) hn hk q0 q1 (by omega) (by omega) w F hC) rfl fun sv2=>?_;refine aq ?_;have e2:e.look1 q=e.tell q 3:=by unfold En.look1;rw [if_pos (by rw [h1];rfl)]
   rw [e2];exact aC sv2 ⟨rfl,rfl,trivial⟩ (fun h=>h)
  refine Jy (Jc ?_);refine Jy (Jf ?_);refine Jy (Je ?_);refine Jy ?_;refine Eh ?_;refine Jy (Jc ?_);refine Jy ?_;refine Ei ?_;refine Jy ?_;refine mU (by assumption) rfl (by assumption) (by assumption) rfl ?_;refine Jy (Jc ?_);refine j8 15 rfl (fun h2=>?_) (fun h2=>?_);rotate_left
  ·(iterate 8 refine Jz ?_);refine Jy (Jw ?_);refine Jy (Jc ?_);(iterate 8 refine Jz ?_);refine Jy (Jw (Jw (Jb ?_)))
   refine ch rfl ?_;refine al ?_;have e2:e.look1 q=e:=by unfold En.look1;rw [if_neg (by rw [h1,h2];simp)]
   rw [e2];exact aC sv ⟨rfl,rfl,trivial⟩ (fun h=>h)
  refine Jy (Jc ?_);refine Jy (Jf ?_);refine Jy (Je ?_);refine Jy ?_;refine Eh ?_;refine Jy (Jc ?_);refine Jy ?_;refine Ei ?_;refine Jy ?_;refine ur (by assumption) rfl (by assumption) (by assumption) rfl ?_;refine Jy (Ji ?_);refine Jy (Jv ?_);refine Jy (Jc ?_);refine aY 25 rfl (fun h3=>?_) (fun h3=>?_);rotate_left
  ·(iterate 8 refine Jz ?_);refine Jy (Jw (Jw (Jb ?_)))
   refine ch rfl ?_;refine al ?_;have e2:e.look1 q=e:=by unfold En.look1;rw [if_neg (by rw [h1,h2,show (e.opn.getD q.toNat 0 == 0)=false from beq_false_of_ne h3];simp)]
   rw [e2];exact aC sv ⟨rfl,rfl,trivial⟩ (fun h=>h)
  refine Jy (Jc ?_);refine Jy (Jf ?_);refine Jy (Je ?_);refine Jy ?_;refine Eh ?_;refine Jy (Jc ?_);refine Jy ?_;refine Ei ?_;refine Jy ?_;refine iV (by assumption) rfl (by assumption) (by assumption) rfl ?_;refine Jy (Ji ?_);refine Jy (Jv (Jw (Jb ?_)));refine ay rfl (fun h4=>?_) (fun h4=>?_);rotate_left
  ·refine al ?_
   have e2:e.look1 q=e:=by unfold En.look1;rw [if_neg (by rw [h1,h2,show (e.opn.getD q.toNat 0 == 0)=true from beq_iff_eq.2 h3,show (e.attacks.getD q.toNat 0 == 0)=false from beq_false_of_ne h4];simp)]
   rw [e2];exact aC sv ⟨rfl,rfl,trivial⟩ (fun h=>h)
  refine aj ?_;refine Jc (Jc ?_);refine a8 (enH be a z n m sv e) Tryz.call80 rfl (fun w F _ hC _=>eN (k:=3) hn hk q0 q1 (by omega) (by omega) w F hC) rfl fun sv2=>?_;refine aq ?_;have e2:e.look1 q=e.tell q 3:=by unfold En.look1;rw [if_pos (by rw [h1,h2,show (e.opn.getD q.toNat 0 == 0)=true from beq_iff_eq.2 h3,show (e.attacks.getD q.toNat 0 == 0)=true from beq_iff_eq.2 h4];rfl)]
  rw [e2];exact aC sv2 ⟨rfl,rfl,trivial⟩ (fun h=>h)
 have hk1:=hk.look1 hn q0 q1;generalize e.look1 q=e1 at *;clear hk;refine Ja (Jc (Jc ?_));refine aD Tryz.call81 rfl (fun w hw=>qJ (k:=2) hw hk1 q0 q1 (by omega) (by omega)) rfl ?_;refine Jc ?_;refine j8 42 rfl (fun h1=>?_) (fun h1=>?_);rotate_left
 ·(iterate 26 refine Jz ?_);refine Jw (Jb ?_)
  refine ch rfl ?_;refine al ?_;have e2:e1.look2 q=e1:=by unfold En.look2;rw [if_neg (by rw [h1];simp)]
  rw [e2];exact eC (rs:=[]) (vs:=[]) Tryz.results52 rfl aL.nil fun w hw=>⟨sv2,rfl,hw⟩
 refine Jy (Jc ?_);refine Jy (Jf ?_);refine Jy (Je ?_);refine Jy ?_;refine Eh ?_;refine Jy (Jc ?_);refine Jy ?_;refine Ei ?_;refine Jy ?_;refine iU (by assumption) rfl (by assumption) (by assumption) rfl ?_;refine Jy (Ji ?_);refine Jy (Jc ?_);refine aY 51 rfl (fun h2=>?_) (fun h2=>?_)
 ·(iterate 7 refine Jz ?_);refine Jy (Jv ?_);refine Jy (Jc ?_);(iterate 7 refine Jz ?_);refine Jy (Jv (Jv (Jb ?_)))
  refine cn rfl ?_;refine aj ?_;refine Jc (Jc ?_);refine a8 (enH be a z n m sv2 e1) Tryz.call80 rfl (fun w F _ hC _=>eN (k:=4) hn hk1 q0 q1 (by omega) (by omega) w F hC) rfl fun sv3=>?_;refine aq ?_;have e2:e1.look2 q=e1.tell q 4:=by unfold En.look2;rw [if_pos (by rw [h1,show (e1.backs.getD q.toNat 0 == 0)=true from beq_iff_eq.2 h2];simp)]
  rw [e2];exact eC (rs:=[]) (vs:=[]) Tryz.results52 rfl aL.nil fun w hw=>⟨sv3,rfl,hw⟩
 refine Jy (Jc ?_);refine Jy (Jf ?_);refine Jy (Je ?_);refine Jy ?_;refine Eh ?_;refine Jy (Jc ?_);refine Jy ?_;refine Ei ?_;refine Jy ?_;refine lH (by assumption) rfl (by assumption) (by assumption) rfl ?_;refine Jy (Jw ?_);refine Jy (Jc ?_);refine j8 60 rfl (fun h3=>?_) (fun h3=>?_)
 ·(iterate 7 refine Jz ?_);refine Jy (Jv (Jv (Jb ?_)))
  refine cn rfl ?_;refine aj ?_;refine Jc (Jc ?_);refine a8 (enH be a z n m sv2 e1) Tryz.call80 rfl (fun w F _ hC _=>eN (k:=4) hn hk1 q0 q1 (by omega) (by omega) w F hC) rfl fun sv3=>?_;refine aq ?_;have e2:e1.look2 q=e1.tell q 4:=by unfold En.look2;rw [if_pos (by rw [h1,show (e1.backs.getD q.toNat 0 == 0)=false from beq_false_of_ne h2,h3];simp)]
  rw [e2];exact eC (rs:=[]) (vs:=[]) Tryz.results52 rfl aL.nil fun w hw=>⟨sv3,rfl,hw⟩
 refine Jy (Jc ?_);refine Jy (Jf ?_);refine Jy (Je ?_);refine Jy ?_;refine Eh ?_;refine Jy (Jc ?_);refine Jy ?_;refine Ei ?_;refine Jy ?_;refine mS (by assumption) rfl (by assumption) (by assumption) rfl ?_;refine Jy (Jw (Jv (Jb ?_)));refine ce rfl (fun h4=>?_) (fun h4=>?_)
 ·refine aj ?_
  refine Jc (Jc ?_);refine a8 (enH be a z n m sv2 e1) Tryz.call80 rfl (fun w F _ hC _=>eN (k:=4) hn hk1 q0 q1 (by omega) (by omega) w F hC) rfl fun sv3=>?_;refine aq ?_;have e2:e1.look2 q=e1.tell q 4:=by unfold En.look2;rw [if_pos (by rw [h1,show (e1.backs.getD q.toNat 0 == 0)=false from beq_false_of_ne h2,h3,h4];simp)]
  rw [e2];exact eC (rs:=[]) (vs:=[]) Tryz.results52 rfl aL.nil fun w hw=>⟨sv3,rfl,hw⟩
 refine al ?_;have e2:e1.look2 q=e1:=by unfold En.look2;rw [if_neg (by rw [h1,show (e1.backs.getD q.toNat 0 == 0)=false from beq_false_of_ne h2,h3,h4];simp)]
 rw [e2];exact eC (rs:=[]) (vs:=[]) Tryz.results52 rfl aL.nil fun w hw=>⟨sv2,rfl,hw⟩
end
end
section
section
variable {n m np:Nat} {e:En} {q k p r v:Int}
theorem aE.pair (h:aE n m np e) (p0:0≤p) (p1:p < np):(0≤(e.pair p).1∧(e.pair p).1 < n)∧(0≤(e.pair p).2.1∧(e.pair p).2.1 < m):=h.pr _ (dw (d:=(0,0,false,0)) h.pairs p0 p1)
theorem aE.settle1 (h:aE n m np e) (p0:0≤p) (p1:p < np):aE n m np { e with pairs:=e.pairs.set p.toNat ((e.pair p).1,(e.pair p).2.1,true,(e.pair p).2.2.2) }:=
 ⟨h.marks,h.needD,h.need,h.deadD,h.dead,h.strict,h.backs,h.backed,h.opn,h.clash,h.attacks,h.standing,by simp [h.pairs],h.mks,fun x hx=>(List.mem_or_eq_of_mem_set hx).elim (h.pr x) (fun hx=>by subst hx;exact h.pair p0 p1),h.td,h.cnt,h.qd⟩
theorem aE.left1 (h:aE n m np e) (p0:0≤p) (p1:p < np):aE n m np { e with pairs:=e.pairs.set p.toNat ((e.pair p).1,(e.pair p).2.1,(e.pair p).2.2.1,v) }:=
 ⟨h.marks,h.needD,h.need,h.deadD,h.dead,h.strict,h.backs,h.backed,h.opn,h.clash,h.attacks,h.standing,by simp [h.pairs],h.mks,fun x hx=>(List.mem_or_eq_of_mem_set hx).elim (h.pr x) (fun hx=>by subst hx;exact h.pair p0 p1),h.td,h.cnt,h.qd⟩
theorem aE.needD1 (h:aE n m np e) (i:Nat) (u:Int):aE n m np { e with needD:=e.needD.set i u }:=⟨h.marks,by simp [h.needD],h.need,h.deadD,h.dead,h.strict,h.backs,h.backed,h.opn,h.clash,h.attacks,h.standing,h.pairs,h.mks,h.pr,h.td,h.cnt,h.qd⟩
theorem aE.need1 (h:aE n m np e) (i:Nat) (u:Int):aE n m np { e with need:=e.need.set i u }:=⟨h.marks,h.needD,by simp [h.need],h.deadD,h.dead,h.strict,h.backs,h.backed,h.opn,h.clash,h.attacks,h.standing,h.pairs,h.mks,h.pr,h.td,h.cnt,h.qd⟩
theorem aE.deadD1 (h:aE n m np e) (i:Nat) (u:Bool):aE n m np { e with deadD:=e.deadD.set i u }:=⟨h.marks,h.needD,h.need,by simp [h.deadD],h.dead,h.strict,h.backs,h.backed,h.opn,h.clash,h.attacks,h.standing,h.pairs,h.mks,h.pr,h.td,h.cnt,h.qd⟩
theorem aE.dead1 (h:aE n m np e) (i:Nat) (u:Bool):aE n m np { e with dead:=e.dead.set i u }:=⟨h.marks,h.needD,h.need,h.deadD,by simp [h.dead],h.strict,h.backs,h.backed,h.opn,h.clash,h.attacks,h.standing,h.pairs,h.mks,h.pr,h.td,h.cnt,h.qd⟩
theorem aE.strict1 (h:aE n m np e) (i:Nat) (u:Int):aE n m np { e with strict:=e.strict.set i u }:=⟨h.marks,h.needD,h.need,h.deadD,h.dead,by simp [h.strict],h.backs,h.backed,h.opn,h.clash,h.attacks,h.standing,h.pairs,h.mks,h.pr,h.td,h.cnt,h.qd⟩
theorem aE.backs1 (h:aE n m np e) (i:Nat) (u:Int):aE n m np { e with backs:=e.backs.set i u }:=⟨h.marks,h.needD,h.need,h.deadD,h.dead,h.strict,by simp [h.backs],h.backed,h.opn,h.clash,h.attacks,h.standing,h.pairs,h.mks,h.pr,h.td,h.cnt,h.qd⟩
theorem aE.backed1 (h:aE n m np e) (i:Nat) (u:Bool):aE n m np { e with backed:=e.backed.set i u }:=⟨h.marks,h.needD,h.need,h.deadD,h.dead,h.strict,h.backs,by simp [h.backed],h.opn,h.clash,h.attacks,h.standing,h.pairs,h.mks,h.pr,h.td,h.cnt,h.qd⟩
theorem aE.opn1 (h:aE n m np e) (i:Nat) (u:Int):aE n m np { e with opn:=e.opn.set i u }:=⟨h.marks,h.needD,h.need,h.deadD,h.dead,h.strict,h.backs,h.backed,by simp [h.opn],h.clash,h.attacks,h.standing,h.pairs,h.mks,h.pr,h.td,h.cnt,h.qd⟩
theorem aE.clash1 (h:aE n m np e) (i:Nat) (u:Bool):aE n m np { e with clash:=e.clash.set i u }:=⟨h.marks,h.needD,h.need,h.deadD,h.dead,h.strict,h.backs,h.backed,h.opn,by simp [h.clash],h.attacks,h.standing,h.pairs,h.mks,h.pr,h.td,h.cnt,h.qd⟩
theorem aE.attacks1 (h:aE n m np e) (i:Nat) (u:Int):aE n m np { e with attacks:=e.attacks.set i u }:=⟨h.marks,h.needD,h.need,h.deadD,h.dead,h.strict,h.backs,h.backed,h.opn,h.clash,by simp [h.attacks],h.standing,h.pairs,h.mks,h.pr,h.td,h.cnt,h.qd⟩
theorem aE.standing1 (h:aE n m np e) (i:Nat) (u:Bool):aE n m np { e with standing:=e.standing.set i u }:=⟨h.marks,h.needD,h.need,h.deadD,h.dead,h.strict,h.backs,h.backed,h.opn,h.clash,h.attacks,by simp [h.standing],h.pairs,h.mks,h.pr,h.td,h.cnt,h.qd⟩
theorem aE.settle (hn:n≤4096) (h:aE n m np e) (p0:0≤p) (p1:p < np):aE n m np (e.settle p):=by
 unfold En.settle;split
 ·exact h
 ·exact aE.look hn (aE.ups ((h.settle1 p0 p1).attacks1 _ _)) (h.pair p0 p1).1.1 (h.pair p0 p1).1.2
theorem aE.stand (hn:n≤4096) (h:aE n m np e) (p0:0≤p) (p1:p < np):aE n m np (e.stand p):=by
 unfold En.stand;split
 ·exact aE.look hn (aE.ups (h.standing1 _ _)) (h.pair p0 p1).1.1 (h.pair p0 p1).1.2
 ·exact h
end
attribute [local irreducible] RW CW
section
variable {be n m np:Nat} {a:EAd} {z:ECs} {e:En} {q k p:Int} {X:List HP}
set_option maxHeartbeats 8000000 in
theorem nI (hn:n≤4096) (hk:aE n m np e) {B:Nat} (hB:z.pA=some ⟨B,0,none⟩) (hz:z.np=np) (p0:0≤p) (p1:p < np) {sv:Value} (w:World) (F:Nat→Prop) (hH:Sep (enH be a z n m sv e) w F):
 iT Tryz.prog 86 [aK be,.int .i64 p] w F (fun _:Value=>.tuple #[]) (fun sv2=>enH be a z n m sv2 (e.settle p)):=by
 refine Calls.enter Tryz.func86 rfl _ rfl rfl (S:=F) (H:=enH be a z n m sv e++[]) hH ?_;obtain ⟨⟨q0,q1⟩,s0,s1⟩:=hk.pair p0 p1;refine Ja (Jc (Jf (Je ?_)));refine Eh ?_;refine Jc ?_;refine aa hB rfl rfl p0 (by rw [hz];exact p1) rfl ?_;refine Jd (Jb ?_);refine ar ?_;refine Ja (Jc (Jf (Je ?_)));refine ig (j:=2) hk hB rfl (by omega) p0 p1 rfl rfl rfl ?_;refine Jb ?_;refine ce rfl (fun hb=>?_) (fun hb=>?_)
 ·have he:e.settle p=e:=by unfold En.settle;rw [if_pos hb]
  rw [he];exact aZ (rs:=[]) (vs:=[]) rfl Tryz.results86 rfl aL.nil fun w hw=>⟨sv,rfl,hw⟩
 have he:e.settle p=(({ e with pairs:=e.pairs.set p.toNat ((e.pair p).1,(e.pair p).2.1,true,(e.pair p).2.2.2),attacks:=En.dec e.attacks (e.pair p).1 }).ups 2).look (e.pair p).1:=by unfold En.settle;rw [if_neg (by simp [hb])]
 rw [he];refine al (ah ?_);refine Ja (Jc (Jf (Je ?_)));refine oG (X:=[]) hk hB rfl (by omega) rfl p0 p1 ?_;refine aq (ah ?_);have hk2:=hk.settle1 p0 p1
 have hp2:({ e with pairs:=e.pairs.set p.toNat ((e.pair p).1,(e.pair p).2.1,true,(e.pair p).2.2.2) }:En).pair p=((e.pair p).1,(e.pair p).2.1,true,(e.pair p).2.2.2):=by
  show (e.pairs.set p.toNat _).getD p.toNat (0,0,false,0)=_;rw [List.getD_eq_getElem?_getD,List.getElem?_set_self (by rw [hk.pairs];omega)]
  rfl
 have hu1:(fx (({ e with pairs:=e.pairs.set p.toNat ((e.pair p).1,(e.pair p).2.1,true,(e.pair p).2.2.2) }:En).pair p))[0]?=some (.int .i64 (e.pair p).1):=by rw [hp2];rfl
 refine bR (by kernel_rfl) rfl ?_;refine Xc (Xf (Xe ?_));refine Aw (fun _ _=>Eh Dn) ?_;refine Xc (Xf (Xe ?_));refine Aw (fun _ _=>ig (j:=0) hk2 hB rfl (by omega) p0 p1 hu1 rfl rfl Dn) ?_;refine Aw (fun _ _=>Ei Dn) ?_;refine Aw (fun _ _=>iV (by assumption) rfl (by assumption) (by assumption) rfl Dn) ?_;refine Aw (fun _ _=>eG rfl rfl rfl rfl Dn) ?_;refine Aw (fun _ _=>Ei Dn) ?_;refine Aq fun bs=>?_;refine ES.attacks (X:=[]) hk2 rfl rfl q0 q1 ?_;refine aq (ah ?_);refine Ja (Jc (Jf (Je (Je ?_))));refine Eh ?_;refine cY rfl rfl rfl rfl ?_;refine Jf (Je (Je ?_));refine ES.up (X:=[]) rfl rfl ?_;refine Jb ?_;refine aj ?_;have hk3:=aE.ups (v:=2) (hk2.attacks1 (e.pair p).1.toNat (IntKind.i64.wrap (e.attacks.getD (e.pair p).1.toNat 0 - 1)));refine Jc (Jc (Jf (Je ?_)));refine ig (j:=0) hk3 hB rfl (by omega) p0 p1 hu1 rfl rfl ?_
 skip
 refine a8 (enH be a z n m sv _) Tryz.call52 rfl (fun w F _ hC _=>eP hn hk3 q0 q1 w F hC) rfl fun sv3=>?_;refine aq ?_;exact eC (rs:=[]) (vs:=[]) Tryz.results86 rfl aL.nil fun w hw=>⟨sv3,rfl,hw⟩
end
end
section
attribute [local irreducible] RW CW
section
variable {be n m np:Nat} {a:EAd} {z:ECs} {e:En} {q k p r:Int} {X:List HP}
set_option maxHeartbeats 8000000 in
theorem pL (hn:n≤4096) (hk:aE n m np e) {B:Nat} (hB:z.pA=some ⟨B,0,none⟩) (hz:z.np=np) (p0:0≤p) (p1:p < np) {sv:Value} (w:World) (F:Nat→Prop) (hH:Sep (enH be a z n m sv e) w F):
 iT Tryz.prog 87 [aK be,.int .i64 p] w F (fun _:Value=>.tuple #[]) (fun sv2=>enH be a z n m sv2 (e.stand p)):=by
 refine Calls.enter Tryz.func87 rfl _ rfl rfl (S:=F) (H:=enH be a z n m sv e++[]) hH ?_;obtain ⟨⟨q0,q1⟩,s0,s1⟩:=hk.pair p0 p1;refine Ja (Jc (Jf (Je ?_)));refine Eh ?_;refine Jc ?_;refine aa hB rfl rfl p0 (by rw [hz];exact p1) rfl ?_;refine A9 hk hB rfl (by omega) p0 p1 rfl ?_;generalize hx:e.pair p=x at *;obtain ⟨xq,xs,xb,xn⟩:=x;dsimp only at q0 q1 s0 s1;refine cH (c:=[.int .i64 0,.int .i64 0,.bool false,.int .i64 0]) rfl rfl fun b4 _=>?_;refine aX [] (vs:=fx (xq,xs,xb,xn)) rfl rfl rfl rfl rfl (by simp [Value.oneCell']) ?_;refine mP (enH be a z n m sv e++[blk b4 (fx (xq,xs,xb,xn)) 148]) (fun w A h=>Sep.perm List.perm_middle.symm (by simpa using h)) ?_;refine aq (ah ?_)
 have done:∀ {G0:List (Nat × Value)} {sv3:Value} {e3:En},e.stand p=e3→PW ⟨Tryz.f87.ntmps,[],w,F⟩ (Du Tryz.prog Tryz.f87 (fun e' w'=>∃ x,e'=.returned (.tuple #[])∧St w F (enH be a z n m x (e.stand p)) w')) G0 (enH be a z n m sv3 e3++[blk b4 (fx (xq,xs,xb,xn)) 148]):=fun {G0 sv3 e3} h=>by
  rw [h];exact eC (rs:=[]) (vs:=[]) Tryz.results87 rfl aL.nil fun w hw=>⟨sv3,rfl,hw.sub (List.sublist_append_left _ _)⟩
 by_cases h1:e.need.getD xs.toNat 0=0;rotate_left
 ·refine bR (by kernel_rfl) rfl ?_
  refine Xc (Xf (Xe ?_));refine Aw (fun _ _=>Eh Dn) ?_;refine Xe ?_;refine Aw (fun _ _=>El Dn) ?_;refine Aw (fun _ _=>Ei Dn) ?_;refine Aw (fun _ _=>mT (by assumption) rfl (by assumption) (by assumption) rfl Dn) ?_;refine Aw (fun _ _=>Ji Dn) ?_;refine Xc ?_;rw [decide_eq_false h1]
  (iterate 3 refine Aw (fun _ _=>Jz Dn) ?_);refine Aw (fun _ _=>Jw Dn) ?_;refine Xc ?_;(iterate 9 refine Aw (fun _ _=>Jz Dn) ?_);refine Aw (fun _ _=>Jw Dn) ?_
  refine Aq fun bs=>?_;refine aq (ah ?_);refine ch rfl ?_;refine al ?_;refine done ?_;unfold En.stand;rw [hx,if_neg (by simp only [beq_false_of_ne h1];simp)]
 by_cases h2:xn=0;rotate_left
 ·refine bR (by kernel_rfl) rfl ?_
  refine Xc (Xf (Xe ?_));refine Aw (fun _ _=>Eh Dn) ?_;refine Xe ?_;refine Aw (fun _ _=>El Dn) ?_;refine Aw (fun _ _=>Ei Dn) ?_;refine Aw (fun _ _=>mT (by assumption) rfl (by assumption) (by assumption) rfl Dn) ?_;refine Aw (fun _ _=>Ji Dn) ?_;refine Xc ?_;rw [decide_eq_true h1];refine Aw (fun _ _=>aJ rfl (Je Dn)) ?_;refine Aw (fun _ _=>aJ rfl (El Dn)) ?_;refine Aw (fun _ _=>aJ rfl (Ji Dn)) ?_;refine Aw (fun _ _=>Jv Dn) ?_;refine Xc ?_;rw [decide_eq_false h2]
  (iterate 9 refine Aw (fun _ _=>Jz Dn) ?_);refine Aw (fun _ _=>Jw Dn) ?_
  refine Aq fun bs=>?_;refine aq (ah ?_);refine ch rfl ?_;refine al ?_;refine done ?_;unfold En.stand;rw [hx,if_neg (by simp only [beq_false_of_ne h2];simp)]
 refine bR (by kernel_rfl) rfl ?_;refine Xc (Xf (Xe ?_));refine Aw (fun _ _=>Eh Dn) ?_;refine Xe ?_;refine Aw (fun _ _=>El Dn) ?_;refine Aw (fun _ _=>Ei Dn) ?_;refine Aw (fun _ _=>mT (by assumption) rfl (by assumption) (by assumption) rfl Dn) ?_;refine Aw (fun _ _=>Ji Dn) ?_;refine Xc ?_;rw [decide_eq_true h1];refine Aw (fun _ _=>aJ rfl (Je Dn)) ?_;refine Aw (fun _ _=>aJ rfl (El Dn)) ?_;refine Aw (fun _ _=>aJ rfl (Ji Dn)) ?_;refine Aw (fun _ _=>Jv Dn) ?_;refine Xc ?_;rw [decide_eq_true h2];refine Aw (fun _ _=>aJ rfl (Jc Dn)) ?_;refine Aw (fun _ _=>aJ rfl (Jf Dn)) ?_;refine Aw (fun _ _=>aJ rfl (Je Dn)) ?_;refine uu rfl (fun _ _=>by refine aJ rfl ?_;refine Eh ?_;exact cD rfl) ?_;refine Aw (fun _ _=>aJ rfl (Je Dn)) ?_;refine Aw (fun _ _=>aJ rfl (El Dn)) ?_;refine uu rfl (fun _ _=>by refine aJ rfl ?_;refine Ei ?_;exact cD rfl) ?_;refine uu rfl (fun _ _=>by refine aJ rfl ?_;refine mS (by assumption) rfl (by assumption) (by assumption) rfl ?_;exact cD rfl) ?_;refine Aw (fun _ _=>aJ rfl (Js Dn)) ?_;refine Aw (fun _ _=>Jv Dn) ?_;refine Aq fun bs=>?_;refine aq (ah ?_);refine ce rfl (fun h3=>?_) (fun h3=>?_);rotate_left
 ·refine al ?_
  refine done ?_;unfold En.stand;rw [hx,if_neg (by simp only [Bool.not_eq_false'] at h3;rw [h3];simp)]
 rw [Bool.not_eq_true'] at h3;refine bR (by kernel_rfl) rfl ?_;refine Xc (Xf (Xe ?_));refine Aw (fun _ _=>Eh Dn) ?_;refine Xe ?_;refine Aw (fun _ _=>El Dn) ?_;refine Aw (fun _ _=>Ei Dn) ?_;refine Aq fun bs2=>?_;refine ES.standing (X:=[blk b4 (fx (xq,xs,xb,xn)) 148]) hk rfl rfl q0 q1 ?_;refine aq (ah ?_);refine Ja (Jc (Jf (Je (Je ?_))));refine Eh ?_;refine cY rfl rfl rfl rfl ?_;refine Jf (Je (Je ?_));refine ES.up (X:=[blk b4 (fx (xq,xs,xb,xn)) 148]) rfl rfl ?_;refine Jb ?_;refine aj ?_;refine Jc (Je ?_);refine El ?_;have hk3:=aE.ups (v:=1) (hk.standing1 xq.toNat true);refine a8 (enH be a z n m sv _) Tryz.call52 rfl (fun w F _ hC _=>eP hn hk3 q0 q1 w F hC) rfl fun sv3=>?_;refine aq ?_;refine done ?_;unfold En.stand;rw [hx,if_pos (by rw [h3];simp only [beq_iff_eq.2 h1,beq_iff_eq.2 h2];rfl)]
end
end
section
attribute [local irreducible] RW CW
section
variable {be n m np:Nat} {a:EAd} {z:ECs} {e:En} {q k p r:Int} {X:List HP}
theorem lP {w0 w:World} {S:Nat→Prop} {sv:Value} (hw:St w0 S (enH be a z n m sv e++X) w) (hz:sT (mem w (fun b=>¬ No b)) n m z) (hs:fJ n m np z.s) (r0:0≤r) (r1:r < m):
 Ret Tryz.prog 79 [aK be,.int .i64 r] w (.bool (cZ z.s.t r)):=by
 have hle:=hq0 w;obtain ⟨B,O,A,c,hA,hm,_,_⟩:=bz hz.th r0 (by rw [hs.rules];exact r1);have hb:=gh (ok:=fun b=>¬ No b) (fun h=>h) (St.blk (pre:=[]) hw) 2 _ rfl;have hr:=hs.rules;refine Calls.enter Tryz.func79 rfl _ rfl rfl (S:=No) (H:=[]) trivial ?_;refine Ja (Jd (Jb (Ja (Jc (Jf (Je (Je ?_)))))));refine ac rfl hle hb rfl rfl ?_;refine Jc ?_;refine aa hA rfl rfl r0 (by rw [hr];exact r1) rfl ?_;refine Je ?_;refine ac rfl hle (hm 0 _ rfl) rfl rfl ?_;refine Jj (Jd (Jb ?_));refine aw rfl Tryz.results79 rfl rfl fun w hw=>⟨congrArg (fun b=>Ending.returned (.bool b)) (by rw [Bool.eq_iff_iff];simp [cZ]),hw.kp⟩
set_option maxHeartbeats 8000000 in
theorem uY (hk:aE n m np e) (hs:fJ n m np z.s) (r0:0≤r) (r1:r < m) {sv:Value} (w:World) (F:Nat→Prop) (hz:sT (mem w (fun b=>¬ F b)) n m z) (hH:Sep (enH be a z n m sv e) w F):
 iT Tryz.prog 83 [aK be,slV a.nd m,.int .i64 r] w F (fun _:Unit=>.bool (decide ((En.lowerD z.s e r).needD.getD r.toNat 0=0))) (fun _=>enH be a z n m sv (En.lowerD z.s e r)):=by
 have hle:Mem.le (mem w (fun b=>¬ F b)) (mem w (fun b=>¬ F b)):=Mem.le_refl _;obtain ⟨B,O,A,c,hA,hm,hl,_⟩:=bz hz.th r0 (by rw [hs.rules];exact r1);have hr:=hs.rules;have hsm:=aP hl;unfold br at hsm;refine Calls.enter Tryz.func83 rfl _ rfl rfl (S:=F) (H:=enH be a z n m sv e++[]) hH ?_;refine Ja (Jd (Jb (Ja (Jc (Jc ?_)))));refine Ei ?_;refine ut (by assumption) rfl (by assumption) (by assumption) rfl ?_;refine eG rfl rfl rfl rfl ?_;refine Ei ?_;refine ES.needD (X:=[]) hk rfl rfl r0 r1 ?_;refine aq (ah ?_);have hk2:=hk.needD1 r.toNat (IntKind.i64.wrap (e.needD.getD r.toNat 0 - 1));have hk3:aE n m np (En.lowerD z.s e r):=by unfold En.lowerD En.upL;split <;> first | exact hk2.ups | exact hk2
 refine bf (ι:=Unit) (fun _=>[(0,aK be),(1,slV a.nd m),(2,.int .i64 r)]) (fun _=>enH be a z n m sv (En.lowerD z.s e r)++[]) ?_ (fun _=>?_)
 ·refine Ja (Jc (Jf (Je (Je ?_))));refine Eh ?_;refine Jc ?_
  refine aa hA rfl rfl r0 (by rw [hr];exact r1) rfl ?_;refine Je ?_;refine ac rfl hle (hm 2 _ rfl) rfl rfl ?_;refine Jg (Jm (Jb ?_));refine ay rfl (fun hlong=>?_) (fun hlong=>?_)
  ·have e2:En.lowerD z.s e r=({ e with needD:=En.dec e.needD r }:En).ups 1:=by unfold En.lowerD En.upL En.long;rw [if_pos (decide_eq_true (by omega))]
   refine aj ?_;refine Jc (Jf (Je (Je ?_)));refine Eh ?_;refine cY rfl rfl rfl rfl ?_;refine Jf (Je (Je ?_));refine ES.up (X:=[]) rfl rfl ?_;refine aq ?_;rw [e2];exact aC () ⟨rfl,rfl,rfl,trivial⟩ (fun h=>h)
  ·have e2:En.lowerD z.s e r=({ e with needD:=En.dec e.needD r }:En):=by unfold En.lowerD En.upL En.long;rw [if_neg (by rw [decide_eq_true_iff];omega)]
   refine al ?_;rw [e2];exact aC () ⟨rfl,rfl,rfl,trivial⟩ (fun h=>h)
 generalize En.lowerD z.s e r=e2 at *;refine Ja (Jc (Jc ?_));refine Ei ?_;refine ut (by assumption) rfl (by assumption) (by assumption) rfl ?_;refine Ji (Jd (Jb ?_));exact aw rfl Tryz.results83 rfl rfl fun w hw=>⟨(),rfl,hw⟩
set_option maxHeartbeats 8000000 in
theorem xm (hk:aE n m np e) (hs:fJ n m np z.s) (r0:0≤r) (r1:r < m) {sv:Value} (w:World) (F:Nat→Prop) (hz:sT (mem w (fun b=>¬ F b)) n m z) (hH:Sep (enH be a z n m sv e) w F):
 iT Tryz.prog 83 [aK be,slV a.nn m,.int .i64 r] w F (fun _:Unit=>.bool (decide ((En.lower z.s e r).need.getD r.toNat 0=0))) (fun _=>enH be a z n m sv (En.lower z.s e r)):=by
 have hle:Mem.le (mem w (fun b=>¬ F b)) (mem w (fun b=>¬ F b)):=Mem.le_refl _;obtain ⟨B,O,A,c,hA,hm,hl,_⟩:=bz hz.th r0 (by rw [hs.rules];exact r1);have hr:=hs.rules;have hsm:=aP hl;unfold br at hsm;refine Calls.enter Tryz.func83 rfl _ rfl rfl (S:=F) (H:=enH be a z n m sv e++[]) hH ?_;refine Ja (Jd (Jb (Ja (Jc (Jc ?_)))));refine Ei ?_;refine mT (by assumption) rfl (by assumption) (by assumption) rfl ?_;refine eG rfl rfl rfl rfl ?_;refine Ei ?_;refine ES.need (X:=[]) hk rfl rfl r0 r1 ?_;refine aq (ah ?_);have hk2:=hk.need1 r.toNat (IntKind.i64.wrap (e.need.getD r.toNat 0 - 1));have hk3:aE n m np (En.lower z.s e r):=by unfold En.lower En.upL;split <;> first | exact hk2.ups | exact hk2
 refine bf (ι:=Unit) (fun _=>[(0,aK be),(1,slV a.nn m),(2,.int .i64 r)]) (fun _=>enH be a z n m sv (En.lower z.s e r)++[]) ?_ (fun _=>?_)
 ·refine Ja (Jc (Jf (Je (Je ?_))));refine Eh ?_;refine Jc ?_
  refine aa hA rfl rfl r0 (by rw [hr];exact r1) rfl ?_;refine Je ?_;refine ac rfl hle (hm 2 _ rfl) rfl rfl ?_;refine Jg (Jm (Jb ?_));refine ay rfl (fun hlong=>?_) (fun hlong=>?_)
  ·have e2:En.lower z.s e r=({ e with need:=En.dec e.need r }:En).ups 1:=by unfold En.lower En.upL En.long;rw [if_pos (decide_eq_true (by omega))]
   refine aj ?_;refine Jc (Jf (Je (Je ?_)));refine Eh ?_;refine cY rfl rfl rfl rfl ?_;refine Jf (Je (Je ?_));refine ES.up (X:=[]) rfl rfl ?_;refine aq ?_;rw [e2];exact aC () ⟨rfl,rfl,rfl,trivial⟩ (fun h=>h)
  ·have e2:En.lower z.s e r=({ e with need:=En.dec e.need r }:En):=by unfold En.lower En.upL En.long;rw [if_neg (by rw [decide_eq_true_iff];omega)]
   refine al ?_;rw [e2];exact aC () ⟨rfl,rfl,rfl,trivial⟩ (fun h=>h)
 generalize En.lower z.s e r=e2 at *;refine Ja (Jc (Jc ?_));refine Ei ?_;refine mT (by assumption) rfl (by assumption) (by assumption) rfl ?_;refine Ji (Jd (Jb ?_));exact aw rfl Tryz.results83 rfl rfl fun w hw=>⟨(),rfl,hw⟩
def En.killD (s:Es) (e:En) (r:Int):En:=({ e with deadD:=e.deadD.set r.toNat true }:En).upL s r
set_option maxHeartbeats 8000000 in
theorem xH (hk:aE n m np e) (hs:fJ n m np z.s) (r0:0≤r) (r1:r < m) {sv:Value} (w:World) (F:Nat→Prop) (hz:sT (mem w (fun b=>¬ F b)) n m z) (hH:Sep (enH be a z n m sv e) w F):
 iT Tryz.prog 84 [aK be,slV a.dd m,.int .i64 r] w F (fun _:Unit=>.bool (!e.deadD.getD r.toNat false)) (fun _=>enH be a z n m sv (if e.deadD.getD r.toNat false then e else En.killD z.s e r)):=by
 have hle:Mem.le (mem w (fun b=>¬ F b)) (mem w (fun b=>¬ F b)):=Mem.le_refl _;obtain ⟨B,O,A,c,hA,hm,hl,_⟩:=bz hz.th r0 (by rw [hs.rules];exact r1);have hr:=hs.rules;have hsm:=aP hl;unfold br at hsm;refine Calls.enter Tryz.func84 rfl _ rfl rfl (S:=F) (H:=enH be a z n m sv e++[]) hH ?_;refine Ja (Jd (Jb ?_));refine ar ?_;refine Ja (Jc (Jc ?_));refine Ei ?_;refine Bb (by assumption) rfl (by assumption) (by assumption) rfl ?_;refine Jb ?_;refine ce rfl (fun hb=>?_) (fun hb=>?_)
 ·rw [hb,if_pos rfl]
  refine Ja (Jd (Jb ?_));exact aw rfl Tryz.results84 rfl rfl fun w hw=>⟨(),rfl,hw⟩
 rw [hb,if_neg Bool.false_ne_true];refine al (ah ?_);refine Ja (Jc (Jc ?_));refine Ei ?_;refine ES.deadD (X:=[]) hk rfl rfl r0 r1 ?_;refine aq (ah ?_);have hk2:=hk.deadD1 r.toNat true;refine bf (ι:=Unit) (fun _=>[(0,aK be),(1,slV a.dd m),(2,.int .i64 r)]) (fun _=>enH be a z n m sv (En.killD z.s e r)++[]) ?_ (fun _=>?_)
 ·refine Ja (Jc (Jf (Je (Je ?_))));refine Eh ?_;refine Jc ?_
  refine aa hA rfl rfl r0 (by rw [hr];exact r1) rfl ?_;refine Je ?_;refine ac rfl hle (hm 2 _ rfl) rfl rfl ?_;refine Jg (Jm (Jb ?_));refine ay rfl (fun hlong=>?_) (fun hlong=>?_)
  ·have e2:En.killD z.s e r=({ e with deadD:=e.deadD.set r.toNat true }:En).ups 1:=by unfold En.killD En.upL En.long;rw [if_pos (decide_eq_true (by omega))]
   refine aj ?_;refine Jc (Jf (Je (Je ?_)));refine Eh ?_;refine cY rfl rfl rfl rfl ?_;refine Jf (Je (Je ?_));refine ES.up (X:=[]) rfl rfl ?_;refine aq ?_;rw [e2];exact aC () ⟨rfl,rfl,rfl,trivial⟩ (fun h=>h)
  ·have e2:En.killD z.s e r=({ e with deadD:=e.deadD.set r.toNat true }:En):=by unfold En.killD En.upL En.long;rw [if_neg (by rw [decide_eq_true_iff];omega)]
   refine al ?_;rw [e2];exact aC () ⟨rfl,rfl,rfl,trivial⟩ (fun h=>h)
 refine Ja (Jd (Jb ?_));exact aw rfl Tryz.results84 rfl rfl fun w hw=>⟨(),rfl,hw⟩
def En.kill (s:Es) (e:En) (r:Int):En:=({ e with dead:=e.dead.set r.toNat true }:En).upL s r
set_option maxHeartbeats 8000000 in
theorem Ai (hk:aE n m np e) (hs:fJ n m np z.s) (r0:0≤r) (r1:r < m) {sv:Value} (w:World) (F:Nat→Prop) (hz:sT (mem w (fun b=>¬ F b)) n m z) (hH:Sep (enH be a z n m sv e) w F):
 iT Tryz.prog 84 [aK be,slV a.dx m,.int .i64 r] w F (fun _:Unit=>.bool (!e.dead.getD r.toNat false)) (fun _=>enH be a z n m sv (if e.dead.getD r.toNat false then e else En.kill z.s e r)):=by
 have hle:Mem.le (mem w (fun b=>¬ F b)) (mem w (fun b=>¬ F b)):=Mem.le_refl _;obtain ⟨B,O,A,c,hA,hm,hl,_⟩:=bz hz.th r0 (by rw [hs.rules];exact r1);have hr:=hs.rules;have hsm:=aP hl;unfold br at hsm;refine Calls.enter Tryz.func84 rfl _ rfl rfl (S:=F) (H:=enH be a z n m sv e++[]) hH ?_;refine Ja (Jd (Jb ?_));refine ar ?_;refine Ja (Jc (Jc ?_));refine Ei ?_;refine DI (by assumption) rfl (by assumption) (by assumption) rfl ?_;refine Jb ?_;refine ce rfl (fun hb=>?_) (fun hb=>?_)
 ·rw [hb,if_pos rfl]
  refine Ja (Jd (Jb ?_));exact aw rfl Tryz.results84 rfl rfl fun w hw=>⟨(),rfl,hw⟩
 rw [hb,if_neg Bool.false_ne_true];refine al (ah ?_);refine Ja (Jc (Jc ?_));refine Ei ?_;refine ES.dead (X:=[]) hk rfl rfl r0 r1 ?_;refine aq (ah ?_);have hk2:=hk.dead1 r.toNat true;refine bf (ι:=Unit) (fun _=>[(0,aK be),(1,slV a.dx m),(2,.int .i64 r)]) (fun _=>enH be a z n m sv (En.kill z.s e r)++[]) ?_ (fun _=>?_)
 ·refine Ja (Jc (Jf (Je (Je ?_))));refine Eh ?_;refine Jc ?_
  refine aa hA rfl rfl r0 (by rw [hr];exact r1) rfl ?_;refine Je ?_;refine ac rfl hle (hm 2 _ rfl) rfl rfl ?_;refine Jg (Jm (Jb ?_));refine ay rfl (fun hlong=>?_) (fun hlong=>?_)
  ·have e2:En.kill z.s e r=({ e with dead:=e.dead.set r.toNat true }:En).ups 1:=by unfold En.kill En.upL En.long;rw [if_pos (decide_eq_true (by omega))]
   refine aj ?_;refine Jc (Jf (Je (Je ?_)));refine Eh ?_;refine cY rfl rfl rfl rfl ?_;refine Jf (Je (Je ?_));refine ES.up (X:=[]) rfl rfl ?_;refine aq ?_;rw [e2];exact aC () ⟨rfl,rfl,rfl,trivial⟩ (fun h=>h)
  ·have e2:En.kill z.s e r=({ e with dead:=e.dead.set r.toNat true }:En):=by unfold En.kill En.upL En.long;rw [if_neg (by rw [decide_eq_true_iff];omega)]
   refine al ?_;rw [e2];exact aC () ⟨rfl,rfl,rfl,trivial⟩ (fun h=>h)
 refine Ja (Jd (Jb ?_));exact aw rfl Tryz.results84 rfl rfl fun w hw=>⟨(),rfl,hw⟩
end
end
section
theorem eJ {M:Mem} {A:Option Addr} {n c:Nat} {l:List (List Int)} (h:Rd en M [.slice A n c] l) {r:Int} (r0:0≤r) (r1:r < (l.length:Int)):∃ B O A2 c2,A=some ⟨B,O,none⟩∧M B (O + r.toNat * 1) (.slice A2 (ap l r).length c2)∧Rd cO M [.slice A2 (ap l r).length c2] (ap l r)∧ap l r∈l:=by
 obtain ⟨B,O,A2,c2,hA,hm,hl⟩:=dQ h (getD_some (d:=[]) rfl r0 r1);exact ⟨B,O,A2,c2,hA,by rw [Nat.mul_one];exact hm,hl,dw rfl r0 r1⟩
section
variable {n m np:Nat} {e:En} {s:Es} {q k p r v:Int}
theorem aE.fold {f:En→Int→En} {N:Nat} (hf:∀ (e:En) (u:Int),aE n m np e→0≤u→u < N→aE n m np (f e u)):∀ {l:List Int} {e:En},(∀ u∈l,0≤u∧u < N)→aE n m np e→aE n m np (l.foldl f e)
 | [],e,_,h=>h
 | u::l,e,hl,h=>aE.fold (l:=l) hf (fun v hv=>hl v (List.mem_cons_of_mem _ hv)) (hf e u h (hl u (List.mem_cons_self ..)).1 (hl u (List.mem_cons_self ..)).2)
theorem fJ.headAt (h:fJ n m np s) (r0:0≤r) (r1:r < m):0≤(ai s.t r).2.1∧(ai s.t r).2.1 < n:=h.head _ (dw (d:=(0,0,[])) h.rules r0 r1)
theorem fJ.ofAt (h:fJ n m np s) (r0:0≤r) (r1:r < m):∀ p∈ap s.of r,0≤p∧p < np:=h.of2 _ (dw h.of r0 r1)
theorem fJ.beatsAt (h:fJ n m np s) (r0:0≤r) (r1:r < m):∀ p∈ap s.beats r,0≤p∧p < np:=h.beats2 _ (dw h.beats r0 r1)
theorem fJ.inAt (h:fJ n m np s) (r0:0≤q) (r1:q < n):∀ p∈ap s.inn q,0≤p∧p < m:=h.inn2 _ (dw h.inn r0 r1)
theorem fJ.foesAt (h:fJ n m np s) (r0:0≤q) (r1:q < n):∀ p∈ap (aH s.t) q,0≤p∧p < n:=h.foes2 _ (dw h.foes r0 r1)
theorem aE.fire1 (hs:fJ n m np s) (h:aE n m np e) (r0:0≤r) (r1:r < m):aE n m np (En.fire1 s e r):=by
 have hn:=hs.small.1;unfold En.fire1;split
 ·refine aE.look hn (aE.fold (fun e u h u0 u1=>h.settle hn u0 u1) (hs.beatsAt r0 r1) ?_) (hs.headAt r0 r1).1 (hs.headAt r0 r1).2
  split
  ·exact h
  ·exact aE.ups (h.backed1 _ _)
 ·exact h
theorem aE.fire (hs:fJ n m np s) (h:aE n m np e) (r0:0≤r) (r1:r < m):aE n m np (En.fire s e r):=
 aE.fold (fun e u h u0 u1=>h.stand hs.small.1 u0 u1) (hs.ofAt r0 r1) (h.fire1 hs r0 r1)
theorem aE.upL (h:aE n m np e):aE n m np (e.upL s r):=by unfold En.upL;split <;> first | exact h.ups | exact h
theorem aE.lower (h:aE n m np e):aE n m np (En.lower s e r):=aE.upL (h.need1 _ _)
theorem aE.lowerD (h:aE n m np e):aE n m np (En.lowerD s e r):=aE.upL (h.needD1 _ _)
theorem aE.kill (h:aE n m np e):aE n m np (En.kill s e r):=aE.upL (h.dead1 _ _)
theorem aE.killD (h:aE n m np e):aE n m np (En.killD s e r):=aE.upL (h.deadD1 _ _)
theorem aE.onPlus1 (hs:fJ n m np s) (h:aE n m np e) (r0:0≤r) (r1:r < m):aE n m np (En.onPlus1 s e r):=by
 unfold En.onPlus1;dsimp only;split
 ·exact h.lower.fire hs r0 r1
 ·exact h.lower
end
attribute [local irreducible] RW CW
section
variable {be n m np:Nat} {a:EAd} {z:ECs} {e:En} {q k p r:Int} {X:List HP}
set_option maxHeartbeats 16000000 in
theorem Ax (hs:fJ n m np z.s) (hP:DB z) (hzn:z.np=np) (hk:aE n m np e) (r0:0≤r) (r1:r < m) {sv:Value} (w:World) (F:Nat→Prop) (hz:sT (mem w (fun b=>¬ F b)) n m z) (hH:Sep (enH be a z n m sv e) w F):
 iT Tryz.prog 85 [aK be,.int .i64 r] w F (fun _:Value=>.tuple #[]) (fun sv2=>enH be a z n m sv2 (En.fire z.s e r)):=by
 have hn:=hs.small.1;have hle:Mem.le (mem w (fun b=>¬ F b)) (mem w (fun b=>¬ F b)):=Mem.le_refl _;obtain ⟨B,O,A,c,hA,hm,_,_⟩:=bz hz.th r0 (by rw [hs.rules];exact r1);have hr:=hs.rules;obtain ⟨q0,q1⟩:=hs.headAt r0 r1;obtain ⟨bB,bO,ba,bc,bA,bm,bl,bi⟩:=eJ hz.beats r0 (by rw [hs.beats];exact r1);have bs:=aP bl;unfold br at bs;obtain ⟨fB,fO,fa,fc,fA,fm,fl,fi⟩:=eJ hz.of r0 (by rw [hs.of];exact r1);have fs:=aP fl;unfold br at fs;refine Calls.enter Tryz.func85 rfl _ rfl rfl (S:=F) (H:=enH be a z n m sv e++[]) hH ?_;refine Ja (Jc (Jf (Je (Je ?_))));refine Eh ?_;refine Jc ?_;refine aa hA rfl rfl r0 (by rw [hr];exact r1) rfl ?_;refine Je ?_;refine ac rfl hle (hm 1 _ rfl) rfl rfl ?_;refine Jd (Jb ?_);have hk1:=hk.fire1 hs r0 r1;refine bf (ι:=Value) (fun _=>[(0,aK be),(1,.int .i64 r)]) (fun sv1=>enH be a z n m sv1 (En.fire1 z.s e r)++[]) ?_ (fun sv1=>?_)
 ·refine Ja (Jc (Jc ?_))
  refine aD Tryz.call79 rfl (fun w hw=>lP hw (hz.mono (au hw)) hs r0 r1) rfl ?_;refine Jb ?_;refine ce rfl (fun hsup=>?_) (fun hsup=>?_);rotate_left
  ·have e1:En.fire1 z.s e r=e:=by unfold En.fire1;rw [if_neg (by simp [hsup])]
   rw [e1];refine al ?_;exact aC sv ⟨rfl,rfl,trivial⟩ (fun h=>h)
  have e1:En.fire1 z.s e r=((ap z.s.beats r).foldl En.settle (if e.backed.getD (ai z.s.t r).2.1.toNat false then e else ({ e with backed:=e.backed.set (ai z.s.t r).2.1.toNat true }:En).ups 1)).look (ai z.s.t r).2.1:=by unfold En.fire1;rw [if_pos hsup]
  rw [e1];have hkb:aE n m np (if e.backed.getD (ai z.s.t r).2.1.toNat false then e else ({ e with backed:=e.backed.set (ai z.s.t r).2.1.toNat true }:En).ups 1):=by split <;> first | exact hk | exact aE.ups (hk.backed1 _ _)
  refine bf (ι:=Unit) (fun _=>[(0,aK be),(1,.int .i64 r),(4,.int .i64 (ai z.s.t r).2.1)]) (fun _=>enH be a z n m sv (if e.backed.getD (ai z.s.t r).2.1.toNat false then e else ({ e with backed:=e.backed.set (ai z.s.t r).2.1.toNat true }:En).ups 1)++[]) ?_ (fun _=>?_)
  ·refine Ja (Jc (Jf (Je ?_)));refine Eh ?_;refine Jc ?_;refine Ei ?_;refine mU (by assumption) rfl (by assumption) (by assumption) rfl ?_;refine Js (Jb ?_)
   refine ce rfl (fun hb=>?_) (fun hb=>?_);rotate_left
   ·rw [Bool.not_eq_false'] at hb
    rw [if_pos hb];refine al ?_;exact aC () ⟨rfl,rfl,rfl,trivial⟩ (fun h=>h)
   rw [Bool.not_eq_true'] at hb;rw [hb,if_neg Bool.false_ne_true];refine Ja (Jc (Jf (Je ?_)));refine Eh ?_;refine Jc ?_;refine Ei ?_;refine ES.backed (X:=[]) hk rfl rfl q0 q1 ?_;refine aq (ah ?_);refine aj ?_;refine Jc (Jf (Je (Je ?_)));refine Eh ?_;refine cY rfl rfl rfl rfl ?_;refine Jf (Je (Je ?_));refine ES.up (X:=[]) rfl rfl ?_;refine aq ?_;exact aC () ⟨rfl,rfl,rfl,trivial⟩ (fun h=>h)
  generalize (if e.backed.getD (ai z.s.t r).2.1.toNat false then e else ({ e with backed:=e.backed.set (ai z.s.t r).2.1.toNat true }:En).ups 1)=eb at *;refine ar ?_;refine Ja (Jc (Jf (Je ?_)));refine Eh ?_;refine Jc ?_;refine aa bA rfl rfl r0 (by first | exact r1 | (rw [hs.beats];exact r1)) rfl ?_;refine ac rfl hle bm rfl rfl ?_;refine Jg (Jc (Jb ?_));have hnl:=hs.beatsAt r0 r1;generalize ap z.s.beats r=LB at *;refine ak ?_
  refine aI (ι:={ qq:Nat × En × Value // qq.1≤LB.length∧aE n m np qq.2.1∧LB.foldl En.settle eb=(LB.drop qq.1).foldl En.settle qq.2.1 })
   (fun qq=>[(0,aK be),(1,.int .i64 r),(4,.int .i64 (ai z.s.t r).2.1),(50,.slice ba LB.length bc),(51,.int .i64 LB.length),(52,.int .i64 qq.1.1)]) (fun qq=>enH be a z n m qq.1.2.2 qq.1.2.1++[]) (fun qq=>LB.length - qq.1.1) ⟨(0,eb,sv),Nat.zero_le _,hkb,rfl⟩ ⟨rfl,rfl,rfl,rfl,rfl,rfl,trivial⟩ (fun h=>h) ?_
  intro ⟨⟨i,e2,sv2⟩,hi,hk2,hS⟩;dsimp only at hi hk2 hS ⊢;refine Ja (Jk (Jb ?_));refine ar ?_;refine ay rfl (fun hlt=>?_) (fun hge=>?_)
  ·have hlt1:i < LB.length:=by omega
   rw [List.drop_eq_getElem_cons hlt1,List.foldl_cons] at hS;obtain ⟨B4,O4,hA4,hm4,_⟩:=aR bl (List.getElem?_eq_getElem hlt1);obtain ⟨u0,u1⟩:=hnl _ (List.getElem_mem hlt1);generalize LB[i]=u at *;refine al (ah ?_);refine bf (ι:=Value) (fun _=>[(0,aK be),(1,.int .i64 r),(4,.int .i64 (ai z.s.t r).2.1),(50,.slice ba LB.length bc),(51,.int .i64 LB.length),(52,.int .i64 i)]) (fun sv3=>enH be a z n m sv3 (En.settle e2 u)++[]) ?_ (fun sv3=>?_)
   ·refine ak ?_
    refine Ja ?_;refine aa hA4 rfl rfl (by omega) hlt rfl ?_;refine ac rfl hle (aT hm4) rfl rfl ?_;refine Jd (Jb ?_);refine aj ?_;refine Jc (Jc ?_);obtain ⟨PB,hPB⟩:=hP (by omega);refine a8 (enH be a z n m sv2 e2) Tryz.call86 rfl (fun w3 F3 _ hC _=>nI hn hk2 hPB hzn u0 u1 w3 F3 hC) rfl fun sv3=>?_;refine aq ?_;exact aC sv3 ⟨rfl,rfl,rfl,rfl,rfl,rfl,trivial⟩ (fun h=>h)
   refine aj ?_;refine Ka ?_;refine Jc ?_;refine aq ?_;exact Pa ⟨(i + 1,En.settle e2 u,sv3),hlt1,hk2.settle hn u0 u1,hS⟩
  rw [List.drop_eq_nil_of_le (by omega),List.foldl_nil] at hS;refine aG rfl (ah ?_);rw [hS];refine aj ?_;refine Jc (Jc ?_);refine a8 (enH be a z n m sv2 e2) Tryz.call52 rfl (fun w3 F3 _ hC _=>eP hn hk2 q0 q1 w3 F3 hC) rfl fun sv3=>?_;refine aq ?_;exact aC sv3 ⟨rfl,rfl,trivial⟩ (fun h=>h)
 show CW _ _ _ (fin _ _ fun e' w'=>∃ x,e'=.returned (.tuple #[])∧St w F (enH be a z n m x ((ap z.s.of r).foldl En.stand (En.fire1 z.s e r))) w') _ _;generalize En.fire1 z.s e r=ef at *;clear hk;refine Ja (Jc (Jf (Je ?_)));refine JA ?_;refine Jc ?_
 skip
 refine aa fA rfl rfl r0 (by first | exact r1 | (rw [hs.of];exact r1)) rfl ?_;refine ac rfl hle fm rfl rfl ?_;refine Jg (Jc (Jb ?_));have hnl:=hs.ofAt r0 r1;generalize ap z.s.of r=LF at *;refine ak ?_
 refine aI (ι:={ qq:Nat × En × Value // qq.1≤LF.length∧aE n m np qq.2.1∧LF.foldl En.stand ef=(LF.drop qq.1).foldl En.stand qq.2.1 })
  (fun qq=>[(0,aK be),(1,.int .i64 r),(69,.slice fa LF.length fc),(70,.int .i64 LF.length),(71,.int .i64 qq.1.1)]) (fun qq=>enH be a z n m qq.1.2.2 qq.1.2.1++[]) (fun qq=>LF.length - qq.1.1) ⟨(0,ef,sv1),Nat.zero_le _,hk1,rfl⟩ ⟨rfl,rfl,rfl,rfl,rfl,trivial⟩ (fun h=>h) ?_
 intro ⟨⟨i,e2,sv2⟩,hi,hk2,hS⟩;dsimp only at hi hk2 hS ⊢;refine Ja (Jk (Jb ?_));refine ar ?_;refine ay rfl (fun hlt=>?_) (fun hge=>?_)
 ·have hlt1:i < LF.length:=by omega
  rw [List.drop_eq_getElem_cons hlt1,List.foldl_cons] at hS;obtain ⟨B4,O4,hA4,hm4,_⟩:=aR fl (List.getElem?_eq_getElem hlt1);obtain ⟨u0,u1⟩:=hnl _ (List.getElem_mem hlt1);generalize LF[i]=u at *;refine al (ah ?_);refine bf (ι:=Value) (fun _=>[(0,aK be),(1,.int .i64 r),(69,.slice fa LF.length fc),(70,.int .i64 LF.length),(71,.int .i64 i)]) (fun sv3=>enH be a z n m sv3 (En.stand e2 u)++[]) ?_ (fun sv3=>?_)
  ·refine ak ?_
   refine Ja ?_;refine aa hA4 rfl rfl (by omega) hlt rfl ?_;refine ac rfl hle (aT hm4) rfl rfl ?_;refine Jd (Jb ?_);refine aj ?_;refine Jc (Jc ?_);obtain ⟨PB,hPB⟩:=hP (by omega);refine a8 (enH be a z n m sv2 e2) Tryz.call87 rfl (fun w3 F3 _ hC _=>pL hn hk2 hPB hzn u0 u1 w3 F3 hC) rfl fun sv3=>?_;refine aq ?_;exact aC sv3 ⟨rfl,rfl,rfl,rfl,rfl,trivial⟩ (fun h=>h)
  refine aj ?_;refine Ka ?_;refine Jc ?_;refine aq ?_;exact Pa ⟨(i + 1,En.stand e2 u,sv3),hlt1,hk2.stand hn u0 u1,hS⟩
 rw [List.drop_eq_nil_of_le (by omega),List.foldl_nil] at hS;refine aG rfl ?_;rw [hS];exact eC (rs:=[]) (vs:=[]) Tryz.results85 rfl aL.nil fun w hw=>⟨sv2,rfl,hw⟩
end
end
section
section
variable {n m np:Nat} {e:En} {s:Es} {q k p r v:Int}
theorem aE.onPlusD1 (hs:fJ n m np s) (h:aE n m np e) (r0:0≤r) (r1:r < m):aE n m np (En.onPlusD1 s e r):=by
 unfold En.onPlusD1;split
 ·dsimp only
  split
  ·exact h.lowerD.tell hs.small.1 (hs.headAt r0 r1).1 (hs.headAt r0 r1).2 (by omega) (by omega)
  ·exact h.lowerD
 ·exact h
theorem aE.onPlusD2 (hn:n≤4096) (h:aE n m np e) (q0:0≤q) (q1:q < n):aE n m np (En.onPlusD2 e q):=by
 unfold En.onPlusD2;split
 ·exact aE.look hn (aE.ups (h.clash1 _ _)) q0 q1
 ·exact h
theorem aE.onPlusD (hs:fJ n m np s) (h:aE n m np e) (q0:0≤q) (q1:q < n):aE n m np (En.onPlusD s e q):=
 aE.look hs.small.1 (aE.fold (fun e u h u0 u1=>h.onPlusD2 hs.small.1 u0 u1) (hs.foesAt q0 q1) (aE.fold (fun e u h u0 u1=>h.onPlusD1 hs u0 u1) (hs.inAt q0 q1) h)) q0 q1
theorem aE.onNoD1 (hs:fJ n m np s) (h:aE n m np e) (r0:0≤r) (r1:r < m):aE n m np (En.onNoD1 s e r):=by
 unfold En.onNoD1;split
 ·dsimp only
  have hk:aE n m np (({ (({ e with deadD:=e.deadD.set r.toNat true }:En).upL s r) with strict:=En.dec (({ e with deadD:=e.deadD.set r.toNat true }:En).upL s r).strict (ai s.t r).2.1 }:En).ups 1):=aE.ups (aE.strict1 (h.killD (s:=s)) _ _);split
  ·exact hk.tell hs.small.1 (hs.headAt r0 r1).1 (hs.headAt r0 r1).2 (by omega) (by omega)
  ·exact hk
 ·exact h
theorem aE.onNoD (hs:fJ n m np s) (h:aE n m np e) (q0:0≤q) (q1:q < n):aE n m np (En.onNoD s e q):=
 aE.look hs.small.1 (aE.fold (fun e u h u0 u1=>h.onNoD1 hs u0 u1) (hs.inAt q0 q1) h) q0 q1
theorem aE.onLate1 (hn:n≤4096) (h:aE n m np e) (q0:0≤q) (q1:q < n):aE n m np (En.onLate1 e q):=by
 unfold En.onLate1;split
 ·exact aE.look hn (aE.ups (h.opn1 _ _)) q0 q1
 ·exact h
theorem aE.onLate (hs:fJ n m np s) (h:aE n m np e) (q0:0≤q) (q1:q < n):aE n m np (En.onLate s e q):=
 aE.onNoD hs (aE.fold (fun e u h u0 u1=>h.onLate1 hs.small.1 u0 u1) (hs.foesAt q0 q1) h) q0 q1
theorem aE.onPlus (hs:fJ n m np s) (h:aE n m np e) (q0:0≤q) (q1:q < n):aE n m np (En.onPlus s e q):=aE.fold (fun e u h u0 u1=>h.onPlus1 hs u0 u1) (hs.inAt q0 q1) h
end
attribute [local irreducible] RW CW
section
variable {be n m np:Nat} {a:EAd} {z:ECs} {e:En} {q k p r:Int} {X:List HP}
set_option maxHeartbeats 16000000 in
theorem uS (hs:fJ n m np z.s) (hP:DB z) (hzn:z.np=np) (hk:aE n m np e) (q0:0≤q) (q1:q < n) {sv:Value} (w:World) (F:Nat→Prop) (hz:sT (mem w (fun b=>¬ F b)) n m z) (hH:Sep (enH be a z n m sv e) w F):
 iT Tryz.prog 50 [aK be,.int .i64 q] w F (fun _:Value=>.tuple #[]) (fun sv2=>enH be a z n m sv2 (En.onPlus z.s e q)):=by
 have hn:=hs.small.1;have hle:Mem.le (mem w (fun b=>¬ F b)) (mem w (fun b=>¬ F b)):=Mem.le_refl _;have hr:=hs.rules;obtain ⟨nB,nO,na,nc,nA,nm,nl,ni⟩:=eJ hz.inn q0 (by rw [hs.inn];exact q1);have ns:=aP nl;unfold br at ns;refine Calls.enter Tryz.func50 rfl _ rfl rfl (S:=F) (H:=enH be a z n m sv e++[]) hH ?_;refine Ja (Jc (Jf (Je ?_)));refine Eh ?_;refine Jc ?_;refine aa nA rfl rfl q0 (by first | exact q1 | (rw [hs.inn];exact q1)) rfl ?_;refine ac rfl hle nm rfl rfl ?_;refine Jg (Jc (Jb ?_));have hnl:=hs.inAt q0 q1;unfold En.onPlus;generalize ap z.s.inn q=LN at *;refine ak ?_
 refine aI (ι:={ qq:Nat × En × Value // qq.1≤LN.length∧aE n m np qq.2.1∧LN.foldl (En.onPlus1 z.s) e=(LN.drop qq.1).foldl (En.onPlus1 z.s) qq.2.1 })
  (fun qq=>[(0,aK be),(1,.int .i64 q),(12,.slice na LN.length nc),(13,.int .i64 LN.length),(14,.int .i64 qq.1.1)]) (fun qq=>enH be a z n m qq.1.2.2 qq.1.2.1++[]) (fun qq=>LN.length - qq.1.1) ⟨(0,e,sv),Nat.zero_le _,hk,rfl⟩ ⟨rfl,rfl,rfl,rfl,rfl,trivial⟩ (fun h=>h) ?_
 intro ⟨⟨i,e2,sv2⟩,hi,hk2,hS⟩;dsimp only at hi hk2 hS ⊢;refine Ja (Jk (Jb ?_));refine ar ?_;refine ay rfl (fun hlt=>?_) (fun hge=>?_)
 ·have hlt1:i < LN.length:=by omega
  rw [List.drop_eq_getElem_cons hlt1,List.foldl_cons] at hS;obtain ⟨B4,O4,hA4,hm4,_⟩:=aR nl (List.getElem?_eq_getElem hlt1);obtain ⟨u0,u1⟩:=hnl _ (List.getElem_mem hlt1);generalize LN[i]=u at *;refine al (ah ?_);refine bf (ι:=Value) (fun _=>[(0,aK be),(1,.int .i64 q),(12,.slice na LN.length nc),(13,.int .i64 LN.length),(14,.int .i64 i)]) (fun sv3=>enH be a z n m sv3 ((En.onPlus1 z.s) e2 u)++[]) ?_ (fun sv3=>?_)
  ·refine ak ?_
   refine Ja ?_;refine aa hA4 rfl rfl (by omega) hlt rfl ?_;refine ac rfl hle (aT hm4) rfl rfl ?_;refine Jd (Jb (Ja (Jc (Jc (Jf (Je ?_))))));refine Eh ?_;refine Jc ?_;refine a8 (enH be a z n m sv2 e2) Tryz.call83 rfl (fun w3 F3 hle3 hC _=>xm hk2 hs u0 u1 w3 F3 (hz.mono hle3) hC) rfl fun _=>?_;refine Jb ?_;have hk3:=hk2.lower (s:=z.s) (r:=u);refine ay rfl (fun h1=>?_) (fun h1=>?_);rotate_left
   ·have e3:En.onPlus1 z.s e2 u=En.lower z.s e2 u:=by unfold En.onPlus1;rw [if_neg (by simp only [beq_false_of_ne h1];simp)]
    rw [e3];refine al ?_;exact aC sv2 ⟨rfl,rfl,rfl,rfl,rfl,trivial⟩ (fun h=>h)
   have e3:En.onPlus1 z.s e2 u=En.fire z.s (En.lower z.s e2 u) u:=by unfold En.onPlus1;rw [if_pos (beq_iff_eq.2 h1)]
   rw [e3];refine aj ?_;refine Jc (Jc ?_);refine a8 (enH be a z n m sv2 _) Tryz.call85 rfl (fun w3 F3 hle3 hC _=>Ax hs hP hzn hk3 u0 u1 w3 F3 (hz.mono hle3) hC) rfl fun sv3=>?_;refine aq ?_;exact aC sv3 ⟨rfl,rfl,rfl,rfl,rfl,trivial⟩ (fun h=>h)
  refine aj ?_;refine Ka ?_;refine Jc ?_;refine aq ?_;exact Pa ⟨(i + 1,(En.onPlus1 z.s) e2 u,sv3),hlt1,hk2.onPlus1 hs u0 u1,hS⟩
 rw [List.drop_eq_nil_of_le (by omega),List.foldl_nil] at hS;refine aG rfl ?_;rw [hS];exact eC (rs:=[]) (vs:=[]) Tryz.results50 rfl aL.nil fun w hw=>⟨sv2,rfl,hw⟩
set_option maxHeartbeats 16000000 in
theorem rQ (hs:fJ n m np z.s) (hP:DB z) (hzn:z.np=np) (hk:aE n m np e) (q0:0≤q) (q1:q < n) {sv:Value} (w:World) (F:Nat→Prop) (hz:sT (mem w (fun b=>¬ F b)) n m z) (hH:Sep (enH be a z n m sv e) w F):
 iT Tryz.prog 48 [aK be,.int .i64 q] w F (fun _:Value=>.tuple #[]) (fun sv2=>enH be a z n m sv2 (En.onPlusD z.s e q)):=by
 have hn:=hs.small.1;have hle:Mem.le (mem w (fun b=>¬ F b)) (mem w (fun b=>¬ F b)):=Mem.le_refl _;have hr:=hs.rules;obtain ⟨nB,nO,na,nc,nA,nm,nl,ni⟩:=eJ hz.inn q0 (by rw [hs.inn];exact q1);have ns:=aP nl;unfold br at ns;obtain ⟨fB,fO,fa,fc,fA,fm,fl,fi⟩:=eJ hz.th.foes q0 (by rw [hs.foes];exact q1);have fs:=aP fl;unfold br at fs;refine Calls.enter Tryz.func48 rfl _ rfl rfl (S:=F) (H:=enH be a z n m sv e++[]) hH ?_;unfold En.onPlusD;have hk1:aE n m np ((ap z.s.inn q).foldl (En.onPlusD1 z.s) e):=aE.fold (fun e u h u0 u1=>h.onPlusD1 hs u0 u1) (hs.inAt q0 q1) hk;refine bf (ι:=Value) (fun _=>[(0,aK be),(1,.int .i64 q)]) (fun sv1=>enH be a z n m sv1 ((ap z.s.inn q).foldl (En.onPlusD1 z.s) e)++[]) ?_ (fun sv1=>?_)
 ·refine Ja (Jc (Jf (Je ?_)));refine Eh ?_;refine Jc ?_
  refine aa nA rfl rfl q0 (by first | exact q1 | (rw [hs.inn];exact q1)) rfl ?_;refine ac rfl hle nm rfl rfl ?_;refine Jg (Jc (Jb ?_));have hnl:=hs.inAt q0 q1;generalize ap z.s.inn q=LN at *;refine ak ?_
  refine aI (ι:={ qq:Nat × En × Value // qq.1≤LN.length∧aE n m np qq.2.1∧LN.foldl (En.onPlusD1 z.s) e=(LN.drop qq.1).foldl (En.onPlusD1 z.s) qq.2.1 })
   (fun qq=>[(0,aK be),(1,.int .i64 q),(14,.slice na LN.length nc),(15,.int .i64 LN.length),(16,.int .i64 qq.1.1)]) (fun qq=>enH be a z n m qq.1.2.2 qq.1.2.1++[]) (fun qq=>LN.length - qq.1.1) ⟨(0,e,sv),Nat.zero_le _,hk,rfl⟩ ⟨rfl,rfl,rfl,rfl,rfl,trivial⟩ (fun h=>h) ?_
  intro ⟨⟨i,e2,sv2⟩,hi,hk2,hS⟩;dsimp only at hi hk2 hS ⊢;refine Ja (Jk (Jb ?_));refine ar ?_;refine ay rfl (fun hlt=>?_) (fun hge=>?_)
  ·have hlt1:i < LN.length:=by omega
   rw [List.drop_eq_getElem_cons hlt1,List.foldl_cons] at hS;obtain ⟨B4,O4,hA4,hm4,_⟩:=aR nl (List.getElem?_eq_getElem hlt1);obtain ⟨u0,u1⟩:=hnl _ (List.getElem_mem hlt1);generalize LN[i]=u at *;refine al (ah ?_);refine bf (ι:=Value) (fun _=>[(0,aK be),(1,.int .i64 q),(14,.slice na LN.length nc),(15,.int .i64 LN.length),(16,.int .i64 i)]) (fun sv3=>enH be a z n m sv3 ((En.onPlusD1 z.s) e2 u)++[]) ?_ (fun sv3=>?_)
   ·refine ak ?_
    refine Ja ?_;refine aa hA4 rfl rfl (by omega) hlt rfl ?_;refine ac rfl hle (aT hm4) rfl rfl ?_;refine Jd (Jb (Ja (Jc (Jf (Je (Je ?_))))));refine JA ?_;refine Jc ?_;obtain ⟨rB,rO,ra,rc,rA,rm,rl,ri⟩:=bz hz.th u0 (by rw [hs.rules];exact u1);have rs:=aP rl;unfold br at rs
    skip
    refine aa rA rfl rfl u0 (by rw [hr];exact u1) rfl ?_;refine Je ?_;refine ac rfl hle (rm 0 _ rfl) rfl rfl ?_;refine Ji (Jc ?_);refine aY 30 rfl (fun h1=>?_) (fun h1=>?_);rotate_left
    ·have e3:En.onPlusD1 z.s e2 u=e2:=by unfold En.onPlusD1;rw [if_neg (by simp only [beq_false_of_ne h1];simp)]
     (iterate 7 refine Jz ?_);refine Jw (Jb ?_)
     refine ch rfl ?_;refine al ?_;rw [e3];exact aC sv2 ⟨rfl,rfl,rfl,rfl,rfl,trivial⟩ (fun h=>h)
    refine Jy (Jc ?_);refine Jy (Jc ?_);refine Jy (Jf ?_);refine Jy (Je ?_);refine Jy ?_;refine Eh ?_;refine Jy (Jc ?_);refine Jy ?_;refine a8 (enH be a z n m sv2 e2) Tryz.call83 rfl (fun w3 F3 hle3 hC _=>uY hk2 hs u0 u1 w3 F3 (hz.mono hle3) hC) rfl fun _=>?_;refine Jv (Jb ?_);have hk3:=hk2.lowerD (s:=z.s) (r:=u);refine ay rfl (fun h2=>?_) (fun h2=>?_);rotate_left
    ·have e3:En.onPlusD1 z.s e2 u=En.lowerD z.s e2 u:=by unfold En.onPlusD1;rw [if_pos (beq_iff_eq.2 h1)];dsimp only;rw [if_neg (by simp only [beq_false_of_ne h2];simp)]
     rw [e3];refine al ?_;exact aC sv2 ⟨rfl,rfl,rfl,rfl,rfl,trivial⟩ (fun h=>h)
    have e3:En.onPlusD1 z.s e2 u=(En.lowerD z.s e2 u).tell (ai z.s.t u).2.1 1:=by unfold En.onPlusD1;rw [if_pos (beq_iff_eq.2 h1)];dsimp only;rw [if_pos (beq_iff_eq.2 h2)]
    rw [e3];obtain ⟨hd0,hd1⟩:=hs.headAt u0 u1;refine aj ?_;refine Jc (Jc (Jf (Je (Je ?_))));refine Eh ?_;refine Jc ?_;refine aa rA rfl rfl u0 (by rw [hr];exact u1) rfl ?_;refine Je ?_;refine ac rfl hle (rm 1 _ rfl) rfl rfl ?_;refine a8 (enH be a z n m sv2 _) Tryz.call80 rfl (fun w3 F3 hle3 hC _=>eN (k:=1) hn hk3 hd0 hd1 (by omega) (by omega) w3 F3 hC) rfl fun sv3=>?_;refine aq ?_;exact aC sv3 ⟨rfl,rfl,rfl,rfl,rfl,trivial⟩ (fun h=>h)
   refine aj ?_;refine Ka ?_;refine Jc ?_;refine aq ?_;exact Pa ⟨(i + 1,(En.onPlusD1 z.s) e2 u,sv3),hlt1,hk2.onPlusD1 hs u0 u1,hS⟩
  rw [List.drop_eq_nil_of_le (by omega),List.foldl_nil] at hS;refine aG rfl ?_;rw [hS];exact aC sv2 ⟨rfl,rfl,trivial⟩ (fun h=>h)
 generalize (ap z.s.inn q).foldl (En.onPlusD1 z.s) e=e1 at *;clear hk;have hk4:aE n m np ((ap (aH z.s.t) q).foldl En.onPlusD2 e1):=aE.fold (fun e u h u0 u1=>h.onPlusD2 hn u0 u1) (hs.foesAt q0 q1) hk1;refine bf (ι:=Value) (fun _=>[(0,aK be),(1,.int .i64 q)]) (fun sv1=>enH be a z n m sv1 ((ap (aH z.s.t) q).foldl En.onPlusD2 e1)++[]) ?_ (fun sv1=>?_)
 ·refine Ja (Jc (Jf (Je (Je ?_))));refine Eh ?_;refine Jc ?_
  refine aa fA rfl rfl q0 (by first | exact q1 | (rw [hs.foes];exact q1)) rfl ?_;refine ac rfl hle fm rfl rfl ?_;refine Jg (Jc (Jb ?_));have hnl:=hs.foesAt q0 q1;generalize ap (aH z.s.t) q=LF at *;refine ak ?_
  refine aI (ι:={ qq:Nat × En × Value // qq.1≤LF.length∧aE n m np qq.2.1∧LF.foldl En.onPlusD2 e1=(LF.drop qq.1).foldl En.onPlusD2 qq.2.1 })
   (fun qq=>[(0,aK be),(1,.int .i64 q),(58,.slice fa LF.length fc),(59,.int .i64 LF.length),(60,.int .i64 qq.1.1)]) (fun qq=>enH be a z n m qq.1.2.2 qq.1.2.1++[]) (fun qq=>LF.length - qq.1.1) ⟨(0,e1,sv1),Nat.zero_le _,hk1,rfl⟩ ⟨rfl,rfl,rfl,rfl,rfl,trivial⟩ (fun h=>h) ?_
  intro ⟨⟨i,e2,sv2⟩,hi,hk2,hS⟩;dsimp only at hi hk2 hS ⊢;refine Ja (Jk (Jb ?_));refine ar ?_;refine ay rfl (fun hlt=>?_) (fun hge=>?_)
  ·have hlt1:i < LF.length:=by omega
   rw [List.drop_eq_getElem_cons hlt1,List.foldl_cons] at hS;obtain ⟨B4,O4,hA4,hm4,_⟩:=aR fl (List.getElem?_eq_getElem hlt1);obtain ⟨u0,u1⟩:=hnl _ (List.getElem_mem hlt1);generalize LF[i]=u at *;refine al (ah ?_);refine bf (ι:=Value) (fun _=>[(0,aK be),(1,.int .i64 q),(58,.slice fa LF.length fc),(59,.int .i64 LF.length),(60,.int .i64 i)]) (fun sv3=>enH be a z n m sv3 (En.onPlusD2 e2 u)++[]) ?_ (fun sv3=>?_)
   ·refine ak ?_
    refine Ja ?_;refine aa hA4 rfl rfl (by omega) hlt rfl ?_;refine ac rfl hle (aT hm4) rfl rfl ?_;refine Jd (Jb (Ja (Jc (Jf (Je ?_)))));refine Eh ?_;refine Jc ?_;refine Ei ?_;refine iU (by assumption) rfl (by assumption) (by assumption) rfl ?_;refine Jm (Jc ?_);refine aY 72 rfl (fun h1=>?_) (fun h1=>?_);rotate_left
    ·(iterate 8 refine Jz ?_);refine Jw (Jb ?_)
     refine ch rfl ?_;refine al ?_;have e3:En.onPlusD2 e2 u=e2:=by unfold En.onPlusD2;rw [if_neg (by rw [decide_eq_false h1];simp)]
     rw [e3];exact aC sv2 ⟨rfl,rfl,rfl,rfl,rfl,trivial⟩ (fun h=>h)
    refine Jy (Jc ?_);refine Jy (Jf ?_);refine Jy (Je ?_);refine Jy ?_;refine Eh ?_;refine Jy (Jc ?_);refine Jy ?_;refine Ei ?_;refine Jy ?_;refine lH (by assumption) rfl (by assumption) (by assumption) rfl ?_;refine Jy (Js (Jv (Jb ?_)));refine ce rfl (fun h2=>?_) (fun h2=>?_);rotate_left
    ·refine al ?_
     have e3:En.onPlusD2 e2 u=e2:=by unfold En.onPlusD2;rw [if_neg (by rw [Bool.not_eq_false'] at h2;rw [h2];simp)]
     rw [e3];exact aC sv2 ⟨rfl,rfl,rfl,rfl,rfl,trivial⟩ (fun h=>h)
    rw [Bool.not_eq_true'] at h2;have e3:En.onPlusD2 e2 u=(({ e2 with clash:=e2.clash.set u.toNat true }:En).ups 1).look u:=by unfold En.onPlusD2;rw [if_pos (by rw [decide_eq_true h1,h2];rfl)]
    rw [e3];refine Ja (Jc (Jf (Je ?_)));refine Eh ?_;refine Jc ?_;refine Ei ?_;refine ES.clash (X:=[]) hk2 rfl rfl u0 u1 ?_;refine aq (ah ?_);refine Ja (Jc (Jf (Je (Je ?_))));refine Eh ?_;refine cY rfl rfl rfl rfl ?_;refine Jf (Je (Je ?_));refine ES.up (X:=[]) rfl rfl ?_;refine aq (ah ?_);refine aj ?_;refine Jc (Jc ?_);have hk3:=aE.ups (v:=1) (hk2.clash1 u.toNat true);refine a8 (enH be a z n m sv2 _) Tryz.call52 rfl (fun w3 F3 hle3 hC _=>eP hn hk3 u0 u1 w3 F3 hC) rfl fun sv3=>?_;refine aq ?_;exact aC sv3 ⟨rfl,rfl,rfl,rfl,rfl,trivial⟩ (fun h=>h)
   refine aj ?_;refine Ka ?_;refine Jc ?_;refine aq ?_;exact Pa ⟨(i + 1,En.onPlusD2 e2 u,sv3),hlt1,hk2.onPlusD2 hn u0 u1,hS⟩
  rw [List.drop_eq_nil_of_le (by omega),List.foldl_nil] at hS;refine aG rfl ?_;rw [hS];exact aC sv2 ⟨rfl,rfl,trivial⟩ (fun h=>h)
 refine aj ?_;refine Jc (Jc ?_);refine a8 (enH be a z n m sv1 _) Tryz.call52 rfl (fun w3 F3 hle3 hC _=>eP hn hk4 q0 q1 w3 F3 hC) rfl fun sv3=>?_;refine aq ?_;exact eC (rs:=[]) (vs:=[]) Tryz.results48 rfl aL.nil fun w hw=>⟨sv3,rfl,hw⟩
set_option maxHeartbeats 16000000 in
theorem qb (hs:fJ n m np z.s) (hP:DB z) (hzn:z.np=np) (hk:aE n m np e) (q0:0≤q) (q1:q < n) {sv:Value} (w:World) (F:Nat→Prop) (hz:sT (mem w (fun b=>¬ F b)) n m z) (hH:Sep (enH be a z n m sv e) w F):
 iT Tryz.prog 49 [aK be,.int .i64 q] w F (fun _:Value=>.tuple #[]) (fun sv2=>enH be a z n m sv2 (En.onNoD z.s e q)):=by
 have hn:=hs.small.1;have hle:Mem.le (mem w (fun b=>¬ F b)) (mem w (fun b=>¬ F b)):=Mem.le_refl _;have hr:=hs.rules;obtain ⟨nB,nO,na,nc,nA,nm,nl,ni⟩:=eJ hz.inn q0 (by rw [hs.inn];exact q1);have ns:=aP nl;unfold br at ns;refine Calls.enter Tryz.func49 rfl _ rfl rfl (S:=F) (H:=enH be a z n m sv e++[]) hH ?_;unfold En.onNoD;have hk1:aE n m np ((ap z.s.inn q).foldl (En.onNoD1 z.s) e):=aE.fold (fun e u h u0 u1=>h.onNoD1 hs u0 u1) (hs.inAt q0 q1) hk;refine bf (ι:=Value) (fun _=>[(0,aK be),(1,.int .i64 q)]) (fun sv1=>enH be a z n m sv1 ((ap z.s.inn q).foldl (En.onNoD1 z.s) e)++[]) ?_ (fun sv1=>?_)
 ·refine Ja (Jc (Jf (Je ?_)));refine Eh ?_;refine Jc ?_
  refine aa nA rfl rfl q0 (by first | exact q1 | (rw [hs.inn];exact q1)) rfl ?_;refine ac rfl hle nm rfl rfl ?_;refine Jg (Jc (Jb ?_));have hnl:=hs.inAt q0 q1;generalize ap z.s.inn q=LN at *;refine ak ?_
  refine aI (ι:={ qq:Nat × En × Value // qq.1≤LN.length∧aE n m np qq.2.1∧LN.foldl (En.onNoD1 z.s) e=(LN.drop qq.1).foldl (En.onNoD1 z.s) qq.2.1 })
   (fun qq=>[(0,aK be),(1,.int .i64 q),(13,.slice na LN.length nc),(14,.int .i64 LN.length),(15,.int .i64 qq.1.1)]) (fun qq=>enH be a z n m qq.1.2.2 qq.1.2.1++[]) (fun qq=>LN.length - qq.1.1) ⟨(0,e,sv),Nat.zero_le _,hk,rfl⟩ ⟨rfl,rfl,rfl,rfl,rfl,trivial⟩ (fun h=>h) ?_
  intro ⟨⟨i,e2,sv2⟩,hi,hk2,hS⟩;dsimp only at hi hk2 hS ⊢;refine Ja (Jk (Jb ?_));refine ar ?_;refine ay rfl (fun hlt=>?_) (fun hge=>?_)
  ·have hlt1:i < LN.length:=by omega
   rw [List.drop_eq_getElem_cons hlt1,List.foldl_cons] at hS;obtain ⟨B4,O4,hA4,hm4,_⟩:=aR nl (List.getElem?_eq_getElem hlt1);obtain ⟨u0,u1⟩:=hnl _ (List.getElem_mem hlt1);generalize LN[i]=u at *;refine al (ah ?_);refine bf (ι:=Value) (fun _=>[(0,aK be),(1,.int .i64 q),(13,.slice na LN.length nc),(14,.int .i64 LN.length),(15,.int .i64 i)]) (fun sv3=>enH be a z n m sv3 ((En.onNoD1 z.s) e2 u)++[]) ?_ (fun sv3=>?_)
   ·refine ak ?_
    refine Ja ?_;refine aa hA4 rfl rfl (by omega) hlt rfl ?_;refine ac rfl hle (aT hm4) rfl rfl ?_;refine Jd (Jb ?_);obtain ⟨rB,rO,ra,rc,rA,rm,rl,ri⟩:=bz hz.th u0 (by rw [hs.rules];exact u1);have rs:=aP rl;unfold br at rs;refine ar ?_;refine Ja (Jc (Jf (Je (Je ?_))));refine Eh ?_;refine Jc ?_;refine aa rA rfl rfl u0 (by rw [hr];exact u1) rfl ?_;refine Je ?_;refine ac rfl hle (rm 0 _ rfl) rfl rfl ?_;refine Jj (Jc ?_);refine aY 29 rfl (fun h1=>?_) (fun h1=>?_)
    ·have e3:En.onNoD1 z.s e2 u=e2:=by unfold En.onNoD1;rw [if_neg (by simp only [beq_false_of_ne h1];simp)]
     (iterate 8 refine Jz ?_);refine Jv (Jb ?_)
     refine cn rfl ?_;refine aG rfl ?_;rw [e3];exact aC sv2 ⟨rfl,rfl,rfl,rfl,rfl,trivial⟩ (fun h=>h)
    have h1':(ai z.s.t u).1=1:=Decidable.of_not_not h1;refine Jy (Jc ?_);refine Jy (Jc ?_);refine Jy (Jf ?_);refine Jy (Je ?_);refine Jy ?_;refine Eh ?_;refine Jy (Jc ?_);refine Jy ?_;refine a8 (enH be a z n m sv2 e2) Tryz.call84 rfl (fun w3 F3 hle3 hC _=>xH hk2 hs u0 u1 w3 F3 (hz.mono hle3) hC) rfl fun _=>?_;refine Jy (Js (Jw (Jb ?_)));refine ce rfl (fun h2=>?_) (fun h2=>?_)
    ·rw [Bool.not_not] at h2
     have e3:En.onNoD1 z.s e2 u=e2:=by unfold En.onNoD1;rw [if_neg (by rw [h2];simp)]
     rw [if_pos h2];refine aG rfl ?_;rw [e3];exact aC sv2 ⟨rfl,rfl,rfl,rfl,rfl,trivial⟩ (fun h=>h)
    rw [Bool.not_not] at h2;rw [h2,if_neg Bool.false_ne_true];have hk3:=hk2.killD (s:=z.s) (r:=u);obtain ⟨hd0,hd1⟩:=hs.headAt u0 u1;have hk5:aE n m np (({ (En.killD z.s e2 u) with strict:=En.dec (En.killD z.s e2 u).strict (ai z.s.t u).2.1 }:En).ups 1):=aE.ups (aE.strict1 hk3 _ _);have e3:En.onNoD1 z.s e2 u=if (({ (En.killD z.s e2 u) with strict:=En.dec (En.killD z.s e2 u).strict (ai z.s.t u).2.1 }:En).ups 1).strict.getD (ai z.s.t u).2.1.toNat 0 == 0 then (({ (En.killD z.s e2 u) with strict:=En.dec (En.killD z.s e2 u).strict (ai z.s.t u).2.1 }:En).ups 1).tell (ai z.s.t u).2.1 2 else (({ (En.killD z.s e2 u) with strict:=En.dec (En.killD z.s e2 u).strict (ai z.s.t u).2.1 }:En).ups 1):=by unfold En.onNoD1;rw [if_pos (by rw [h2,h1'];rfl)];rfl
    rw [e3];clear e3;generalize En.killD z.s e2 u=e4 at *;refine al (ah ?_);refine Ja (Jc (Jf (Je (Je ?_))));refine Eh ?_;refine Jc ?_;refine aa rA rfl rfl u0 (by rw [hr];exact u1) rfl ?_;refine Je ?_;refine ac rfl hle (rm 1 _ rfl) rfl rfl ?_;refine Jd (Jb (Ja (Jc (Jf (Je ?_)))));refine Eh ?_;refine Jc ?_;refine Ei ?_;refine kh (by assumption) rfl (by assumption) (by assumption) rfl ?_;refine eG rfl rfl rfl rfl ?_;refine Ei ?_;refine ES.strict (X:=[]) hk3 rfl rfl hd0 hd1 ?_;refine aq (ah ?_);refine Ja (Jc (Jf (Je (Je ?_))));refine Eh ?_;refine cY rfl rfl rfl rfl ?_;refine Jf (Je (Je ?_));refine ES.up (X:=[]) rfl rfl ?_;refine aq (ah ?_);refine cI (enH be a z n m sv2 (({ e4 with strict:=En.dec e4.strict (ai z.s.t u).2.1 }:En).ups 1)++[]) (fun w A h=>h) ?_;generalize ({ e4 with strict:=En.dec e4.strict (ai z.s.t u).2.1 }:En).ups 1=e5 at *;refine Ja (Jc (Jf (Je ?_)));refine Eh ?_;refine Jc ?_;refine Ei ?_;refine kh (by assumption) rfl (by assumption) (by assumption) rfl ?_;refine Ji (Jb ?_);refine ay rfl (fun h3=>?_) (fun h3=>?_);rotate_left
    ·rw [if_neg (by simp only [beq_false_of_ne h3];simp)]
     refine al ?_;exact aC sv2 ⟨rfl,rfl,rfl,rfl,rfl,trivial⟩ (fun h=>h)
    rw [if_pos (beq_iff_eq.2 h3)];refine aj ?_;refine Jc (Jc ?_);refine a8 (enH be a z n m sv2 _) Tryz.call80 rfl (fun w3 F3 hle3 hC _=>eN (k:=2) hn hk5 hd0 hd1 (by omega) (by omega) w3 F3 hC) rfl fun sv3=>?_;refine aq ?_;exact aC sv3 ⟨rfl,rfl,rfl,rfl,rfl,trivial⟩ (fun h=>h)
   refine aj ?_;refine Ka ?_;refine Jc ?_;refine aq ?_;exact Pa ⟨(i + 1,(En.onNoD1 z.s) e2 u,sv3),hlt1,hk2.onNoD1 hs u0 u1,hS⟩
  rw [List.drop_eq_nil_of_le (by omega),List.foldl_nil] at hS;refine aG rfl ?_;rw [hS];exact aC sv2 ⟨rfl,rfl,trivial⟩ (fun h=>h)
 refine aj ?_;refine Jc (Jc ?_);refine a8 (enH be a z n m sv1 _) Tryz.call52 rfl (fun w3 F3 hle3 hC _=>eP hn hk1 q0 q1 w3 F3 hC) rfl fun sv3=>?_;refine aq ?_;exact eC (rs:=[]) (vs:=[]) Tryz.results49 rfl aL.nil fun w hw=>⟨sv3,rfl,hw⟩
set_option maxHeartbeats 16000000 in
theorem uT (hs:fJ n m np z.s) (hP:DB z) (hzn:z.np=np) (hk:aE n m np e) (q0:0≤q) (q1:q < n) {sv:Value} (w:World) (F:Nat→Prop) (hz:sT (mem w (fun b=>¬ F b)) n m z) (hH:Sep (enH be a z n m sv e) w F):
 iT Tryz.prog 54 [aK be,.int .i64 q] w F (fun _:Value=>.tuple #[]) (fun sv2=>enH be a z n m sv2 (En.onLate z.s e q)):=by
 have hn:=hs.small.1;have hle:Mem.le (mem w (fun b=>¬ F b)) (mem w (fun b=>¬ F b)):=Mem.le_refl _;have hr:=hs.rules;obtain ⟨fB,fO,fa,fc,fA,fm,fl,fi⟩:=eJ hz.th.foes q0 (by rw [hs.foes];exact q1);have fs:=aP fl;unfold br at fs;refine Calls.enter Tryz.func54 rfl _ rfl rfl (S:=F) (H:=enH be a z n m sv e++[]) hH ?_;unfold En.onLate;have hk1:aE n m np ((ap (aH z.s.t) q).foldl En.onLate1 e):=aE.fold (fun e u h u0 u1=>h.onLate1 hn u0 u1) (hs.foesAt q0 q1) hk;refine bf (ι:=Value) (fun _=>[(0,aK be),(1,.int .i64 q)]) (fun sv1=>enH be a z n m sv1 ((ap (aH z.s.t) q).foldl En.onLate1 e)++[]) ?_ (fun sv1=>?_)
 ·refine Ja (Jc (Jf (Je (Je ?_))));refine Eh ?_;refine Jc ?_
  refine aa fA rfl rfl q0 (by first | exact q1 | (rw [hs.foes];exact q1)) rfl ?_;refine ac rfl hle fm rfl rfl ?_;refine Jg (Jc (Jb ?_));have hnl:=hs.foesAt q0 q1;generalize ap (aH z.s.t) q=LF at *;refine ak ?_
  refine aI (ι:={ qq:Nat × En × Value // qq.1≤LF.length∧aE n m np qq.2.1∧LF.foldl En.onLate1 e=(LF.drop qq.1).foldl En.onLate1 qq.2.1 })
   (fun qq=>[(0,aK be),(1,.int .i64 q),(13,.slice fa LF.length fc),(14,.int .i64 LF.length),(15,.int .i64 qq.1.1)]) (fun qq=>enH be a z n m qq.1.2.2 qq.1.2.1++[]) (fun qq=>LF.length - qq.1.1) ⟨(0,e,sv),Nat.zero_le _,hk,rfl⟩ ⟨rfl,rfl,rfl,rfl,rfl,trivial⟩ (fun h=>h) ?_
  intro ⟨⟨i,e2,sv2⟩,hi,hk2,hS⟩;dsimp only at hi hk2 hS ⊢;refine Ja (Jk (Jb ?_));refine ar ?_;refine ay rfl (fun hlt=>?_) (fun hge=>?_)
  ·have hlt1:i < LF.length:=by omega
   rw [List.drop_eq_getElem_cons hlt1,List.foldl_cons] at hS;obtain ⟨B4,O4,hA4,hm4,_⟩:=aR fl (List.getElem?_eq_getElem hlt1);obtain ⟨u0,u1⟩:=hnl _ (List.getElem_mem hlt1);generalize LF[i]=u at *;refine al (ah ?_);refine bf (ι:=Value) (fun _=>[(0,aK be),(1,.int .i64 q),(13,.slice fa LF.length fc),(14,.int .i64 LF.length),(15,.int .i64 i)]) (fun sv3=>enH be a z n m sv3 (En.onLate1 e2 u)++[]) ?_ (fun sv3=>?_)
   ·refine ak ?_
    refine Ja ?_;refine aa hA4 rfl rfl (by omega) hlt rfl ?_;refine ac rfl hle (aT hm4) rfl rfl ?_;refine Jd (Jb (Ja (Jc (Jf (Je ?_)))));refine Eh ?_;refine Jc ?_;refine Ei ?_;refine iU (by assumption) rfl (by assumption) (by assumption) rfl ?_;refine Jm (Jc ?_);refine aY 27 rfl (fun h1=>?_) (fun h1=>?_)
    ·(iterate 7 refine Jz ?_);refine Jv (Jb ?_)
     refine cn rfl ?_;have e3:En.onLate1 e2 u=(({ e2 with opn:=En.dec e2.opn u }:En).ups 1).look u:=by unfold En.onLate1;rw [if_pos (by rw [decide_eq_true h1];rfl)]
     rw [e3];refine Ja (Jc (Jf (Je ?_)));refine Eh ?_;refine Jc ?_;refine Ei ?_;refine ur (by assumption) rfl (by assumption) (by assumption) rfl ?_;refine eG rfl rfl rfl rfl ?_;refine Ei ?_;refine ES.opn (X:=[]) hk2 rfl rfl u0 u1 ?_;refine aq (ah ?_);refine Ja (Jc (Jf (Je (Je ?_))));refine Eh ?_;refine cY rfl rfl rfl rfl ?_;refine Jf (Je (Je ?_));refine ES.up (X:=[]) rfl rfl ?_;refine aq (ah ?_);refine aj ?_;refine Jc (Jc ?_);have hk3:=aE.ups (v:=1) (hk2.opn1 u.toNat (IntKind.i64.wrap (e2.opn.getD u.toNat 0 - 1)));refine a8 (enH be a z n m sv2 _) Tryz.call52 rfl (fun w3 F3 hle3 hC _=>eP hn hk3 u0 u1 w3 F3 hC) rfl fun sv3=>?_;refine aq ?_;exact aC sv3 ⟨rfl,rfl,rfl,rfl,rfl,trivial⟩ (fun h=>h)
    refine Jy (Jc ?_);refine Jy (Jf ?_);refine Jy (Je ?_);refine Jy ?_;refine Eh ?_;refine Jy (Jc ?_);refine Jy ?_;refine Ei ?_;refine Jy ?_;refine mU (by assumption) rfl (by assumption) (by assumption) rfl ?_;refine Jw (Jb ?_);refine ce rfl (fun h2=>?_) (fun h2=>?_)
    ·have e3:En.onLate1 e2 u=(({ e2 with opn:=En.dec e2.opn u }:En).ups 1).look u:=by unfold En.onLate1;rw [if_pos (by rw [h2];simp)]
     rw [e3];refine Ja (Jc (Jf (Je ?_)));refine Eh ?_;refine Jc ?_;refine Ei ?_;refine ur (by assumption) rfl (by assumption) (by assumption) rfl ?_;refine eG rfl rfl rfl rfl ?_;refine Ei ?_;refine ES.opn (X:=[]) hk2 rfl rfl u0 u1 ?_;refine aq (ah ?_);refine Ja (Jc (Jf (Je (Je ?_))));refine Eh ?_;refine cY rfl rfl rfl rfl ?_;refine Jf (Je (Je ?_));refine ES.up (X:=[]) rfl rfl ?_;refine aq (ah ?_);refine aj ?_;refine Jc (Jc ?_);have hk3:=aE.ups (v:=1) (hk2.opn1 u.toNat (IntKind.i64.wrap (e2.opn.getD u.toNat 0 - 1)));refine a8 (enH be a z n m sv2 _) Tryz.call52 rfl (fun w3 F3 hle3 hC _=>eP hn hk3 u0 u1 w3 F3 hC) rfl fun sv3=>?_;refine aq ?_;exact aC sv3 ⟨rfl,rfl,rfl,rfl,rfl,trivial⟩ (fun h=>h)
    refine al ?_;have e3:En.onLate1 e2 u=e2:=by unfold En.onLate1;rw [if_neg (by rw [decide_eq_false h1,h2];simp)]
    rw [e3];exact aC sv2 ⟨rfl,rfl,rfl,rfl,rfl,trivial⟩ (fun h=>h)
   refine aj ?_;refine Ka ?_;refine Jc ?_;refine aq ?_;exact Pa ⟨(i + 1,En.onLate1 e2 u,sv3),hlt1,hk2.onLate1 hn u0 u1,hS⟩
  rw [List.drop_eq_nil_of_le (by omega),List.foldl_nil] at hS;refine aG rfl ?_;rw [hS];exact aC sv2 ⟨rfl,rfl,trivial⟩ (fun h=>h)
 refine aj ?_;refine Jc (Jc ?_);refine a8 (enH be a z n m sv1 _) Tryz.call49 rfl (fun w3 F3 hle3 hC _=>qb hs hP hzn hk1 q0 q1 w3 F3 (hz.mono hle3) hC) rfl fun sv3=>?_;refine aq ?_;exact eC (rs:=[]) (vs:=[]) Tryz.results54 rfl aL.nil fun w hw=>⟨sv3,rfl,hw⟩
end
end
section
section
variable {n m np:Nat} {e:En} {s:Es} {q k p r v:Int}
theorem aE.onMinus2 (hn:n≤4096) (h:aE n m np e) (p0:0≤p) (p1:p < np):aE n m np (En.onMinus2 e p):=aE.stand hn (aE.ups (h.left1 p0 p1)) p0 p1
theorem aE.onMinus1 (hs:fJ n m np s) (h:aE n m np e) (r0:0≤r) (r1:r < m):aE n m np (En.onMinus1 s e r):=by
 have hn:=hs.small.1;unfold En.onMinus1;split
 ·exact h
 dsimp only;have h1:aE n m np ((ap s.of r).foldl En.settle (({ e with dead:=e.dead.set r.toNat true }:En).upL s r)):=aE.fold (fun e u h u0 u1=>h.settle hn u0 u1) (hs.ofAt r0 r1) (h.kill (s:=s));split
 ·exact aE.look hn (aE.fold (fun e u h u0 u1=>h.onMinus2 hn u0 u1) (hs.beatsAt r0 r1) (aE.ups (h1.backs1 _ _))) (hs.headAt r0 r1).1 (hs.headAt r0 r1).2
 ·exact h1
theorem aE.onMinus (hs:fJ n m np s) (h:aE n m np e) (q0:0≤q) (q1:q < n):aE n m np (En.onMinus s e q):=aE.fold (fun e u h u0 u1=>h.onMinus1 hs u0 u1) (hs.inAt q0 q1) h
end
attribute [local irreducible] RW CW
section
variable {be n m np:Nat} {a:EAd} {z:ECs} {e:En} {q k p r:Int} {X:List HP}
set_option maxHeartbeats 16000000 in
theorem rR (hs:fJ n m np z.s) (hP:DB z) (hzn:z.np=np) (hk:aE n m np e) (q0:0≤q) (q1:q < n) {sv:Value} (w:World) (F:Nat→Prop) (hz:sT (mem w (fun b=>¬ F b)) n m z) (hH:Sep (enH be a z n m sv e) w F):
 iT Tryz.prog 51 [aK be,.int .i64 q] w F (fun _:Value=>.tuple #[]) (fun sv2=>enH be a z n m sv2 (En.onMinus z.s e q)):=by
 have hn:=hs.small.1;have hle:Mem.le (mem w (fun b=>¬ F b)) (mem w (fun b=>¬ F b)):=Mem.le_refl _;have hr:=hs.rules;obtain ⟨nB,nO,na,nc,nA,nm,nl,ni⟩:=eJ hz.inn q0 (by rw [hs.inn];exact q1);have ns:=aP nl;unfold br at ns;refine Calls.enter Tryz.func51 rfl _ rfl rfl (S:=F) (H:=enH be a z n m sv e++[]) hH ?_;refine Ja (Jc (Jf (Je ?_)));refine Eh ?_;refine Jc ?_;refine aa nA rfl rfl q0 (by first | exact q1 | (rw [hs.inn];exact q1)) rfl ?_;refine ac rfl hle nm rfl rfl ?_;refine Jg (Jc (Jb ?_));have hnl:=hs.inAt q0 q1;unfold En.onMinus;generalize ap z.s.inn q=LN at *;refine ak ?_
 refine aI (ι:={ qq:Nat × En × Value // qq.1≤LN.length∧aE n m np qq.2.1∧LN.foldl (En.onMinus1 z.s) e=(LN.drop qq.1).foldl (En.onMinus1 z.s) qq.2.1 })
  (fun qq=>[(0,aK be),(1,.int .i64 q),(17,.slice na LN.length nc),(18,.int .i64 LN.length),(19,.int .i64 qq.1.1)]) (fun qq=>enH be a z n m qq.1.2.2 qq.1.2.1++[]) (fun qq=>LN.length - qq.1.1) ⟨(0,e,sv),Nat.zero_le _,hk,rfl⟩ ⟨rfl,rfl,rfl,rfl,rfl,trivial⟩ (fun h=>h) ?_
 intro ⟨⟨i,e2,sv2⟩,hi,hk2,hS⟩;dsimp only at hi hk2 hS ⊢;refine Ja (Jk (Jb ?_));refine ar ?_;refine ay rfl (fun hlt=>?_) (fun hge=>?_)
 ·have hlt1:i < LN.length:=by omega
  rw [List.drop_eq_getElem_cons hlt1,List.foldl_cons] at hS;obtain ⟨B4,O4,hA4,hm4,_⟩:=aR nl (List.getElem?_eq_getElem hlt1);obtain ⟨u0,u1⟩:=hnl _ (List.getElem_mem hlt1);generalize LN[i]=u at *;refine al (ah ?_);refine bf (ι:=Value) (fun _=>[(0,aK be),(1,.int .i64 q),(17,.slice na LN.length nc),(18,.int .i64 LN.length),(19,.int .i64 i)]) (fun sv3=>enH be a z n m sv3 ((En.onMinus1 z.s) e2 u)++[]) ?_ (fun sv3=>?_)
  ·refine ak ?_
   refine Ja ?_;refine aa hA4 rfl rfl (by omega) hlt rfl ?_;refine ac rfl hle (aT hm4) rfl rfl ?_;refine Jd (Jb ?_);obtain ⟨rB,rO,ra,rc,rA,rm,rl,ri⟩:=bz hz.th u0 (by rw [hs.rules];exact u1);have rs:=aP rl;unfold br at rs;obtain ⟨fB,fO,fa,fc,fA,fm,fl,fi⟩:=eJ hz.of u0 (by rw [hs.of];exact u1);have fs:=aP fl;unfold br at fs;obtain ⟨bB,bO,ba,bc,bA,bm,bl,bi⟩:=eJ hz.beats u0 (by rw [hs.beats];exact u1);have bs:=aP bl;unfold br at bs;refine ar ?_;refine Ja (Jc (Jc (Jf (Je ?_))));refine Eh ?_;refine Jc ?_;refine a8 (enH be a z n m sv2 e2) Tryz.call84 rfl (fun w3 F3 hle3 hC _=>Ai hk2 hs u0 u1 w3 F3 (hz.mono hle3) hC) rfl fun _=>?_;refine Js (Jb ?_);refine ce rfl (fun h2=>?_) (fun h2=>?_)
   ·rw [Bool.not_not] at h2
    have e3:En.onMinus1 z.s e2 u=e2:=by unfold En.onMinus1;rw [if_pos h2]
    rw [if_pos h2];refine aG rfl ?_;rw [e3];exact aC sv2 ⟨rfl,rfl,rfl,rfl,rfl,trivial⟩ (fun h=>h)
   rw [Bool.not_not] at h2;rw [h2,if_neg Bool.false_ne_true];have hk3:=hk2.kill (s:=z.s) (r:=u);obtain ⟨hd0,hd1⟩:=hs.headAt u0 u1;have e3:En.onMinus1 z.s e2 u=if cZ z.s.t u then ((ap z.s.beats u).foldl En.onMinus2 (({ ((ap z.s.of u).foldl En.settle (En.kill z.s e2 u)) with backs:=En.dec ((ap z.s.of u).foldl En.settle (En.kill z.s e2 u)).backs (ai z.s.t u).2.1 }:En).ups 1)).look (ai z.s.t u).2.1 else (ap z.s.of u).foldl En.settle (En.kill z.s e2 u):=by unfold En.onMinus1;rw [if_neg (by rw [h2];simp)];rfl
   rw [e3];clear e3;generalize En.kill z.s e2 u=e4 at *;have hk5:aE n m np ((ap z.s.of u).foldl En.settle e4):=aE.fold (fun e u h u0 u1=>h.settle hn u0 u1) (hs.ofAt u0 u1) hk3;have hofs:=hs.ofAt u0 u1;have hbts:=hs.beatsAt u0 u1;have hofl:=hs.of;have hbtl:=hs.beats;refine al (ah ?_);refine bf (ι:=Value) (fun _=>[(0,aK be),(1,.int .i64 q),(5,.int .i64 u),(17,.slice na LN.length nc),(18,.int .i64 LN.length),(19,.int .i64 i)]) (fun sv1=>enH be a z n m sv1 ((ap z.s.of u).foldl En.settle e4)++[]) ?_ (fun sv1=>?_)
   ·refine Ja (Jc (Jf (Je ?_)));refine Eh ?_;refine Jc ?_
    refine aa fA rfl rfl u0 (by first | exact u1 | (rw [hofl];exact u1)) rfl ?_;refine ac rfl hle fm rfl rfl ?_;refine Jg (Jc (Jb ?_));generalize ap z.s.of u=LF at *;refine ak ?_
    refine aI (ι:={ qq:Nat × En × Value // qq.1≤LF.length∧aE n m np qq.2.1∧LF.foldl En.settle e4=(LF.drop qq.1).foldl En.settle qq.2.1 })
     (fun qq=>[(0,aK be),(1,.int .i64 q),(5,.int .i64 u),(17,.slice na LN.length nc),(18,.int .i64 LN.length),(19,.int .i64 i),(37,.slice fa LF.length fc),(38,.int .i64 LF.length),(39,.int .i64 qq.1.1)]) (fun qq=>enH be a z n m qq.1.2.2 qq.1.2.1++[]) (fun qq=>LF.length - qq.1.1) ⟨(0,e4,sv2),Nat.zero_le _,hk3,rfl⟩ ⟨rfl,rfl,rfl,rfl,rfl,rfl,rfl,rfl,rfl,trivial⟩ (fun h=>h) ?_
    intro ⟨⟨ix,e2x,sv2x⟩,hix,hk2x,hSx⟩;dsimp only at hix hk2x hSx ⊢;refine Ja (Jk (Jb ?_));refine ar ?_;refine ay rfl (fun hltx=>?_) (fun hgex=>?_)
    ·have hlt1x:ix < LF.length:=by omega
     rw [List.drop_eq_getElem_cons hlt1x,List.foldl_cons] at hSx;obtain ⟨B4x,O4x,hA4x,hm4x,_⟩:=aR fl (List.getElem?_eq_getElem hlt1x);obtain ⟨u0x,u1x⟩:=hofs _ (List.getElem_mem hlt1x);generalize LF[ix]=ux at *;refine al (ah ?_);refine bf (ι:=Value) (fun _=>[(0,aK be),(1,.int .i64 q),(5,.int .i64 u),(17,.slice na LN.length nc),(18,.int .i64 LN.length),(19,.int .i64 i),(37,.slice fa LF.length fc),(38,.int .i64 LF.length),(39,.int .i64 ix)]) (fun sv3=>enH be a z n m sv3 (En.settle e2x ux)++[]) ?_ (fun sv3x=>?_)
     ·refine ak ?_
      refine Ja ?_;refine aa hA4x rfl rfl (by omega) hltx rfl ?_;refine ac rfl hle (aT hm4x) rfl rfl ?_;refine Jd (Jb ?_);refine aj ?_;refine Jc (Jc ?_);obtain ⟨PB,hPB⟩:=hP (by omega);refine a8 (enH be a z n m sv2x e2x) Tryz.call86 rfl (fun w3 F3 hle3 hC _=>nI hn hk2x hPB hzn u0x u1x w3 F3 hC) rfl fun sv3=>?_;refine aq ?_;exact aC sv3 ⟨rfl,rfl,rfl,rfl,rfl,rfl,rfl,rfl,rfl,trivial⟩ (fun h=>h)
     refine aj ?_;refine Ka ?_;refine Jc ?_;refine aq ?_;exact Pa ⟨(ix + 1,En.settle e2x ux,sv3x),hlt1x,hk2x.settle hn u0x u1x,hSx⟩
    rw [List.drop_eq_nil_of_le (by omega),List.foldl_nil] at hSx;refine aG rfl ?_;rw [hSx];exact aC sv2x ⟨rfl,rfl,rfl,rfl,rfl,rfl,trivial⟩ (fun h=>h)
   generalize (ap z.s.of u).foldl En.settle e4=e5 at *;refine ar ?_;refine Ja (Jc (Jc ?_));refine aD Tryz.call79 rfl (fun w hw=>lP hw (hz.mono (au hw)) hs u0 u1) rfl ?_;refine Js (Jb ?_);refine ce rfl (fun h3=>?_) (fun h3=>?_)
   ·rw [Bool.not_eq_true'] at h3
    rw [if_neg (by simp [h3])];refine aG rfl ?_;exact aC sv1 ⟨rfl,rfl,rfl,rfl,rfl,trivial⟩ (fun h=>h)
   rw [Bool.not_eq_false'] at h3;rw [if_pos h3];refine al (ah ?_);refine Ja (Jc (Jf (Je (Je ?_))));refine Eh ?_;refine Jc ?_;refine aa rA rfl rfl u0 (by rw [hr];exact u1) rfl ?_;refine Je ?_;refine ac rfl hle (rm 1 _ rfl) rfl rfl ?_;refine Jd (Jb (Ja (Jc (Jf (Je ?_)))));refine Eh ?_;refine Jc ?_;refine Ei ?_;refine iU (by assumption) rfl (by assumption) (by assumption) rfl ?_;refine eG rfl rfl rfl rfl ?_;refine Ei ?_;refine ES.backs (X:=[]) hk5 rfl rfl hd0 hd1 ?_;refine aq (ah ?_);refine Ja (Jc (Jf (Je (Je ?_))));refine Eh ?_;refine cY rfl rfl rfl rfl ?_;refine Jf (Je (Je ?_));refine ES.up (X:=[]) rfl rfl ?_;refine aq (ah ?_);have hk6:=aE.ups (v:=1) (hk5.backs1 (ai z.s.t u).2.1.toNat (IntKind.i64.wrap (e5.backs.getD (ai z.s.t u).2.1.toNat 0 - 1)));refine cI (enH be a z n m sv1 (({ e5 with backs:=En.dec e5.backs (ai z.s.t u).2.1 }:En).ups 1)++[]) (fun w A h=>h) ?_;have hk7:aE n m np (({ e5 with backs:=En.dec e5.backs (ai z.s.t u).2.1 }:En).ups 1):=hk6;clear hk6;generalize ({ e5 with backs:=En.dec e5.backs (ai z.s.t u).2.1 }:En).ups 1=e6 at *;refine ar ?_;refine Ja (Jc (Jf (Je ?_)));refine Eh ?_;refine Jc ?_;refine aa bA rfl rfl u0 (by first | exact u1 | (rw [hbtl];exact u1)) rfl ?_;refine ac rfl hle bm rfl rfl ?_;refine Jg (Jc (Jb ?_));generalize ap z.s.beats u=LB at *;refine ak ?_
   refine aI (ι:={ qq:Nat × En × Value // qq.1≤LB.length∧aE n m np qq.2.1∧LB.foldl En.onMinus2 e6=(LB.drop qq.1).foldl En.onMinus2 qq.2.1 })
    (fun qq=>[(0,aK be),(1,.int .i64 q),(5,.int .i64 u),(17,.slice na LN.length nc),(18,.int .i64 LN.length),(19,.int .i64 i),(8,.int .i64 (ai z.s.t u).2.1),(84,.slice ba LB.length bc),(85,.int .i64 LB.length),(86,.int .i64 qq.1.1)]) (fun qq=>enH be a z n m qq.1.2.2 qq.1.2.1++[]) (fun qq=>LB.length - qq.1.1) ⟨(0,e6,sv1),Nat.zero_le _,hk7,rfl⟩ ⟨rfl,rfl,rfl,rfl,rfl,rfl,rfl,rfl,rfl,rfl,trivial⟩ (fun h=>h) ?_
   intro ⟨⟨iy,e2y,sv2y⟩,hiy,hk2y,hSy⟩;dsimp only at hiy hk2y hSy ⊢;refine Ja (Jk (Jb ?_));refine ar ?_;refine ay rfl (fun hlty=>?_) (fun hgey=>?_)
   ·have hlt1y:iy < LB.length:=by omega
    rw [List.drop_eq_getElem_cons hlt1y,List.foldl_cons] at hSy;obtain ⟨B4y,O4y,hA4y,hm4y,_⟩:=aR bl (List.getElem?_eq_getElem hlt1y);obtain ⟨u0y,u1y⟩:=hbts _ (List.getElem_mem hlt1y);generalize LB[iy]=uy at *;refine al (ah ?_);refine bf (ι:=Value) (fun _=>[(0,aK be),(1,.int .i64 q),(5,.int .i64 u),(17,.slice na LN.length nc),(18,.int .i64 LN.length),(19,.int .i64 i),(8,.int .i64 (ai z.s.t u).2.1),(84,.slice ba LB.length bc),(85,.int .i64 LB.length),(86,.int .i64 iy)]) (fun sv3=>enH be a z n m sv3 (En.onMinus2 e2y uy)++[]) ?_ (fun sv3y=>?_)
    ·refine ak ?_
     refine Ja ?_;refine aa hA4y rfl rfl (by omega) hlty rfl ?_;refine ac rfl hle (aT hm4y) rfl rfl ?_;refine Jd (Jb (Ja (Jc (Jf (Je ?_)))));refine Eh ?_;refine Jc ?_;obtain ⟨PB,hPB⟩:=hP (by omega);have hx2:=jx hk2y u0y u1y;refine aa hPB rfl rfl u0y (by rw [hzn];exact u1y) rfl ?_;refine Je ?_;refine ig (j:=3) hk2y hPB rfl (by omega) u0y u1y rfl rfl rfl ?_;refine eG rfl rfl rfl rfl ?_;refine aa hPB rfl rfl u0y (by rw [hzn];exact u1y) rfl ?_;refine Je ?_;refine ES.left (X:=[]) hk2y hPB rfl (by omega) rfl u0y u1y ?_;refine aq (ah ?_);refine Ja (Jc (Jf (Je (Je ?_))));refine Eh ?_;refine cY rfl rfl rfl rfl ?_;refine Jf (Je (Je ?_));refine ES.up (X:=[]) rfl rfl ?_;refine aq (ah ?_);refine aj ?_;refine Jc (Jc ?_);have hk3:=aE.ups (v:=1) (hk2y.left1 (v:=IntKind.i64.wrap ((e2y.pair uy).2.2.2 - 1)) u0y u1y);refine a8 (enH be a z n m sv2y _) Tryz.call87 rfl (fun w3 F3 hle3 hC _=>pL hn hk3 hPB hzn u0y u1y w3 F3 hC) rfl fun sv3=>?_;refine aq ?_;exact aC sv3 ⟨rfl,rfl,rfl,rfl,rfl,rfl,rfl,rfl,rfl,rfl,trivial⟩ (fun h=>h)
    refine aj ?_;refine Ka ?_;refine Jc ?_;refine aq ?_;exact Pa ⟨(iy + 1,En.onMinus2 e2y uy,sv3y),hlt1y,hk2y.onMinus2 hn u0y u1y,hSy⟩
   rw [List.drop_eq_nil_of_le (by omega),List.foldl_nil] at hSy;refine aG rfl (ah ?_);rw [hSy];refine aj ?_;refine Jc (Jc ?_);refine a8 (enH be a z n m sv2y e2y) Tryz.call52 rfl (fun w3 F3 hle3 hC _=>eP hn hk2y hd0 hd1 w3 F3 hC) rfl fun sv4=>?_;refine aq ?_;exact aC sv4 ⟨rfl,rfl,rfl,rfl,rfl,trivial⟩ (fun h=>h)
  refine aj ?_;refine Ka ?_;refine Jc ?_;refine aq ?_;exact Pa ⟨(i + 1,(En.onMinus1 z.s) e2 u,sv3),hlt1,hk2.onMinus1 hs u0 u1,hS⟩
 rw [List.drop_eq_nil_of_le (by omega),List.foldl_nil] at hS;refine aG rfl ?_;rw [hS];exact eC (rs:=[]) (vs:=[]) Tryz.results51 rfl aL.nil fun w hw=>⟨sv2,rfl,hw⟩
end
end
section
def C1 (l:List Int):Prop:=∀ x∈l,inR .i64 x
def cT (sk:Option Nat) (e2:TypeId) (es:List (List Value)) (L:List (List Int)):HP where
 p w F:=es.length=L.length∧∃ G:Nat→Nat→Prop,(∀ i b,G i b→F b)∧(∀ i j b,i≠j→G i b→¬ G j b)∧∀ (i:Nat) (l:List Int),sk≠some i→L[i]?=some l→∃ u,es[i]?=some [u]∧(ax e2 1 u (l.map bY)).p w (G i)
 st:=fun h hs ⟨h1,G,h2,h3,h4⟩=>⟨h1,G,h2,h3,fun i l hk hl=>let ⟨u,h5,h6⟩:=h4 i l hk hl;⟨u,h5,(ax e2 1 u (l.map bY)).st (fun b hb=>h b (h2 i b hb)) hs h6⟩⟩
 up:=fun h ⟨h1,G,h2,h3,h4⟩=>⟨h1,G,fun i b hb=>h b (h2 i b hb),h3,h4⟩
def de (e e2:TypeId) (v:Value) (L:List (List Int)):HP:=G3 fun es=>s5 (ax e 1 v es) (cT none e2 es L)
section
variable {w:World} {A:Nat→Prop} {r:List HP} {l:List Int} {es:List (List Value)} {L:List (List Int)} {v v':Value} {i:Nat} {e e2:TypeId}
theorem nK (h:Sep (de e e2 v L::r) w A):∃ es,Sep (ax e 1 v es::cT none e2 es L::r) w A:=by
 obtain ⟨F,hF,⟨es,F0,h0,h1,h2⟩,hr⟩:=h;exact ⟨es,F0,fun b hb=>hF b (h0 b hb),h1,fun b=>F b∧¬ F0 b,fun b hb=>⟨⟨(hF b hb.1).1,hb.2⟩,(hF b hb.1).2⟩,h2,Sep.up (fun b hb=>⟨⟨hb.1,fun h=>hb.2 (h0 b h)⟩,fun h=>hb.2 h.1⟩) hr⟩
theorem pS (h:Sep (ax e 1 v es::cT none e2 es L::r) w A):Sep (de e e2 v L::r) w A:=by
 obtain ⟨F0,hF0,h1,F1,hF1,h2,hr⟩:=h;refine ⟨fun b=>F0 b∨F1 b,fun b hb=>hb.elim (hF0 b) (fun h=>⟨(hF1 b h).1.1,(hF1 b h).2⟩),⟨es,F0,fun b hb=>.inl hb,h1,(cT none e2 es L).up (fun b hb=>⟨.inr hb,(hF1 b hb).1.2⟩) h2⟩,Sep.up (fun b hb=>⟨hb.1.1,fun h=>h.elim hb.1.2 hb.2⟩) hr⟩
theorem sa (hl:L[i]?=some l) (h:Sep (cT none e2 es L::r) w A):∃ u,(es[i]?=some [u]∧es.length=L.length)∧Sep (ax e2 1 u (l.map bY)::cT (some i) e2 es L::r) w A:=by
 obtain ⟨F,hF,⟨h1,G,h2,h3,h4⟩,hr⟩:=h;obtain ⟨u,h5,h6⟩:=h4 i l (by simp) hl;refine ⟨u,⟨h5,h1⟩,G i,fun b hb=>hF b (h2 i b hb),h6,fun b=>F b∧¬ G i b,fun b hb=>⟨⟨(hF b hb.1).1,hb.2⟩,(hF b hb.1).2⟩,⟨h1,fun j b=>G j b∧¬ G i b,fun j b hb=>⟨h2 j b hb.1,hb.2⟩,fun j k b hjk hb hb2=>h3 j k b hjk hb.1 hb2.1,fun j l2 hj hl2=>?_⟩,Sep.up (fun b hb=>⟨⟨hb.1,fun h=>hb.2 (h2 i b h)⟩,fun h=>hb.2 h.1⟩) hr⟩;obtain ⟨u2,h7,h8⟩:=h4 j l2 (by simp) hl2;exact ⟨u2,h7,(ax e2 1 u2 (l2.map bY)).up (fun b hb=>⟨hb,fun hg=>h3 i j b (by simpa using hj) hg hb⟩) h8⟩
theorem xL (hi:i < L.length) (h:Sep (ax e2 1 v' (l.map bY)::cT (some i) e2 es L::r) w A):Sep (cT none e2 (es.set i [v']) (L.set i l)::r) w A:=by
 obtain ⟨F0,hF0,h0,F,hF,⟨h1,G,h2,h3,h4⟩,hr⟩:=h;refine ⟨fun b=>F0 b∨F b,fun b hb=>hb.elim (hF0 b) (fun h=>⟨(hF b h).1.1,(hF b h).2⟩),⟨by simpa using h1,fun j b=>if j=i then F0 b else G j b∧F b,fun j b hb=>?_,fun j k b hjk hb hb2=>?_,fun j l2 _ hl2=>?_⟩,Sep.up (fun b hb=>⟨hb.1.1,fun h=>h.elim hb.1.2 hb.2⟩) hr⟩
 ·dsimp only at hb
  split at hb
  ·exact .inl hb
  ·exact .inr hb.2
 ·dsimp only at hb hb2
  split at hb <;> split at hb2
  ·rename_i a b;exact hjk (a.trans b.symm)
  ·exact (hF b hb2.2).1.2 hb
  ·exact (hF b hb.2).1.2 hb2
  ·exact h3 j k b hjk hb.1 hb2.1
 ·by_cases hj:i=j
  ·subst hj
   rw [List.getElem?_set_self hi] at hl2;simp only [Option.some.injEq] at hl2;subst hl2;refine ⟨v',by rw [List.getElem?_set_self (by omega)],?_⟩
   simpa using h0
  ·rw [List.getElem?_set_ne hj] at hl2
   obtain ⟨u2,h5,h6⟩:=h4 j l2 (by simpa using hj) hl2;refine ⟨u2,by rw [List.getElem?_set_ne hj];exact h5,?_⟩;refine (ax e2 1 u2 (l2.map bY)).up (fun b hb=>?_) h6;dsimp only;rw [if_neg (fun e=>hj (Eq.symm e))];exact ⟨hb,h2 j b hb⟩
theorem fp (hl:L[i]?=some l) (h:Sep (de e e2 v L::r) w A):
 ∃ q:List (List Value) × Value,(q.1[i]?=some [q.2]∧q.1.length=L.length)∧Sep (ax e 1 v q.1::ax e2 1 q.2 (l.map bY)::cT (some i) e2 q.1 L::r) w A:=by
 obtain ⟨es,h1⟩:=nK h;obtain ⟨F,hF,ho,h2⟩:=h1;obtain ⟨u,h3,h4⟩:=sa hl h2;exact ⟨(es,u),h3,F,hF,ho,h4⟩
theorem d9 (hi:i < L.length) (h:Sep (ax e 1 v (es.set i [v'])::ax e2 1 v' (l.map bY)::cT (some i) e2 es L::r) w A):Sep (de e e2 v (L.set i l)::r) w A:=
 pS (cG (fun A h=>xL hi h) h)
theorem lr {n:Nat} (h:Sep (ax e 1 v (List.replicate n [.slice none 0 0])::r) w A):Sep (de e e2 v (List.replicate n [])::r) w A:=by
 obtain ⟨F,hF,hc,hr⟩:=h;refine pS ⟨F,hF,hc,fun _=>False,fun b h=>h.elim,⟨by simp,fun _ _=>False,fun i b h=>h.elim,fun i j b _ h=>h.elim,fun i l _ hl=>?_⟩,Sep.up (fun b hb=>⟨hb,fun h=>h⟩) hr⟩;have e2:l=[]:=(List.mem_replicate.1 (List.mem_of_getElem? hl)).2;have e3:=(List.getElem?_eq_some_iff.1 hl).1;rw [List.length_replicate] at e3;subst e2;exact ⟨.slice none 0 0,by rw [List.getElem?_replicate,if_pos e3],.inl ⟨rfl,rfl⟩⟩
theorem Ak {F:Nat→Prop} (hb:l.length * 8≤br) (hi:C1 l) (h:(ax e2 1 v (l.map bY)).p w F):rx cO w F [v] l:=
 ⟨v,e2,l.map bY,F,fun _ _=>False,rfl,h,fun b hb=>hb,hb,by simp,fun i b h=>h.elim,fun i j b _ h=>h.elim,fun i cs y hc hy=>by
  rw [List.getElem?_map,hy] at hc;simp only [Option.map_some,Option.some.injEq] at hc;exact ⟨hc.symm,hi _ (List.mem_of_getElem? hy)⟩⟩
theorem lq (hL:L.length * 24≤br) (hl:∀ l∈L,l.length * 8≤br∧C1 l) (h:Sep (de e e2 v L::r) w A):Sep (i5 en [v] L::r) w A:=by
 obtain ⟨es,h1⟩:=nK h;obtain ⟨F0,hF0,ho,F,hF,⟨h2,G,h3,h4,h5⟩,hr⟩:=h1;refine rD (t:=cO) (e:=e) (es:=es) rfl hL ⟨F0,hF0,ho,F,hF,⟨h2,G,h3,h4,fun i cs y _ hc hy=>?_⟩,hr⟩;obtain ⟨u,h6,h7⟩:=h5 i y (by simp) hy;rw [h6] at hc;simp only [Option.some.injEq] at hc;subst hc;obtain ⟨h8,h9⟩:=hl y (List.mem_of_getElem? hy);exact Ak h8 h9 h7
end
end
section
abbrev Fl (b:Nat) (D:List (Int × Int)):HP:=uX (Value.int .i64) (Value.int .i64) (.int .i64) b D
abbrev qj (o:Option Nat):List Value:=[.map o]
def fQ (sk:Option Nat) (bs:List (Option Nat)) (D:List (List (Int × Int))):HP where
 p w F:=(∀ (i b:Nat),sk≠some i→bs[i]?=some (some b)→F b∧DF w (Value.int .i64) (Value.int .i64) b (D.getD i []))∧(∀ (i j b:Nat),sk≠some i→sk≠some j→bs[i]?=some (some b)→bs[j]?=some (some b)→i=j)
 st:=fun h _ ⟨k1,k2⟩=>⟨fun i b hs hb=>by
  obtain ⟨h1,es,clock,h2,h3⟩:=k1 i b hs hb;exact ⟨h1,es,clock,(h b h1 (Array.getElem?_eq_some_iff.1 h2).1).trans h2,h3⟩,k2⟩
 up:=fun h ⟨k1,k2⟩=>⟨fun i b hs hb=>⟨h b (k1 i b hs hb).1,(k1 i b hs hb).2⟩,k2⟩
section
variable {w:World} {A:Nat→Prop} {r:List HP} {bs:List (Option Nat)} {D:List (List (Int × Int))} {i b n:Nat} {D':List (Int × Int)}
theorem n9 (hb:bs[i]?=some (some b)) (h:Sep (fQ none bs D::r) w A):Sep (Fl b (D.getD i [])::fQ (some i) bs D::r) w A:=by
 obtain ⟨F,hF,⟨k1,k2⟩,hr⟩:=h;obtain ⟨f1,f2⟩:=k1 i b (by simp) hb;refine ⟨fun x=>x=b,fun x hx=>hx ▸ hF b f1,⟨rfl,f2⟩,fun x=>F x∧x≠b,fun x hx=>⟨⟨(hF x hx.1).1,hx.2⟩,(hF x hx.1).2⟩,⟨fun j c hj hc=>?_,fun j1 j2 c h1 h2=>k2 j1 j2 c (by simp) (by simp)⟩,Sep.up (fun x hx=>⟨⟨hx.1,fun e=>hx.2 (e ▸ f1)⟩,fun hf=>hx.2 hf.1⟩) hr⟩;obtain ⟨g1,g2⟩:=k1 j c (by simp) hc;exact ⟨⟨g1,fun e=>hj (by rw [k2 i j c (by simp) (by simp) (e ▸ hb) hc])⟩,g2⟩
theorem xk (h:Sep (fQ none bs D::r) w A):Sep (fQ (some i) bs D::r) w A:=by
 obtain ⟨F,hF,⟨k1,k2⟩,hr⟩:=h;exact ⟨F,hF,⟨fun j c _ hc=>k1 j c (by simp) hc,fun j1 j2 c _ _=>k2 j1 j2 c (by simp) (by simp)⟩,hr⟩
theorem oU (h1:i < bs.length) (h2:i < D.length) (h:Sep (Fl b D'::fQ (some i) bs D::r) w A):Sep (fQ none (bs.set i (some b)) (D.set i D')::r) w A:=by
 obtain ⟨F,hF,⟨hb,hm⟩,F2,hF2,⟨k1,k2⟩,hr⟩:=h;refine ⟨fun x=>F x∨F2 x,fun x hx=>hx.elim (hF x) (fun h=>⟨(hF2 x h).1.1,(hF2 x h).2⟩),⟨fun j c _ hc=>?_,fun j1 j2 c _ _ hc1 hc2=>?_⟩,Sep.up (fun x hx=>⟨hx.1.1,fun e=>e.elim hx.1.2 hx.2⟩) hr⟩
 ·by_cases e:i=j
  ·subst e
   rw [List.getElem?_set_self h1] at hc;simp only [Option.some.injEq] at hc;subst hc;refine ⟨.inl hb,?_⟩;rw [List.getD_eq_getElem?_getD,List.getElem?_set_self h2];exact hm
  ·rw [List.getElem?_set_ne e] at hc
   obtain ⟨g1,g2⟩:=k1 j c (by simpa using e) hc;refine ⟨.inr g1,?_⟩;rw [List.getD_eq_getElem?_getD,List.getElem?_set_ne e,← List.getD_eq_getElem?_getD];exact g2
 ·have new:∀ j c,(bs.set i (some b))[j]?=some (some c)→(i=j∧c=b)∨(i≠j∧bs[j]?=some (some c)∧c≠b):=fun j c hc=>by
   by_cases e:i=j
   ·subst e
    rw [List.getElem?_set_self h1] at hc;simp only [Option.some.injEq] at hc;exact .inl ⟨rfl,hc.symm⟩
   ·rw [List.getElem?_set_ne e] at hc
    exact .inr ⟨e,hc,fun e2=>(hF2 c (k1 j c (by simpa using e) hc).1).1.2 (e2 ▸ hb)⟩
  rcases new j1 c hc1 with ⟨a1,a2⟩ | ⟨a1,a2,a3⟩ <;> rcases new j2 c hc2 with ⟨b1,b2⟩ | ⟨b1,b2,b3⟩
  ·exact a1.symm.trans b1
  ·exact absurd a2 b3
  ·exact absurd b2 a3
  ·exact k2 j1 j2 c (by simpa using a1) (by simpa using b1) a2 b2
theorem zY (h:Sep r w A):Sep (fQ none (List.replicate n none) D::r) w A:=by
 have key:∀ (i b:Nat),(List.replicate n (none:Option Nat))[i]?=some (some b)→False:=fun i b h=>by
  have:=(List.mem_replicate.1 (List.mem_of_getElem? h)).2;cases this
 exact ⟨fun _=>False,fun b h=>h.elim,⟨fun i b _ h=>(key i b h).elim,fun i j b _ _ h=>(key i b h).elim⟩,Sep.up (fun b hb=>⟨hb,fun h=>h⟩) h⟩
end
section
variable {P:Program} {E:Env} {ops:Array Oper} {Q:Pst} {rest:List Oper} {G:List (Nat × Value)} {H:List HP}
variable {dst:Nat} {ty t kt et:TypeId} {pos:String} {af:Array Edge} {ty':TypeId} {z:Value} {sz by_:Nat} {x y:Operand} {o:Option Nat}
theorem kC [T:Ty P t (.map kt et) z sz by_] (o:Option Nat) (w:World):(Op.equal t (.map o) (.map none)).run P w=.ok o.isNone w:=by
 have:∀ i,(Op.equalIn (i + 1) t (.map o) (.map none)).run P w=.ok o.isNone w:=fun i=>by cases o <;> simp [Op.equalIn,T.runUnd]
 exact this 9999
theorem rh [T:Ty P t (.map kt et) z sz by_] (hx:ev G x=some (.map o)) (hy:ev G y=some (.map none)) (hN:Nat.blt dst E.N=true) (kk:RW P E ops Q rest ((dst,.bool o.isNone)::G) H):
 RW P E ops Q (⟨some dst,.binOp .eql t x y ty',ty,pos,af,none⟩::rest) G H:=
 b8 hN (fun f w hf _=>by
  have h1:∀ w,(eqGuard .eql t x y (.map o) (.map none)).run P w=.ok () w:=fun w=>by unfold eqGuard;split <;> rfl
  simp [execOp,hf.eval hx,hf.eval hy,h1,binOp,kC (kt:=kt) (et:=et)]) kk
end
end
end Go.Proofs.YtbcdgcodnkgdoaaGreat
namespace Go.Proofs.YtbcdgcodnkgdoaaGreat
open Go Go.RowKit
def dN {α:Type} (f:α→Nat→α):Nat→Nat→α→α
 | 0,_,e=>e
 | k + 1,i,e=>dN f k (i + 1) (f e i)
def bV (l:List (List Int)) (b r:Int):List (List Int):=l.set b.toNat (ap l b++[r])
namespace En
def inc (l:List Int) (q:Int):List Int:=l.set q.toNat (w64 (l.getD q.toNat 0 + 1))
def lay0 (n m:Nat):En:=⟨List.replicate n 0,[],0,0,List.replicate m 0,List.replicate m 0,List.replicate m false,List.replicate m false,List.replicate n 0,List.replicate n 0,List.replicate n false,List.replicate n 0,List.replicate n false,List.replicate n 0,List.replicate n false,[]⟩
-- the bodies' lengths,who has what in its body,how many rules a literal has
def lay1I (t:ThV) (inn:List (List Int)) (r:Nat):List (List Int):=(ai t r).2.2.foldl (fun l b=>bV l b r) inn
def lay1B (t:ThV) (e:En) (r:Nat):En:={ e with needD:=e.needD.set r ((ai t r).2.2.length:Nat),need:=e.need.set r ((ai t r).2.2.length:Nat) }
def lay1S (t:ThV) (e:En) (r:Nat):En:=if (ai t r).1 == 1 then { e with strict:=inc e.strict (ai t r).2.1 } else e
def lay1K (t:ThV) (e:En) (r:Nat):En:=if cZ t r then { e with backs:=inc e.backs (ai t r).2.1 } else e
def lay1 (t:ThV) (e:En) (r:Nat):En:=lay1K t (lay1S t (lay1B t e r) r) r
-- facts
def lay2F (l:List Bool) (q:Int):List Bool:=l.set q.toNat true
def lay2 (e:En) (q:Int):En:=e.tell q 1
-- strict rules without a body
def lay3 (t:ThV) (e:En) (r:Nat):En:=if (ai t r).1 == 1&&((ai t r).2.2.length == 0) then e.tell (ai t r).2.1 1 else e
-- what has no strict rule
def lay4 (fact:List Bool) (e:En) (q:Nat):En:=if fact.getD q false then { e with strict:=e.strict.set q (-1) } else if e.strict.getD q 0 == 0 then e.tell q 2 else e
-- foes
def lay5f (q:Nat) (e:En) (f:Int):En:=
 let e:=if e.has f 2 then e else { e with opn:=inc e.opn q }
 { e with clash:=e.clash.set q (e.clash.getD q false || e.has f 1) }
def lay5 (t:ThV) (e:En) (q:Nat):En:=(ap (aH t) q).foldl (lay5f q) e
-- pairs
structure PS where
 d:List (List (Int × Int))
 of:List (List Int)
 e:En
def pairA (s:Nat) (x:PS) (q:Int):PS:=if x.e.backs.getD q.toNat 0 == 0 then x else
 ⟨x.d.set q.toNat (m9 (x.d.getD q.toNat []) (s:Int) (x.e.pairs.length:Int)),bV x.of s x.e.pairs.length,{ x.e with pairs:=x.e.pairs++[(q,(s:Int),false,0)],attacks:=inc x.e.attacks q }⟩
def pairAs (t:ThV) (x:PS) (s:Nat):PS:=(ap (aH t) (ai t s).2.1).foldl (pairA s) x
structure PT where
 bts:List (List Int)
 e:En
def pairP (d:List (List (Int × Int))) (h s:Int):Int:=(i2 (d.getD h.toNat []) s).getD 0
def pairB (d:List (List (Int × Int))) (h:Int) (r:Nat) (x:PT) (s:Int):PT:=
 ⟨bV x.bts r (pairP d h s),{ x.e with pairs:=x.e.pairs.set (pairP d h s).toNat ((x.e.pair (pairP d h s)).1,(x.e.pair (pairP d h s)).2.1,(x.e.pair (pairP d h s)).2.2.1,w64 ((x.e.pair (pairP d h s)).2.2.2 + 1)) }⟩
def pairBs (t:ThV) (d:List (List (Int × Int))) (x:PT) (r:Nat):PT:=if cZ t r then (ap (aN t) r).foldl (pairB d (ai t r).2.1 r) x else x
def pair1 (t:ThV) (n m:Nat) (e:En):PS:=dN (pairAs t) m 0 ⟨List.replicate n [],List.replicate m [],e⟩
def pair2 (t:ThV) (n m:Nat) (e:En):PT:=dN (pairBs t (pair1 t n m e).d) m 0 ⟨List.replicate m [],(pair1 t n m e).e⟩
-- rules without a body
def lay6p (e:En) (p:Int):En:=if (e.pair p).2.2.1 then e else
 { e with pairs:=e.pairs.set p.toNat ((e.pair p).1,(e.pair p).2.1,true,(e.pair p).2.2.2),attacks:=dec e.attacks (e.pair p).1 }
def lay6q (e:En) (p:Int):En:=if (e.pair p).2.2.2 == 0 then { e with standing:=e.standing.set (e.pair p).1.toNat true } else e
def lay6 (t:ThV) (of bts:List (List Int)) (e:En) (r:Nat):En:=if decide (0 < (ai t r).2.2.length) then e else
 (ap of r).foldl lay6q (if cZ t r then (ap bts r).foldl lay6p { e with backed:=e.backed.set (ai t r).2.1.toNat true } else e)
-- all of it
def layE (t:ThV) (n m:Nat) (facts:List Int):En:=
 dN (lay5 t) n 0 (dN (lay4 (facts.foldl lay2F (List.replicate n false))) n 0 (dN (lay3 t) m 0 (facts.foldl lay2 (dN (lay1 t) m 0 (lay0 n m)))))
def layIn (t:ThV) (n m:Nat):List (List Int):=dN (lay1I t) m 0 (List.replicate n [])
def layS (t:ThV) (n m:Nat) (facts:List Int):Es:=⟨t,layIn t n m,(pair1 t n m (layE t n m facts)).of,(pair2 t n m (layE t n m facts)).bts⟩
def layD (t:ThV) (n m:Nat) (facts:List Int):En:=
 { (dN (lay6 t (layS t n m facts).of (layS t n m facts).beats) m 0 (pair2 t n m (layE t n m facts)).e) with up:=0 }
def runD (t:ThV) (n m:Nat) (facts:List Int):En:=
 let e:=layD t n m facts
 work (layS t n m facts) e.told.length (4 * n) 0 (dN (fun e q=>e.look q) n 0 e)
end En
end Go.Proofs.YtbcdgcodnkgdoaaGreat
namespace Go.Proofs.YtbcdgcodnkgdoaaGreat
open Go Go.RowKit
structure TOk (n m:Nat) (t:ThV):Prop where
 lits:t.1=n
 foes:(aH t).length=n
 rules:(ao t).length=m
 beats:(aN t).length=m
 small:n≤4096∧m≤4096
 foes2:∀ l∈aH t,l.length≤64∧∀ f∈l,0≤f∧f < n
 head:∀ r∈ao t,(0≤r.2.1∧r.2.1 < n)∧(r.2.2.length≤16∧∀ b∈r.2.2,0≤b∧b < n)
 beats2:∀ l∈aN t,l.length≤m∧∀ s∈l,0≤s∧s < m
theorem BC {x:Int} (h0:-9223372036854775808≤x) (h1:x≤9223372036854775807):inR .i64 x:=by
 unfold inR Lit.wf;rw [Bool.and_eq_true,decide_eq_true_iff,decide_eq_true_iff];have e1:IntKind.i64.min=-9223372036854775808:=by decide
 have e2:IntKind.i64.max=9223372036854775807:=by decide
 rw [e1,e2];exact ⟨h0,h1⟩
section
variable {n m:Nat} {t:ThV} {q r:Int} {e:En} {i:Nat}
theorem TOk.rule (h:TOk n m t) (r0:0≤r) (r1:r < m):(0≤(ai t r).2.1∧(ai t r).2.1 < n)∧((ai t r).2.2.length≤16∧∀ b∈(ai t r).2.2,0≤b∧b < n):=h.head _ (dw (d:=(0,0,[])) h.rules r0 r1)
theorem TOk.foe (h:TOk n m t) (q0:0≤q) (q1:q < n):(ap (aH t) q).length≤64∧∀ f∈ap (aH t) q,0≤f∧f < n:=h.foes2 _ (dw h.foes q0 q1)
theorem TOk.beat (h:TOk n m t) (r0:0≤r) (r1:r < m):(ap (aN t) r).length≤m∧∀ s∈ap (aN t) r,0≤s∧s < m:=h.beats2 _ (dw h.beats r0 r1)
end
structure bE (n N K:Nat) (L:List (List Int)):Prop where
 len:L.length=n
 row:∀ l∈L,l.length≤K∧∀ x∈l,0≤x∧x < N
theorem bE.new (n N K:Nat):bE n N K (List.replicate n []):=⟨by simp,fun l hl=>by rw [(List.mem_replicate.1 hl).2];exact ⟨Nat.zero_le _,fun x hx=>by cases hx⟩⟩
theorem bE.at_ {n N K:Nat} {L:List (List Int)} {b:Int} (h:bE n N K L) (b0:0≤b) (b1:b < n):(ap L b).length≤K∧∀ x∈ap L b,0≤x∧x < N:=h.row _ (dw h.len b0 b1)
theorem bE.push {n N N' K:Nat} {L:List (List Int)} {b x:Int} (h:bE n N K L) (hN:N≤N') (b0:0≤b) (b1:b < n) (x0:0≤x) (x1:x < N'):bE n N' (K + 1) (bV L b x):=
 ⟨by simp [bV,h.len],fun l hl=>by
  rcases List.mem_or_eq_of_mem_set hl with hl | rfl
  ·exact ⟨Nat.le_succ_of_le (h.row l hl).1,fun y hy=>⟨((h.row l hl).2 y hy).1,by have:=((h.row l hl).2 y hy).2;omega⟩⟩
  ·refine ⟨by rw [List.length_append,List.length_singleton];exact Nat.succ_le_succ (h.at_ b0 b1).1,fun y hy=>?_⟩
   rcases List.mem_append.1 hy with hy | hy
   ·exact ⟨((h.at_ b0 b1).2 y hy).1,by have:=((h.at_ b0 b1).2 y hy).2;omega⟩
   ·obtain rfl:=List.mem_singleton.1 hy
    exact ⟨x0,x1⟩⟩
theorem bE.mono {n N N' K K':Nat} {L:List (List Int)} (h:bE n N K L) (hN:N≤N') (hK:K≤K'):bE n N' K' L:=
 ⟨h.len,fun l hl=>⟨Nat.le_trans (h.row l hl).1 hK,fun y hy=>⟨((h.row l hl).2 y hy).1,by have:=((h.row l hl).2 y hy).2;omega⟩⟩⟩
namespace En
structure PSOk (n m N:Nat) (x:PS):Prop where
 d:x.d.length=n
 of:bE m x.e.pairs.length x.e.pairs.length x.of
 e:aE n m x.e.pairs.length x.e
 most:x.e.pairs.length≤N
structure PTOk (n m np K:Nat) (x:PT):Prop where
 bts:bE m np K x.bts
 e:aE n m np x.e
end En
theorem aE.npUp {n m np:Nat} {e:En} {q s:Int} (h:aE n m np e) (q0:0≤q) (q1:q < n) (s0:0≤s) (s1:s < m) (i:Nat) (u:Int):aE n m (np + 1) { e with pairs:=e.pairs++[(q,s,false,0)],attacks:=e.attacks.set i u }:=
 ⟨h.marks,h.needD,h.need,h.deadD,h.dead,h.strict,h.backs,h.backed,h.opn,h.clash,by simp [h.attacks],h.standing,by simp [h.pairs],h.mks,fun p hp=>(List.mem_append.1 hp).elim (h.pr p) (fun hp=>by obtain rfl:=List.mem_singleton.1 hp;exact ⟨⟨q0,q1⟩,s0,s1⟩),h.td,h.cnt,h.qd⟩
namespace En
theorem PSOk.pairA {n m N s:Nat} {x:PS} {q:Int} (h:PSOk n m N x) (q0:0≤q) (q1:q < n) (s1:s < m):PSOk n m (N + 1) (pairA s x q):=by
 unfold En.pairA;split
 ·exact ⟨h.d,h.of,h.e,Nat.le_succ_of_le h.most⟩
 ·refine ⟨by simp [h.d],?_,?_,?_⟩
  ·show bE m (x.e.pairs++[_]).length (x.e.pairs++[_]).length _
   rw [List.length_append,List.length_singleton];exact h.of.push (by omega) (by omega) (by omega) (by omega) (by omega)
  ·show aE n m (x.e.pairs++[_]).length _
   rw [List.length_append,List.length_singleton];exact h.e.npUp q0 q1 (by omega) (by omega) _ _
  ·show (x.e.pairs++[_]).length≤_
   rw [List.length_append,List.length_singleton];exact Nat.succ_le_succ h.most
theorem PTOk.pairB {n m np K:Nat} {d:List (List (Int × Int))} {h s:Int} {r:Nat} {x:PT} (k:PTOk n m np K x) (r1:r < m) (p0:0≤pairP d h s) (p1:pairP d h s < np):PTOk n m np (K + 1) (pairB d h r x s):=
 ⟨k.bts.push (Nat.le_refl _) (by omega) (by omega) p0 p1,aE.left1 k.e p0 p1⟩
end En
attribute [local irreducible] RW CW
theorem kw {be n m:Nat} {a:EAd} {z:ECs} {e:En} {r:Int} {X:List HP} {w0 w:World} {S:Nat→Prop} {sv:Value} (hw:St w0 S (enH be a z n m sv e++X) w) (hT:gp (mem w (fun b=>¬ No b)) z.s.t z.x) (hr:(ao z.s.t).length=m) (r0:0≤r) (r1:r < m):
 Ret Tryz.prog 79 [aK be,.int .i64 r] w (.bool (cZ z.s.t r)):=by
 have hle:=hq0 w;obtain ⟨B,O,A,c,hA,hm,_,_⟩:=bz hT r0 (by rw [hr];exact r1);have hb:=gh (ok:=fun b=>¬ No b) (fun h=>h) (St.blk (pre:=[]) hw) 2 _ rfl;refine Calls.enter Tryz.func79 rfl _ rfl rfl (S:=No) (H:=[]) trivial ?_;refine Ja (Jd (Jb (Ja (Jc (Jf (Je (Je ?_)))))));refine ac rfl hle hb rfl rfl ?_;refine Jc ?_;refine aa hA rfl rfl r0 (by rw [hr];exact r1) rfl ?_;refine Je ?_;refine ac rfl hle (hm 0 _ rfl) rfl rfl ?_;refine Jj (Jd (Jb ?_));refine aw rfl Tryz.results79 rfl rfl fun w hw=>⟨congrArg (fun b=>Ending.returned (.bool b)) (by rw [Bool.eq_iff_iff];simp [cZ]),hw.kp⟩
end Go.Proofs.YtbcdgcodnkgdoaaGreat
