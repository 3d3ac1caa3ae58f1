/- Parts of the proof: fast's pair. · The calculus: a range over a function; the rounds of its body. · fast's work; a round of its loop. · The calculus: a statement whose order is open, in which one operation stores into data of one's own and hands back nothing. Conditions: none. -/
import Derived.RangeFuncRecord
import Derived.OrdersIn
import Derived.Test.YtbcdgcodnkgdoaaGreatPr4
/- fast's pair. Conditions: none. -/
set_option linter.unusedVariables false
set_option linter.unusedSimpArgs false
set_option maxRecDepth 10000
namespace Go.Proofs.YtbcdgcodnkgdoaaGreat
open Go Go.RowKit
section
abbrev zP (z:ECs) (pA:Option Addr) (pc np:Nat):ECs:={ z with pA:=pA,pc:=pc,np:=np }
theorem gP {α:Type} {l:List α} {i:Nat} {x:α} (h:l[i]?=some x):l.set i x=l:=by
 obtain ⟨h1,h2⟩:=List.getElem?_eq_some_iff.1 h;rw [← h2];exact List.set_getElem_self h1
theorem s6 {α:Type} {l:List α} {i:Nat} {d x:α} (h:l.getD i d=x) (hi:i < l.length):l.set i x=l:=by
 refine gP ?_;rw [List.getD_eq_getElem?_getD,List.getElem?_eq_getElem hi] at h;rw [List.getElem?_eq_getElem hi];exact congrArg some h
theorem wi {l:List Int}:l.set 0 (l.getD 0 0)=l:=by
 cases l with
 | nil=>rfl
 | cons x l=>rfl
def kf (bs:List (Option Nat)) (d:List (List (Int × Int))):Prop:=∀ i:Nat,bs[i]?=some none→d.getD i []=[]
theorem kf.set {bs:List (Option Nat)} {d:List (List (Int × Int))} {i b:Nat} {x:List (Int × Int)} (h:kf bs d) (hi:i < bs.length):kf (bs.set i (some b)) (d.set i x):=fun j hj=>by
 by_cases e:i=j
 ·subst e
  rw [List.getElem?_set_self hi] at hj;cases hj
 ·rw [List.getElem?_set_ne e] at hj
  rw [List.getD_eq_getElem?_getD,List.getElem?_set_ne e,← List.getD_eq_getElem?_getD];exact h j hj
theorem z3 (n:Nat):List.replicate n [Value.map none]=(List.replicate n (none:Option Nat)).map qj:=by rw [List.map_replicate]
theorem fq {α β:Type} {f:α→β→α} {l:List β} {i:Nat} (h:i < l.length) {x:α}:(l.drop i).foldl f x=(l.drop (i + 1)).foldl f (f x l[i]):=by
 rw [List.drop_eq_getElem_cons h,List.foldl_cons]
theorem kf.at_ {bs:List (Option Nat)} {d:List (List (Int × Int))} {i b:Nat} {x:List (Int × Int)} (h:kf bs d) (hb:bs[i]?=some (some b)):kf bs (d.set i x):=fun j hj=>by
 by_cases e:i=j
 ·subst e;rw [hb] at hj;cases hj
 ·rw [List.getD_eq_getElem?_getD,List.getElem?_set_ne e,← List.getD_eq_getElem?_getD]
  exact h j hj
theorem n4 {n m N s:Nat} (s1:s < m):∀ {l:List Int} {x:En.PS},(∀ q∈l,0≤q∧q < n)→En.PSOk n m N x→En.PSOk n m (N + l.length) (l.foldl (En.pairA s) x)
 | [],x,_,h=>h
 | q::l,x,hl,h=>by
  have h1:=hl q (List.mem_cons_self ..);have:=n4 (N:=N + 1) s1 (l:=l) (fun q hq=>hl q (List.mem_cons_of_mem _ hq)) (h.pairA h1.1 h1.2 s1);rw [List.foldl_cons,List.length_cons,show N + (l.length + 1)=N + 1 + l.length by omega];exact this
theorem En.PSOk.mono {n m N N':Nat} {x:En.PS} (h:En.PSOk n m N x) (hN:N≤N'):En.PSOk n m N' x:=⟨h.d,h.of,h.e,Nat.le_trans h.most hN⟩
theorem p8 {n m i:Nat} {t:ThV} {x:En.PS} (ht:TOk n m t) (hx:En.PSOk n m (64 * i) x) (hi:i < m):En.PSOk n m (64 * (i + 1)) (En.pairAs t x i):=by
 have hd:=(ht.rule (r:=(i:Int)) (by omega) (by omega)).1;have hf:=ht.foe hd.1 hd.2;exact (n4 hi hf.2 hx).mono (by omega)
theorem nZ {n m np N r:Nat} {d:List (List (Int × Int))} {h:Int} (r1:r < m):∀ {l:List Int} {x:En.PT},(∀ s∈l,∃ p,i2 (d.getD h.toNat []) s=some p∧0≤p∧p < np)→En.PTOk n m np N x→En.PTOk n m np (N + l.length) (l.foldl (En.pairB d h r) x)
 | [],x,_,k=>k
 | s::l,x,hl,k=>by
  obtain ⟨p,h1,h2,h3⟩:=hl s (List.mem_cons_self ..);have hp:En.pairP d h s=p:=by unfold En.pairP;rw [h1];rfl
  have:=nZ (N:=N + 1) r1 (l:=l) (fun q hq=>hl q (List.mem_cons_of_mem _ hq)) (k.pairB (h:=h) (d:=d) (s:=s) r1 (by rw [hp];exact h2) (by rw [hp];exact h3));rw [List.foldl_cons,List.length_cons,show N + (l.length + 1)=N + 1 + l.length by omega];exact this
theorem p7 {n m np i:Nat} {t:ThV} {d:List (List (Int × Int))} {x:En.PT} (ht:TOk n m t) (hx:En.PTOk n m np (4096 * i) x) (hi:i < m) (hl:cZ t i=true→∀ s∈ap (aN t) i,∃ p,i2 (d.getD (ai t i).2.1.toNat []) s=some p∧0≤p∧p < np):En.PTOk n m np (4096 * (i + 1)) (En.pairBs t d x i):=by
 have hb:=(ht.beat (r:=(i:Int)) (by omega) (by omega)).1;have hm:=ht.small.2;unfold En.pairBs;split
 ·rename_i h
  have:=nZ hi (hl h) hx;exact ⟨this.bts.mono (Nat.le_refl _) (by omega),this.e⟩
 ·exact ⟨hx.bts.mono (Nat.le_refl _) (by omega),hx.e⟩
attribute [local irreducible] RW CW
section
variable {be n m np:Nat} {a:EAd} {z:ECs} {e:En} {q k p r:Int} {X:List HP}
abbrev prY (ob bb ab:Nat) (z:ECs) (n m:Nat) (bs:List (Option Nat)) (d:List (List (Int × Int))) (of bts:List (List Int)):List HP:=
 [ax 193 1 (slV ab n) (bs.map qj),fQ none bs d,de 26 3 (.slice (some ⟨ob,0,none⟩) m z.oc) of,de 26 3 (.slice (some ⟨bb,0,none⟩) m z.bc) bts]
set_option maxHeartbeats 64000000 in
theorem zO {ob bb:Nat} (hn:n≤4096) (ht:TOk n m z.s.t) (hoA:z.oA=some ⟨ob,0,none⟩) (hbA:z.bA=some ⟨bb,0,none⟩) (hk:aE n m 0 e) (he0:e.pairs=[]) {pA:Option Addr} {pc:Nat}
 (hlook:∀ (r:Nat),r < m→cZ z.s.t r=true→∀ s∈ap (aN z.s.t) r,∃ p,i2 ((En.pair1 z.s.t n m e).d.getD (ai z.s.t r).2.1.toNat []) s=some p∧0≤p∧p < ((En.pair1 z.s.t n m e).e.pairs.length:Nat))
 {sv:Value} (w:World) (F:Nat→Prop) (hT:gp (mem w (fun b=>¬ F b)) z.s.t z.x) (hH:Sep (enH be a (zP z pA pc 0) n m sv e++[de 26 3 (.slice (some ⟨ob,0,none⟩) m z.oc) (List.replicate m []),de 26 3 (.slice (some ⟨bb,0,none⟩) m z.bc) (List.replicate m [])]) w F):
 iT Tryz.prog 82 [aK be] w F (fun _:Option Addr × Nat=>.tuple #[]) (fun q=>enH be a (zP z q.1 q.2 (En.pair1 z.s.t n m e).e.pairs.length) n m sv (En.pair2 z.s.t n m e).e++[de 26 3 (.slice (some ⟨ob,0,none⟩) m z.oc) (En.pair1 z.s.t n m e).of,de 26 3 (.slice (some ⟨bb,0,none⟩) m z.bc) (En.pair2 z.s.t n m e).bts]):=by
 have hle:Mem.le (mem w (fun b=>¬ F b)) (mem w (fun b=>¬ F b)):=Mem.le_refl _;have hr:=ht.rules;have hm:=ht.small.2;refine Calls.enter Tryz.func82 rfl _ rfl rfl (S:=F) (H:=_) hH ?_;refine Ja (Jc (Jf (Je (Je ?_))));refine Eh ?_;refine bF (n:=n) (zc:=[.map none]) rfl rfl ht.lits rfl rfl (by unfold dK;omega) (by omega) rfl fun ab=>?_;refine mP (enH be a (zP z pA pc 0) n m sv e++prY ob bb ab z n m (List.replicate n none) (List.replicate n []) (List.replicate m []) (List.replicate m [])) (fun w A h=>?_) ?_
 ·rw [z3] at h
  have h2:=zY (n:=n) (D:=List.replicate n []) h;exact Sep.take [2,3,4,5,6,7,8,9,10,11,12,13,14,15,16,1,0,17,18] h2
 refine Jd (Jb ?_);have hx0:En.PSOk n m (64 * 0) ⟨List.replicate n [],List.replicate m [],e⟩:=⟨by simp,bE.new _ _ _,by show aE n m e.pairs.length e;rw [he0];exact hk,by show e.pairs.length≤_;rw [he0];exact Nat.zero_le _⟩;have hnil0:kf (List.replicate n none) (List.replicate n ([]:List (Int × Int))):=fun i hi=>by rw [List.getD_eq_getElem?_getD,List.getElem?_replicate];split <;> rfl
 have hT0:gp (mem w (fun b=>¬ F b)) z.s.t z.x:=hT;refine bf (ι:={ q:List (Option Nat) × Option Addr × Nat // q.1.length=n∧kf q.1 (En.pair1 z.s.t n m e).d∧∃ N,En.PSOk n m N (En.pair1 z.s.t n m e) }) (fun _=>[(0,aK be),(2,slV ab n)]) (fun q=>enH be a (zP z q.1.2.1 q.1.2.2 (En.pair1 z.s.t n m e).e.pairs.length) n m sv (En.pair1 z.s.t n m e).e++prY ob bb ab z n m q.1.1 (En.pair1 z.s.t n m e).d (En.pair1 z.s.t n m e).of (List.replicate m [])) ?_ (fun ⟨⟨bs,pA,pc⟩,hbs,hnil,hN,hP1⟩=>?_)
 ·refine Ja (Jc (Jf (Je (Je ?_))));refine Eh ?_;refine Jg (Jc (Jb ?_))
  refine ak ?_
  refine aI (ι:={ q:Nat × En.PS × List (Option Nat) × Option Addr × Nat // q.1≤m∧En.PSOk n m (64 * q.1) q.2.1∧q.2.2.1.length=n∧kf q.2.2.1 q.2.1.d∧(En.pair1 z.s.t n m e)=dN (En.pairAs z.s.t) (m - q.1) q.1 q.2.1 })
   (fun q=>[(0,aK be),(2,slV ab n),(22,.slice z.x.A2 (ao z.s.t).length z.x.c2),(23,.int .i64 (ao z.s.t).length),(24,.int .i64 q.1.1)]) (fun q=>enH be a (zP z q.1.2.2.2.1 q.1.2.2.2.2 q.1.2.1.e.pairs.length) n m sv q.1.2.1.e++prY ob bb ab z n m q.1.2.2.1 q.1.2.1.d q.1.2.1.of (List.replicate m [])) (fun q=>m - q.1.1) ⟨(0,⟨List.replicate n [],List.replicate m [],e⟩,List.replicate n none,pA,pc),Nat.zero_le _,hx0,by simp,hnil0,rfl⟩ ⟨rfl,rfl,rfl,rfl,rfl,trivial⟩ (fun h=>by simpa [he0] using h) ?_
  intro ⟨⟨i,x,bs,pA,pc⟩,hi,hx,hbs,hnil,hS⟩;dsimp only at hi hx hbs hnil hS ⊢;refine Ja (Jk (Jb ?_));refine ar ?_;refine ay rfl (fun hlt=>?_) (fun hge=>?_);rotate_left
  ·have hW:(En.pair1 z.s.t n m e)=x:=by rw [hS,show m - i=0 by omega];rfl
   rw [hW];refine aG rfl ?_;exact aC ⟨(bs,pA,pc),hbs,hnil,_,hx⟩ ⟨rfl,rfl,trivial⟩ (fun h=>h)
  have hi':i < m:=by omega
  rw [show m - i=(m - (i + 1)) + 1 by omega,dN] at hS;obtain ⟨B5,O5,A5,c5,hA5,hm5,_,_⟩:=bz hT (i:=(i:Int)) (by omega) (by omega);obtain ⟨⟨hd0,hd1⟩,_,_⟩:=ht.rule (r:=(i:Int)) (by omega) (by omega);obtain ⟨fB,fO,fa,fc,fA,fm,fl,_⟩:=eJ hT.foes hd0 (by rw [ht.foes];exact hd1);obtain ⟨hfl64,hfr⟩:=ht.foe hd0 hd1;have hx':En.PSOk n m (64 * (i + 1)) (En.pairAs z.s.t x i):=p8 ht hx hi';refine al (ah ?_);refine bf (ι:={ q:List (Option Nat) × Option Addr × Nat // q.1.length=n∧kf q.1 (En.pairAs z.s.t x i).d }) (fun _=>[(0,aK be),(2,slV ab n),(22,.slice z.x.A2 (ao z.s.t).length z.x.c2),(23,.int .i64 (ao z.s.t).length),(24,.int .i64 i)]) (fun q=>enH be a (zP z q.1.2.1 q.1.2.2 (En.pairAs z.s.t x i).e.pairs.length) n m sv (En.pairAs z.s.t x i).e++prY ob bb ab z n m q.1.1 (En.pairAs z.s.t x i).d (En.pairAs z.s.t x i).of (List.replicate m [])) ?_ (fun ⟨⟨bs2,pA2,pc2⟩,hbs2,hnil2⟩=>?_)
  ·refine ak ?_
   refine Ja (Jc ?_);refine aa hA5 rfl rfl (by omega) hlt rfl ?_;refine dF (cs:=bJ (ai z.s.t i) A5 c5) rfl hle hm5 rfl rfl (by simp) rfl ?_;refine cH (c:=[.int .i64 0,.int .i64 0,.slice none 0 0]) rfl rfl fun b4 _=>?_;refine Jd ?_;refine aX [] (vs:=bJ (ai z.s.t i) A5 c5) rfl rfl rfl rfl rfl (by simp [Value.oneCell']) ?_;refine aq (ah ?_);refine cI (enH be a (zP z pA pc x.e.pairs.length) n m sv x.e++(blk b4 (bJ (ai z.s.t i) A5 c5) 51::prY ob bb ab z n m bs x.d x.of (List.replicate m []))) (fun w A h=>?_) ?_
   ·exact Sep.take [1,2,3,4,5,6,7,8,9,10,11,12,13,14,15,0,16,17,18,19] h
   refine dt ((3,.int .i64 i)::(4,aK b4)::[(0,aK be),(2,slV ab n),(22,.slice z.x.A2 (ao z.s.t).length z.x.c2),(23,.int .i64 (ao z.s.t).length),(24,.int .i64 i)]) ⟨rfl,rfl,rfl,rfl,rfl,rfl,rfl,trivial⟩ ?_;refine bR (by kernel_rfl) rfl ?_;refine Xc (Xf (Xe (Xe ?_)));refine Aw (fun _ _=>Eh Dn) ?_;refine Xe ?_;refine Aw (fun _ _=>El Dn) ?_
   skip
   refine Aw (fun _ _=>aa fA rfl rfl hd0 (by rw [ht.foes];exact hd1) rfl Dn) ?_;refine Aw (fun _ _=>ac rfl hle fm rfl rfl Dn) ?_;refine Aw (fun _ _=>Jg Dn) ?_;refine Xc ?_;refine Aq fun bq2=>?_;refine aq (ah ?_);have hpa:En.pairAs z.s.t x i=(ap (aH z.s.t) (ai z.s.t i).2.1).foldl (En.pairA i) x:=rfl;rw [hpa];clear hpa hS hx';generalize ap (aH z.s.t) (ai z.s.t i).2.1=L at *;refine ak ?_
   refine aI (ι:={ q:Nat × En.PS × List (Option Nat) × Option Addr × Nat // q.1≤L.length∧En.PSOk n m (64 * i + q.1) q.2.1∧q.2.2.1.length=n∧kf q.2.2.1 q.2.1.d∧L.foldl (En.pairA i) x=(L.drop q.1).foldl (En.pairA i) q.2.1 })
    (fun q=>(3,.int .i64 i)::(4,aK b4)::(37,.slice fa L.length fc)::(38,.int .i64 L.length)::(39,.int .i64 q.1.1)::[(0,aK be),(2,slV ab n),(22,.slice z.x.A2 (ao z.s.t).length z.x.c2),(23,.int .i64 (ao z.s.t).length),(24,.int .i64 i)]) (fun q=>enH be a (zP z q.1.2.2.2.1 q.1.2.2.2.2 q.1.2.1.e.pairs.length) n m sv q.1.2.1.e++(blk b4 (bJ (ai z.s.t i) A5 c5) 51::prY ob bb ab z n m q.1.2.2.1 q.1.2.1.d q.1.2.1.of (List.replicate m []))) (fun q=>L.length - q.1.1) ⟨(0,x,bs,pA,pc),Nat.zero_le _,hx,hbs,hnil,rfl⟩ ⟨rfl,rfl,rfl,rfl,rfl,rfl,rfl,rfl,rfl,rfl,trivial⟩ (fun h=>h) ?_
   intro ⟨⟨j,y,bs3,pA3,pc3⟩,hj,hy,hbs3,hnil3,hS3⟩;dsimp only at hj hy hbs3 hnil3 hS3 ⊢;refine Ja (Jk (Jb ?_));refine ar ?_;refine ay rfl (fun hlt3=>?_) (fun hge3=>?_);rotate_left
   ·rw [List.drop_eq_nil_of_le (by omega),List.foldl_nil] at hS3
    rw [hS3];refine aG rfl ?_;exact aC ⟨(bs3,pA3,pc3),hbs3,hnil3⟩ ⟨rfl,rfl,rfl,rfl,rfl,trivial⟩ (fun h=>St.take [0,1,2,3,4,5,6,7,8,9,10,11,12,13,14,16,17,18,19] h)
   have hlt4:j < L.length:=by omega
   rw [fq hlt4] at hS3;obtain ⟨B4,O4,hA4,hm4,_⟩:=aR fl (List.getElem?_eq_getElem hlt4);obtain ⟨u0,u1⟩:=hfr _ (List.getElem_mem hlt4);generalize L[j]=u at *;have hy':En.PSOk n m (64 * i + j + 1) (En.pairA i y u):=hy.pairA u0 u1 hi';have hyE:=hy.e;have hmostP:=hy.most;refine al (ah ?_);refine bf (ι:={ q:List (Option Nat) × Option Addr × Nat // q.1.length=n∧kf q.1 (En.pairA i y u).d }) (fun _=>(3,.int .i64 i)::(4,aK b4)::(37,.slice fa L.length fc)::(38,.int .i64 L.length)::(39,.int .i64 j)::[(0,aK be),(2,slV ab n),(22,.slice z.x.A2 (ao z.s.t).length z.x.c2),(23,.int .i64 (ao z.s.t).length),(24,.int .i64 i)]) (fun q=>enH be a (zP z q.1.2.1 q.1.2.2 (En.pairA i y u).e.pairs.length) n m sv (En.pairA i y u).e++(blk b4 (bJ (ai z.s.t i) A5 c5) 51::prY ob bb ab z n m q.1.1 (En.pairA i y u).d (En.pairA i y u).of (List.replicate m []))) ?_ (fun ⟨⟨bs4,pA4,pc4⟩,hbs4,hnil4⟩=>?_)
   ·refine ak ?_
    refine Ja ?_;refine aa hA4 rfl rfl (by omega) hlt3 rfl ?_;refine ac rfl hle (aT hm4) rfl rfl ?_;refine Jd (Jb ?_);refine ar ?_;refine Ja (Jc (Jf (Je ?_)));refine Eh ?_;refine Jc ?_;refine Ei ?_;refine iU (by assumption) rfl (by assumption) (by assumption) rfl ?_;refine Ji (Jb ?_);refine ay rfl (fun h0=>?_) (fun h0=>?_)
    ·have e3:En.pairA i y u=y:=by unfold En.pairA;rw [if_pos (beq_iff_eq.2 h0)]
     rw [e3];refine aG rfl ?_;exact aC ⟨(bs3,pA3,pc3),hbs3,hnil3⟩ ⟨rfl,rfl,rfl,rfl,rfl,rfl,rfl,rfl,rfl,rfl,trivial⟩ (fun h=>h)
    have e3:En.pairA i y u=⟨y.d.set u.toNat (m9 (y.d.getD u.toNat []) (i:Int) (y.e.pairs.length:Int)),bV y.of i y.e.pairs.length,{ y.e with pairs:=y.e.pairs++[(u,(i:Int),false,0)],attacks:=En.inc y.e.attacks u }⟩:=by unfold En.pairA;rw [if_neg (by simp only [beq_false_of_ne h0];simp)]
    rw [e3];rw [e3] at hy';clear e3;refine al (ah ?_);obtain ⟨ob3,hob3⟩:∃ ob3,bs3[u.toNat]?=some ob3:=⟨_,List.getElem?_eq_getElem (by omega)⟩;have hmo:(bs3.map qj)[u.toNat]?=some (qj ob3):=by rw [List.getElem?_map,hob3];rfl
    refine bf (ι:={ q:List (Option Nat) × Nat // q.1.length=n∧kf q.1 y.d∧q.1[u.toNat]?=some (some q.2) }) (fun _=>(6,.int .i64 u)::(3,.int .i64 i)::(4,aK b4)::(37,.slice fa L.length fc)::(38,.int .i64 L.length)::(39,.int .i64 j)::[(0,aK be),(2,slV ab n),(22,.slice z.x.A2 (ao z.s.t).length z.x.c2),(23,.int .i64 (ao z.s.t).length),(24,.int .i64 i)]) (fun q=>enH be a (zP z pA3 pc3 y.e.pairs.length) n m sv y.e++(blk b4 (bJ (ai z.s.t i) A5 c5) 51::prY ob bb ab z n m q.1.1 y.d y.of (List.replicate m []))) ?_ (fun ⟨⟨bs5,mb⟩,hbs5,hnil5,hmb⟩=>?_)
    ·refine Ja (Jc (Jc ?_));refine Ei ?_
     refine az [_,_,_,_,_,_,_,_,_,_,_,_,_,_,_,_] (i:=u.toNat) (j:=0) rfl (by simp) hmo rfl rfl rfl ?_;refine rh (kt:=3) (et:=3) rfl rfl rfl ?_;refine Jb ?_;cases ob3 with
     | some b=>
      refine ch rfl ?_;refine al ?_;exact aC ⟨(bs3,b),hbs3,hnil3,hob3⟩ ⟨rfl,rfl,rfl,rfl,rfl,rfl,rfl,rfl,rfl,rfl,rfl,trivial⟩ (fun h=>h)
     | none=>
      refine cn rfl ?_;refine aj ?_;refine Jc (Jc ?_);refine vB (κ:=Int) (α:=Int) (Value.int .i64) (Value.int .i64) (.int .i64) (fun o h=>by cases h) rfl fun b=>?_;refine Ei ?_;refine aM [_,_,_,_,_,_,_,_,_,_,_,_,_,_,_,_,_] (v:=.map (some b)) (i:=u.toNat) (j:=0) rfl (by simp) rfl rfl rfl hmo (Nat.zero_lt_succ _) ?_;rw [show (bs3.map qj).set u.toNat ((qj none).set 0 (.map (some b)))=(bs3.set u.toNat (some b)).map qj from List.map_set.symm];refine aq ?_;have hyd:=s6 (hnil3 u.toNat hob3) (by rw [hy.d];omega);refine fI (H':=enH be a (zP z pA3 pc3 y.e.pairs.length) n m sv y.e++(blk b4 (bJ (ai z.s.t i) A5 c5) 51::prY ob bb ab z n m (bs3.set u.toNat (some b)) y.d y.of (List.replicate m []))) (fun w A h=>?_) ?_
      ·have h2:=oU (i:=u.toNat) (by omega) (by rw [hy.d];omega) (cG (fun A h=>xk (i:=u.toNat) h) (Sep.take [0,18,1,2,3,4,5,6,7,8,9,10,11,12,13,14,15,16,17,19,20] h))
       rw [hyd] at h2;exact Sep.take [1,2,3,4,5,6,7,8,9,10,11,12,13,14,15,16,17,0,18,19] h2
      exact aC ⟨(bs3.set u.toNat (some b),b),by simp [hbs3],by have:=hnil3.set (b:=b) (x:=[]) (i:=u.toNat) (by omega);rwa [hyd] at this,List.getElem?_set_self (by omega)⟩ ⟨rfl,rfl,rfl,rfl,rfl,rfl,rfl,rfl,rfl,rfl,rfl,trivial⟩ (fun h=>h)
    dsimp only at hbs5 hnil5 hmb;have hmo5:(bs5.map qj)[u.toNat]?=some (qj (some mb)):=by rw [List.getElem?_map,hmb];rfl
    refine bR (by kernel_rfl) rfl ?_;refine Xc (Xc ?_);refine Aw (fun _ _=>Ei Dn) ?_;refine Aw (fun _ _=>az [_,_,_,_,_,_,_,_,_,_,_,_,_,_,_,_] (i:=u.toNat) (j:=0) rfl (by simp) hmo5 rfl rfl rfl Dn) ?_;refine Xc (Xc (Xf (Xe ?_)));refine Aw (fun _ _=>Eh Dn) ?_;refine Aw (fun _ _=>Jg Dn) ?_;refine Aq fun bq3=>?_;refine mP (Fl mb (y.d.getD u.toNat [])::(enH be a (zP z pA3 pc3 y.e.pairs.length) n m sv y.e++[blk b4 (bJ (ai z.s.t i) A5 c5) 51,ax 193 1 (slV ab n) (bs5.map qj),fQ (some u.toNat) bs5 y.d,de 26 3 (.slice (some ⟨ob,0,none⟩) m z.oc) (y.of),de 26 3 (.slice (some ⟨bb,0,none⟩) m z.bc) (List.replicate m [])])) (fun w A h=>?_) ?_
    ·exact Sep.take [0,2,3,4,5,6,7,8,9,10,11,12,13,14,15,16,17,18,1,19,20] (n9 hmb (Sep.take [17,0,1,2,3,4,5,6,7,8,9,10,11,12,13,14,15,16,18,19] h))
    refine re [] (k:=(i:Int)) (a:=(y.e.pairs.length:Int)) rfl rfl rfl rfl ?_;refine aq (ah ?_);refine cI (enH be a (zP z pA3 pc3 y.e.pairs.length) n m sv y.e++(blk b4 (bJ (ai z.s.t i) A5 c5) 51::prY ob bb ab z n m bs5 (y.d.set u.toNat (m9 (y.d.getD u.toNat []) (i:Int) (y.e.pairs.length:Int))) y.of (List.replicate m []))) (fun w A h=>?_) ?_
    ·have h2:=oU (i:=u.toNat) (by omega) (by rw [hy.d];omega) (Sep.take [0,18,1,2,3,4,5,6,7,8,9,10,11,12,13,14,15,16,17,19,20] h)
     rw [gP hmb] at h2;exact Sep.take [1,2,3,4,5,6,7,8,9,10,11,12,13,14,15,16,17,0,18,19] h2
    refine dt ((6,.int .i64 u)::(3,.int .i64 i)::(4,aK b4)::(37,.slice fa L.length fc)::(38,.int .i64 L.length)::(39,.int .i64 j)::[(0,aK be),(2,slV ab n),(22,.slice z.x.A2 (ao z.s.t).length z.x.c2),(23,.int .i64 (ao z.s.t).length),(24,.int .i64 i)]) ⟨rfl,rfl,rfl,rfl,rfl,rfl,rfl,rfl,rfl,rfl,rfl,trivial⟩ ?_;have hl:y.of[i]?=some (ap y.of i):=getD_some (d:=[]) hy.of.len (q:=(i:Int)) (by omega) (by omega);have hbi:i < y.of.length:=by rw [hy.of.len];exact hi'
    have hrl:=(hy.of.at_ (b:=(i:Int)) (by omega) (by omega)).1;have hnil5':kf bs5 (y.d.set u.toNat (m9 (y.d.getD u.toNat []) (i:Int) (y.e.pairs.length:Int))):=hnil5.at_ hmb;refine iW (ι:=List (List Value) × Value) (fun q=>q.1[i]?=some [q.2]∧q.1.length=(y.of).length) (fun q=>ax 3 1 q.2 ((ap y.of i).map bY)::(enH be a (zP z pA3 pc3 y.e.pairs.length) n m sv y.e++[blk b4 (bJ (ai z.s.t i) A5 c5) 51,ax 193 1 (slV ab n) (bs5.map qj),fQ none bs5 (y.d.set u.toNat (m9 (y.d.getD u.toNat []) (i:Int) (y.e.pairs.length:Int))),ax 26 1 (.slice (some ⟨ob,0,none⟩) m z.oc) q.1,cT (some (i)) 3 q.1 (y.of),de 26 3 (.slice (some ⟨bb,0,none⟩) m z.bc) (List.replicate m [])])) (fun w A h=>?_) (fun ⟨es,uv⟩ ⟨hq1,hq2⟩=>?_)
    ·obtain ⟨q,hq,h2⟩:=fp hl (Sep.take [18,0,1,2,3,4,5,6,7,8,9,10,11,12,13,14,15,16,17,19] h)
     exact ⟨q,hq,Sep.take [1,3,4,5,6,7,8,9,10,11,12,13,14,15,16,17,18,19,20,0,2,21] h2⟩
    dsimp only at hq1 hq2;refine y6 18 17 _ (by kernel_rfl) (by kernel_rfl) ?_;refine Bw (fun _ _=>Jc Dn) ?_;refine Bw (fun _ _=>Jf Dn) ?_;refine Bw (fun _ _=>Je Dn) ?_;refine Bw (fun _ _=>JA Dn) ?_;refine Bw (fun _ _=>Jc Dn) ?_;refine Bw (fun _ _=>Jc Dn) ?_;refine Bw (fun _ _=>Jf Dn) ?_;refine Bw (fun _ _=>Je Dn) ?_;refine Bw (fun _ _=>JA Dn) ?_;refine Bw (fun _ _=>Jc Dn) ?_;refine Bw (fun _ _=>aa hoA rfl rfl (by omega) (by omega) rfl Dn) ?_;refine Bw (fun _ _=>az [_,_,_,_,_,_,_,_,_,_,_,_,_,_,_,_,_,_] (i:=i) (j:=0) rfl (by simp) hq1 rfl rfl rfl Dn) ?_;refine Bw (fun _ _=>Jc Dn) ?_;refine Bw (fun _ _=>Jf Dn) ?_;refine Bw (fun _ _=>Je Dn) ?_;refine Bw (fun _ _=>JA Dn) ?_;refine Bw (fun _ _=>Jg Dn) ?_
    (apply ru (fun b=>.slice (some ⟨b,0,none⟩) 1 1) (fun b=>blk b [.int .i64 ((y.e.pairs.length:Int))] 3) rfl rfl;· intro Gx X;refine bW (e:=3) (c:=[.int .i64 ((y.e.pairs.length:Int))]) rfl (fun w=>by kernel_rfl) rfl fun b _=>?_;exact aU rfl)
    refine rv (fun mm=>kj ((ap y.of i).length + 1) mm) (fun mm=>ax 3 1 (kj ((ap y.of i).length + 1) mm) (((ap y.of i)++[(y.e.pairs.length:Int)]).map bY)) rfl rfl rfl rfl rfl rfl (fun b Gx X=>?_) ?_
    ·refine eS [_] (e:=3) (sz:=1) (news:=[[.int .i64 ((y.e.pairs.length:Int))]]) (zc:=[.int .i64 0]) rfl rfl rfl rfl rfl (by simp) (by simp [Value.oneCell']) (fun w hw hn=>?_) ?_ ?_ rfl fun u1=>?_
     ·exact ⟨b,0,rfl,a9 (St.blk (pre:=[]) hw)⟩
     ·rw [List.length_map];omega
     ·rw [List.length_map];unfold dK;omega
     rw [show (ap y.of i).map bY++[[.int .i64 ((y.e.pairs.length:Int))]]=((ap y.of i)++[(y.e.pairs.length:Int)]).map bY by rw [List.map_append];rfl];refine fY (φ:=∃ mm,u1=kj ((ap y.of i).length + 1) mm) (fun w hw=>by have:=jP (pre:=[_]) hw;rwa [List.length_map,List.length_append,List.length_singleton] at this) (fun ⟨mm,hmm⟩=>?_);subst hmm;exact fH rfl
    refine mV rfl (by kernel_rfl) (by kernel_rfl) fun bs2=>?_;have hv1:=gI ((ap y.of i).length + 1) (bs2 88);refine aa hoA rfl rfl (by omega) (by omega) rfl ?_;refine aM [_,_,_,_,_,_,_,_,_,_,_,_,_,_,_,_,_,_] (v:=kj ((ap y.of i).length + 1) (bs2 88)) (i:=i) (j:=0) rfl (by simp) rfl hv1.1 hv1.2 hq1 (Nat.zero_lt_succ _) ?_;refine aq (ah ?_);refine cI (enH be a (zP z pA3 pc3 y.e.pairs.length) n m sv y.e++[blk b4 (bJ (ai z.s.t i) A5 c5) 51,ax 193 1 (slV ab n) (bs5.map qj),fQ none bs5 (y.d.set u.toNat (m9 (y.d.getD u.toNat []) (i:Int) (y.e.pairs.length:Int))),de 26 3 (.slice (some ⟨ob,0,none⟩) m z.oc) ((y.of).set (i) ((ap y.of i)++[(y.e.pairs.length:Int)])),de 26 3 (.slice (some ⟨bb,0,none⟩) m z.bc) (List.replicate m [])]) (fun w A h=>?_) ?_
    ·have h2:=d9 (l:=(ap y.of i)++[(y.e.pairs.length:Int)]) (i:=i) hbi (Sep.take [18,21,19,0,1,2,3,4,5,6,7,8,9,10,11,12,13,14,15,16,17,20] h)
     exact Sep.take [1,2,3,4,5,6,7,8,9,10,11,12,13,14,15,16,17,18,0,19] h2
    have hpsh:y.of.set i (ap y.of i++[(y.e.pairs.length:Int)])=bV y.of i y.e.pairs.length:=rfl;rw [hpsh];clear hpsh hq1 hq2 hv1;refine Ja (Jc (Jc (Jf (Je ?_))));refine Eh ?_;refine Jc (Jc ?_);refine eQ (v:=.agg #[.int .i64 u,.int .i64 i,.bool false,.int .i64 0]) rfl (fun w=>by kernel_rfl) rfl ?_;refine bW (e:=148) (c:=fx (u,(i:Int),false,0)) rfl (fun w=>by kernel_rfl) rfl fun nb _=>?_;refine eS [_,_,_,_,_,_,_,_,_,_,_,_,_,_,_] (e:=148) (sz:=4) (news:=[fx (u,(i:Int),false,0)]) (zc:=[.int .i64 0,.int .i64 0,.bool false,.int .i64 0]) rfl rfl rfl rfl rfl (by simp) (by simp [Value.oneCell']) (fun w hw hn=>?_) ?_ ?_ rfl fun u1=>?_
    ·exact ⟨nb,0,rfl,a9 (St.blk (pre:=[]) hw)⟩
    ·rw [List.length_map];omega
    ·rw [List.length_map];unfold dK;omega
    rw [show y.e.pairs.map fx++[fx (u,(i:Int),false,0)]=(y.e.pairs++[(u,(i:Int),false,0)]).map fx by rw [List.map_append];rfl];refine fY (φ:=∃ A c,u1=.slice A (y.e.pairs.length + 1) c) (fun w hw=>by obtain ⟨A,c,h,_⟩:=gC (pre:=[_,_,_,_,_,_,_,_,_,_,_,_,_,_,_]) hw;rw [List.length_map,List.length_append,List.length_singleton] at h;exact ⟨A,c,h⟩) (fun ⟨pA6,pc6,hu⟩=>?_);subst hu;refine Jf (Je ?_);refine bQ [_] rfl rfl rfl rfl rfl (Nat.lt_of_sub_eq_succ rfl) ?_;refine aq (ah ?_);have hnp:(y.e.pairs++[(u,(i:Int),false,(0:Int))]).length=y.e.pairs.length + 1:=by simp
    refine cI (enH be a (zP z pA6 pc6 (y.e.pairs.length + 1)) n m sv { y.e with pairs:=y.e.pairs++[(u,(i:Int),false,0)] }++(blk b4 (bJ (ai z.s.t i) A5 c5) 51::prY ob bb ab z n m bs5 (y.d.set u.toNat (m9 (y.d.getD u.toNat []) (i:Int) (y.e.pairs.length:Int))) (bV y.of i y.e.pairs.length) (List.replicate m []))) (fun w A h=>lF h) ?_;have hk8:aE n m (y.e.pairs.length + 1) { y.e with pairs:=y.e.pairs++[(u,(i:Int),false,0)] }:=by have:=hyE.npUp (s:=(i:Int)) u0 u1 (by omega) (by omega) 0 (y.e.attacks.getD 0 0);rwa [wi] at this
    refine aj ?_;refine Jc (Jf (Je ?_));refine Eh ?_;refine Jc ?_;refine Ei ?_;refine iV (by assumption) rfl (by assumption) (by assumption) rfl ?_;refine cY rfl rfl rfl rfl ?_;refine Ei ?_;refine ES.attacks hk8 rfl rfl u0 u1 ?_;refine aq ?_;refine aC ⟨(bs5,pA6,pc6),hbs5,hnil5'⟩ ⟨rfl,rfl,rfl,rfl,rfl,rfl,rfl,rfl,rfl,rfl,trivial⟩ (fun h=>?_);show St _ _ (enH be a (zP z pA6 pc6 (y.e.pairs++[(u,(i:Int),false,(0:Int))]).length) n m sv _++_) _;rw [hnp];exact h
   refine aj ?_;refine Ka ?_;refine Jc ?_;refine aq ?_;exact Pa ⟨(j + 1,En.pairA i y u,bs4,pA4,pc4),hlt4,hy',hbs4,hnil4,hS3⟩
  refine aj ?_;refine Ka ?_;refine Jc ?_;refine aq ?_;exact Pa ⟨(i + 1,En.pairAs z.s.t x i,bs2,pA2,pc2),hi',hx',hbs2,hnil2,hS⟩
 dsimp only at hbs hnil;have hpt:En.pair2 z.s.t n m e=dN (En.pairBs z.s.t (En.pair1 z.s.t n m e).d) m 0 ⟨List.replicate m [],(En.pair1 z.s.t n m e).e⟩:=rfl;generalize En.pair2 z.s.t n m e=P2 at *;generalize (En.pair1 z.s.t n m e)=P1 at *;refine fk (φ:=P1.e.pairs.length≠0→∃ B,pA=some ⟨B,0,none⟩) (fun w hw h=>?_) (fun hPA=>?_)
 ·obtain ⟨A,c,g1,g2⟩:=eK (pre:=[_,_,_,_,_,_,_,_,_,_,_,_,_,_]) hw
  simp only [Value.slice.injEq] at g1;obtain ⟨B,hB⟩:=g2 (by intro h2;exact h (by simpa using congrArg List.length h2));exact ⟨B,g1.1.trans hB⟩
 have hy0:En.PTOk n m P1.e.pairs.length (4096 * 0) ⟨List.replicate m [],P1.e⟩:=⟨bE.new _ _ _,hP1.e⟩;refine Ja (Jc (Jf (Je (Je ?_))));refine Eh ?_;refine Jg (Jc (Jb ?_));refine ak ?_
 refine aI (ι:={ q:Nat × En.PT // q.1≤m∧En.PTOk n m P1.e.pairs.length (4096 * q.1) q.2∧P2=dN (En.pairBs z.s.t P1.d) (m - q.1) q.1 q.2 })
  (fun q=>[(0,aK be),(2,slV ab n),(117,.slice z.x.A2 (ao z.s.t).length z.x.c2),(118,.int .i64 (ao z.s.t).length),(119,.int .i64 q.1.1)]) (fun q=>enH be a (zP z pA pc P1.e.pairs.length) n m sv q.1.2.e++prY ob bb ab z n m bs P1.d P1.of q.1.2.bts) (fun q=>m - q.1.1) ⟨(0,⟨List.replicate m [],P1.e⟩),Nat.zero_le _,hy0,hpt⟩ ⟨rfl,rfl,rfl,rfl,rfl,trivial⟩ (fun h=>h) ?_
 intro ⟨⟨i,x⟩,hi,hx,hS⟩;dsimp only at hi hx hS ⊢;refine Ja (Jk (Jb ?_));refine ar ?_;refine ay rfl (fun hlt=>?_) (fun hge=>?_);rotate_left
 ·have hW:P2=x:=by rw [hS,show m - i=0 by omega];rfl
  rw [hW];refine aG rfl ?_;exact eC (rs:=[]) (vs:=[]) Tryz.results82 rfl aL.nil fun w hw=>⟨(pA,pc),rfl,hw.take [0,1,2,3,4,5,6,7,8,9,10,11,12,13,14,17,18]⟩
 have hi':i < m:=by omega
 rw [show m - i=(m - (i + 1)) + 1 by omega,dN] at hS;obtain ⟨B5,O5,A5,c5,hA5,hm5,_,_⟩:=bz hT (i:=(i:Int)) (by omega) (by omega);obtain ⟨⟨hd0,hd1⟩,_,_⟩:=ht.rule (r:=(i:Int)) (by omega) (by omega);obtain ⟨fB,fO,fa,fc,fA,fm,fl,_⟩:=eJ hT.beats (r:=(i:Int)) (by omega) (by rw [ht.beats];omega);obtain ⟨hflm,hfr⟩:=ht.beat (r:=(i:Int)) (by omega) (by omega);have hlk:=hlook i hi';have hx':En.PTOk n m P1.e.pairs.length (4096 * (i + 1)) (En.pairBs z.s.t P1.d x i):=p7 ht hx hi' hlk;refine al (ah ?_);refine bf (ι:=Unit) (fun _=>[(0,aK be),(2,slV ab n),(117,.slice z.x.A2 (ao z.s.t).length z.x.c2),(118,.int .i64 (ao z.s.t).length),(119,.int .i64 i)]) (fun _=>enH be a (zP z pA pc P1.e.pairs.length) n m sv (En.pairBs z.s.t P1.d x i).e++prY ob bb ab z n m bs P1.d P1.of (En.pairBs z.s.t P1.d x i).bts) ?_ (fun _=>?_)
 ·refine ak ?_
  refine Ja (Jc ?_);refine aa hA5 rfl rfl (by omega) hlt rfl ?_;refine dF (cs:=bJ (ai z.s.t i) A5 c5) rfl hle hm5 rfl rfl (by simp) rfl ?_;refine cH (c:=[.int .i64 0,.int .i64 0,.slice none 0 0]) rfl rfl fun b4 _=>?_;refine Jd ?_;refine aX [] (vs:=bJ (ai z.s.t i) A5 c5) rfl rfl rfl rfl rfl (by simp [Value.oneCell']) ?_;refine aq (ah ?_);refine cI (enH be a (zP z pA pc P1.e.pairs.length) n m sv x.e++(blk b4 (bJ (ai z.s.t i) A5 c5) 51::prY ob bb ab z n m bs P1.d P1.of x.bts)) (fun w A h=>?_) ?_
  ·exact Sep.take [1,2,3,4,5,6,7,8,9,10,11,12,13,14,15,0,16,17,18,19] h
  refine dt ((7,.int .i64 i)::(8,aK b4)::[(0,aK be),(2,slV ab n),(117,.slice z.x.A2 (ao z.s.t).length z.x.c2),(118,.int .i64 (ao z.s.t).length),(119,.int .i64 i)]) ⟨rfl,rfl,rfl,rfl,rfl,rfl,rfl,trivial⟩ ?_;refine ar ?_;refine Ja (Jc (Jc ?_));refine aD Tryz.call79 rfl (fun w hw=>kw hw (hT.mono (au hw)) hr (by omega) (by omega)) rfl ?_;refine Js (Jb ?_);refine ce rfl (fun h3=>?_) (fun h3=>?_)
  ·rw [Bool.not_eq_true'] at h3
   have e3:En.pairBs z.s.t P1.d x i=x:=by unfold En.pairBs;rw [if_neg (by simp [h3])]
   rw [e3];refine aG rfl ?_;exact aC () ⟨rfl,rfl,rfl,rfl,rfl,trivial⟩ (fun h=>St.take [0,1,2,3,4,5,6,7,8,9,10,11,12,13,14,16,17,18,19] h)
  rw [Bool.not_eq_false'] at h3;have e3:En.pairBs z.s.t P1.d x i=(ap (aN z.s.t) i).foldl (En.pairB P1.d (ai z.s.t i).2.1 i) x:=by unfold En.pairBs;rw [if_pos h3]
  rw [e3];clear e3 hS hx';have hlk:=hlk h3;refine al (ah ?_);refine Ja (Jc (Jf (Je (Je ?_))));refine Eh ?_;refine Jc ?_;refine aa fA rfl rfl (by omega) (by rw [ht.beats];omega) rfl ?_;refine ac rfl hle fm rfl rfl ?_;refine Jg (Jc (Jb ?_));generalize ap (aN z.s.t) i=L at *;refine ak ?_
  refine aI (ι:={ q:Nat × En.PT // q.1≤L.length∧En.PTOk n m P1.e.pairs.length (4096 * i + q.1) q.2∧L.foldl (En.pairB P1.d (ai z.s.t i).2.1 i) x=(L.drop q.1).foldl (En.pairB P1.d (ai z.s.t i).2.1 i) q.2 })
   (fun q=>(7,.int .i64 i)::(8,aK b4)::(135,.slice fa L.length fc)::(136,.int .i64 L.length)::(137,.int .i64 q.1.1)::[(0,aK be),(2,slV ab n),(117,.slice z.x.A2 (ao z.s.t).length z.x.c2),(118,.int .i64 (ao z.s.t).length),(119,.int .i64 i)]) (fun q=>enH be a (zP z pA pc P1.e.pairs.length) n m sv q.1.2.e++(blk b4 (bJ (ai z.s.t i) A5 c5) 51::prY ob bb ab z n m bs P1.d P1.of q.1.2.bts)) (fun q=>L.length - q.1.1) ⟨(0,x),Nat.zero_le _,hx,rfl⟩ ⟨rfl,rfl,rfl,rfl,rfl,rfl,rfl,rfl,rfl,rfl,trivial⟩ (fun h=>h) ?_
  intro ⟨⟨j,y⟩,hj,hy,hS3⟩;dsimp only at hj hy hS3 ⊢;refine Ja (Jk (Jb ?_));refine ar ?_;refine ay rfl (fun hlt3=>?_) (fun hge3=>?_);rotate_left
  ·rw [List.drop_eq_nil_of_le (by omega),List.foldl_nil] at hS3
   rw [hS3];refine aG rfl ?_;exact aC () ⟨rfl,rfl,rfl,rfl,rfl,trivial⟩ (fun h=>St.take [0,1,2,3,4,5,6,7,8,9,10,11,12,13,14,16,17,18,19] h)
  have hlt4:j < L.length:=by omega
  rw [fq hlt4] at hS3;obtain ⟨B4,O4,hA4,hm4,_⟩:=aR fl (List.getElem?_eq_getElem hlt4);obtain ⟨u0,u1⟩:=hfr _ (List.getElem_mem hlt4);obtain ⟨p,hgp,p0,p1⟩:=hlk _ (List.getElem_mem hlt4);generalize L[j]=u at *;have hpp:En.pairP P1.d (ai z.s.t i).2.1 u=p:=by unfold En.pairP;rw [hgp];rfl
  have hy':En.PTOk n m P1.e.pairs.length (4096 * i + j + 1) (En.pairB P1.d (ai z.s.t i).2.1 i y u):=hy.pairB hi' (by rw [hpp];exact p0) (by rw [hpp];exact p1);have hyE:=hy.e;obtain ⟨PB,rfl⟩:=hPA (by omega);have e3:En.pairB P1.d (ai z.s.t i).2.1 i y u=⟨bV y.bts i p,{ y.e with pairs:=y.e.pairs.set p.toNat ((y.e.pair p).1,(y.e.pair p).2.1,(y.e.pair p).2.2.1,En.w64 ((y.e.pair p).2.2.2 + 1)) }⟩:=by unfold En.pairB;rw [hpp]
  have hrule:=hd0;obtain ⟨om,hom⟩:∃ om,bs[(ai z.s.t i).2.1.toNat]?=some om:=⟨_,List.getElem?_eq_getElem (by omega)⟩
  obtain ⟨mb,rfl⟩:∃ mb,om=some mb:=by
   cases om with
   | some mb=>exact ⟨mb,rfl⟩
   | none=>rw [hnil _ hom] at hgp;cases hgp
  have hmo:(bs.map qj)[(ai z.s.t i).2.1.toNat]?=some (qj (some mb)):=by rw [List.getElem?_map,hom];rfl
  refine al (ah ?_);refine bf (ι:=Unit) (fun _=>(7,.int .i64 i)::(8,aK b4)::(135,.slice fa L.length fc)::(136,.int .i64 L.length)::(137,.int .i64 j)::[(0,aK be),(2,slV ab n),(117,.slice z.x.A2 (ao z.s.t).length z.x.c2),(118,.int .i64 (ao z.s.t).length),(119,.int .i64 i)]) (fun _=>enH be a (zP z (some ⟨PB,0,none⟩) pc P1.e.pairs.length) n m sv (En.pairB P1.d (ai z.s.t i).2.1 i y u).e++(blk b4 (bJ (ai z.s.t i) A5 c5) 51::prY ob bb ab z n m bs P1.d P1.of (En.pairB P1.d (ai z.s.t i).2.1 i y u).bts)) ?_ (fun _=>?_)
  ·rw [e3]
   refine ak ?_;refine Ja ?_;refine aa hA4 rfl rfl (by omega) hlt3 rfl ?_;refine ac rfl hle (aT hm4) rfl rfl ?_;refine Jd (Jb (Ja (Jc (Je ?_))));refine El ?_;refine av rfl rfl hd0 hd1 rfl ?_;refine az [_,_,_,_,_,_,_,_,_,_,_,_,_,_,_,_] (i:=(ai z.s.t i).2.1.toNat) (j:=0) rfl (by simp) hmo rfl rfl rfl ?_;refine Jc ?_;refine mP (Fl mb (P1.d.getD (ai z.s.t i).2.1.toNat [])::(enH be a (zP z (some ⟨PB,0,none⟩) pc P1.e.pairs.length) n m sv y.e++[blk b4 (bJ (ai z.s.t i) A5 c5) 51,ax 193 1 (slV ab n) (bs.map qj),fQ (some (ai z.s.t i).2.1.toNat) bs P1.d,de 26 3 (.slice (some ⟨ob,0,none⟩) m z.oc) (P1.of),de 26 3 (.slice (some ⟨bb,0,none⟩) m z.bc) (y.bts)])) (fun w A h=>?_) ?_
   ·exact Sep.take [0,2,3,4,5,6,7,8,9,10,11,12,13,14,15,16,17,18,1,19,20] (n9 hom (Sep.take [17,0,1,2,3,4,5,6,7,8,9,10,11,12,13,14,15,16,18,19] h))
   refine yR [] (a0:=(0:Int)) rfl rfl (k:=u) rfl rfl ?_;rw [hgp];refine mP (enH be a (zP z (some ⟨PB,0,none⟩) pc P1.e.pairs.length) n m sv y.e++(blk b4 (bJ (ai z.s.t i) A5 c5) 51::prY ob bb ab z n m bs P1.d P1.of y.bts)) (fun w A h=>?_) ?_
   ·have h2:=oU (i:=(ai z.s.t i).2.1.toNat) (by omega) (by rw [hP1.d];omega) (Sep.take [0,18,1,2,3,4,5,6,7,8,9,10,11,12,13,14,15,16,17,19,20] h)
    rw [gP hom,s6 rfl (by rw [hP1.d];omega)] at h2;exact Sep.take [1,2,3,4,5,6,7,8,9,10,11,12,13,14,15,16,17,0,18,19] h2
   refine Jd (Jb ?_);refine dt ((11,.int .i64 p)::(10,.int .i64 u)::(7,.int .i64 i)::(8,aK b4)::(135,.slice fa L.length fc)::(136,.int .i64 L.length)::(137,.int .i64 j)::[(0,aK be),(2,slV ab n),(117,.slice z.x.A2 (ao z.s.t).length z.x.c2),(118,.int .i64 (ao z.s.t).length),(119,.int .i64 i)]) ⟨rfl,rfl,rfl,rfl,rfl,rfl,rfl,rfl,rfl,rfl,rfl,rfl,trivial⟩ ?_;have hl:y.bts[i]?=some (ap y.bts i):=getD_some (d:=[]) hy.bts.len (q:=(i:Int)) (by omega) (by omega);have hbi:i < y.bts.length:=by rw [hy.bts.len];exact hi'
   have hrl:=(hy.bts.at_ (b:=(i:Int)) (by omega) (by omega)).1;refine iW (ι:=List (List Value) × Value) (fun q=>q.1[i]?=some [q.2]∧q.1.length=(y.bts).length) (fun q=>ax 3 1 q.2 ((ap y.bts i).map bY)::(enH be a (zP z (some ⟨PB,0,none⟩) pc P1.e.pairs.length) n m sv y.e++[blk b4 (bJ (ai z.s.t i) A5 c5) 51,ax 193 1 (slV ab n) (bs.map qj),fQ none bs P1.d,de 26 3 (.slice (some ⟨ob,0,none⟩) m z.oc) (P1.of),ax 26 1 (.slice (some ⟨bb,0,none⟩) m z.bc) q.1,cT (some (i)) 3 q.1 (y.bts)])) (fun w A h=>?_) (fun ⟨es,uv⟩ ⟨hq1,hq2⟩=>?_)
   ·obtain ⟨q,hq,h2⟩:=fp hl (Sep.take [19,0,1,2,3,4,5,6,7,8,9,10,11,12,13,14,15,16,17,18] h)
    exact ⟨q,hq,Sep.take [1,3,4,5,6,7,8,9,10,11,12,13,14,15,16,17,18,19,20,21,0,2] h2⟩
   dsimp only at hq1 hq2;refine y6 14 13 _ (by kernel_rfl) (by kernel_rfl) ?_;refine Bw (fun _ _=>Jc Dn) ?_;refine Bw (fun _ _=>Jf Dn) ?_;refine Bw (fun _ _=>Je Dn) ?_;refine Bw (fun _ _=>JA Dn) ?_;refine Bw (fun _ _=>Jc Dn) ?_;refine Bw (fun _ _=>Jc Dn) ?_;refine Bw (fun _ _=>Jf Dn) ?_;refine Bw (fun _ _=>Je Dn) ?_;refine Bw (fun _ _=>JA Dn) ?_;refine Bw (fun _ _=>Jc Dn) ?_;refine Bw (fun _ _=>aa hbA rfl rfl (by omega) (by omega) rfl Dn) ?_;refine Bw (fun _ _=>az [_,_,_,_,_,_,_,_,_,_,_,_,_,_,_,_,_,_,_] (i:=i) (j:=0) rfl (by simp) hq1 rfl rfl rfl Dn) ?_;refine Bw (fun _ _=>Jc Dn) ?_
   (apply ru (fun b=>.slice (some ⟨b,0,none⟩) 1 1) (fun b=>blk b [.int .i64 (p)] 3) rfl rfl;· intro Gx X;refine bW (e:=3) (c:=[.int .i64 (p)]) rfl (fun w=>by kernel_rfl) rfl fun b _=>?_;exact aU rfl)
   refine rv (fun mm=>kj ((ap y.bts i).length + 1) mm) (fun mm=>ax 3 1 (kj ((ap y.bts i).length + 1) mm) (((ap y.bts i)++[p]).map bY)) rfl rfl rfl rfl rfl rfl (fun b Gx X=>?_) ?_
   ·refine eS [_] (e:=3) (sz:=1) (news:=[[.int .i64 (p)]]) (zc:=[.int .i64 0]) rfl rfl rfl rfl rfl (by simp) (by simp [Value.oneCell']) (fun w hw hn=>?_) ?_ ?_ rfl fun u1=>?_
    ·exact ⟨b,0,rfl,a9 (St.blk (pre:=[]) hw)⟩
    ·rw [List.length_map];omega
    ·rw [List.length_map];unfold dK;omega
    rw [show (ap y.bts i).map bY++[[.int .i64 (p)]]=((ap y.bts i)++[p]).map bY by rw [List.map_append];rfl];refine fY (φ:=∃ mm,u1=kj ((ap y.bts i).length + 1) mm) (fun w hw=>by have:=jP (pre:=[_]) hw;rwa [List.length_map,List.length_append,List.length_singleton] at this) (fun ⟨mm,hmm⟩=>?_);subst hmm;exact fH rfl
   refine mV rfl (by kernel_rfl) (by kernel_rfl) fun bs2=>?_;have hv1:=gI ((ap y.bts i).length + 1) (bs2 162);refine aa hbA rfl rfl (by omega) (by omega) rfl ?_;refine aM [_,_,_,_,_,_,_,_,_,_,_,_,_,_,_,_,_,_,_] (v:=kj ((ap y.bts i).length + 1) (bs2 162)) (i:=i) (j:=0) rfl (by simp) rfl hv1.1 hv1.2 hq1 (Nat.zero_lt_succ _) ?_;refine aq (ah ?_);refine cI (enH be a (zP z (some ⟨PB,0,none⟩) pc P1.e.pairs.length) n m sv y.e++[blk b4 (bJ (ai z.s.t i) A5 c5) 51,ax 193 1 (slV ab n) (bs.map qj),fQ none bs P1.d,de 26 3 (.slice (some ⟨ob,0,none⟩) m z.oc) (P1.of),de 26 3 (.slice (some ⟨bb,0,none⟩) m z.bc) ((y.bts).set (i) ((ap y.bts i)++[p]))]) (fun w A h=>?_) ?_
   ·have h2:=d9 (l:=(ap y.bts i)++[p]) (i:=i) hbi (Sep.take [19,21,20,0,1,2,3,4,5,6,7,8,9,10,11,12,13,14,15,16,17,18] h)
    exact Sep.take [1,2,3,4,5,6,7,8,9,10,11,12,13,14,15,16,17,18,19,0] h2
   have hpsh:y.bts.set i (ap y.bts i++[p])=bV y.bts i p:=rfl;rw [hpsh];refine aj ?_;refine Jc (Jf (Je ?_));refine Eh ?_;refine Jc ?_;refine aa rfl rfl rfl p0 p1 rfl ?_;refine Je ?_;refine ig (j:=3) hyE rfl rfl (by omega) p0 p1 rfl rfl rfl ?_;refine cY rfl rfl rfl rfl ?_;refine aa rfl rfl rfl p0 p1 rfl ?_;refine Je ?_;refine ES.left hyE rfl rfl (by omega) rfl p0 p1 ?_;refine aq ?_;exact aC () ⟨rfl,rfl,rfl,rfl,rfl,rfl,rfl,rfl,rfl,rfl,trivial⟩ (fun h=>h)
  refine aj ?_;refine Ka ?_;refine Jc ?_;refine aq ?_;exact Pa ⟨(j + 1,En.pairB P1.d (ai z.s.t i).2.1 i y u),hlt4,hy',hS3⟩
 refine aj ?_;refine Ka ?_;refine Jc ?_;refine aq ?_;exact Pa ⟨(i + 1,En.pairBs z.s.t P1.d x i),hi',hx',hS⟩
end
end
section
def FRd (r:Option Nat):Fence:={ Fence.wide with round:=r }
theorem kP {r:Option Nat} {n:Nat} {P:Program} {f:FuncId} {args:Array Value} {w:World} {R:Ending→World→Prop} (h:Calls P f args w R):CallsIn (FRd r) n P f args w R:=callsIn_wide (n:=n).2 h
theorem Cd {r:Option Nat} {P:Program} {o:Oper} {a:Act} {K:Act→World→Prop} {Q:Exit→Act→World→Prop} {res:Result Next} (h:o.upon P a K Q res):o.uponIn (FRd r) 0 P a K Q res:=by
 cases res with
 | ok v w=>
  cases v with
  | value v=>exact h
  | skip=>exact h
  | «defer» d=>exact h
  | enter f args=>exact ⟨fun hh=>(by cases hh),kP h⟩
  | row row args=>exact ⟨fun hh=>(by cases hh),fun c cs _=>let ⟨v,w',r,s⟩:=(show Rows P row args w _ from h) c cs;⟨v,w',r,stepsIn_wide.2 s⟩⟩
  | _=>exact h.elim
 | halt hl w=>
  cases hl with
  | panic v=>exact h
  | _=>exact h.elim
def mu:Op→Bool
 | .defer _=>true
 | _=>false
def ek (l:List Oper):Bool:=l.all fun o=>!mu o.op
theorem rP {r:Option Nat} {P:Program} {o:Oper} {a:Act} {w:World} {K:Act→World→Prop} {Q:Exit→Act→World→Prop} (hd:mu o.op=false) (hQ:¬ LetsOut Q) (h:o.wp P a w K Q∨(o.asks P a w∧LetsOut Q)):o.wpIn (FRd r) 0 P a w K Q:=by
 rcases h with h | h
 ·refine ⟨fun f _=>trivial,?_⟩
  rw [Oper.semAt_eq _ _ _ (fun c hc=>by rw [hc] at hd;cases hd)];exact Cd h
 ·exact absurd h.2 hQ
theorem oW {r:Option Nat} {P:Program} {ops:Array Oper} {Q:Exit→Act→World→Prop} (hQ:¬ LetsOut Q):∀ {l:List Oper} {a:Act} {w:World},ek l=true→wpList P ops Q l a w→wpListIn (FRd r) 0 P ops Q l a w
 | [],a,w,_,h=>h
 | o::l,a,w,hd,h=>by
  obtain ⟨h1,h2⟩:mu o.op=false∧ek l=true:=by simpa [ek] using hd
  unfold wpList at h;unfold wpListIn;have ih:∀ a w,wpList P ops Q l a w→wpListIn (FRd r) 0 P ops Q l a w:=fun a w h=>oW hQ h2 h;split
  ·rename_i hw
   rw [if_pos hw] at h;have:=rP (r:=r) h1 hQ h;exact Oper.wpIn_mono ih this
  ·rename_i hw
   rw [if_neg hw] at h;exact ⟨fun f _=>trivial,ih _ _ h⟩
theorem tG {r:Option Nat} {P:Program} {ops:Array Oper} {Q:Pst} {rest:List Oper} (hQ:¬ LetsOut Q.fn):∀ {l:List Oper} {a:Act} {w:World},ek l=true→wpList P ops (Pst.then (wpListIn (FRd r) 0 P ops Q.fn rest) Q).fn l a w→wpListIn (FRd r) 0 P ops Q.fn (l++rest) a w
 | [],a,w,_,h=>h
 | o::l,a,w,hd,h=>by
  obtain ⟨h1,h2⟩:mu o.op=false∧ek l=true:=by simpa [ek] using hd
  unfold wpList at h;show wpListIn (FRd r) 0 P ops Q.fn (o::(l++rest)) a w;unfold wpListIn;have hQ2:¬ LetsOut (Pst.then (wpListIn (FRd r) 0 P ops Q.fn rest) Q).fn:=hQ;have ih:∀ a w,wpList P ops (Pst.then (wpListIn (FRd r) 0 P ops Q.fn rest) Q).fn l a w→wpListIn (FRd r) 0 P ops Q.fn (l++rest) a w:=fun a w h=>tG hQ h2 h;split
  ·rename_i hw
   rw [if_pos hw] at h;obtain ⟨h3,h4⟩:=rP (r:=r) h1 hQ2 h;refine ⟨h3,?_⟩;generalize (o.semAt (FRd r).round a.eval).run P w=res at h4;cases res with
   | ok v w=>
    cases v with
    | value v=>exact ih _ _ h4
    | skip=>exact ih _ _ h4
    | «defer» d=>exact ih _ _ h4
    | enter f args=>exact ⟨h4.1,kP ((callsIn_wide (n:=0).1 h4.2).mono fun e w he=>by cases e <;> first | exact ih _ _ he | exact he)⟩
    | row row args=>exact ⟨h4.1,h4.2.mono fun v w hv=>ih _ _ hv⟩
    | round l f tmps assign body=>exact ⟨h4.1,h4.2.mono fun e w he=>by cases e <;> first | exact ih _ _ he | exact he⟩
    | _=>exact h4.elim
   | halt hl w=>
    cases hl with
    | panic v=>exact h4
    | _=>exact h4.elim
  ·rename_i hw
   rw [if_neg hw] at h;exact ⟨fun f _=>trivial,ih _ _ h⟩
theorem uV {l:List Oper} {i:Nat} {o:Oper} (h:ek l=true) (ho:l[i]?=some o):mu o.op=false:=by
 have:=List.all_eq_true.1 h o (List.mem_of_getElem? ho)
 simpa using this
theorem uh {r:Option Nat} {P:Program} {l:List Oper} {Q:Exit→Act→World→Prop} (hQ:¬ LetsOut Q) (hd:ek l=true):∀ {fuel:Nat} {listed:Array Bool} {a:Act} {w:World},wpAny P .any l.toArray Q fuel listed a w→wpAnyIn (FRd r) 0 P .any l.toArray Q fuel listed a w
 | 0,listed,a,w,h=>h
 | fuel + 1,listed,a,w,h=>by
  refine ⟨h.1,fun i hi=>?_⟩;have h2:=h.2 i hi;unfold wpOp at h2;unfold wpOpIn;split at h2
  ·rename_i ho;simp only [ho];exact uh hQ hd h2
  ·rename_i o ho
   simp only [ho];split
   ·rename_i hw
    rw [if_pos hw] at h2;exact Oper.wpIn_mono (fun a w h=>uh hQ hd h) (rP (uV hd (by simpa using ho)) hQ h2)
   ·rename_i hw
    rw [if_neg hw] at h2;exact ⟨fun f _=>trivial,uh hQ hd h2⟩
def CI (P:Program) (E:Env) (r:Option Nat) (c:Code) (Q:Pst) (G:List (Nat × Value)) (H:List HP):Prop:=PW E (c.wpIn (FRd r) 0 P Q.fn) G H
section
variable {P:Program} {E:Env} {r:Option Nat} {Q:Pst} {K:Act→World→Prop} {G:List (Nat × Value)} {H:List HP}
theorem CI.region {id:Nat} {l:List Oper} (hd:ek l=true) (hQ:¬ LetsOut Q.fn) (h:RW P E l.toArray Q l G H):CI P E r (.region id l.toArray false) Q G H:=
 fun a w hf hw=>wpIn_region_lit (oW hQ hd (h a w hf hw))
theorem CI.seqR {id:Nat} {l:List Oper} {y:Code} (hd:ek l=true) (hQ:¬ LetsOut Q.fn) (h:RW P E l.toArray (Pst.then (y.wpIn (FRd r) 0 P Q.fn) Q) l G H):CI P E r (.seq (.region id l.toArray false) y) Q G H:=
 fun a w hf hw=>wpIn_seq (by rw [← si];exact wpIn_region_lit (oW (show ¬ LetsOut (Pst.then (y.wpIn (FRd r) 0 P Q.fn) Q).fn from hQ) hd (h a w hf hw)))
theorem iX {id:Nat} {l:List Oper} (hm:P.follows .mixedOrders=true) (hd:ek l=true) (hQ:¬ LetsOut Q.fn) (h:WA P E l Q G H):CI P E r (.region id l.toArray true) Q G H:=
 fun a w hf hw=>wpIn_region_any hm (uh hQ hd (h a w hf hw))
theorem CI.seq {x y:Code} (h:CI P E r x (Pst.then (y.wpIn (FRd r) 0 P Q.fn) Q) G H):CI P E r (.seq x y) Q G H:=
 fun a w hf hw=>wpIn_seq (by rw [← si];exact h a w hf hw)
theorem CI.block {id:Nat} {c:Code} (h:CI P E r c (Pst.inBlock id Q) G H):CI P E r (.block id c) Q G H:=
 fun a w hf hw=>wpIn_block (by rw [← oq];exact h a w hf hw)
theorem CI.skip (h:PW E Q.nrm G H):CI P E r .skip Q G H:=fun a w hf hw=>wpIn_skip (h a w hf hw)
theorem CI.exit {id:Nat} {K:Act→World→Prop} (hK:Q.exi id=K) (h:PW E K G H):CI P E r (.exit id) Q G H:=fun a w hf hw=>wpIn_exit (by show Q.exi id a w;rw [hK];exact h a w hf hw)
theorem CI.ite {c:Operand} {x y:Code} {p:Prop} [Decidable p] (hc:ev G c=some (.bool (decide p))) (ht:p→CI P E r x Q G H) (hf:¬ p→CI P E r y Q G H):CI P E r (.cond c x y) Q G H:=
 fun a w hfr hw=>wpIn_cond_split (hfr.eval hc) (fun h=>ht (of_decide_eq_true h) a w hfr hw) (fun h=>hf (of_decide_eq_false h) a w hfr hw)
theorem CI.cf {c:Operand} {x y:Code} (hc:ev G c=some (.bool false)) (h:CI P E r y Q G H):CI P E r (.cond c x y) Q G H:=fun a w hf hw=>wpIn_cond_false (hf.eval hc) (h a w hf hw)
theorem ie {c:Code} (h:CI P E r c Q G H):PW E (c.wpIn (FRd r) 0 P Q.fn) G H:=h
theorem Ff {c:Code} (h:CI P E none c Q G H):CW P E c Q G H:=fun a w hf hw=>wpIn_wide (n:=0).1 (h a w hf hw)
end
/-! ### the loop's record -/
def cS (l:Nat) (rec:Loop):HP where
 p w F:=F l∧w.heap[l]?=some (.loop rec)
 st:=fun h _ ⟨hb,hw⟩=>⟨hb,(h l hb (Array.getElem?_eq_some_iff.1 hw).1).trans hw⟩
 up:=fun h ⟨hb,hw⟩=>⟨h l hb,hw⟩
def ss (l:Nat):HP where
 p w F:=F l∧w.heap[l]?=some (.deferred (some []))
 st:=fun h _ ⟨hb,hw⟩=>⟨hb,(h l hb (Array.getElem?_eq_some_iff.1 hw).1).trans hw⟩
 up:=fun h ⟨hb,hw⟩=>⟨h l hb,hw⟩
theorem mO {w0 w:World} {S:Nat→Prop} {pre r:List HP} {l:Nat} {rec rec':Loop} (h:St w0 S (pre++cS l rec::r) w):St w0 S (pre++cS l rec'::r) (w.putObj l (.loop rec')):=by
 refine St.setobj (B:=l) h (fun F hp=>hp.1) (fun F hp=>⟨hp.1,?_⟩);have:=(Array.getElem?_eq_some_iff.1 hp.2).1;show (w.heap.setIfInBounds l _)[l]?=_;simp [this]
theorem lE {w0 w:World} {S:Nat→Prop} {pre r:List HP} {l:Nat} {rec:Loop} (h:St w0 S (pre++cS l rec::r) w):w.heap[l]?=some (.loop rec):=by
 obtain ⟨F,hp,_⟩:=h.get;exact hp.2
structure Dw (N:Nat) (G:List (Nat × Value)) (ps:Array Tmp) (asg body:Code) (rec:Loop):Prop where
 state:rec.state=.ready
 pend:rec.pending=none
 size:rec.tmps.size=N
 at_:∀ i v,look G i=some v→rec.tmps[i]?=some v
 ps:rec.params=ps
 asg:rec.assign=asg
 body:rec.body=body
def BX (P:Program) (l:Nat) (rec:Loop) (args:List Value) (w:World) (F:Nat→Prop) {α:Type} (c:α→List HP):Prop:=
 RoundIn (FRd none) 0 P l rec.fn ((rec.params.zip args.toArray).foldl (fun tmps (t,a)=>tmps.setIfInBounds t a) rec.tmps) rec.assign rec.body w (fun e w'=>∃ x,e=.returned (.bool true)∧St w F (cS l rec::c x) w')
section
variable {P:Program} {E:Env} {Q:Pst} {K:Act→World→Prop} {G:List (Nat × Value)} {H:List HP} {ops:Array Oper}
def GC (P:Program) (l:Nat) (body:Code) (R:Ending→World→Prop) (a:Act) (w:World):Prop:=∃ w2,(Instr.beginRound l).run P w=.ok () w2∧body.wpIn (FRd (some l)) 0 P (roundPost P l R) a w2
def noP:Pst:=⟨fun _ _=>False,fun _ _=>False,fun _ _ _=>False,fun _ _ _=>False,fun _ _ _=>False,fun _ _=>False⟩
def GA (P:Program) (l:Nat) (R:Ending→World→Prop) (a:Act) (w:World):Prop:=∃ v w',(Instr.endRound l none).run P w=.ok v w'∧R (.returned v) w'
theorem BX.enter {l p1 p2 N:Nat} {rec:Loop} {v1 v2:Value} {asg body:Code} {w:World} {F:Nat→Prop} {α:Type} {c:α→List HP} (hr:Dw N G #[p1,p2] asg body rec) (h1:Nat.blt p1 N=true) (h2:Nat.blt p2 N=true) (hH:Sep (cS l rec::H) w F)
 (k:CI P ⟨N,[],w,F⟩ (some l) asg (Pst.then (GC P l body (fun e w'=>∃ x,e=.returned (.bool true)∧St w F (cS l rec::c x) w')) noP) ((p2,v2)::(p1,v1)::G) (cS l rec::H)):BX P l rec [v1,v2] w F c:=by
 unfold BX;refine roundIn_of_wpIn (F:=FRd none) trivial ?_;rw [hr.ps,hr.asg,hr.body]
 have hf:Fr N [] { tmps:=(((#[p1,p2]:Array Tmp).zip [v1,v2].toArray).foldl (fun tmps (t,a)=>tmps.setIfInBounds t a) rec.tmps),defers:=[] } ((p2,v2)::(p1,v1)::G):=by
  have h0:Fr N [] { tmps:=rec.tmps,defers:=[] } G:=⟨hr.size,rfl,hr.at_⟩;have h3:=(h0.put h1 v1).put h2 v2;rw [show (((#[p1,p2]:Array Tmp).zip [v1,v2].toArray).foldl (fun tmps (t,a)=>tmps.setIfInBounds t a) rec.tmps)=(rec.tmps.setIfInBounds p1 v1).setIfInBounds p2 v2 by rw [← Array.foldl_toList];simp];exact h3
 refine Code.wpIn_mono (fun e a w h=>?_) (k _ _ hf (pm hH));cases e <;> first | exact h | exact h.elim
theorem A7 {l:Nat} {rec:Loop} {body:Code} {w:World} {F:Nat→Prop} {α:Type} {c:α→List HP} {N:Nat} {H0:List HP} (hst:rec.state=.ready)
 (k:CI P ⟨N,[],w,F⟩ (some l) body (Pst.then (GA P l (fun e w'=>∃ x,e=.returned (.bool true)∧St w F (cS l rec::c x) w')) noP) G (cS l { rec with state:=.busy }::H0)):
 PW ⟨N,[],w,F⟩ (GC P l body (fun e w'=>∃ x,e=.returned (.bool true)∧St w F (cS l rec::c x) w')) G (cS l rec::H0):=fun a w1 hf hw=>by
 refine ⟨_,run_beginRound (lE (pre:=[]) hw) hst,Code.wpIn_mono (fun e a w h=>?_) (k a _ hf (mO (pre:=[]) hw))⟩;cases e <;> first | exact h | exact h.elim
theorem mR {l:Nat} {rec:Loop} {w:World} {F:Nat→Prop} {α:Type} {c:α→List HP} {N:Nat} (x:α) (hst:rec.state=.ready) (hpend:rec.pending=none):
 PW ⟨N,[],w,F⟩ (GA P l (fun e w'=>∃ x,e=.returned (.bool true)∧St w F (cS l rec::c x) w')) G (cS l { rec with state:=.busy }::c x):=fun a w1 hf hw=>by
 refine ⟨_,_,run_endRound none (lE (pre:=[]) hw),x,rfl,?_⟩
 have e:({ rec with state:=if (none:Option Code).isNone=true then .ready else .done,pending:=none }:Loop)=rec:=by
  cases rec
  simp only at hst hpend;subst hst;subst hpend
  rfl
 have:=mO (pre:=[]) (rec':=rec) hw;show St w F _ (w1.putObj l (.loop { rec with state:=if (none:Option Code).isNone=true then .ready else .done,pending:=none }));rw [e];exact this
theorem AY {l d:Nat} {rec:Loop} {fv:Operand} {args:List Operand} {vs:List Value} {ats:Array TypeId} {ty:TypeId} {pos:String} {af:Array Edge} {rest:List Oper} {α:Type} {c:α→List HP} {r:List HP} (C:List HP)
 (hfv:ev G fv=some (.func (.yield l) #[] #[])) (hl:evs G args=some vs) (hp:rec.params.size=vs.length) (hQ:¬ LetsOut Q.fn) (hnd:ek rest=true) (hN:Nat.blt d E.N=true)
 (hc:∀ w F,Mem.le E.ro (mem w (fun b=>¬ F b))→Sep (cS l rec::C) w F→Sep r w (fun b=>¬ F b)→BX P l rec vs w F c)
 (kk:∀ x,RW P E ops Q rest ((d,.bool true)::G) (cS l rec::(c x++r))):
 PW E (wpListIn (FRd none) 0 P ops Q.fn (⟨some d,.call ⟨.value fv,args.toArray,ats⟩,ty,pos,af,none⟩::rest)) G (cS l rec::(C++r)):=fun a w hf hw=>by
 refine wpListIn_plain rfl (fun K hK=>?_);have hrec:=lE (pre:=[]) hw;have hev:args.map a.eval=vs:=hf.evals hl;have hsz:(args.toArray.map a.eval).size=rec.params.size:=by rw [hp,← hev];simp
 have hrun:(execOp a.eval ⟨some d,.call ⟨.value fv,args.toArray,ats⟩,ty,pos,af,none⟩).run P w=(Instr.yield l (args.toArray.map a.eval)).run P w:=by
  simp only [execOp,resolve,hf.eval hfv,Deferred.ofValue,invoke,Sem.run_bind,Sem.run_pure,Result.andThen];rw [show (#[]:Array Value)++args.toArray.map a.eval=args.toArray.map a.eval from by simp]
 refine ⟨fun f _=>trivial,?_⟩;rw [Oper.semAt_eq _ _ _ (fun c hc=>by cases hc),hrun,run_yield hrec hsz];refine ⟨fun hh=>(by cases hh),?_⟩;obtain ⟨F,hF,s1,s2⟩:=Sep.split (H1:=cS l rec::C) (r:=r) hw.sep;have h3:=hc w F (fun B O v hv=>⟨⟨fun hb=>?_,(pV hw _ _ _ hv).1.2⟩,(pV hw _ _ _ hv).2⟩) s1 (Sep.up (fun b hb=>hb.2) s2);rotate_left
 ·rcases (hF B hb).1 with h | h
  ·exact hv.1.1 h
  ·have:=World.block_lt_of_cell? E.w0 _ hv.2
   exact absurd this (Nat.not_lt.2 h)
 unfold BX at h3;rw [show args.toArray.map a.eval=vs.toArray by rw [← hev];simp];refine RoundIn.mono h3 ?_
 rintro e w' ⟨x,rfl,hx⟩
 exact hK _ _ (oW hQ hnd (kk x _ _ (hf.put hN _) (j7 (new:=cS l rec::c x) hw.kp hF s2 hx)))
theorem yT {l d:Nat} {rec:Loop} {fv:Operand} {args:List Operand} {vs:List Value} {ats:Array TypeId} {ty:TypeId} {pos:String} {af:Array Edge} {rest:List Oper} {α:Type} {c:α→List HP} (C:List HP)
 (hfv:ev G fv=some (.func (.yield l) #[] #[])) (hl:evs G args=some vs) (hp:rec.params.size=vs.length) (hQ:¬ LetsOut Q.fn) (hnd:ek rest=true) (hN:Nat.blt d E.N=true)
 (hc:∀ w F,Mem.le E.ro (mem w (fun b=>¬ F b))→Sep (cS l rec::C) w F→BX P l rec vs w F c)
 (kk:∀ x,RW P E ops Q rest ((d,.bool true)::G) (cS l rec::c x)):
 PW E (wpListIn (FRd none) 0 P ops Q.fn (⟨some d,.call ⟨.value fv,args.toArray,ats⟩,ty,pos,af,none⟩::rest)) G (cS l rec::C):=by
 have:=AY (r:=[]) (C:=C) (c:=c) (ty:=ty) (pos:=pos) (af:=af) (ats:=ats) (P:=P) (Q:=Q) (ops:=ops) (E:=E) hfv hl hp hQ hnd hN (fun w F h1 h2 _=>hc w F h1 h2) (fun x=>by rw [List.append_nil];exact kk x)
 rwa [List.append_nil] at this
theorem y5 {id:Nat} {l pre rest:List Oper} (hl:l=pre++rest) (hd:ek pre=true) (hQ:¬ LetsOut Q.fn) (h:RW P E l.toArray (Pst.then (wpListIn (FRd none) 0 P l.toArray Q.fn rest) Q) pre G H):CW P E (.region id l.toArray false) Q G H:=
 Ff fun a w hf hw=>wpIn_region_lit (by
  have:=tG (r:=none) hQ hd (h a w hf hw);rw [← hl] at this;exact this)
theorem vI {g:Operand} {ps:Array Tmp} {asg body:Code} {f:FuncId} {caps:List Value} {α:Type} {c:α→List HP} {r:List HP} (C:List HP) (hcall:∀ args w,(callFunc f args).run P w=.ok (.enter f args) w) (hfv:ev G g=some (.func (.func f) #[] caps.toArray))
 (hc:∀ w F l rec,Dw E.N G ps asg body rec→Mem.le E.ro (mem w (fun b=>¬ F b))→Sep (cS l rec::C) w F→Sep r w (fun b=>¬ F b)→iT P f (.func (.yield l) #[] #[]::caps) w F (fun _:α=>.tuple #[]) (fun x=>cS l rec::c x))
 (kk:∀ x D,PW ⟨E.N,⟨.collected D,#[]⟩::E.ds,E.w0,E.S⟩ Q.nrm G (ss D::(c x++r))):CW P E (.rangeFunc g ps asg body) Q G (C++r):=fun a w hf hw=>by
 refine wpIn_wide (n:=0).1 (wpIn_rangeFunc fun fnm _=>?_);have hent:=run_enterLoop_outer (P:=P) (w:=w) fnm a.tmps ps asg body
 -- the two blocks
 have hw1:St E.w0 E.S (ss w.heap.size::(C++r)) (w.alloc (.deferred (some []))):=hw.fresh (cL.alloc No w _) ⟨⟨Nat.le_refl _,by show _ < (w.heap.push _).size;simp⟩,by show (w.heap.push _)[_]?=_;simp⟩;have hs1:(w.alloc (.deferred (some []))).heap.size=w.heap.size + 1:=by show (w.heap.push _).size=_;simp
 generalize hrec:({ state:=.ready,pending:=none,fn:=fnm,tmps:=a.tmps,params:=ps,assign:=asg,body:=body,defers:=w.heap.size }:Loop)=rec at hent
 have hw2:St E.w0 E.S (cS (w.heap.size + 1) rec::ss w.heap.size::(C++r)) ((w.alloc (.deferred (some []))).alloc (.loop rec)):=
  hw1.fresh (cL.alloc No _ _) ⟨⟨by rw [hs1];exact Nat.le_refl _,by show _ < ((w.alloc _).heap.push _).size;rw [Array.size_push,hs1];omega⟩,by rw [← hs1];exact World.alloc_heap_new _ _⟩
 generalize ((w.alloc (.deferred (some []))).alloc (.loop rec))=W at hent hw2;have hok:Dw E.N G ps asg body rec:=by subst hrec;exact ⟨rfl,rfl,hf.size,hf.at_,rfl,rfl,rfl⟩
 refine ⟨w.heap.size + 1,[{ target:=.collected w.heap.size,args:=#[] }],W,{ target:=.fn (.func f) caps.toArray,args:=#[Value.func (.yield (w.heap.size + 1)) #[] #[]] },W,f,(Value.func (.yield (w.heap.size + 1)) #[] #[]::caps).toArray,W,hent,?_,fun f' _=>trivial,?_,fun hh=>(by cases hh),?_⟩
 ·simp only [resolve,hf.eval hfv,Deferred.ofValue,Sem.run_pure]
  simp [Act.eval,Result.andThen]
 ·rw [show (invoke (Target.fn (.func f) caps.toArray) #[Value.func (.yield (w.heap.size + 1)) #[] #[]])=callFunc f (#[Value.func (.yield (w.heap.size + 1)) #[] #[]]++caps.toArray) from rfl,hcall]
  simp
 ·refine kP (r:=none) ?_
  have hw3:St E.w0 E.S ((cS (w.heap.size + 1) rec::C)++(ss w.heap.size::r)) W:=hw2.perm (List.Perm.cons _ (by exact (List.perm_middle (l₁:=C) (a:=ss w.heap.size) (l₂:=r)).symm));obtain ⟨F,hF,s1,s2⟩:=Sep.split hw3.sep;refine (hc W F (w.heap.size + 1) rec hok (fun B O v hv=>⟨⟨fun hb=>?_,(pV hw3 _ _ _ hv).1.2⟩,(pV hw3 _ _ _ hv).2⟩) s1 (Sep.up (fun b hb=>hb.2) (lF s2))).mono ?_
  ·rcases (hF B hb).1 with h | h
   ·exact hv.1.1 h
   ·have:=World.block_lt_of_cell? E.w0 _ hv.2
    exact absurd this (Nat.not_lt.2 h)
  ·rintro e w3 ⟨x,rfl,hx⟩
   have h4:St E.w0 E.S (cS (w.heap.size + 1) rec::(c x++(ss w.heap.size::r))) w3:=j7 (new:=cS (w.heap.size + 1) rec::c x) hw3.kp hF s2 hx;refine ⟨_,_,run_endLoop (lE (pre:=[]) h4) (by rw [hok.state];decide),?_⟩;have h5:=(mO (pre:=[]) (rec':={ rec with state:=.exhausted }) h4).sub (List.sublist_cons_self _ _);split
   ·exact kk x w.heap.size _ _ ⟨hf.size,by show _::a.defers=_;rw [hf.defers],hf.at_⟩ (h5.perm List.perm_middle)
   ·rename_i h;rw [hok.pend] at h;cases h
end
section
variable {P:Program} {E:Env} {ops:Array Oper} {Q:Pst} {rest:List Oper} {G:List (Nat × Value)} {H:List HP}
variable {dst:Nat} {ty t:TypeId} {pos:String} {af:Array Edge} {z z':Value} {d:TypeDesc} {sz by_ sz' by':Nat} {x y fv:Operand} {k:IntKind} {a:Int} {l:List Operand} {vs pre caps:List Value} {at_:Array TypeId} {f:FuncId}
theorem ia {e:TypeId} {B O n:Nat} [T:Ty P t (.array n e) z sz by_] [T2:Ty P e d z' sz' by'] (hx:ev G x=some (.pointer (some ⟨B,O,none⟩))) (hy:ev G y=some (.int k a)) (h0:0≤a) (h1:a < n) (hN:Nat.blt dst E.N=true)
 (kk:RW P E ops Q rest ((dst,.pointer (some ⟨B,O + a.toNat * sz',none⟩))::G) H):RW P E ops Q (⟨some dst,.indexAddr t x y,ty,pos,af,none⟩::rest) G H:=
 b8 hN (fun f w hf _=>by simp [execOp,hf.eval hx,hf.eval hy,Instr.indexAt,Instr.sureAddr,asIntOf,T.runUnd,h0,h1,T2.runSize,ja]) kk
theorem ka {α:Type} {V:α→Value} {c:α→List HP} (is:List Nat) (C:List HP) {r:List HP} (hfv:ev G fv=some (.func (.func f) pre.toArray caps.toArray)) (hl:evs G l=some vs) (hN:Nat.blt dst E.N=true) (hH:lO is H=C++r) (hcall:∀ args w,(callFunc f args).run P w=.ok (.enter f args) w)
 (hc:∀ w F,Mem.le E.ro (mem w (fun b=>¬ F b))→Sep C w F→Sep r w (fun b=>¬ F b)→iT P f (pre++(vs++caps)) w F V c)
 (kk:∀ x,RW P E ops Q rest ((dst,V x)::G) (c x++r)):RW P E ops Q (⟨some dst,.call ⟨.value fv,l.toArray,at_⟩,ty,pos,af,none⟩::rest) G H:=by
 refine yL is ?_;rw [hH];refine eW rfl (fun a w hf hw=>?_)
 have hrun:(execOp a.eval ⟨some dst,.call ⟨.value fv,l.toArray,at_⟩,ty,pos,af,none⟩).run P w=.ok (.enter f (pre++(vs++caps)).toArray) w:=by
  simp [execOp,resolve,hf.eval hfv,Deferred.ofValue,invoke,hf.evals hl,hcall]
 rw [hrun];obtain ⟨F,hF,h1,h2⟩:=Sep.split hw.sep;refine (hc w F (fun B O v hv=>⟨⟨fun hb=>?_,(pV hw _ _ _ hv).1.2⟩,(pV hw _ _ _ hv).2⟩) h1 (Sep.up (fun b hb=>hb.2) h2)).mono ?_
 ·rcases (hF B hb).1 with h | h
  ·exact hv.1.1 h
  ·have:=World.block_lt_of_cell? E.w0 _ hv.2
   exact absurd this (Nat.not_lt.2 h)
 ·rintro e w' ⟨x,rfl,hx⟩
  exact kk x _ _ (hf.put hN _) (j7 hw.kp hF h2 hx)
end
/-! ### leaving a function with such a statement -/
structure Dv (P:Program) (fn:Func) (R:Ending→World→Prop) (a:Act) (w:World):Prop where
 out:bodyPostM (FRd none) 0 P fn R .ret a w
structure Gr (P:Program) (fn:Func) (R:Ending→World→Prop) (c:List PanicEntry) (a:Act) (w:World):Prop where
 out:bodyPostM (FRd none) 0 P fn R (.panic c) a w
@[reducible] def G2 (P:Program) (fn:Func) (R:Ending→World→Prop):Pst:=
 ⟨Dv P fn R,Dv P fn R,fun _ _ _=>False,fun _ _ _=>False,fun c=>Gr P fn R c,bodyPostM (FRd none) 0 P fn R .outgrown⟩
theorem rq {P:Program} {H:List HP} {f:FuncId} {fn:Func} {c:Code} {args:List Value} {w:World} {S:Nat→Prop} {R:Ending→World→Prop} (hf:P.funcs[f]?=some fn) (hb:fn.body=some c) (N:Nat) (hN:fn.ntmps=N) (hle:Nat.ble args.length N=true)
 (hst:Sep H w S) (k:CW P ⟨N,[],w,S⟩ c (G2 P fn R) (idx 0 args) H):Calls P f args.toArray w R:=by
 refine callsIn_wide (n:=0).1 (callsIn_of_wp_marks (F:=FRd none) hf hb trivial (wpIn_wide (n:=0).2 (wp_mono (k _ _ ⟨?_,rfl,fun i v hi=>?_⟩ (pm hst)) (fun e a w h=>by cases e <;> first | exact h.out | exact h | exact h.elim))))
 ·have:args.length≤N:=by simpa [Nat.ble_eq] using hle
  simp [hN];omega
 ·obtain ⟨_,h2⟩:=jD _ _ _ _ hi
  have hlt:i < args.length:=by
   have:=(List.getElem?_eq_some_iff.1 h2).1;omega
  rw [Array.getElem?_append_left (by simpa using hlt)]
  simpa using h2
theorem DC {P:Program} {E:Env} {G:List (Nat × Value)} {H:List HP} {fn:Func} {R:Ending→World→Prop} {rs:List ResultVar} {vs:List Value} {D:Nat} (hr:fn.results=rs.toArray) (hd:E.ds=[⟨.collected D,#[]⟩]) (h:aL P E G H rs vs) (k:∀ w,St E.w0 E.S H w→R (.returned (s7 vs)) w):
 PW E (Dv P fn R) G (ss D::H):=fun a w hf hw=>⟨by
 have hdf:=hf.defers.trans hd;show LeavesInM (FRd none) 0 P fn a.tmps R a.defers .returning w;rw [hdf];obtain ⟨F,hp,_⟩:=St.get (pre:=[]) hw;have hw2:St E.w0 E.S H (w.putObj D (.deferred none)):=(St.setobj (pre:=[]) (B:=D) (d:=s9 True) (o:=.deferred none) hw (fun F hp=>hp.1) (fun F hp=>trivial)).sub (List.sublist_cons_self _ _);refine ⟨by simp,.inl ⟨D,_,rfl,run_takeDeferred hp.2,_,lW hr h hf hw2,k _ hw2⟩⟩⟩
end
section
abbrev wkX (n m:Nat) (z:ECs):List HP:=[i5 en [.slice z.iA n z.ic] z.s.inn,i5 en [.slice z.oA m z.oc] z.s.of,i5 en [.slice z.bA m z.bc] z.s.beats]
theorem wO {t:K} {cs:List Value} {x:t.V} {pre r:List HP} {w:World} {A:Nat→Prop} (h:Sep (pre++i5 t cs x::r) w A):Rd t (mem w A) cs x:=by
 obtain ⟨F,hF,hc,_⟩:=fh h;exact (yY hc).mono (fun B O v hv=>⟨⟨(hF B hv.1.1).1,hv.1.2⟩,hv.2⟩)
theorem vU {n m:Nat} {z:ECs} {w:World} {A:Nat→Prop} {M:Mem} (h:Sep (wkX n m z) w A) (ht:gp (mem w A) z.s.t z.x):sT (mem w A) n m z:=
 ⟨ht,wO (pre:=[]) h,wO (pre:=[_]) h,wO (pre:=[_,_]) h⟩
abbrev nq (be:Nat):List Value:=[.nilFunc,.func (.func 48) #[aK be] #[],.func (.func 49) #[aK be] #[],.func (.func 50) #[aK be] #[],.func (.func 51) #[aK be] #[]]
abbrev qL:TypeId:=106
abbrev wkH (b1 b5 b6 be:Nat) (a:EAd) (z:ECs) (n m:Nat) (sv:Value) (e:En):List HP:=blk b1 [aK be] 67::blk b5 [aK be] 67::blk b6 (nq be) qL::(enH be a z n m sv e++wkX n m z)
theorem aE.does {n m np:Nat} {e:En} {s:Es} {first i:Nat} {p:Int × Int} (hs:fJ n m np s) (h:aE n m np e) (q0:0≤p.1) (q1:p.1 < n):aE n m np (En.does s first i e p):=by
 unfold En.does;split
 ·split
  ·exact h.onLate hs q0 q1
  ·exact h.onNoD hs q0 q1
 ·split
  ·exact h.onPlusD hs q0 q1
  ·split
   ·exact h.onPlus hs q0 q1
   ·exact h.onMinus hs q0 q1
attribute [local irreducible] RW CW
theorem zh {be:Nat} {w:World}:iT Tryz.prog 53 [aK be] w No (fun b1:Nat=>.func (.func 88) #[] #[aK b1]) (fun b1=>[blk b1 [aK be] 67]):=by
 refine Calls.enter Tryz.func53 rfl _ rfl rfl (S:=No) (H:=[]) trivial ?_;refine bZ ?_;refine vD rfl rfl rfl fun b1 _=>?_;refine Jd (Jb (Ja (Jx (Jd (Jb ?_)))));exact aZ (rs:=[.tmp 2]) (vs:=[_]) rfl Tryz.results53 rfl (aL.tmp rfl aL.nil) fun w hw=>⟨b1,rfl,hw⟩
section
variable {n m np:Nat} {e:En} {s:Es}
theorem aE.tdAt (h:aE n m np e) {i:Nat} {p:Int × Int} (hi:e.told[i]?=some p):(0≤p.1∧p.1 < n)∧(1≤p.2∧p.2≤4):=h.td _ (List.mem_of_getElem? hi)
end
set_option maxHeartbeats 16000000 in
theorem vS {b1 b5 b6 be n m np first:Nat} {a:EAd} {z:ECs} {e:En} {l:Nat} {rec:Loop} (hps:rec.params.size=2) (hs:fJ n m np z.s) (hk:aE n m np e)
 (hrnd:∀ (i:Nat) (e:En) (p:Int × Int) (sv:Value) (w2:World) (F2:Nat→Prop),aE n m np e→i < 4 * n→e.told[i]?=some p→gp (mem w2 (fun b=>¬ F2 b)) z.s.t z.x→Sep (cS l rec::wkH b1 b5 b6 be a z n m sv e) w2 F2→
  BX Tryz.prog l rec [.int .i64 i,.agg (ku p).toArray] w2 F2 (fun sv2:Value=>wkH b1 b5 b6 be a z n m sv2 (En.does z.s first i e p)))
 {sv:Value} (w:World) (F:Nat→Prop) (hT:gp (mem w (fun b=>¬ F b)) z.s.t z.x) (hH:Sep (cS l rec::wkH b1 b5 b6 be a z n m sv e) w F):
 iT Tryz.prog 88 [.func (.yield l) #[] #[],aK b1] w F (fun _:Value=>.tuple #[]) (fun sv2=>cS l rec::wkH b1 b5 b6 be a z n m sv2 (En.work z.s first (4 * n) 0 e)):=by
 refine Calls.enter Tryz.func88 rfl _ rfl rfl (S:=F) (H:=cS l rec::wkH b1 b5 b6 be a z n m sv e) hH ?_;refine Ja (Jd (Jb ?_));have hsm:=hs.small.1;refine ak ?_
 refine aI (ι:={ q:Nat × Nat × En × Value // q.1 + q.2.1=4 * n∧aE n m np q.2.2.1∧En.work z.s first (4 * n) 0 e=En.work z.s first q.1 q.2.1 q.2.2.1 })
  (fun q=>[(0,.func (.yield l) #[] #[]),(1,aK b1),(3,.int .i64 q.1.2.1)]) (fun q=>enH be a z n m q.1.2.2.2 q.1.2.2.1++(blk b1 [aK be] 67::cS l rec::blk b5 [aK be] 67::blk b6 (nq be) qL::wkX n m z)) (fun q=>q.1.1) ⟨(4 * n,0,e,sv),by simp,hk,rfl⟩ ⟨rfl,rfl,rfl,trivial⟩ (fun h=>St.take [4,5,6,7,8,9,10,11,12,13,14,15,16,17,18,1,0,2,3,19,20,21] h) ?_
 intro ⟨⟨k,i,e2,sv2⟩,hki,hk2,hS⟩;dsimp only at hki hk2 hS ⊢;have hmost:=hk2.most;refine fk (φ:=∃ A c,sv2=.slice A e2.told.length c∧(e2.told≠[]→∃ B,A=some ⟨B,0,none⟩)) (fun w hw=>?_) (fun ⟨tA,tc,hsv,htA⟩=>?_)
 ·obtain ⟨A,c,h1,h2⟩:=eK (pre:=[_,_]) hw
  rw [List.length_map] at h1;exact ⟨A,c,h1,fun h=>h2 (by simpa using h)⟩
 subst hsv;refine ar ?_;refine Ja (Jc ?_);refine El ?_;refine Jf (Je ?_);refine Eh ?_;refine Jg (Jk (Jb ?_));refine ay rfl (fun hlt=>?_) (fun hge=>?_);rotate_left
 ·have hW:En.work z.s first (4 * n) 0 e=e2:=by
   rw [hS];cases k with
   | zero=>rfl
   | succ k=>
    unfold En.work;rw [List.getElem?_eq_none (by omega)]
  rw [hW];refine aG rfl ?_;exact eC (rs:=[]) (vs:=[]) Tryz.results88 rfl aL.nil fun w hw=>⟨_,rfl,St.take [16,15,17,18,0,1,2,3,4,5,6,7,8,9,10,11,12,13,14,19,20,21] hw⟩
 have hlt':i < e2.told.length:=by omega
 obtain ⟨k,rfl⟩:∃ k',k=k' + 1:=⟨k - 1,by omega⟩;have hp:=List.getElem?_eq_getElem hlt';generalize e2.told[i]=p at hp
 have hS2:En.work z.s first (k + 1) i e2=En.work z.s first k (i + 1) (En.does z.s first i (e2.ups 1) p):=by
  conv=>lhs;unfold En.work
  rw [hp]
 rw [hS2] at hS;obtain ⟨TB,rfl⟩:=htA (fun h=>by rw [h] at hlt';exact absurd hlt' (Nat.not_lt_zero _));have hk3:aE n m np (e2.ups 1):=hk2.ups;obtain ⟨⟨q0,q1⟩,k0,k1⟩:=hk2.tdAt hp;have hk4:aE n m np (En.does z.s first i (e2.ups 1) p):=hk3.does hs q0 q1;refine al (ah ?_);refine bf (ι:=Value) (fun _=>[(0,.func (.yield l) #[] #[]),(1,aK b1),(3,.int .i64 i)]) (fun sv3=>enH be a z n m sv3 (En.does z.s first i (e2.ups 1) p)++(blk b1 [aK be] 67::cS l rec::blk b5 [aK be] 67::blk b6 (nq be) qL::wkX n m z)) ?_ (fun sv3=>?_)
 ·refine ak ?_
  refine Ja ?_;refine El ?_;refine Jf (Je (Je ?_));refine Eh ?_;refine cY rfl rfl rfl rfl ?_;refine Jf (Je (Je ?_));refine ES.up rfl rfl ?_;refine aq (ah ?_);refine ar ?_;refine y5 (pre:=[_,_,_,_,_,_,_,_,_]) rfl rfl (fun ⟨_,_,h⟩=>by obtain ⟨x,h,_⟩:=h;cases h) ?_;refine Jc (Jc ?_);refine El ?_;refine Jf (Je ?_);refine Eh ?_;refine Jc ?_;refine av rfl rfl (by omega) (by omega) rfl ?_;refine oE [_,_] (cs:=ku p) (i:=i) rfl (by simp) (by show (e2.told.map ku)[i]?=_;rw [List.getElem?_map,hp];rfl) rfl rfl rfl ?_;refine aq ?_;refine fI (H':=cS l rec::(wkH b1 b5 b6 be a z n m (.slice (some ⟨TB,0,none⟩) e2.told.length tc) (e2.ups 1))) (fun w A h=>Sep.take [16,15,17,18,0,1,2,3,4,5,6,7,8,9,10,11,12,13,14,19,20,21] h) ?_;refine yT (wkH b1 b5 b6 be a z n m (.slice (some ⟨TB,0,none⟩) e2.told.length tc) (e2.ups 1)) (vs:=[.int .i64 i,.agg (ku p).toArray]) rfl rfl hps (fun ⟨_,_,h⟩=>by obtain ⟨x,h,_⟩:=h;cases h) rfl rfl (fun w3 F3 hle3 hC=>hrnd i (e2.ups 1) p _ w3 F3 hk3 (by omega) hp (hT.mono hle3) hC) fun sv3=>?_;refine Js (Jb ?_);refine ch rfl ?_;refine al ?_;exact aC sv3 ⟨rfl,rfl,rfl,trivial⟩ (fun h=>St.take [4,5,6,7,8,9,10,11,12,13,14,15,16,17,18,1,0,2,3,19,20,21] h)
 refine aj (Jc ?_);refine cY (c:=((i + 1:Nat):Int)) rfl rfl (by rw [show ((i:Int) + 1)=((i + 1:Nat):Int) by omega];exact w64 (by omega) (by omega)) rfl ?_;refine Jd (aq ?_);exact Pa ⟨(k,i + 1,En.does z.s first i (e2.ups 1) p,sv3),by dsimp only;omega,hk4,hS⟩
end
section
section
variable {P:Program} {E:Env} {Q:Pst} {G:List (Nat × Value)} {l:List Oper} {n q:Nat} {Hd:Bool→List HP} {vs:List Value}
def Gi (l:List Oper) (q n:Nat) (G:List (Nat × Value)):Bool:=(List.range n).all fun i=>match l[i]? with
 | some o=>match o.dst with
  | some d=>!(Nat.beq i q)&&(look G d).isNone&&(List.range n).all fun j=>Nat.beq i j || (match l[j]? with
   | some o'=>match o'.dst with
    | some d'=>!(Nat.beq d d')
    | none=>true
   | none=>true)
  | none=>Nat.beq i q
 | none=>false
def vd (R:List Value) (i:Nat):Option Value:=match Nat.blt i R.length with
 | true=>R[R.length - 1 - i]?
 | false=>none
def jR (l:List Oper) (R:List Value):List Edge→List (Nat × Value)
 | []=>[]
 | e::es=>match Region.binds .any e with
  | true=>match l[e.on]? with
   | some o'=>match o'.dst with
    | some d=>match vd R e.on with
     | some v=>(d,v)::jR l R es
     | none=>jR l R es
    | none=>jR l R es
   | none=>jR l R es
  | false=>jR l R es
def Bm (l:List Oper):List Value→List (Nat × Value)
 | []=>[]
 | v::R=>match l[R.length]? with
  | some o=>match o.dst with
   | some d=>(d,v)::Bm l R
   | none=>Bm l R
  | none=>Bm l R
theorem qG {R:List Value} {i:Nat} {v:Value} (h:vd R i=some v):i < R.length∧R.reverse[i]?=some v:=by
 unfold vd at h;cases hb:Nat.blt i R.length with
 | false=>rw [hb] at h;cases h
 | true=>
  rw [hb] at h;have hi:i < R.length:=by rwa [Nat.blt_eq] at hb
  exact ⟨hi,by rw [List.getElem?_reverse hi];exact h⟩
theorem As {R:List Value} {v:Value} {i:Nat} (h:i < R.length):vd (v::R) i=vd R i:=by
 unfold vd;have h1:Nat.blt i R.length=true:=by rw [Nat.blt_eq];exact h
 have h2:Nat.blt i (v::R).length=true:=by rw [Nat.blt_eq,List.length_cons];omega
 rw [h1,h2];dsimp only;rw [List.length_cons,show R.length + 1 - 1 - i=(R.length - 1 - i) + 1 by omega,List.getElem?_cons_succ]
theorem t8 {R:List Value} {v:Value}:∀ {es:List Edge},(∀ e∈es,Region.binds .any e=true→e.on < R.length)→jR l (v::R) es=jR l R es
 | [],_=>rfl
 | e::es,h=>by
  unfold jR;rw [t8 (es:=es) fun e' he'=>h e' (List.mem_cons_of_mem _ he')];cases hb:Region.binds .any e with
  | false=>rfl
  | true=>rw [As (h e (List.mem_cons_self ..) hb)]
theorem mE {R:List Value} {es:List Edge} (h:∀ e∈es,Region.binds .any e=true→e.on < R.length):∀ (T:List Value),jR l (T++R) es=jR l R es
 | []=>rfl
 | v::T=>by
  rw [List.cons_append,t8 (fun e he hb=>by have:=h e he hb;rw [List.length_append];omega),mE h T]
structure Ft (E:Env) (l:List Oper) (n:Nat) (R:List Value) (G:List (Nat × Value)) (Hd:Bool→List HP) (q:Nat) (listed:Array Bool) (a:Act) (w:World):Prop where
 size:listed.size=l.length
 below:∀ i,n≤i→listed.getD i false=false
 down:∀ (i:Nat) (o:Oper),listed.getD i false=true→l[i]?=some o→∀ e∈o.after.toList,Region.binds .any e=true→listed.getD e.on false=true
 fN:a.tmps.size=E.N
 fd:a.defers=E.ds
 fG:∀ i v,look G i=some v→a.tmps[i]?=some v
 fV:∀ (i:Nat) (o:Oper) (d:Nat) (v:Value),listed.getD i false=true→l[i]?=some o→o.dst=some d→vd R i=some v→a.tmps[d]?=some v
 st:St E.w0 E.S (Hd (listed.getD q false)) w
theorem qN {R:List Value} {listed:Array Bool} {a:Act} {w:World} (M:Ft E l n R G Hd q listed a w):∀ {es:List Edge},(∀ e∈es,Region.binds .any e=true→listed.getD e.on false=true)→∀ s u,look (jR l R es) s=some u→a.tmps[s]?=some u
 | [],_,s,u,h=>by cases h
 | e::es,hej,s,u,h=>by
  have ih:=qN M (es:=es) (fun e' he'=>hej e' (List.mem_cons_of_mem _ he')) s u;unfold jR at h;split at h
  ·rename_i hb
   have hl:=hej e (List.mem_cons_self ..) hb;split at h
   ·rename_i o' ho'
    split at h
    ·rename_i d hd
     split at h
     ·rename_i v hv
      unfold look at h;cases hb2:Nat.beq d s with
      | true=>
       rw [hb2] at h;have:=Nat.eq_of_beq_eq_true hb2;subst this;cases h
       exact M.fV e.on o' d u hl ho' hd hv
      | false=>rw [hb2] at h;exact ih h
     ·exact ih h
    ·exact ih h
   ·exact ih h
  ·exact ih h
theorem qa {R0:List Value} {listed:Array Bool} {a:Act} {w:World} (M:Ft E l n R0 G Hd q listed a w) (hall:∀ i,i < R0.length→listed.getD i false=true):∀ (T R:List Value),R0=T++R→∀ s u,look (Bm l R) s=some u→a.tmps[s]?=some u
 | T,[],_,s,u,h=>by cases h
 | T,v::R,hR,s,u,h=>by
  have ih:=qa M hall (T++[v]) R (by rw [hR];simp) s u;unfold Bm at h;split at h
  ·rename_i o ho
   split at h
   ·rename_i d hd
    unfold look at h;cases hb2:Nat.beq d s with
    | true=>
     rw [hb2] at h;have:=Nat.eq_of_beq_eq_true hb2;subst this;cases h
     have hlt:R.length < R0.length:=by rw [hR,List.length_append,List.length_cons];omega
     refine M.fV R.length o d _ (hall _ hlt) ho hd ?_;unfold vd;have h1:Nat.blt R.length R0.length=true:=by rw [Nat.blt_eq];exact hlt
     rw [h1];dsimp only;rw [hR,List.length_append,List.length_cons,show T.length + (R.length + 1) - 1 - R.length=T.length by omega,List.getElem?_append_right (Nat.le_refl _),Nat.sub_self]
     rfl
    | false=>rw [hb2] at h;exact ih h
   ·exact ih h
  ·exact ih h
theorem nG {N:Nat} {ds:List Deferred} {a a':Act} {D G:List (Nat × Value)} (hD:∀ s u,look D s=some u→a.tmps[s]?=some u) (hG:∀ s u,look G s=some u→a.tmps[s]?=some u)
 (h:Fr N ds a' (D++G++idx 0 a.tmps.toList)) {s:Nat} {u:Value} (hu:a.tmps[s]?=some u):a'.tmps[s]?=some u:=by
 have hsn:look (idx 0 a.tmps.toList) s=some u:=qn _ 0 s u (Nat.zero_le _) (by simpa using hu);refine h.at_ s u ?_;cases hDG:look (D++G) s with
 | some u'=>
  have:a.tmps[s]?=some u':=(cu hDG).elim (hD s u') (hG s u');rw [hu] at this;injection this with this;subst this;exact dV hDG
 | none=>rw [dW (fun v hv=>by rw [hDG] at hv;cases hv)];exact hsn
theorem Dq {R:List Value} (hk:R.length=n) (hn:Nat.ble n l.length=true) (hb:j5 l=true) (hf:dL l n=true) (hd:Gi l q n G=true) (hqn:q < n)
 (prems:∀ (i:Nat) (o:Oper) (v:Value),i≠q→l[i]?=some o→vd R i=some v→∀ (b:Bool) (Gx:List (Nat × Value)),RW P E l.toArray (Pst.then (fun a w=>∃ d,o.dst=some d∧Fr E.N E.ds a ((d,v)::(jR l R o.after.toList++G++Gx))∧St E.w0 E.S (Hd b) w) Q) [o] (jR l R o.after.toList++G++Gx) (Hd b))
 (premq:∀ (o:Oper),l[q]?=some o→∀ (Gx:List (Nat × Value)),RW P E l.toArray (Pst.then (fun a w=>Fr E.N E.ds a (jR l R o.after.toList++G++Gx)∧St E.w0 E.S (Hd true) w) Q) [o] (jR l R o.after.toList++G++Gx) (Hd false))
 (tail:RW P E l.toArray Q (l.drop n) (Bm l R++G) (Hd true)):WA P E l Q G (Hd false):=by
 have hnl:n≤l.length:=by simpa [Nat.ble_eq] using hn
 have hback:∀ (i:Nat) (o:Oper),l[i]?=some o→∀ e∈o.after.toList,Region.binds .any e=true→e.on < i:=by
  intro i o ho e he hbe;have hi:i < l.length:=(List.getElem?_eq_some_iff.1 ho).1;have:=(List.all_eq_true.1 hb) i (List.mem_range.2 hi);rw [ho] at this;have h9:=(List.all_eq_true.1 this) e he
  simpa [hbe] using h9
 have hdst:∀ i,i < n→i≠q→∃ (o:Oper) (d:Nat),l[i]?=some o∧o.dst=some d∧look G d=none∧∀ (j:Nat) (o':Oper) (d':Nat),j < n→l[j]?=some o'→o'.dst=some d'→d=d'→i=j:=by
  intro i hi hnp;have h1:=(List.all_eq_true.1 hd) i (List.mem_range.2 hi);have hi':i < l.length:=by omega
  rw [List.getElem?_eq_getElem hi'] at h1;simp only at h1;cases hdd:l[i].dst with
  | none=>rw [hdd] at h1;exact absurd (Nat.eq_of_beq_eq_true h1) hnp
  | some d=>
   rw [hdd] at h1;simp only [Bool.and_eq_true] at h1;refine ⟨l[i],d,List.getElem?_eq_getElem hi',hdd,by simpa using h1.1.2,fun j o' d' hj ho' hd' he=>?_⟩;have h2:=(List.all_eq_true.1 h1.2) j (List.mem_range.2 hj);rw [ho'] at h2;simp only [hd'] at h2;subst he
   simpa using h2
 have hdq:∀ o,l[q]?=some o→o.dst=none:=by
  intro o ho;have h1:=(List.all_eq_true.1 hd) q (List.mem_range.2 hqn);rw [ho] at h1;simp only at h1;cases hdd:o.dst with
  | none=>rfl
  | some d=>rw [hdd] at h1;simp at h1
 have toTail:∀ (listed:Array Bool) (a:Act) (w:World),Ft E l n R G Hd q listed a w→(∀ i,i < n→listed.getD i false=true)→wpList P l.toArray Q.fn (l.drop n) a w:=by
  intro listed a w M hall;refine tail a w ⟨M.fN,M.fd,fun s u hs=>?_⟩ ?_
  ·rcases cu hs with hs | hs
   ·exact qa M (fun i hi=>hall i (by omega)) [] R rfl s u hs
   ·exact M.fG s u hs
  ·have:=M.st
   rwa [hall q hqn] at this
 intro a w hfr hst
 have key:∀ (fuel:Nat) (listed:Array Bool) (a:Act) (w:World),Ft E l n R G Hd q listed a w→cnt (fun i=>listed.getD i false) l.length≤fuel→wpAny P .any l.toArray Q.fn fuel listed a w:=by
  intro fuel;induction fuel with
  | zero=>
   intro listed a w M hc
   have hall:∀ i,i < l.length→listed.getD i false=true:=fun i hi=>by
    cases hx:listed.getD i false with
    | true=>rfl
    | false=>exact absurd (sD (L:=fun i=>listed.getD i false) hx l.length hi) (by omega)
   have hnl':n=l.length:=by
    rcases Nat.lt_or_ge n l.length with h | h
    ·have:=M.below n (Nat.le_refl _);rw [hall n h] at this;cases this
    ·omega
   refine iJ hb hf 0 l.length (by omega) (by omega) 0 listed a w (Nat.le_refl _) M.size (fun j hj=>⟨fun _=>hj,fun _=>hall j hj⟩) ?_;rw [← hnl'];exact toTail listed a w M (fun i hi=>hall i (by omega))
  | succ fuel ih=>
   intro listed a w M hc;by_cases hall:∀ i,i < n→listed.getD i false=true
   ·have hcn:l.length - n≤fuel + 1:=by
     have:cnt (fun i=>listed.getD i false) l.length=l.length - n:=pb hall M.below l.length hnl;omega
    exact iJ hb hf (l.length - n) n (by omega) (Nat.le_refl _) (fuel + 1) listed a w hcn M.size (fun j hj=>⟨fun h=>(by
     rcases Nat.lt_or_ge j n with h1 | h1
     ·exact h1
     ·rw [M.below j h1] at h;cases h),fun h=>hall j h⟩) (toTail listed a w M hall)
   ·have hex:∃ i,i < n∧listed.getD i false=false∧∀ j,j < i→listed.getD j false=true:=by
     have:∀ m,(∀ i,i < m→listed.getD i false=true)∨∃ i,i < m∧listed.getD i false=false∧∀ j,j < i→listed.getD j false=true:=by
      intro m;induction m with
      | zero=>exact .inl (fun i hi=>by omega)
      | succ m ihm=>
       rcases ihm with h | ⟨i,h1,h2,h3⟩
       ·cases hx:listed.getD m false with
        | true=>exact .inl (fun i hi=>if h4:i < m then h i h4 else (show m=i by omega) ▸ hx)
        | false=>exact .inr ⟨m,by omega,hx,h⟩
       ·exact .inr ⟨i,by omega,h2,h3⟩
     rcases this n with h | h
     ·exact absurd h hall
     ·exact h
    obtain ⟨i0,hi0,hi0f,hi0a⟩:=hex;have hrdy:i0∈Region.ready .any l.toArray listed:=(dg M.size i0).2 ⟨l[i0],List.getElem?_eq_getElem (by omega),hi0f,fun e he hbe=>hi0a _ (hback i0 _ (List.getElem?_eq_getElem (by omega)) e he hbe)⟩;refine ⟨(fun h=>by rw [h] at hrdy;cases hrdy),fun i hi=>?_⟩;obtain ⟨o,ho,hlf,hej⟩:=(dg M.size i).1 hi
    have hin:i < n:=by
     rcases Nat.lt_or_ge i n with h | h
     ·exact h
     ·have:=fg (L:=fun i=>listed.getD i false) hb hf h ho (show i0 < i by omega) M.down hej
      rw [hi0f] at this;cases this
    have hget:∀ j,j≠i→(listed.setIfInBounds i true).getD j false=listed.getD j false:=fun j hj=>by rw [a7 (by rw [M.size];omega),if_neg (Ne.symm hj)]
    have hseti:(listed.setIfInBounds i true).getD i false=true:=by rw [a7 (by rw [M.size];omega),if_pos rfl]
    have hDep:=qN M hej
    have hsnap:Fr E.N E.ds a (jR l R o.after.toList++G++idx 0 a.tmps.toList):=⟨M.fN,M.fd,fun s u hs=>by
     rcases cu hs with hs | hs
     ·exact (cu hs).elim (hDep s u) (M.fG s u)
     ·have:=jD _ 0 s u hs;simpa using this.2⟩
    have hcnt:cnt (fun j=>(listed.setIfInBounds i true).getD j false) l.length≤fuel:=by
     have:=mJ (L:=fun j=>listed.getD j false) (L':=fun j=>(listed.setIfInBounds i true).getD j false) (p:=i) (fun j hj=>by show (listed.setIfInBounds i true).getD j false=listed.getD j false;rw [a7 (by rw [M.size];omega),if_neg (Ne.symm hj)]) hlf (by show (listed.setIfInBounds i true).getD i false=true;rw [a7 (by rw [M.size];omega),if_pos rfl]) l.length (by omega);omega
    have hdown':∀ (m:Nat) (o':Oper),(listed.setIfInBounds i true).getD m false=true→l[m]?=some o'→∀ e∈o'.after.toList,Region.binds .any e=true→(listed.setIfInBounds i true).getD e.on false=true:=by
     intro m o' hm' ho' e he hbi;rw [a7 (by rw [M.size];omega)] at hm' ⊢;split
     ·rfl
     ·split at hm'
      ·rename_i e2;subst e2;rw [ho] at ho';injection ho' with ho';subst ho';exact hej e he hbi
      ·exact M.down m o' hm' ho' e he hbi
    have hbelow':∀ j,n≤j→(listed.setIfInBounds i true).getD j false=false:=fun j hj=>by rw [a7 (by rw [M.size];omega),if_neg (by omega)];exact M.below j hj
    by_cases hiq:i=q
    ·have hst0:=M.st
     rw [← hiq,hlf] at hst0;have h1:=premq o (by rw [← hiq];exact ho) (idx 0 a.tmps.toList) a w hsnap hst0;refine db (wpOp_mono (fun a' w' h'=>?_) (bG ho h1));obtain ⟨hfr',hst'⟩:=h';refine ih _ a' w' ⟨by simp [M.size],hbelow',hdown',hfr'.size,hfr'.defers,fun s u hs=>nG hDep M.fG hfr' (M.fG s u hs),fun m o' d' v hm' ho' hd' hv'=>?_,?_⟩ hcnt
     ·by_cases hmi:m=i
      ·rw [hmi,hiq] at ho'
       rw [hdq o' ho'] at hd';cases hd'
      ·rw [hget m hmi] at hm'
       exact nG hDep M.fG hfr' (M.fV m o' d' v hm' ho' hd' hv')
     ·rw [← hiq,hseti];exact hst'
    ·obtain ⟨o2,d,ho2,hdd,hGd,huniq⟩:=hdst i hin hiq
     rw [ho] at ho2;injection ho2 with ho2;subst ho2
     obtain ⟨v,hv⟩:∃ v,vd R i=some v:=by
      unfold vd;have h1:Nat.blt i R.length=true:=by rw [Nat.blt_eq];omega
      rw [h1];exact ⟨_,List.getElem?_eq_getElem (by omega)⟩
     have h1:=prems i o v hiq ho hv (listed.getD q false) (idx 0 a.tmps.toList) a w hsnap M.st;refine db (wpOp_mono (fun a' w' h'=>?_) (bG ho h1));obtain ⟨d2,hd2,hfr',hst'⟩:=h';rw [hdd] at hd2;injection hd2 with hd2;subst hd2;refine ih _ a' w' ⟨by simp [M.size],hbelow',hdown',hfr'.size,hfr'.defers,fun s u hs=>?_,fun m o' d' k hm' ho' hd' hk'=>?_,?_⟩ hcnt
     ·exact dc hDep M.fG hfr' (fun e=>by subst e;rw [hGd] at hs;cases hs) (M.fG s u hs)
     ·by_cases hmi:i=m
      ·subst hmi
       rw [ho] at ho';injection ho' with ho';subst ho';rw [hdd] at hd';injection hd' with hd';subst hd';rw [hv] at hk';injection hk' with hk';subst hk';exact hfr'.at_ _ _ (by simp [look,Nat.beq_refl])
      ·rw [hget m (Ne.symm hmi)] at hm'
       have hmn:m < n:=by
        rcases Nat.lt_or_ge m n with h1 | h1
        ·exact h1
        ·rw [M.below m h1] at hm';cases hm'
       refine dc hDep M.fG hfr' (fun e=>hmi (huniq m o' d' hmn ho' hd' e.symm)) (M.fV m o' d' k hm' ho' hd' hk')
     ·rw [hget q (Ne.symm hiq)];exact hst'
 have hrep:∀ j,(Array.replicate l.toArray.size false).getD j false=false:=fun j=>by
  simp only [Array.getD_eq_getD_getElem?,Array.getElem?_replicate];split <;> rfl
 refine key l.toArray.size _ a w.drew ⟨by simp,fun i _=>hrep i,fun i o h=>(by rw [hrep i] at h;cases h),hfr.size,hfr.defers,hfr.at_,fun i o d k h=>(by rw [hrep i] at h;cases h),?_⟩ ?_
 ·rw [hrep q];exact hst.drew
 ·simpa using yk (fun i=>(Array.replicate l.toArray.size false).getD i false) l.length
/-! ### value by value -/
structure AS (P:Program) (E:Env) (Q:Pst) (l:List Oper) (G:List (Nat × Value)) (q:Nat) (Hd:Bool→List HP) (R:List Value) (os:List Oper):Prop where
 out:l.drop R.length=os→R.length≤l.length→(∀ (i:Nat) (o:Oper),l[i]?=some o→∀ e∈o.after.toList,Region.binds .any e=true→e.on < i)→∃ T:List Value,
  (Nat.ble (T++R).length l.length=true∧dL l (T++R).length=true∧Gi l q (T++R).length G=true∧q < (T++R).length) ∧
  (∀ (i:Nat) (o:Oper) (v:Value),R.length≤i→i≠q→l[i]?=some o→vd (T++R) i=some v→∀ (b:Bool) (Gx:List (Nat × Value)),RW P E l.toArray (Pst.then (fun a w=>∃ d,o.dst=some d∧Fr E.N E.ds a ((d,v)::(jR l (T++R) o.after.toList++G++Gx))∧St E.w0 E.S (Hd b) w) Q) [o] (jR l (T++R) o.after.toList++G++Gx) (Hd b)) ∧
  (R.length≤q→∀ (o:Oper),l[q]?=some o→∀ (Gx:List (Nat × Value)),RW P E l.toArray (Pst.then (fun a w=>Fr E.N E.ds a (jR l (T++R) o.after.toList++G++Gx)∧St E.w0 E.S (Hd true) w) Q) [o] (jR l (T++R) o.after.toList++G++Gx) (Hd false)) ∧
  RW P E l.toArray Q (l.drop (T++R).length) (Bm l (T++R)++G) (Hd true)
theorem qK {R:List Value} {o:Oper} {os:List Oper} (h:l.drop R.length=o::os):R.length < l.length∧l[R.length]?=some o∧l.drop (R.length + 1)=os:=by
 have hlt:R.length < l.length:=by
  rcases Nat.lt_or_ge R.length l.length with h1 | h1
  ·exact h1
  ·rw [List.drop_of_length_le h1] at h;cases h
 refine ⟨hlt,?_,?_⟩
 ·have:(l.drop R.length)[0]?=some o:=by rw [h];rfl
  simpa using this
 ·rw [← List.drop_drop,h];rfl
theorem xT {R T:List Value} {v u:Value} (h:vd (T++v::R) R.length=some u):u=v:=by
 have:=(qG h).2;rw [List.reverse_append,List.reverse_cons,List.append_assoc,List.getElem?_append_right (by simp)] at this;simp at this;exact this.symm
theorem DM {R:List Value} {os:List Oper} (hq:Nat.blt q R.length=true) (h2:dL l R.length=true) (h3:Gi l q R.length G=true) (tail:RW P E l.toArray Q os (Bm l R++G) (Hd true)):AS P E Q l G q Hd R os:=by
 rw [Nat.blt_eq] at hq;refine ⟨fun hos hle hb=>⟨[],⟨by rw [Nat.ble_eq];exact hle,h2,h3,hq⟩,fun i o v h1 _ _ hv=>?_,fun h=>by omega,by rw [List.nil_append,hos];exact tail⟩⟩;have:=(qG hv).1;rw [List.nil_append] at this;omega
theorem eI {R:List Value} {o:Oper} {os:List Oper} {d:Nat} {v:Value} (hd:o.dst=some d) (hq:Nat.beq R.length q=false)
 (hp:∀ (b:Bool) (Gx:List (Nat × Value)),RW P E l.toArray (Pst.then (fun a w=>∃ d,o.dst=some d∧Fr E.N E.ds a ((d,v)::(jR l R o.after.toList++G++Gx))∧St E.w0 E.S (Hd b) w) Q) [o] (jR l R o.after.toList++G++Gx) (Hd b))
 (h:AS P E Q l G q Hd (v::R) os):AS P E Q l G q Hd R (o::os):=by
 refine ⟨fun hos hle hb=>?_⟩;obtain ⟨hlt,ho,hos'⟩:=qK hos;obtain ⟨T,h1,h2,h3,h4⟩:=h.out hos' (by rw [List.length_cons];omega) hb;have hass:T++[v]++R=T++v::R:=by simp
 have hne:=Nat.ne_of_beq_eq_false hq;refine ⟨T++[v],by rw [hass];exact h1,fun i o' u hi hiq ho' hu=>?_,fun hi o' ho'=>?_,by rw [hass];exact h4⟩
 ·rw [hass] at hu ⊢
  rcases Nat.eq_or_lt_of_le hi with e | hlt'
  ·subst e
   rw [ho] at ho';cases ho'
   rw [xT hu]
   have hdep:jR l (T++v::R) o.after.toList=jR l R o.after.toList:=by
    rw [← hass,mE (fun e he hbe=>hb _ _ ho e he hbe)]
   rw [hdep];exact hp
  ·exact h2 i o' u (by rw [List.length_cons];omega) hiq ho' hu
 ·rw [hass]
  exact h3 (by rw [List.length_cons];omega) o' ho'
theorem Fg {R:List Value} {o:Oper} {os:List Oper} (hq:Nat.beq R.length q=true)
 (hp:∀ (Gx:List (Nat × Value)),RW P E l.toArray (Pst.then (fun a w=>Fr E.N E.ds a (jR l R o.after.toList++G++Gx)∧St E.w0 E.S (Hd true) w) Q) [o] (jR l R o.after.toList++G++Gx) (Hd false))
 (h:AS P E Q l G q Hd (undef::R) os):AS P E Q l G q Hd R (o::os):=by
 refine ⟨fun hos hle hb=>?_⟩;obtain ⟨hlt,ho,hos'⟩:=qK hos;obtain ⟨T,h1,h2,h3,h4⟩:=h.out hos' (by rw [List.length_cons];omega) hb;have hass:T++[undef]++R=T++undef::R:=by simp
 have he:=Nat.eq_of_beq_eq_true hq;refine ⟨T++[undef],by rw [hass];exact h1,fun i o' u hi hiq ho' hu=>?_,fun hi o' ho'=>?_,by rw [hass];exact h4⟩
 ·rw [hass] at hu ⊢
  exact h2 i o' u (by rw [List.length_cons];omega) hiq ho' hu
 ·rw [hass]
  rw [← he,ho] at ho';cases ho'
  have hdep:jR l (T++undef::R) o.after.toList=jR l R o.after.toList:=by
   rw [← hass,mE (fun e he hbe=>hb _ _ ho e he hbe)]
  rw [hdep];exact hp
theorem AT (q:Nat) (Hd:Bool→List HP) (hb:j5 l=true) (h:AS P E Q l G q Hd [] l):WA P E l Q G (Hd false):=by
 have hback:∀ (i:Nat) (o:Oper),l[i]?=some o→∀ e∈o.after.toList,Region.binds .any e=true→e.on < i:=by
  intro i o ho e he hbe;have hi:i < l.length:=(List.getElem?_eq_some_iff.1 ho).1;have:=(List.all_eq_true.1 hb) i (List.mem_range.2 hi);rw [ho] at this;have h9:=(List.all_eq_true.1 this) e he
  simpa [hbe] using h9
 obtain ⟨T,⟨h1,h2,h3,h4⟩,h5,h6,h7⟩:=h.out rfl (Nat.zero_le _) hback;rw [List.append_nil] at h1 h2 h3 h4 h5 h6 h7;exact Dq rfl h1 hb h2 h3 h4 (fun i o v hiq ho hv b Gx=>h5 i o v (Nat.zero_le _) hiq ho hv b Gx) (fun o ho Gx=>h6 (Nat.zero_le _) o ho Gx) h7
end
end
end Go.Proofs.YtbcdgcodnkgdoaaGreat
