/- Parts of the proof: fast's lay. · fast's run. · fast's counters alone, as plain functions: what telling does not touch. · Counting; lists read at numbers. · What fast's counters say: the strict part. · What fast's counters say: the pairs. · What fast's counters say: the part of +d and -d. · What fast's counters say: +d comes to a rule. · What fast's counters say: -d comes to a rule; D tags come to a foe. Conditions: none. -/
import Derived.Test.YtbcdgcodnkgdoaaGreatPr5
/- fast's lay. Conditions: none. -/
set_option linter.unusedVariables false
set_option linter.unusedSimpArgs false
set_option maxRecDepth 10000
namespace Go.Proofs.YtbcdgcodnkgdoaaGreat
open Go Go.RowKit
section
structure LOk (n m:Nat) (e:En):Prop where
 ok:aE n m 0 e
 pr:e.pairs=[]
theorem uB {e:En} {q k:Int}:(e.tell q k).pairs=e.pairs:=by unfold En.tell;split <;> rfl
theorem co {α:Type} {f:α→Nat→α} (p:Nat→α→Prop):∀ (k i:Nat) (x:α),(∀ j x,i≤j→j < i + k→p j x→p (j + 1) (f x j))→p i x→p (i + k) (dN f k i x)
 | 0,i,x,_,h=>h
 | k + 1,i,x,hs,h=>by
  have:=co p k (i + 1) (f x i) (fun j y h1 h2=>hs j y (by omega) (by omega)) (hs i x (Nat.le_refl _) (by omega) h);rw [show i + (k + 1)=i + 1 + k by omega];exact this
section
variable {n m:Nat} {t:ThV} {e:En} {q:Int} {i:Nat}
theorem lv (ht:TOk n m t) (h:LOk n m e):En.PSOk n m (64 * 4096) (En.pair1 t n m e):=by
 have h1:=co (f:=En.pairAs t) (fun i x=>En.PSOk n m (64 * i) x) m 0 ⟨List.replicate n [],List.replicate m [],e⟩ (fun j x _ hj hx=>p8 ht hx (by omega)) ⟨by simp,bE.new _ _ _,by rw [h.pr];exact h.ok,by rw [h.pr];exact Nat.zero_le _⟩;have:=ht.small.2;exact h1.mono (by omega)
theorem tn (ht:TOk n m t) (h:LOk n m e)
 (hl:∀ (r:Nat),r < m→cZ t r=true→∀ s∈ap (aN t) r,∃ p,i2 ((En.pair1 t n m e).d.getD (ai t r).2.1.toNat []) s=some p∧0≤p∧p < ((En.pair1 t n m e).e.pairs.length:Nat)):En.PTOk n m (En.pair1 t n m e).e.pairs.length (4096 * 4096) (En.pair2 t n m e):=by
 have h1:=co (f:=En.pairBs t (En.pair1 t n m e).d) (fun i x=>En.PTOk n m (En.pair1 t n m e).e.pairs.length (4096 * i) x) m 0 ⟨List.replicate m [],(En.pair1 t n m e).e⟩ (fun j x _ hj hx=>p7 ht hx (by omega) (hl j (by omega))) ⟨bE.new _ _ _,(lv ht h).e⟩;have:=ht.small.2;exact ⟨h1.bts.mono (Nat.le_refl _) (by omega),h1.e⟩
theorem LOk.tell {k:Int} (hn:n≤4096) (h:LOk n m e) (q0:0≤q) (q1:q < n) (k0:1≤k) (k1:k≤4):LOk n m (e.tell q k):=⟨h.ok.tell hn q0 q1 k0 k1,by rw [uB];exact h.pr⟩
theorem zM (n:Nat):gn (List.replicate n 0)=0:=by
 induction n with
 | zero=>rfl
 | succ n ih=>
  have h0:mW 0=0:=by decide +kernel
  rw [List.replicate_succ];unfold gn;rw [ih,h0]
theorem LOk.new (n m:Nat):LOk n m (En.lay0 n m):=by
 refine ⟨⟨by simp [En.lay0],by simp [En.lay0],by simp [En.lay0],by simp [En.lay0],by simp [En.lay0],by simp [En.lay0],by simp [En.lay0],by simp [En.lay0],by simp [En.lay0],by simp [En.lay0],by simp [En.lay0],by simp [En.lay0],rfl,fun x hx=>?_,fun p hp=>(by cases hp),fun p hp=>(by cases hp),?_,rfl⟩,rfl⟩
 ·obtain rfl:=(List.mem_replicate.1 hx).2;omega
 ·show 0=gn (List.replicate n 0)
  rw [zM]
theorem LOk.lay1B (h:LOk n m e):LOk n m (En.lay1B t e i):=⟨(h.ok.needD1 _ _).need1 _ _,h.pr⟩
theorem LOk.lay1S (h:LOk n m e):LOk n m (En.lay1S t e i):=by unfold En.lay1S;split <;> first | exact ⟨h.ok.strict1 _ _,h.pr⟩ | exact h
theorem LOk.lay1K (h:LOk n m e):LOk n m (En.lay1K t e i):=by unfold En.lay1K;split <;> first | exact ⟨h.ok.backs1 _ _,h.pr⟩ | exact h
theorem LOk.lay1 (h:LOk n m e):LOk n m (En.lay1 t e i):=(h.lay1B.lay1S).lay1K
theorem LOk.lay3 (ht:TOk n m t) (h:LOk n m e) (hi:i < m):LOk n m (En.lay3 t e i):=by
 have hd:=(ht.rule (r:=(i:Int)) (by omega) (by omega)).1;unfold En.lay3;split
 ·exact h.tell ht.small.1 hd.1 hd.2 (by omega) (by omega)
 ·exact h
theorem LOk.lay4 {fact:List Bool} (hn:n≤4096) (h:LOk n m e) (hi:i < n):LOk n m (En.lay4 fact e i):=by
 unfold En.lay4;split
 ·exact ⟨h.ok.strict1 _ _,h.pr⟩
 ·split
  ·exact h.tell hn (by omega) (by omega) (by omega) (by omega)
  ·exact h
theorem LOk.lay5f {f:Int} (h:LOk n m e):LOk n m (En.lay5f i e f):=by
 unfold En.lay5f;dsimp only;split
 ·exact ⟨h.ok.clash1 _ _,h.pr⟩
 ·exact ⟨aE.clash1 (h.ok.opn1 _ _) _ _,h.pr⟩
theorem LOk.fold {α:Type} {f:En→α→En} (hf:∀ e a,LOk n m e→LOk n m (f e a)):∀ {l:List α} {e:En},LOk n m e→LOk n m (l.foldl f e)
 | [],e,h=>h
 | a::l,e,h=>LOk.fold hf (l:=l) (hf e a h)
theorem LOk.lay5 (h:LOk n m e):LOk n m (En.lay5 t e i):=LOk.fold (fun e f h=>h.lay5f) h
theorem pX {N K:Nat} {r:Nat} (hr:r < N):∀ {l:List Int} {L:List (List Int)},(∀ b∈l,0≤b∧b < n)→bE n N K L→bE n N (K + l.length) (l.foldl (fun l b=>bV l b r) L)
 | [],L,_,h=>h
 | b::l,L,hl,h=>by
  have h1:=hl b (List.mem_cons_self ..);have:=pX (K:=K + 1) hr (l:=l) (fun q hq=>hl q (List.mem_cons_of_mem _ hq)) (h.push (Nat.le_refl _) h1.1 h1.2 (x:=(r:Int)) (by omega) (by omega));rw [List.foldl_cons,List.length_cons,show K + (l.length + 1)=K + 1 + l.length by omega];exact this
theorem tJ {L:List (List Int)} (ht:TOk n m t) (hi:i < m) (h:bE n m (16 * i) L):bE n m (16 * (i + 1)) (En.lay1I t L i):=by
 have hd:=(ht.rule (r:=(i:Int)) (by omega) (by omega)).2;exact (pX hi hd.2 h).mono (Nat.le_refl _) (by omega)
theorem aE.lay6p {np:Nat} {p:Int} (h:aE n m np e) (p0:0≤p) (p1:p < np):aE n m np (En.lay6p e p):=by
 unfold En.lay6p;split
 ·exact h
 ·exact (h.settle1 p0 p1).attacks1 _ _
theorem aE.lay6q {np:Nat} {p:Int} (h:aE n m np e):aE n m np (En.lay6q e p):=by
 unfold En.lay6q;split
 ·exact h.standing1 _ _
 ·exact h
theorem aE.lay6 {np:Nat} {of bts:List (List Int)} {K:Nat} (ho:bE m np K of) (hb:bE m np K bts) (h:aE n m np e) (hi:i < m):aE n m np (En.lay6 t of bts e i):=by
 unfold En.lay6;split
 ·exact h
 ·refine aE.fold (N:=np) (fun e u h u0 u1=>h.lay6q) (ho.at_ (b:=(i:Int)) (by omega) (by omega)).2 ?_
  split
  ·exact aE.fold (N:=np) (fun e u h u0 u1=>h.lay6p u0 u1) (hb.at_ (b:=(i:Int)) (by omega) (by omega)).2 (h.backed1 _ _)
  ·exact h
end
theorem ES.first {n m:Nat} {e:En} {be:Nat} {a:EAd} {z:ECs} {sv:Value} {X:List HP} {E:Env} {ops:Array Oper} {Q:Pst} {rest:List Oper} {G:List (Nat × Value)} {x y:Operand} {ty:TypeId} {pos:String} {af:Array Edge} {u:Int} (hx:ev G x=some (.pointer (some ⟨be,6,none⟩))) (hy:ev G y=some (.int .i64 u)) (k:RW Tryz.prog E ops Q rest G (enH be a { z with first:=u } n m sv e++X)):
 RW Tryz.prog E ops Q (⟨none,.store 3 x y,ty,pos,af,none⟩::rest) G (enH be a z n m sv e++X):=
 bQ [] rfl hx hy rfl rfl (Nat.lt_of_sub_eq_succ rfl) k
abbrev zL (t:ThV) (x:TC) (inn of bts:List (List Int)) (first:Int) (ib ob bb n m:Nat) (pA:Option Addr) (pc np:Nat):ECs:=⟨⟨t,inn,of,bts⟩,x,first,some ⟨ib,0,none⟩,some ⟨ob,0,none⟩,some ⟨bb,0,none⟩,pA,n,m,m,pc,np⟩
abbrev bh (b n:Nat) (L:List (List Int)):HP:=de 26 3 (slV b n) L
theorem xy {be b2 ib ob bb n m:Nat} {a:EAd} {t:ThV} {x:TC} {w:World} {A:Nat→Prop} (h:Sep (blk be (enC a (zL t x [] [] [] 0 ib ob bb n m none 0 0) n m (.slice none 0 0) 0 0) 73::blk b2 (x.th t) 25 ::
 ax 26 1 (slV bb m) (List.replicate m [.slice none 0 0])::ax 26 1 (slV ob m) (List.replicate m [.slice none 0 0])::ax 4 1 (slV a.sd n) (List.replicate n [.bool false])::ax 3 1 (slV a.at_ n) (List.replicate n [.int .i64 0]) ::
 ax 4 1 (slV a.cl n) (List.replicate n [.bool false])::ax 3 1 (slV a.op n) (List.replicate n [.int .i64 0])::ax 4 1 (slV a.bd n) (List.replicate n [.bool false])::ax 3 1 (slV a.bk n) (List.replicate n [.int .i64 0])::ax 3 1 (slV a.st n) (List.replicate n [.int .i64 0]) ::
 ax 4 1 (slV a.dx m) (List.replicate m [.bool false])::ax 4 1 (slV a.dd m) (List.replicate m [.bool false])::ax 3 1 (slV a.nn m) (List.replicate m [.int .i64 0])::ax 3 1 (slV a.nd m) (List.replicate m [.int .i64 0]) ::
 ax 26 1 (slV ib n) (List.replicate n [.slice none 0 0])::ax 45 1 (slV a.m n) (List.replicate n [.int .u8 0])::[]) w A):
 Sep (enH be a (zL t x [] [] [] 0 ib ob bb n m none 0 0) n m (.slice none 0 0) (En.lay0 n m)++[blk b2 (x.th t) 25,bh ib n (List.replicate n []),bh ob m (List.replicate m []),bh bb m (List.replicate m [])]) w A:=by
 have e1:∀ k,List.replicate k [Value.int .i64 0]=(List.replicate k (0:Int)).map bY:=fun k=>by rw [List.map_replicate]
 have e2:∀ k,List.replicate k [Value.bool false]=(List.replicate k false).map bu:=fun k=>by rw [List.map_replicate]
 have e3:∀ k,List.replicate k [Value.int .u8 0]=(List.replicate k (0:Int)).map gD:=fun k=>by rw [List.map_replicate]
 rw [e1,e1,e2,e2,e3] at h;have h1:=lr (e2:=3) (Sep.take [2,0,1,3,4,5,6,7,8,9,10,11,12,13,14,15,16] h);have h2:=lr (e2:=3) (Sep.take [3,0,1,2,4,5,6,7,8,9,10,11,12,13,14,15,16] h1);have h3:=lr (e2:=3) (Sep.take [15,0,1,2,3,4,5,6,7,8,9,10,11,12,13,14,16] h2);have h4:=pn (c:=ax 111 2 (.slice none 0 0) []) (.inl ⟨rfl,rfl⟩) h3;have h5:=pn (c:=ax 148 4 (.slice none 0 0) []) (.inl ⟨rfl,rfl⟩) h4;exact Sep.take [5,18,1,17,16,15,14,13,12,11,10,9,8,7,0,6,2,3,4] h5
structure LQ where
 be:Nat
 a:EAd
 (ib ob bb:Nat)
 pA:Option Addr
 pc:Nat
 sv:Value
attribute [local irreducible] RW CW
section
variable {n m:Nat} {t:ThV} {x:TC} {fA:Option Addr} {fc:Nat} {facts:List Int}
abbrev Fm (t:ThV) (x:TC) (n m:Nat) (facts:List Int) (q:LQ):List HP:=
 enH q.be q.a (zL t x (En.layS t n m facts).inn (En.layS t n m facts).of (En.layS t n m facts).beats (En.layD t n m facts).told.length q.ib q.ob q.bb n m q.pA q.pc (En.layD t n m facts).pairs.length) n m q.sv (En.layD t n m facts)++[bh q.ib n (En.layS t n m facts).inn,bh q.ob m (En.layS t n m facts).of,bh q.bb m (En.layS t n m facts).beats]
set_option maxHeartbeats 128000000 in
theorem CV (ht:TOk n m t) (hfr:∀ q∈facts,0≤q∧q < n)
 (hlook:∀ (r:Nat),r < m→cZ t r=true→∀ s∈ap (aN t) r,∃ p,i2 ((En.pair1 t n m (En.layE t n m facts)).d.getD (ai t r).2.1.toNat []) s=some p∧0≤p∧p < ((En.pair1 t n m (En.layE t n m facts)).e.pairs.length:Nat))
 (w:World) (hT:gp (mem w (fun b=>¬ No b)) t x) (hF:Rd cO (mem w (fun b=>¬ No b)) [.slice fA facts.length fc] facts):
 iT Tryz.prog 47 [.agg (x.th t).toArray,.slice fA facts.length fc] w No (fun q:LQ=>aK q.be) (Fm t x n m facts):=by
 have hle:=hq0 w;have hr:=ht.rules;obtain ⟨hn,hm⟩:=ht.small;refine Calls.enter Tryz.func47 rfl _ rfl rfl (S:=No) (H:=[]) trivial ?_;refine bZ ?_;refine aS rfl rfl fun b2 _=>?_;refine Jd (Jb ?_);refine bR (by kernel_rfl) rfl ?_;refine Xe ?_;refine Aw (fun _ _=>JA Dn) ?_;refine Xe ?_;refine Aw (fun _ _=>JA Dn) ?_;refine Aw (fun _ _=>Jg Dn) ?_;refine Aw (fun _ _=>Jd Dn) ?_;refine Aw (fun _ _=>Jd Dn) ?_;refine Aq fun bs0=>?_;refine aq (ah ?_);rw [ht.lits,hr];refine dt [(1,.slice fA facts.length fc),(2,aK b2),(5,.int .i64 n),(6,.int .i64 m)] ⟨rfl,rfl,rfl,rfl,trivial⟩ ?_;refine bR (by kernel_rfl) rfl ?_;refine Aw (fun _ _=>JE Dn) ?_;refine Xc ?_
 (apply eD (fun b=>slV b n) (fun b=>ax 45 1 (slV b n) (List.replicate n [.int .u8 0])) rfl;· intro Gx X;refine bF (n:=n) (zc:=[.int .u8 0]) rfl rfl rfl rfl rfl (by unfold dK;omega) (by omega) rfl fun b=>?_;exact aU rfl)
 refine Xc ?_
 (apply eD (fun b=>slV b n) (fun b=>ax 26 1 (slV b n) (List.replicate n [.slice none 0 0])) rfl;· intro Gx X;refine bF (n:=n) (zc:=[.slice none 0 0]) rfl rfl rfl rfl rfl (by unfold dK;omega) (by omega) rfl fun b=>?_;exact aU rfl)
 refine Xc ?_
 (apply eD (fun b=>slV b m) (fun b=>ax 3 1 (slV b m) (List.replicate m [.int .i64 0])) rfl;· intro Gx X;refine bF (n:=m) (zc:=[.int .i64 0]) rfl rfl rfl rfl rfl (by unfold dK;omega) (by omega) rfl fun b=>?_;exact aU rfl)
 refine Xc ?_
 (apply eD (fun b=>slV b m) (fun b=>ax 3 1 (slV b m) (List.replicate m [.int .i64 0])) rfl;· intro Gx X;refine bF (n:=m) (zc:=[.int .i64 0]) rfl rfl rfl rfl rfl (by unfold dK;omega) (by omega) rfl fun b=>?_;exact aU rfl)
 refine Xc ?_
 (apply eD (fun b=>slV b m) (fun b=>ax 4 1 (slV b m) (List.replicate m [.bool false])) rfl;· intro Gx X;refine bF (n:=m) (zc:=[.bool false]) rfl rfl rfl rfl rfl (by unfold dK;omega) (by omega) rfl fun b=>?_;exact aU rfl)
 refine Xc ?_
 (apply eD (fun b=>slV b m) (fun b=>ax 4 1 (slV b m) (List.replicate m [.bool false])) rfl;· intro Gx X;refine bF (n:=m) (zc:=[.bool false]) rfl rfl rfl rfl rfl (by unfold dK;omega) (by omega) rfl fun b=>?_;exact aU rfl)
 refine Xc ?_
 (apply eD (fun b=>slV b n) (fun b=>ax 3 1 (slV b n) (List.replicate n [.int .i64 0])) rfl;· intro Gx X;refine bF (n:=n) (zc:=[.int .i64 0]) rfl rfl rfl rfl rfl (by unfold dK;omega) (by omega) rfl fun b=>?_;exact aU rfl)
 refine Xc ?_
 (apply eD (fun b=>slV b n) (fun b=>ax 3 1 (slV b n) (List.replicate n [.int .i64 0])) rfl;· intro Gx X;refine bF (n:=n) (zc:=[.int .i64 0]) rfl rfl rfl rfl rfl (by unfold dK;omega) (by omega) rfl fun b=>?_;exact aU rfl)
 refine Xc ?_
 (apply eD (fun b=>slV b n) (fun b=>ax 4 1 (slV b n) (List.replicate n [.bool false])) rfl;· intro Gx X;refine bF (n:=n) (zc:=[.bool false]) rfl rfl rfl rfl rfl (by unfold dK;omega) (by omega) rfl fun b=>?_;exact aU rfl)
 refine Xc ?_
 (apply eD (fun b=>slV b n) (fun b=>ax 3 1 (slV b n) (List.replicate n [.int .i64 0])) rfl;· intro Gx X;refine bF (n:=n) (zc:=[.int .i64 0]) rfl rfl rfl rfl rfl (by unfold dK;omega) (by omega) rfl fun b=>?_;exact aU rfl)
 refine Xc ?_
 (apply eD (fun b=>slV b n) (fun b=>ax 4 1 (slV b n) (List.replicate n [.bool false])) rfl;· intro Gx X;refine bF (n:=n) (zc:=[.bool false]) rfl rfl rfl rfl rfl (by unfold dK;omega) (by omega) rfl fun b=>?_;exact aU rfl)
 refine Xc ?_
 (apply eD (fun b=>slV b n) (fun b=>ax 3 1 (slV b n) (List.replicate n [.int .i64 0])) rfl;· intro Gx X;refine bF (n:=n) (zc:=[.int .i64 0]) rfl rfl rfl rfl rfl (by unfold dK;omega) (by omega) rfl fun b=>?_;exact aU rfl)
 refine Xc ?_
 (apply eD (fun b=>slV b n) (fun b=>ax 4 1 (slV b n) (List.replicate n [.bool false])) rfl;· intro Gx X;refine bF (n:=n) (zc:=[.bool false]) rfl rfl rfl rfl rfl (by unfold dK;omega) (by omega) rfl fun b=>?_;exact aU rfl)
 refine Xc ?_
 (apply eD (fun b=>slV b m) (fun b=>ax 26 1 (slV b m) (List.replicate m [.slice none 0 0])) rfl;· intro Gx X;refine bF (n:=m) (zc:=[.slice none 0 0]) rfl rfl rfl rfl rfl (by unfold dK;omega) (by omega) rfl fun b=>?_;exact aU rfl)
 refine Xc ?_
 (apply eD (fun b=>slV b m) (fun b=>ax 26 1 (slV b m) (List.replicate m [.slice none 0 0])) rfl;· intro Gx X;refine bF (n:=m) (zc:=[.slice none 0 0]) rfl rfl rfl rfl rfl (by unfold dK;omega) (by omega) rfl fun b=>?_;exact aU rfl)
 skip
 refine Aq fun bs=>?_;refine eQ (v:=.agg (enC (⟨bs 34,bs 38,bs 40,bs 42,bs 44,bs 46,bs 48,bs 50,bs 52,bs 54,bs 56,bs 58⟩:EAd) (zL t x [] [] [] 0 (bs 36) (bs 60) (bs 62) n m none 0 0) n m (.slice none 0 0) 0 0).toArray) rfl (fun w=>by kernel_rfl) rfl ?_;refine aS rfl rfl fun be _=>?_;refine Jd (Jb ?_);refine cI _ (fun w A h=>xy (a:=(⟨bs 34,bs 38,bs 40,bs 42,bs 44,bs 46,bs 48,bs 50,bs 52,bs 54,bs 56,bs 58⟩:EAd)) h) ?_;refine dt [(1,.slice fA facts.length fc),(2,aK b2),(5,.int .i64 n),(6,.int .i64 m),(7,aK be)] ⟨rfl,rfl,rfl,rfl,rfl,trivial⟩ ?_;generalize (⟨bs 34,bs 38,bs 40,bs 42,bs 44,bs 46,bs 48,bs 50,bs 52,bs 54,bs 56,bs 58⟩:EAd)=a at *;generalize bs 36=ib at *;generalize bs 60=ob at *;generalize bs 62=bb at *;obtain ⟨inn,hinn⟩:∃ inn,inn=dN (En.lay1I t) m 0 (List.replicate n []):=⟨_,rfl⟩;obtain ⟨e1,he1⟩:∃ e1,e1=dN (En.lay1 t) m 0 (En.lay0 n m):=⟨_,rfl⟩;obtain ⟨fct,hfct⟩:∃ fct,fct=facts.foldl En.lay2F (List.replicate n false):=⟨_,rfl⟩;obtain ⟨e2,he2⟩:∃ e2,e2=facts.foldl En.lay2 e1:=⟨_,rfl⟩;obtain ⟨e3,he3⟩:∃ e3,e3=dN (En.lay3 t) m 0 e2:=⟨_,rfl⟩;obtain ⟨e4,he4⟩:∃ e4,e4=dN (En.lay4 fct) n 0 e3:=⟨_,rfl⟩;obtain ⟨e5,he5⟩:∃ e5,e5=dN (En.lay5 t) n 0 e4:=⟨_,rfl⟩;have hE:En.layE t n m facts=e5:=by subst hfct he1 he2 he3 he4 he5;rfl
 have hI:En.layIn t n m=inn:=by subst hinn;rfl
 refine bf (ι:={ _u:Unit // LOk n m e1∧bE n m (16 * 4096) inn }) (fun _=>[(1,.slice fA facts.length fc),(2,aK b2),(5,.int .i64 n),(6,.int .i64 m),(7,aK be)]) (fun _=>enH be a (zL t x [] [] [] 0 ib ob bb n m none 0 0) n m (.slice none 0 0) e1++[blk b2 (x.th t) 25,bh ib n inn,bh ob m (List.replicate m []),bh bb m (List.replicate m [])]) ?_ (fun ⟨_,hk1,hro⟩=>?_)
 ·refine Ja (Je ?_)
  refine El ?_;refine Jg (Jc (Jb ?_));refine ak ?_
  refine aI (ι:={ q:Nat × En × List (List Int) // q.1≤m∧LOk n m q.2.1∧bE n m (16 * q.1) q.2.2∧e1=dN (En.lay1 t) (m - q.1) q.1 q.2.1∧inn=dN (En.lay1I t) (m - q.1) q.1 q.2.2 })
   (fun q=>[(66,.slice x.A2 (ao t).length x.c2),(67,.int .i64 (ao t).length),(68,.int .i64 q.1.1),(1,.slice fA facts.length fc),(2,aK b2),(5,.int .i64 n),(6,.int .i64 m),(7,aK be)]) (fun q=>enH be a (zL t x [] [] [] 0 ib ob bb n m none 0 0) n m (.slice none 0 0) q.1.2.1++[blk b2 (x.th t) 25,bh ib n q.1.2.2,bh ob m (List.replicate m []),bh bb m (List.replicate m [])]) (fun q=>m - q.1.1) ⟨(0,En.lay0 n m,List.replicate n []),Nat.zero_le _,LOk.new n m,bE.new _ _ _,he1,hinn⟩ ⟨rfl,rfl,rfl,rfl,rfl,rfl,rfl,rfl,trivial⟩ (fun h=>h) ?_
  intro ⟨⟨i,e,il⟩,hi,hk,hil,hS,hSi⟩;dsimp only at hi hk hil hS hSi ⊢;refine Ja (Jk (Jb ?_));refine ar ?_;refine ay rfl (fun hlt=>?_) (fun hge=>?_);rotate_left
  ·have hW:e1=e:=by rw [hS,show m - i=0 by omega];rfl
   have hWi:inn=il:=by rw [hSi,show m - i=0 by omega];rfl
   rw [hW,hWi];refine aG rfl ?_;exact aC ⟨(),hk,hil.mono (Nat.le_refl _) (by omega)⟩ ⟨rfl,rfl,rfl,rfl,rfl,trivial⟩ (fun h=>h)
  have hi':i < m:=by omega
  obtain ⟨B5,O5,A5,c5,hA5,hm5,hl5,_⟩:=bz hT (i:=(i:Int)) (by omega) (by omega);obtain ⟨⟨hd0,hd1⟩,hb16,hbr⟩:=ht.rule (r:=(i:Int)) (by omega) (by omega);rw [show m - i=(m - (i + 1)) + 1 by omega,dN] at hS hSi;have hk':LOk n m (En.lay1 t e i):=hk.lay1;have hil':bE n m (16 * (i + 1)) (En.lay1I t il i):=tJ ht hi' hil;refine al (ah ?_);refine bf (ι:=Unit) (fun _=>[(66,.slice x.A2 (ao t).length x.c2),(67,.int .i64 (ao t).length),(68,.int .i64 i),(1,.slice fA facts.length fc),(2,aK b2),(5,.int .i64 n),(6,.int .i64 m),(7,aK be)]) (fun _=>enH be a (zL t x [] [] [] 0 ib ob bb n m none 0 0) n m (.slice none 0 0) (En.lay1 t e i)++[blk b2 (x.th t) 25,bh ib n (En.lay1I t il i),bh ob m (List.replicate m []),bh bb m (List.replicate m [])]) ?_ (fun _=>?_)
  ·refine ak ?_
   refine Ja (Jc ?_);refine aa hA5 rfl rfl (by omega) hlt rfl ?_;refine dF (cs:=bJ (ai t i) A5 c5) rfl hle hm5 rfl rfl (by simp) rfl ?_;refine cH (c:=[.int .i64 0,.int .i64 0,.slice none 0 0]) rfl rfl fun b9 _=>?_;refine Jd ?_;refine aX [] (vs:=bJ (ai t i) A5 c5) rfl rfl rfl rfl rfl (by simp [Value.oneCell']) ?_;refine aq (ah ?_);refine cI (enH be a (zL t x [] [] [] 0 ib ob bb n m none 0 0) n m (.slice none 0 0) e++[blk b9 (bJ (ai t i) A5 c5) 51,blk b2 (x.th t) 25,bh ib n il,bh ob m (List.replicate m []),bh bb m (List.replicate m [])]) (fun w A h=>?_) ?_
   ·exact Sep.take [1,2,3,4,5,6,7,8,9,10,11,12,13,14,15,0,16,17,18,19] h
   refine dt [(8,.int .i64 i),(9,aK b9),(66,.slice x.A2 (ao t).length x.c2),(67,.int .i64 (ao t).length),(68,.int .i64 i),(1,.slice fA facts.length fc),(2,aK b2),(5,.int .i64 n),(6,.int .i64 m),(7,aK be)] ⟨rfl,rfl,rfl,rfl,rfl,rfl,rfl,rfl,rfl,rfl,trivial⟩ ?_;refine kU 9 (by kernel_rfl) rfl rfl rfl rfl rfl (by kernel_rfl) (by kernel_rfl) (by kernel_rfl) rfl ?_;refine AT 17 (fun bo=>enH be a (zL t x [] [] [] 0 ib ob bb n m none 0 0) n m (.slice none 0 0) (cond bo { e with needD:=e.needD.set i ((ai t i).2.2.length:Nat) } e)++[blk b9 (bJ (ai t i) A5 c5) 51,blk b2 (x.th t) 25,bh ib n il,bh ob m (List.replicate m []),bh bb m (List.replicate m [])]) (by kernel_rfl) ?_;refine eI rfl rfl (fun _ _=>by refine Jc ?_;exact cD rfl) ?_;refine eI rfl rfl (fun _ _=>by refine Jf ?_;exact cD rfl) ?_;refine eI rfl rfl (fun _ _=>by refine Je ?_;exact cD rfl) ?_;refine eI rfl rfl (fun _ _=>by refine Eh ?_;exact cD rfl) ?_;refine eI rfl rfl (fun _ _=>by refine Jc ?_;exact cD rfl) ?_;refine eI rfl rfl (fun _ _=>by refine Jc ?_;exact cD rfl) ?_;refine eI rfl rfl (fun _ _=>by refine Jf ?_;exact cD rfl) ?_;refine eI rfl rfl (fun _ _=>by refine Je ?_;exact cD rfl) ?_;refine eI rfl rfl (fun _ _=>by refine Eh ?_;exact cD rfl) ?_;refine eI rfl rfl (fun _ _=>by refine Jc ?_;exact cD rfl) ?_;refine eI rfl rfl (fun _ _=>by refine Je ?_;exact cD rfl) ?_
   (apply eI rfl rfl;· intro bb Gx;(first | refine aJ rfl ?_ | skip);refine El ?_;exact cD rfl)
   refine eI rfl rfl (fun _ _=>by refine Jg ?_;exact cD rfl) ?_;refine eI rfl rfl (fun _ _=>by refine Je ?_;exact cD rfl) ?_
   (apply eI rfl rfl;· intro bb Gx;(first | refine aJ rfl ?_ | skip);refine El ?_;exact cD rfl)
   refine eI rfl rfl (fun _ _=>by refine Jg ?_;exact cD rfl) ?_
   (apply eI rfl rfl;· intro bb Gx;(first | refine aJ rfl ?_ | skip);refine av rfl rfl (by omega) (by omega) rfl ?_;exact cD rfl)
   (apply Fg rfl;· intro Gx;refine ES.needD hk.ok rfl rfl (q:=(i:Int)) (by omega) (by omega) ?_;exact sP)
   (apply eI rfl rfl;· intro bb Gx;(first | refine aJ rfl ?_ | skip);refine av rfl rfl (by omega) (by omega) rfl ?_;exact cD rfl)
   refine DM rfl (by kernel_rfl) (by kernel_rfl) ?_;refine ES.need (hk.ok.needD1 _ _) rfl rfl (q:=(i:Int)) (by omega) (by omega) ?_;refine aq (ah ?_);have hkB:LOk n m (En.lay1B t e i):=hk.lay1B;refine cI (enH be a (zL t x [] [] [] 0 ib ob bb n m none 0 0) n m (.slice none 0 0) (En.lay1B t e i)++[blk b9 (bJ (ai t i) A5 c5) 51,blk b2 (x.th t) 25,bh ib n il,bh ob m (List.replicate m []),bh bb m (List.replicate m [])]) (fun w A h=>h) ?_;refine dt [(8,.int .i64 i),(9,aK b9),(66,.slice x.A2 (ao t).length x.c2),(67,.int .i64 (ao t).length),(68,.int .i64 i),(1,.slice fA facts.length fc),(2,aK b2),(5,.int .i64 n),(6,.int .i64 m),(7,aK be)] ⟨rfl,rfl,rfl,rfl,rfl,rfl,rfl,rfl,rfl,rfl,trivial⟩ ?_;refine bf (ι:=Unit) (fun _=>[(8,.int .i64 i),(9,aK b9),(66,.slice x.A2 (ao t).length x.c2),(67,.int .i64 (ao t).length),(68,.int .i64 i),(1,.slice fA facts.length fc),(2,aK b2),(5,.int .i64 n),(6,.int .i64 m),(7,aK be)]) (fun _=>enH be a (zL t x [] [] [] 0 ib ob bb n m none 0 0) n m (.slice none 0 0) (En.lay1B t e i)++[blk b9 (bJ (ai t i) A5 c5) 51,blk b2 (x.th t) 25,bh ib n (En.lay1I t il i),bh ob m (List.replicate m []),bh bb m (List.replicate m [])]) ?_ (fun _=>?_)
   ·refine Ja (Je ?_)
    refine El ?_;refine Jg (Jc (Jb ?_));have hIn:En.lay1I t il i=(ai t i).2.2.foldl (fun l b=>bV l b i) il:=rfl;rw [hIn];clear hIn hil' hSi;obtain ⟨L,hL⟩:∃ L,L=(ai t i).2.2:=⟨_,rfl⟩;rw [← hL] at hl5 hb16 hbr ⊢;refine dt [(92,.slice A5 L.length c5),(93,.int .i64 L.length),(94,.int .i64 0),(8,.int .i64 i),(9,aK b9),(66,.slice x.A2 (ao t).length x.c2),(67,.int .i64 (ao t).length),(68,.int .i64 i),(1,.slice fA facts.length fc),(2,aK b2),(5,.int .i64 n),(6,.int .i64 m),(7,aK be)] ⟨by rw [hL];rfl,by rw [hL];rfl,rfl,rfl,rfl,rfl,rfl,rfl,rfl,rfl,rfl,rfl,rfl,trivial⟩ ?_;refine ak ?_
    refine aI (ι:={ q:Nat × List (List Int) // q.1≤L.length∧bE n m (16 * i + q.1) q.2∧L.foldl (fun l b=>bV l b i) il=(L.drop q.1).foldl (fun l b=>bV l b i) q.2 })
     (fun q=>[(92,.slice A5 L.length c5),(93,.int .i64 L.length),(94,.int .i64 q.1.1),(8,.int .i64 i),(9,aK b9),(66,.slice x.A2 (ao t).length x.c2),(67,.int .i64 (ao t).length),(68,.int .i64 i),(1,.slice fA facts.length fc),(2,aK b2),(5,.int .i64 n),(6,.int .i64 m),(7,aK be)]) (fun q=>enH be a (zL t x [] [] [] 0 ib ob bb n m none 0 0) n m (.slice none 0 0) (En.lay1B t e i)++[blk b9 (bJ (ai t i) A5 c5) 51,blk b2 (x.th t) 25,bh ib n q.1.2,bh ob m (List.replicate m []),bh bb m (List.replicate m [])]) (fun q=>L.length - q.1.1) ⟨(0,il),Nat.zero_le _,hil,rfl⟩ ⟨rfl,rfl,rfl,rfl,rfl,rfl,rfl,rfl,rfl,rfl,rfl,rfl,rfl,trivial⟩ (fun h=>h) ?_
    intro ⟨⟨j,y⟩,hj,hy,hS3⟩;dsimp only at hj hy hS3 ⊢;refine Ja (Jk (Jb ?_));refine ar ?_;refine ay rfl (fun hlt3=>?_) (fun hge3=>?_);rotate_left
    ·rw [List.drop_eq_nil_of_le (by omega),List.foldl_nil] at hS3
     rw [hS3];refine aG rfl ?_;exact aC () ⟨rfl,rfl,rfl,rfl,rfl,rfl,rfl,rfl,rfl,rfl,trivial⟩ (fun h=>h)
    have hlt4:j < L.length:=by omega
    rw [fq hlt4] at hS3;obtain ⟨B4,O4,hA4,hm4,_⟩:=aR hl5 (List.getElem?_eq_getElem hlt4);obtain ⟨u0,u1⟩:=hbr _ (List.getElem_mem hlt4);generalize L[j]=u at *;have hy':bE n m (16 * i + j + 1) (bV y u i):=hy.push (Nat.le_refl _) u0 u1 (by omega) (by omega);refine al (ah ?_);refine bf (ι:=Unit) (fun _=>[(92,.slice A5 L.length c5),(93,.int .i64 L.length),(94,.int .i64 j),(8,.int .i64 i),(9,aK b9),(66,.slice x.A2 (ao t).length x.c2),(67,.int .i64 (ao t).length),(68,.int .i64 i),(1,.slice fA facts.length fc),(2,aK b2),(5,.int .i64 n),(6,.int .i64 m),(7,aK be)]) (fun _=>enH be a (zL t x [] [] [] 0 ib ob bb n m none 0 0) n m (.slice none 0 0) (En.lay1B t e i)++[blk b9 (bJ (ai t i) A5 c5) 51,blk b2 (x.th t) 25,bh ib n (bV y u i),bh ob m (List.replicate m []),bh bb m (List.replicate m [])]) ?_ (fun _=>?_)
    ·refine ak ?_
     refine Ja ?_;refine aa hA4 rfl rfl (by omega) hlt3 rfl ?_;refine ac rfl hle (aT hm4) rfl rfl ?_;refine Jd (Jb ?_);have hl:y[u.toNat]?=some (ap y u):=getD_some (d:=[]) hy.len u0 u1;have hbi:u.toNat < y.length:=by rw [hy.len];omega
     have hrl:=(hy.at_ u0 u1).1;refine iW (ι:=List (List Value) × Value) (fun q=>q.1[u.toNat]?=some [q.2]∧q.1.length=(y).length) (fun q=>ax 3 1 q.2 ((ap y u).map bY)::(enH be a (zL t x [] [] [] 0 ib ob bb n m none 0 0) n m (.slice none 0 0) (En.lay1B t e i)++[blk b9 (bJ (ai t i) A5 c5) 51,blk b2 (x.th t) 25,ax 26 1 (slV ib n) q.1,cT (some (u.toNat)) 3 q.1 (y),bh ob m (List.replicate m []),bh bb m (List.replicate m [])])) (fun w A h=>?_) (fun ⟨es,uv⟩ ⟨hq1,hq2⟩=>?_)
     ·obtain ⟨q,hq,h2⟩:=fp hl (Sep.take [17,0,1,2,3,4,5,6,7,8,9,10,11,12,13,14,15,16,18,19] h)
      exact ⟨q,hq,Sep.take [1,3,4,5,6,7,8,9,10,11,12,13,14,15,16,17,18,19,0,2,20,21] h2⟩
     dsimp only at hq1 hq2;refine y8 14 13 _ (by kernel_rfl) (by kernel_rfl) ?_;refine Bw (fun _ _=>Jc Dn) ?_;refine Bw (fun _ _=>Jf Dn) ?_;refine Bw (fun _ _=>Je Dn) ?_;refine Bw (fun _ _=>JA Dn) ?_;refine Bw (fun _ _=>Jc Dn) ?_;refine Bw (fun _ _=>Jc Dn) ?_;refine Bw (fun _ _=>Jf Dn) ?_;refine Bw (fun _ _=>Je Dn) ?_;refine Bw (fun _ _=>JA Dn) ?_;refine Bw (fun _ _=>Jc Dn) ?_;refine Bw (fun _ _=>av rfl rfl u0 u1 rfl Dn) ?_;refine Bw (fun _ _=>az [_,_,_,_,_,_,_,_,_,_,_,_,_,_,_,_,_] (i:=u.toNat) (j:=0) rfl (by simp) hq1 rfl rfl rfl Dn) ?_;refine Bw (fun _ _=>Jc Dn) ?_
     (apply ru (fun b=>.slice (some ⟨b,0,none⟩) 1 1) (fun b=>blk b [.int .i64 ((i:Int))] 3) rfl rfl;· intro Gx X;refine bW (e:=3) (c:=[.int .i64 ((i:Int))]) rfl (fun w=>by kernel_rfl) rfl fun b _=>?_;exact aU rfl)
     refine rv (fun mm=>kj ((ap y u).length + 1) mm) (fun mm=>ax 3 1 (kj ((ap y u).length + 1) mm) (((ap y u)++[(i:Int)]).map bY)) rfl rfl rfl rfl rfl rfl (fun b Gx X=>?_) ?_
     ·refine eS [_] (e:=3) (sz:=1) (news:=[[.int .i64 ((i:Int))]]) (zc:=[.int .i64 0]) rfl rfl rfl rfl rfl (by simp) (by simp [Value.oneCell']) (fun w hw hn=>?_) ?_ ?_ rfl fun u1=>?_
      ·exact ⟨b,0,rfl,a9 (St.blk (pre:=[]) hw)⟩
      ·rw [List.length_map];omega
      ·rw [List.length_map];unfold dK;omega
      rw [show (ap y u).map bY++[[.int .i64 ((i:Int))]]=((ap y u)++[(i:Int)]).map bY by rw [List.map_append];rfl];refine fY (φ:=∃ mm,u1=kj ((ap y u).length + 1) mm) (fun w hw=>by have:=jP (pre:=[_]) hw;rwa [List.length_map,List.length_append,List.length_singleton] at this) (fun ⟨mm,hmm⟩=>?_);subst hmm;exact fH rfl
     refine mV rfl (by kernel_rfl) (by kernel_rfl) fun bs2=>?_;have hv1:=gI ((ap y u).length + 1) (bs2 112);refine av rfl rfl u0 u1 rfl ?_;refine aM [_,_,_,_,_,_,_,_,_,_,_,_,_,_,_,_,_] (v:=kj ((ap y u).length + 1) (bs2 112)) (i:=u.toNat) (j:=0) rfl (by simp) rfl hv1.1 hv1.2 hq1 (Nat.zero_lt_succ _) ?_;refine aq ?_;refine fI (H':=enH be a (zL t x [] [] [] 0 ib ob bb n m none 0 0) n m (.slice none 0 0) (En.lay1B t e i)++[blk b9 (bJ (ai t i) A5 c5) 51,blk b2 (x.th t) 25,de 26 3 (slV ib n) ((y).set (u.toNat) ((ap y u)++[(i:Int)])),bh ob m (List.replicate m []),bh bb m (List.replicate m [])]) (fun w A h=>?_) ?_
     ·have h2:=d9 (l:=(ap y u)++[(i:Int)]) (i:=u.toNat) hbi (Sep.take [17,21,18,0,1,2,3,4,5,6,7,8,9,10,11,12,13,14,15,16,19,20] h)
      exact Sep.take [1,2,3,4,5,6,7,8,9,10,11,12,13,14,15,16,17,0,18,19] h2
     exact aC () ⟨rfl,rfl,rfl,rfl,rfl,rfl,rfl,rfl,rfl,rfl,rfl,rfl,rfl,trivial⟩ (fun h=>h)
    refine aj ?_;refine Ka ?_;refine Jc ?_;refine aq ?_;exact Pa ⟨(j + 1,bV y u i),hlt4,hy',hS3⟩
   refine bf (ι:=Unit) (fun _=>[(8,.int .i64 i),(9,aK b9),(66,.slice x.A2 (ao t).length x.c2),(67,.int .i64 (ao t).length),(68,.int .i64 i),(1,.slice fA facts.length fc),(2,aK b2),(5,.int .i64 n),(6,.int .i64 m),(7,aK be)]) (fun _=>enH be a (zL t x [] [] [] 0 ib ob bb n m none 0 0) n m (.slice none 0 0) (En.lay1S t (En.lay1B t e i) i)++[blk b9 (bJ (ai t i) A5 c5) 51,blk b2 (x.th t) 25,bh ib n (En.lay1I t il i),bh ob m (List.replicate m []),bh bb m (List.replicate m [])]) ?_ (fun _=>?_)
   ·refine Ja (Je ?_)
    refine El ?_;refine Ji (Jb ?_);have hBo:=hkB.ok;refine ay rfl (fun h1=>?_) (fun h1=>?_)
    ·have e9:En.lay1S t (En.lay1B t e i) i={ En.lay1B t e i with strict:=En.inc (En.lay1B t e i).strict (ai t i).2.1 }:=by unfold En.lay1S;rw [if_pos (beq_iff_eq.2 h1)]
     rw [e9];refine dZ (by kernel_rfl) rfl ?_;refine Xc (Xf (Xe ?_));refine Aw (fun _ _=>Eh Dn) ?_;refine Xe ?_;refine Aw (fun _ _=>El Dn) ?_;refine Aw (fun _ _=>Ei Dn) ?_;refine Aw (fun _ _=>kh (by assumption) rfl (by assumption) (by assumption) rfl Dn) ?_;refine Aw (fun _ _=>cY rfl rfl rfl rfl Dn) ?_;refine Aw (fun _ _=>Ei Dn) ?_;refine Aq fun bq=>?_;refine ES.strict hkB.ok rfl rfl hd0 hd1 ?_;refine aq ?_;exact aC () ⟨rfl,rfl,rfl,rfl,rfl,rfl,rfl,rfl,rfl,rfl,trivial⟩ (fun h=>h)
    have e9:En.lay1S t (En.lay1B t e i) i=En.lay1B t e i:=by unfold En.lay1S;rw [if_neg (by simp only [beq_false_of_ne h1];simp)]
    rw [e9];refine al ?_;exact aC () ⟨rfl,rfl,rfl,rfl,rfl,rfl,rfl,rfl,rfl,rfl,trivial⟩ (fun h=>h)
   have hkS:LOk n m (En.lay1S t (En.lay1B t e i) i):=hkB.lay1S;have hSo:=hkS.ok;refine Ja (Jc (Jc ?_));refine aD Tryz.call79 rfl (fun w hw=>kw (z:=(zL t x [] [] [] 0 ib ob bb n m none 0 0)) hw (hT.mono (au hw)) hr (by omega) (by omega)) rfl ?_;refine Jb ?_;refine ce rfl (fun h3=>?_) (fun h3=>?_)
   ·have e9:En.lay1 t e i={ En.lay1S t (En.lay1B t e i) i with backs:=En.inc (En.lay1S t (En.lay1B t e i) i).backs (ai t i).2.1 }:=by unfold En.lay1 En.lay1K;rw [if_pos h3]
    rw [e9];refine dZ (by kernel_rfl) rfl ?_;refine Xc (Xf (Xe ?_));refine Aw (fun _ _=>Eh Dn) ?_;refine Xe ?_;refine Aw (fun _ _=>El Dn) ?_;refine Aw (fun _ _=>Ei Dn) ?_;refine Aw (fun _ _=>iU (by assumption) rfl (by assumption) (by assumption) rfl Dn) ?_;refine Aw (fun _ _=>cY rfl rfl rfl rfl Dn) ?_;refine Aw (fun _ _=>Ei Dn) ?_;refine Aq fun bq=>?_;refine ES.backs hkS.ok rfl rfl hd0 hd1 ?_;refine aq ?_;exact aC () ⟨rfl,rfl,rfl,rfl,rfl,rfl,rfl,rfl,trivial⟩ (fun h=>St.take [0,1,2,3,4,5,6,7,8,9,10,11,12,13,14,16,17,18,19] h)
   have e9:En.lay1 t e i=En.lay1S t (En.lay1B t e i) i:=by unfold En.lay1 En.lay1K;rw [if_neg (by simp [h3])]
   rw [e9];refine al ?_;exact aC () ⟨rfl,rfl,rfl,rfl,rfl,rfl,rfl,rfl,trivial⟩ (fun h=>St.take [0,1,2,3,4,5,6,7,8,9,10,11,12,13,14,16,17,18,19] h)
  refine aj ?_;refine Ka ?_;refine Jc ?_;refine aq ?_;exact Pa ⟨(i + 1,En.lay1 t e i,En.lay1I t il i),hi',hk',hil',hS,hSi⟩
 have hfs:=aP hF;unfold br at hfs;refine Ja (Jc ?_);refine bF (n:=n) (zc:=[.bool false]) rfl rfl rfl rfl rfl (by unfold dK;omega) (by omega) rfl fun fb=>?_;refine Jd (Jb ?_);refine cI (enH be a (zL t x [] [] [] 0 ib ob bb n m none 0 0) n m (.slice none 0 0) e1++[blk b2 (x.th t) 25,ax 4 1 (slV fb n) ((List.replicate n false).map bu),bh ib n inn,bh ob m (List.replicate m []),bh bb m (List.replicate m [])]) (fun w A h=>?_) ?_
 ·have e9:List.replicate n [Value.bool false]=(List.replicate n false).map bu:=by rw [List.map_replicate]
  rw [e9] at h;exact Sep.take [1,2,3,4,5,6,7,8,9,10,11,12,13,14,15,16,0,17,18,19] h
 refine dt [(12,slV fb n),(1,.slice fA facts.length fc),(2,aK b2),(5,.int .i64 n),(6,.int .i64 m),(7,aK be)] ⟨rfl,rfl,rfl,rfl,rfl,rfl,trivial⟩ ?_;have hf0:(List.replicate n false).length=n:=by simp
 refine bf (ι:={ sv:Value // LOk n m e2∧fct.length=n }) (fun _=>[(12,slV fb n),(1,.slice fA facts.length fc),(2,aK b2),(5,.int .i64 n),(6,.int .i64 m),(7,aK be)]) (fun q=>enH be a (zL t x [] [] [] 0 ib ob bb n m none 0 0) n m q.1 e2++[blk b2 (x.th t) 25,ax 4 1 (slV fb n) (fct.map bu),bh ib n inn,bh ob m (List.replicate m []),bh bb m (List.replicate m [])]) ?_ (fun ⟨sv,hk2,hfl⟩=>?_)
 ·refine Ja (Jc (Jg (Jc (Jb ?_))))
  refine ak ?_
  refine aI (ι:={ q:Nat × En × List Bool × Value // q.1≤facts.length∧LOk n m q.2.1∧q.2.2.1.length=n∧e2=(facts.drop q.1).foldl En.lay2 q.2.1∧fct=(facts.drop q.1).foldl En.lay2F q.2.2.1 })
   (fun q=>[(144,.slice fA facts.length fc),(145,.int .i64 facts.length),(146,.int .i64 q.1.1),(12,slV fb n),(1,.slice fA facts.length fc),(2,aK b2),(5,.int .i64 n),(6,.int .i64 m),(7,aK be)]) (fun q=>enH be a (zL t x [] [] [] 0 ib ob bb n m none 0 0) n m q.1.2.2.2 q.1.2.1++[blk b2 (x.th t) 25,ax 4 1 (slV fb n) (q.1.2.2.1.map bu),bh ib n inn,bh ob m (List.replicate m []),bh bb m (List.replicate m [])]) (fun q=>facts.length - q.1.1) ⟨(0,e1,List.replicate n false,(.slice none 0 0)),Nat.zero_le _,hk1,hf0,he2,hfct⟩ ⟨rfl,rfl,rfl,rfl,rfl,rfl,rfl,rfl,rfl,trivial⟩ (fun h=>h) ?_
  intro ⟨⟨i,e,fl,sv⟩,hi,hk,hfl,hS,hSf⟩;dsimp only at hi hk hfl hS hSf ⊢;refine Ja (Jk (Jb ?_));refine ar ?_;refine ay rfl (fun hlt=>?_) (fun hge=>?_);rotate_left
  ·rw [List.drop_eq_nil_of_le (by omega),List.foldl_nil] at hS hSf
   rw [hS,hSf];refine aG rfl ?_;exact aC ⟨sv,hk,hfl⟩ ⟨rfl,rfl,rfl,rfl,rfl,rfl,trivial⟩ (fun h=>h)
  have hlt1:i < facts.length:=by omega
  rw [List.drop_eq_getElem_cons hlt1,List.foldl_cons] at hS hSf;obtain ⟨B4,O4,hA4,hm4,_⟩:=aR hF (List.getElem?_eq_getElem hlt1);obtain ⟨u0,u1⟩:=hfr _ (List.getElem_mem hlt1);generalize facts[i]=u at *;have hk':LOk n m (En.lay2 e u):=hk.tell hn u0 u1 (by omega) (by omega);have hfl':(En.lay2F fl u).length=n:=by unfold En.lay2F;rw [List.length_set];exact hfl
  refine al (ah ?_);refine bf (ι:=Value) (fun _=>[(144,.slice fA facts.length fc),(145,.int .i64 facts.length),(146,.int .i64 i),(12,slV fb n),(1,.slice fA facts.length fc),(2,aK b2),(5,.int .i64 n),(6,.int .i64 m),(7,aK be)]) (fun sv3=>enH be a (zL t x [] [] [] 0 ib ob bb n m none 0 0) n m sv3 (En.lay2 e u)++[blk b2 (x.th t) 25,ax 4 1 (slV fb n) ((En.lay2F fl u).map bu),bh ib n inn,bh ob m (List.replicate m []),bh bb m (List.replicate m [])]) ?_ (fun sv3=>?_)
  ·refine ak ?_
   refine Ja ?_;refine aa hA4 rfl rfl (by omega) hlt rfl ?_;refine ac rfl hle (aT hm4) rfl rfl ?_;refine Jd (Jb (Ja (Jc (Jc ?_))));refine av rfl rfl u0 u1 rfl ?_;refine aM [_,_,_,_,_,_,_,_,_,_,_,_,_,_,_,_] (i:=u.toNat) (j:=0) (cs:=[.bool (fl.getD u.toNat false)]) rfl (by simp) rfl rfl rfl (by rw [List.getElem?_map,getD_some (d:=false) hfl u0 u1];rfl) (Nat.zero_lt_succ _) ?_;refine aq (ah ?_);refine cI (enH be a (zL t x [] [] [] 0 ib ob bb n m none 0 0) n m sv e++[blk b2 (x.th t) 25,ax 4 1 (slV fb n) ((En.lay2F fl u).map bu),bh ib n inn,bh ob m (List.replicate m []),bh bb m (List.replicate m [])]) (fun w A h=>?_) ?_
   ·have e9:(fl.map bu).set u.toNat ([Value.bool (fl.getD u.toNat false)].set 0 (.bool true))=(En.lay2F fl u).map bu:=List.map_set.symm
    rw [← e9];exact h
   refine aj ?_;refine Jc (Jc ?_);refine a8 (enH be a (zL t x [] [] [] 0 ib ob bb n m none 0 0) n m sv e) Tryz.call80 rfl (fun w F _ hC _=>eN (k:=1) hn hk.ok u0 u1 (by omega) (by omega) w F hC) rfl fun sv3=>?_;refine aq ?_;exact aC sv3 ⟨rfl,rfl,rfl,rfl,rfl,rfl,rfl,rfl,rfl,trivial⟩ (fun h=>h)
  refine aj ?_;refine Ka ?_;refine Jc ?_;refine aq ?_;exact Pa ⟨(i + 1,En.lay2 e u,En.lay2F fl u,sv3),hlt1,hk',hfl',hS,hSf⟩
 refine bf (ι:={ sv:Value // LOk n m e3 }) (fun _=>[(12,slV fb n),(1,.slice fA facts.length fc),(2,aK b2),(5,.int .i64 n),(6,.int .i64 m),(7,aK be)]) (fun q=>enH be a (zL t x [] [] [] 0 ib ob bb n m none 0 0) n m q.1 e3++[blk b2 (x.th t) 25,ax 4 1 (slV fb n) (fct.map bu),bh ib n inn,bh ob m (List.replicate m []),bh bb m (List.replicate m [])]) ?_ (fun ⟨sv,hk3⟩=>?_)
 ·refine Ja (Je ?_)
  refine El ?_;refine Jg (Jc (Jb ?_));refine ak ?_
  refine aI (ι:={ q:Nat × En × Value // q.1≤m∧LOk n m q.2.1∧e3=dN (En.lay3 t) (m - q.1) q.1 q.2.1 })
   (fun q=>[(158,.slice x.A2 (ao t).length x.c2),(159,.int .i64 (ao t).length),(160,.int .i64 q.1.1),(12,slV fb n),(1,.slice fA facts.length fc),(2,aK b2),(5,.int .i64 n),(6,.int .i64 m),(7,aK be)]) (fun q=>enH be a (zL t x [] [] [] 0 ib ob bb n m none 0 0) n m q.1.2.2 q.1.2.1++[blk b2 (x.th t) 25,ax 4 1 (slV fb n) (fct.map bu),bh ib n inn,bh ob m (List.replicate m []),bh bb m (List.replicate m [])]) (fun q=>m - q.1.1) ⟨(0,e2,sv),Nat.zero_le _,hk2,he3⟩ ⟨rfl,rfl,rfl,rfl,rfl,rfl,rfl,rfl,rfl,trivial⟩ (fun h=>h) ?_
  clear sv;intro ⟨⟨i,e,sv⟩,hi,hk,hS⟩;dsimp only at hi hk hS ⊢;refine Ja (Jk (Jb ?_));refine ar ?_;refine ay rfl (fun hlt=>?_) (fun hge=>?_);rotate_left
  ·have hW:e3=e:=by rw [hS,show m - i=0 by omega];rfl
   rw [hW];refine aG rfl ?_;exact aC ⟨sv,hk⟩ ⟨rfl,rfl,rfl,rfl,rfl,rfl,trivial⟩ (fun h=>h)
  have hi':i < m:=by omega
  have hq0:(0:Int)≤(i:Nat):=by omega
  have hq1:((i:Nat):Int) < m:=by omega
  rw [show m - i=(m - (i + 1)) + 1 by omega,dN] at hS;obtain ⟨B5,O5,A5,c5,hA5,hm5,hl5,_⟩:=bz hT (i:=(i:Int)) (by omega) (by omega);obtain ⟨⟨hd0,hd1⟩,hb16,hbr⟩:=ht.rule (r:=(i:Int)) (by omega) (by omega);have hk':LOk n m (En.lay3 t e i):=hk.lay3 ht hi';refine al (ah ?_);refine bf (ι:=Value) (fun _=>[(158,.slice x.A2 (ao t).length x.c2),(159,.int .i64 (ao t).length),(160,.int .i64 i),(12,slV fb n),(1,.slice fA facts.length fc),(2,aK b2),(5,.int .i64 n),(6,.int .i64 m),(7,aK be)]) (fun sv3=>enH be a (zL t x [] [] [] 0 ib ob bb n m none 0 0) n m sv3 (En.lay3 t e i)++[blk b2 (x.th t) 25,ax 4 1 (slV fb n) (fct.map bu),bh ib n inn,bh ob m (List.replicate m []),bh bb m (List.replicate m [])]) ?_ (fun sv3=>?_)
  ·refine ak ?_
   refine Ja ?_;refine aa hA5 rfl rfl (by omega) hlt rfl ?_;refine dF (cs:=bJ (ai t i) A5 c5) rfl hle hm5 rfl rfl (by simp) rfl ?_;refine cH (c:=[.int .i64 0,.int .i64 0,.slice none 0 0]) rfl rfl fun b9 _=>?_
   skip
   refine aX [] (vs:=bJ (ai t i) A5 c5) rfl rfl rfl rfl rfl (by simp [Value.oneCell']) ?_;refine aq (ah ?_);refine cI (enH be a (zL t x [] [] [] 0 ib ob bb n m none 0 0) n m sv e++[blk b9 (bJ (ai t i) A5 c5) 51,blk b2 (x.th t) 25,ax 4 1 (slV fb n) (fct.map bu),bh ib n inn,bh ob m (List.replicate m []),bh bb m (List.replicate m [])]) (fun w A h=>?_) ?_
   ·exact Sep.take [1,2,3,4,5,6,7,8,9,10,11,12,13,14,15,0,16,17,18,19,20] h
   refine dt [(16,aK b9),(158,.slice x.A2 (ao t).length x.c2),(159,.int .i64 (ao t).length),(160,.int .i64 i),(12,slV fb n),(1,.slice fA facts.length fc),(2,aK b2),(5,.int .i64 n),(6,.int .i64 m),(7,aK be)] ⟨rfl,rfl,rfl,rfl,rfl,rfl,rfl,rfl,rfl,rfl,trivial⟩ ?_;refine Ja (Je ?_);refine El ?_;refine Ji (Jc ?_);refine aY 167 rfl (fun h1=>?_) (fun h1=>?_);rotate_left
   ·(iterate 4 refine Jz ?_);refine Jw (Jb ?_)
    refine ch rfl ?_;refine al ?_;have e9:En.lay3 t e i=e:=by unfold En.lay3;rw [if_neg (by simp only [beq_false_of_ne h1];simp)]
    rw [e9];exact aC sv ⟨rfl,rfl,rfl,rfl,rfl,rfl,rfl,rfl,rfl,trivial⟩ (fun h=>St.take [0,1,2,3,4,5,6,7,8,9,10,11,12,13,14,16,17,18,19,20] h)
   refine Jy (Je ?_);refine Jy ?_;refine El ?_;refine Jy (Jg ?_);refine Jy (Ji (Jv (Jb ?_)));refine ay rfl (fun h2=>?_) (fun h2=>?_);rotate_left
   ·refine al ?_
    have e9:En.lay3 t e i=e:=by unfold En.lay3;rw [if_neg (by rw [show ((ai t i).2.2.length == 0)=false from beq_false_of_ne (by omega)];simp)]
    rw [e9];exact aC sv ⟨rfl,rfl,rfl,rfl,rfl,rfl,rfl,rfl,rfl,trivial⟩ (fun h=>St.take [0,1,2,3,4,5,6,7,8,9,10,11,12,13,14,16,17,18,19,20] h)
   have e9:En.lay3 t e i=e.tell (ai t i).2.1 1:=by unfold En.lay3;rw [if_pos (by rw [show ((ai t i).1 == 1)=true from beq_iff_eq.2 h1,show ((ai t i).2.2.length == 0)=true from beq_iff_eq.2 (by omega)];rfl)]
   rw [e9];refine aj ?_;refine Jc (Je ?_);refine El ?_;refine a8 (enH be a (zL t x [] [] [] 0 ib ob bb n m none 0 0) n m sv e) Tryz.call80 rfl (fun w F _ hC _=>eN (k:=1) hn hk.ok hd0 hd1 (by omega) (by omega) w F hC) rfl fun sv3=>?_;refine aq ?_;exact aC sv3 ⟨rfl,rfl,rfl,rfl,rfl,rfl,rfl,rfl,rfl,trivial⟩ (fun h=>St.take [0,1,2,3,4,5,6,7,8,9,10,11,12,13,14,16,17,18,19,20] h)
  refine aj ?_;refine Ka ?_;refine Jc ?_;refine aq ?_;exact Pa ⟨(i + 1,En.lay3 t e i,sv3),hi',hk',hS⟩
 refine bf (ι:={ sv:Value // LOk n m e4 }) (fun _=>[(12,slV fb n),(1,.slice fA facts.length fc),(2,aK b2),(5,.int .i64 n),(6,.int .i64 m),(7,aK be)]) (fun q=>enH be a (zL t x [] [] [] 0 ib ob bb n m none 0 0) n m q.1 e4++[blk b2 (x.th t) 25,ax 4 1 (slV fb n) (fct.map bu),bh ib n inn,bh ob m (List.replicate m []),bh bb m (List.replicate m [])]) ?_ (fun ⟨sv,hk4⟩=>?_)
 ·refine Ja (Jc (Jc (Jb ?_)))
  refine ak ?_
  refine aI (ι:={ q:Nat × En × Value // q.1≤n∧LOk n m q.2.1∧e4=dN (En.lay4 fct) (n - q.1) q.1 q.2.1 })
   (fun q=>[(178,.int .i64 n),(179,.int .i64 q.1.1),(12,slV fb n),(1,.slice fA facts.length fc),(2,aK b2),(5,.int .i64 n),(6,.int .i64 m),(7,aK be)]) (fun q=>enH be a (zL t x [] [] [] 0 ib ob bb n m none 0 0) n m q.1.2.2 q.1.2.1++[blk b2 (x.th t) 25,ax 4 1 (slV fb n) (fct.map bu),bh ib n inn,bh ob m (List.replicate m []),bh bb m (List.replicate m [])]) (fun q=>n - q.1.1) ⟨(0,e3,sv),Nat.zero_le _,hk3,he4⟩ ⟨rfl,rfl,rfl,rfl,rfl,rfl,rfl,rfl,trivial⟩ (fun h=>h) ?_
  clear sv;intro ⟨⟨i,e,sv⟩,hi,hk,hS⟩;dsimp only at hi hk hS ⊢;refine Ja (Jk (Jb ?_));refine ar ?_;refine ay rfl (fun hlt=>?_) (fun hge=>?_);rotate_left
  ·have hW:e4=e:=by rw [hS,show n - i=0 by omega];rfl
   rw [hW];refine aG rfl ?_;exact aC ⟨sv,hk⟩ ⟨rfl,rfl,rfl,rfl,rfl,rfl,trivial⟩ (fun h=>h)
  have hi':i < n:=by omega
  have hq0:(0:Int)≤(i:Nat):=by omega
  have hq1:((i:Nat):Int) < n:=by omega
  rw [show n - i=(n - (i + 1)) + 1 by omega,dN] at hS;have hk':LOk n m (En.lay4 fct e i):=hk.lay4 hn hi';have ho:=hk.ok
  have hft:(fct.map bu)[i]?=some [.bool (fct.getD i false)]:=by
   have h9:=getD_some (d:=false) hfl hq0 hq1;rw [List.getElem?_map,show i=((i:Nat):Int).toNat from rfl,h9];rfl
  refine al (ah ?_);refine bf (ι:=Value) (fun _=>[(178,.int .i64 n),(179,.int .i64 i),(12,slV fb n),(1,.slice fA facts.length fc),(2,aK b2),(5,.int .i64 n),(6,.int .i64 m),(7,aK be)]) (fun sv3=>enH be a (zL t x [] [] [] 0 ib ob bb n m none 0 0) n m sv3 (En.lay4 fct e i)++[blk b2 (x.th t) 25,ax 4 1 (slV fb n) (fct.map bu),bh ib n inn,bh ob m (List.replicate m []),bh bb m (List.replicate m [])]) ?_ (fun sv3=>?_)
  ·refine ak ?_
   refine Ja (Jc (Jd (Jb (Ja (Jc (Jc ?_))))));refine av rfl rfl hq0 hq1 rfl ?_;refine az [_,_,_,_,_,_,_,_,_,_,_,_,_,_,_,_] (i:=i) (j:=0) rfl (by simp) hft rfl rfl rfl ?_;refine Jb ?_;refine ce rfl (fun h1=>?_) (fun h1=>?_)
   ·have e9:En.lay4 fct e i={ e with strict:=e.strict.set i (-1) }:=by unfold En.lay4;rw [if_pos h1]
    rw [e9];refine aj ?_;refine Jc (Jf (Je ?_));refine Eh ?_;refine Jc ?_;refine Ei ?_;refine ES.strict ho rfl rfl hq0 hq1 ?_;refine aq ?_;exact aC sv ⟨rfl,rfl,rfl,rfl,rfl,rfl,rfl,rfl,trivial⟩ (fun h=>h)
   refine Ja (Jc (Jf (Je ?_)));refine Eh ?_;refine Jc ?_;refine Ei ?_;refine kh (by assumption) rfl (by assumption) (by assumption) rfl ?_;refine Ji (Jb ?_);refine ay rfl (fun h2=>?_) (fun h2=>?_);rotate_left
   ·refine al ?_
    have e9:En.lay4 fct e i=e:=by unfold En.lay4;rw [if_neg (by rw [h1];simp),if_neg (by rw [show (e.strict.getD i 0 == 0)=false from beq_false_of_ne h2];simp)]
    rw [e9];exact aC sv ⟨rfl,rfl,rfl,rfl,rfl,rfl,rfl,rfl,trivial⟩ (fun h=>h)
   have e9:En.lay4 fct e i=e.tell i 2:=by unfold En.lay4;rw [if_neg (by rw [h1];simp),if_pos (show (e.strict.getD i 0 == 0)=true from beq_iff_eq.2 h2)]
   rw [e9];refine aj ?_;refine Jc (Jc ?_);refine a8 (enH be a (zL t x [] [] [] 0 ib ob bb n m none 0 0) n m sv e) Tryz.call80 rfl (fun w F _ hC _=>eN (k:=2) hn hk.ok hq0 hq1 (by omega) (by omega) w F hC) rfl fun sv3=>?_;refine aq ?_;exact aC sv3 ⟨rfl,rfl,rfl,rfl,rfl,rfl,rfl,rfl,trivial⟩ (fun h=>h)
  refine aj ?_;refine Ka ?_;refine Jc ?_;refine aq ?_;exact Pa ⟨(i + 1,En.lay4 fct e i,sv3),hi',hk',hS⟩
 refine bf (ι:={ sv:Value // LOk n m e5 }) (fun _=>[(12,slV fb n),(1,.slice fA facts.length fc),(2,aK b2),(5,.int .i64 n),(6,.int .i64 m),(7,aK be)]) (fun q=>enH be a (zL t x [] [] [] 0 ib ob bb n m none 0 0) n m q.1 e5++[blk b2 (x.th t) 25,ax 4 1 (slV fb n) (fct.map bu),bh ib n inn,bh ob m (List.replicate m []),bh bb m (List.replicate m [])]) ?_ (fun ⟨sv,hk5⟩=>?_)
 ·refine Ja (Jc (Jc (Jb ?_)))
  refine ak ?_
  refine aI (ι:={ q:Nat × En × Value // q.1≤n∧LOk n m q.2.1∧e5=dN (En.lay5 t) (n - q.1) q.1 q.2.1 })
   (fun q=>[(204,.int .i64 n),(205,.int .i64 q.1.1),(12,slV fb n),(1,.slice fA facts.length fc),(2,aK b2),(5,.int .i64 n),(6,.int .i64 m),(7,aK be)]) (fun q=>enH be a (zL t x [] [] [] 0 ib ob bb n m none 0 0) n m q.1.2.2 q.1.2.1++[blk b2 (x.th t) 25,ax 4 1 (slV fb n) (fct.map bu),bh ib n inn,bh ob m (List.replicate m []),bh bb m (List.replicate m [])]) (fun q=>n - q.1.1) ⟨(0,e4,sv),Nat.zero_le _,hk4,he5⟩ ⟨rfl,rfl,rfl,rfl,rfl,rfl,rfl,rfl,trivial⟩ (fun h=>h) ?_
  clear sv;intro ⟨⟨i,e,sv⟩,hi,hk,hS⟩;dsimp only at hi hk hS ⊢;refine Ja (Jk (Jb ?_));refine ar ?_;refine ay rfl (fun hlt=>?_) (fun hge=>?_);rotate_left
  ·have hW:e5=e:=by rw [hS,show n - i=0 by omega];rfl
   rw [hW];refine aG rfl ?_;exact aC ⟨sv,hk⟩ ⟨rfl,rfl,rfl,rfl,rfl,rfl,trivial⟩ (fun h=>h)
  have hi':i < n:=by omega
  have hq0:(0:Int)≤(i:Nat):=by omega
  have hq1:((i:Nat):Int) < n:=by omega
  rw [show n - i=(n - (i + 1)) + 1 by omega,dN] at hS;have hk':LOk n m (En.lay5 t e i):=hk.lay5;obtain ⟨gB,gO,ga,gc,gA,gm,gl,gi⟩:=eJ hT.foes (r:=(i:Int)) (by omega) (by rw [ht.foes];omega);obtain ⟨hg64,hgr⟩:=ht.foes2 _ gi;refine al (ah ?_);refine bf (ι:=Unit) (fun _=>[(204,.int .i64 n),(205,.int .i64 i),(12,slV fb n),(1,.slice fA facts.length fc),(2,aK b2),(5,.int .i64 n),(6,.int .i64 m),(7,aK be)]) (fun _=>enH be a (zL t x [] [] [] 0 ib ob bb n m none 0 0) n m sv (En.lay5 t e i)++[blk b2 (x.th t) 25,ax 4 1 (slV fb n) (fct.map bu),bh ib n inn,bh ob m (List.replicate m []),bh bb m (List.replicate m [])]) ?_ (fun _=>?_)
  ·refine ak ?_
   refine Ja (Jc (Jd (Jb (Ja (Je ?_)))));refine El ?_;refine Jc ?_;refine aa gA rfl rfl (by omega) (by rw [ht.foes];omega) rfl ?_;refine ac rfl hle gm rfl rfl ?_;refine Jg (Jc (Jb ?_));have e9:En.lay5 t e i=(ap (aH t) i).foldl (En.lay5f i) e:=rfl;rw [e9];clear e9 hk' hS gi;generalize ap (aH t) i=L at *;refine ak ?_
   refine aI (ι:={ q:Nat × En // q.1≤L.length∧LOk n m q.2∧L.foldl (En.lay5f i) e=(L.drop q.1).foldl (En.lay5f i) q.2 })
    (fun q=>[(212,.slice ga L.length gc),(213,.int .i64 L.length),(214,.int .i64 q.1.1),(18,.int .i64 i),(204,.int .i64 n),(205,.int .i64 i),(12,slV fb n),(1,.slice fA facts.length fc),(2,aK b2),(5,.int .i64 n),(6,.int .i64 m),(7,aK be)]) (fun q=>enH be a (zL t x [] [] [] 0 ib ob bb n m none 0 0) n m sv q.1.2++[blk b2 (x.th t) 25,ax 4 1 (slV fb n) (fct.map bu),bh ib n inn,bh ob m (List.replicate m []),bh bb m (List.replicate m [])]) (fun q=>L.length - q.1.1) ⟨(0,e),Nat.zero_le _,hk,rfl⟩ ⟨rfl,rfl,rfl,rfl,rfl,rfl,rfl,rfl,rfl,rfl,rfl,rfl,trivial⟩ (fun h=>h) ?_
   intro ⟨⟨j,y⟩,hj,hy,hS3⟩;dsimp only at hj hy hS3 ⊢;refine Ja (Jk (Jb ?_));refine ar ?_;refine ay rfl (fun hlt3=>?_) (fun hge3=>?_);rotate_left
   ·rw [List.drop_eq_nil_of_le (by omega),List.foldl_nil] at hS3
    rw [hS3];refine aG rfl ?_;exact aC () ⟨rfl,rfl,rfl,rfl,rfl,rfl,rfl,rfl,trivial⟩ (fun h=>h)
   have hlt4:j < L.length:=by omega
   rw [fq hlt4] at hS3;obtain ⟨B4,O4,hA4,hm4,_⟩:=aR gl (List.getElem?_eq_getElem hlt4);obtain ⟨u0,u1⟩:=hgr _ (List.getElem_mem hlt4);generalize L[j]=u at *;have hy':LOk n m (En.lay5f i y u):=hy.lay5f;have hyo:=hy.ok;refine al (ah ?_);refine bf (ι:=Unit) (fun _=>[(212,.slice ga L.length gc),(213,.int .i64 L.length),(214,.int .i64 j),(18,.int .i64 i),(204,.int .i64 n),(205,.int .i64 i),(12,slV fb n),(1,.slice fA facts.length fc),(2,aK b2),(5,.int .i64 n),(6,.int .i64 m),(7,aK be)]) (fun _=>enH be a (zL t x [] [] [] 0 ib ob bb n m none 0 0) n m sv (En.lay5f i y u)++[blk b2 (x.th t) 25,ax 4 1 (slV fb n) (fct.map bu),bh ib n inn,bh ob m (List.replicate m []),bh bb m (List.replicate m [])]) ?_ (fun _=>?_)
   ·refine ak ?_
    refine Ja ?_;refine aa hA4 rfl rfl (by omega) hlt3 rfl ?_;refine ac rfl hle (aT hm4) rfl rfl ?_;refine Jd (Jb ?_);obtain ⟨y2,hy2⟩:∃ y2,y2=(if y.has u 2 then y else { y with opn:=En.inc y.opn i }):=⟨_,rfl⟩;have e9:En.lay5f i y u={ y2 with clash:=y2.clash.set i (y2.clash.getD i false || y2.has u 1) }:=by rw [hy2];rfl
    rw [e9];have hy2o:aE n m 0 y2:=by rw [hy2];split <;> first | exact hyo | exact hyo.opn1 _ _
    clear e9 hy' hS3;refine bf (ι:=Unit) (fun _=>[(20,.int .i64 u),(212,.slice ga L.length gc),(213,.int .i64 L.length),(214,.int .i64 j),(18,.int .i64 i),(204,.int .i64 n),(205,.int .i64 i),(12,slV fb n),(1,.slice fA facts.length fc),(2,aK b2),(5,.int .i64 n),(6,.int .i64 m),(7,aK be)]) (fun _=>enH be a (zL t x [] [] [] 0 ib ob bb n m none 0 0) n m sv y2++[blk b2 (x.th t) 25,ax 4 1 (slV fb n) (fct.map bu),bh ib n inn,bh ob m (List.replicate m []),bh bb m (List.replicate m [])]) ?_ (fun _=>?_)
    ·refine Ja (Jc (Jc ?_))
     refine aD Tryz.call81 rfl (fun w hw=>qJ (k:=2) hw hyo u0 u1 (by omega) (by omega)) rfl ?_;refine Js (Jb ?_);refine ce rfl (fun h1=>?_) (fun h1=>?_);rotate_left
     ·rw [Bool.not_eq_false'] at h1
      rw [if_pos h1] at hy2;rw [hy2];refine al ?_;exact aC () ⟨rfl,rfl,rfl,rfl,rfl,rfl,rfl,rfl,rfl,rfl,rfl,rfl,rfl,trivial⟩ (fun h=>h)
     rw [Bool.not_eq_true'] at h1;rw [if_neg (by simp [h1])] at hy2;rw [hy2];refine aj ?_;refine Jc (Jf (Je ?_));refine Eh ?_;refine Jc ?_;refine Ei ?_;refine ur (by assumption) rfl (by assumption) (by assumption) rfl ?_;refine cY rfl rfl rfl rfl ?_;refine Ei ?_;refine ES.opn hyo rfl rfl hq0 hq1 ?_;refine aq ?_;exact aC () ⟨rfl,rfl,rfl,rfl,rfl,rfl,rfl,rfl,rfl,rfl,rfl,rfl,rfl,trivial⟩ (fun h=>h)
    by_cases hc:y2.clash.getD ((i:Nat):Int).toNat false=true
    ·have e9:(y2.clash.getD i false || y2.has u 1)=true:=by rw [show y2.clash.getD i false=true from hc];rfl
     rw [e9];refine dZ (by kernel_rfl) rfl ?_;refine Xc (Xf (Xe ?_));refine Aw (fun _ _=>Eh Dn) ?_;refine Xc (Xc (Xf (Xe ?_)));refine Aw (fun _ _=>Eh Dn) ?_;refine Xc ?_;refine Aw (fun _ _=>Ei Dn) ?_;refine Aw (fun _ _=>lH (by assumption) rfl (by assumption) (by assumption) rfl Dn) ?_;refine Xc ?_;rw [hc]
     (iterate 3 refine Aw (fun _ _=>Jz Dn) ?_);refine Aw (fun _ _=>Jv Dn) ?_;refine Aw (fun _ _=>Ei Dn) ?_
     refine Aq fun bq=>?_;refine ES.clash hy2o rfl rfl hq0 hq1 ?_;refine aq ?_;exact aC () ⟨rfl,rfl,rfl,rfl,rfl,rfl,rfl,rfl,rfl,rfl,rfl,rfl,trivial⟩ (fun h=>h)
    have hc':y2.clash.getD ((i:Nat):Int).toNat false=false:=by simpa using hc
    have e9:(y2.clash.getD i false || y2.has u 1)=y2.has u 1:=by rw [show y2.clash.getD i false=false from hc'];rfl
    rw [e9];refine dZ (by kernel_rfl) rfl ?_;refine Xc (Xf (Xe ?_));refine Aw (fun _ _=>Eh Dn) ?_;refine Xc (Xc (Xf (Xe ?_)));refine Aw (fun _ _=>Eh Dn) ?_;refine Xc ?_;refine Aw (fun _ _=>Ei Dn) ?_;refine Aw (fun _ _=>lH (by assumption) rfl (by assumption) (by assumption) rfl Dn) ?_;refine Xc ?_;rw [hc'];refine Aw (fun _ _=>aJ rfl (Jc Dn)) ?_;refine Aw (fun _ _=>aJ rfl (Jc Dn)) ?_;refine Aw (fun _ _=>aJ rfl (aD Tryz.call81 rfl (fun w hw=>qJ (k:=1) hw hy2o u0 u1 (by omega) (by omega)) rfl Dn)) ?_;refine Aw (fun _ _=>Jw Dn) ?_;refine Aw (fun _ _=>Ei Dn) ?_;refine Aq fun bq=>?_;refine ES.clash hy2o rfl rfl hq0 hq1 ?_;refine aq ?_;exact aC () ⟨rfl,rfl,rfl,rfl,rfl,rfl,rfl,rfl,rfl,rfl,rfl,rfl,trivial⟩ (fun h=>h)
   refine aj ?_;refine Ka ?_;refine Jc ?_;refine aq ?_;exact Pa ⟨(j + 1,En.lay5f i y u),hlt4,hy',hS3⟩
  refine aj ?_;refine Ka ?_;refine Jc ?_;refine aq ?_;exact Pa ⟨(i + 1,En.lay5 t e i,sv),hi',hk',hS⟩
 rw [hE] at hlook;have hP1:=lv ht hk5;have hP2:=tn ht hk5 hlook;have hS1:En.layS t n m facts=⟨t,inn,(En.pair1 t n m e5).of,(En.pair2 t n m e5).bts⟩:=by unfold En.layS;rw [hE,hI]
 have hD1:En.layD t n m facts={ (dN (En.lay6 t (En.pair1 t n m e5).of (En.pair2 t n m e5).bts) m 0 (En.pair2 t n m e5).e) with up:=0 }:=by unfold En.layD;rw [hS1,hE]
 refine cI ((enH be a (zP (zL t x [] [] [] 0 ib ob bb n m none 0 0) none 0 0) n m sv e5++[bh ob m (List.replicate m []),bh bb m (List.replicate m [])])++[blk b2 (x.th t) 25,ax 4 1 (slV fb n) (fct.map bu),bh ib n inn]) (fun w A h=>Sep.take [0,1,2,3,4,5,6,7,8,9,10,11,12,13,14,18,19,15,16,17] h) ?_;refine Ja (Jc ?_);refine a8 (enH be a (zP (zL t x [] [] [] 0 ib ob bb n m none 0 0) none 0 0) n m sv e5++[bh ob m (List.replicate m []),bh bb m (List.replicate m [])]) Tryz.call82 rfl (fun w3 F hle3 hC _=>zO (z:=(zL t x [] [] [] 0 ib ob bb n m none 0 0)) hn ht rfl rfl hk5.ok hk5.pr hlook w3 F (hT.mono hle3) hC) rfl fun ⟨pA,pc⟩=>?_;dsimp only;refine aq (ah ?_);generalize En.pair2 t n m e5=P2 at *;generalize En.pair1 t n m e5=P1 at *;generalize hnp:P1.e.pairs.length=np at *;refine cI (enH be a (zL t x [] [] [] 0 ib ob bb n m pA pc np) n m sv P2.e++[blk b2 (x.th t) 25,ax 4 1 (slV fb n) (fct.map bu),bh ib n inn,bh ob m P1.of,bh bb m P2.bts]) (fun w A h=>Sep.take [0,1,2,3,4,5,6,7,8,9,10,11,12,13,14,17,18,19,15,16] h) ?_;refine dt [(12,slV fb n),(1,.slice fA facts.length fc),(2,aK b2),(5,.int .i64 n),(6,.int .i64 m),(7,aK be)] ⟨rfl,rfl,rfl,rfl,rfl,rfl,trivial⟩ ?_;have hmost:=hP1.most;rw [hnp] at hmost;have hof:bE m np (64 * 4096) P1.of:=by have:=hP1.of;rw [hnp] at this;exact this.mono (Nat.le_refl _) hmost
 have hbt:=hP2.bts;have hke:=hP2.e;refine fk (φ:=np≠0→∃ B,pA=some ⟨B,0,none⟩) (fun w hw h=>?_) (fun hPA=>?_)
 ·obtain ⟨A,c,g1,g2⟩:=eK (pre:=[_,_,_,_,_,_,_,_,_,_,_,_,_,_]) hw
  simp only [Value.slice.injEq] at g1;obtain ⟨B,hB⟩:=g2 (by intro h2;exact h (by have:=congrArg List.length h2;rw [List.length_map,hke.pairs] at this;simpa using this));exact ⟨B,g1.1.trans hB⟩
 obtain ⟨e6,he6⟩:∃ e6,e6=dN (En.lay6 t P1.of P2.bts) m 0 P2.e:=⟨_,rfl⟩;have hk6:aE n m np e6:=by rw [he6];exact co (f:=En.lay6 t P1.of P2.bts) (fun _ x=>aE n m np x) m 0 P2.e (fun j y _ hj hy=>hy.lay6 (K:=4096 * 4096) (hof.mono (Nat.le_refl _) (by omega)) hbt (by omega)) hke
 rw [← he6] at hD1;refine bf (ι:=Unit) (fun _=>[(12,slV fb n),(1,.slice fA facts.length fc),(2,aK b2),(5,.int .i64 n),(6,.int .i64 m),(7,aK be)]) (fun _=>enH be a (zL t x [] [] [] 0 ib ob bb n m pA pc np) n m sv e6++[blk b2 (x.th t) 25,ax 4 1 (slV fb n) (fct.map bu),bh ib n inn,bh ob m P1.of,bh bb m P2.bts]) ?_ (fun _=>?_)
 ·refine Ja (Je ?_)
  refine El ?_;refine Jg (Jc (Jb ?_));refine ak ?_
  refine aI (ι:={ q:Nat × En // q.1≤m∧aE n m np q.2∧e6=dN (En.lay6 t P1.of P2.bts) (m - q.1) q.1 q.2 })
   (fun q=>[(254,.slice x.A2 (ao t).length x.c2),(255,.int .i64 (ao t).length),(256,.int .i64 q.1.1),(12,slV fb n),(1,.slice fA facts.length fc),(2,aK b2),(5,.int .i64 n),(6,.int .i64 m),(7,aK be)]) (fun q=>enH be a (zL t x [] [] [] 0 ib ob bb n m pA pc np) n m sv q.1.2++[blk b2 (x.th t) 25,ax 4 1 (slV fb n) (fct.map bu),bh ib n inn,bh ob m P1.of,bh bb m P2.bts]) (fun q=>m - q.1.1) ⟨(0,P2.e),Nat.zero_le _,hke,he6⟩ ⟨rfl,rfl,rfl,rfl,rfl,rfl,rfl,rfl,rfl,trivial⟩ (fun h=>h) ?_
  intro ⟨⟨i,e⟩,hi,hk,hS⟩;dsimp only at hi hk hS ⊢;refine Ja (Jk (Jb ?_));refine ar ?_;refine ay rfl (fun hlt=>?_) (fun hge=>?_);rotate_left
  ·have hW:e6=e:=by rw [hS,show m - i=0 by omega];rfl
   rw [hW];refine aG rfl ?_;exact aC () ⟨rfl,rfl,rfl,rfl,rfl,rfl,trivial⟩ (fun h=>h)
  have hi':i < m:=by omega
  obtain ⟨B5,O5,A5,c5,hA5,hm5,hl5,_⟩:=bz hT (i:=(i:Int)) (by omega) (by omega);obtain ⟨⟨hd0,hd1⟩,hb16,hbr⟩:=ht.rule (r:=(i:Int)) (by omega) (by omega);have hq0:(0:Int)≤(i:Nat):=by omega
  have hq1:((i:Nat):Int) < m:=by omega
  rw [show m - i=(m - (i + 1)) + 1 by omega,dN] at hS;have hk':aE n m np (En.lay6 t P1.of P2.bts e i):=hk.lay6 (K:=4096 * 4096) (hof.mono (Nat.le_refl _) (by omega)) hbt hi';refine al (ah ?_);refine bf (ι:=Unit) (fun _=>[(254,.slice x.A2 (ao t).length x.c2),(255,.int .i64 (ao t).length),(256,.int .i64 i),(12,slV fb n),(1,.slice fA facts.length fc),(2,aK b2),(5,.int .i64 n),(6,.int .i64 m),(7,aK be)]) (fun _=>enH be a (zL t x [] [] [] 0 ib ob bb n m pA pc np) n m sv (En.lay6 t P1.of P2.bts e i)++[blk b2 (x.th t) 25,ax 4 1 (slV fb n) (fct.map bu),bh ib n inn,bh ob m P1.of,bh bb m P2.bts]) ?_ (fun _=>?_)
  ·refine ak ?_
   refine Ja (Jc ?_);refine aa hA5 rfl rfl (by omega) hlt rfl ?_;refine dF (cs:=bJ (ai t i) A5 c5) rfl hle hm5 rfl rfl (by simp) rfl ?_;refine cH (c:=[.int .i64 0,.int .i64 0,.slice none 0 0]) rfl rfl fun b9 _=>?_;refine Jd ?_;refine aX [] (vs:=bJ (ai t i) A5 c5) rfl rfl rfl rfl rfl (by simp [Value.oneCell']) ?_;refine aq (ah ?_);refine cI (enH be a (zL t x [] [] [] 0 ib ob bb n m pA pc np) n m sv e++[blk b9 (bJ (ai t i) A5 c5) 51,blk b2 (x.th t) 25,ax 4 1 (slV fb n) (fct.map bu),bh ib n inn,bh ob m P1.of,bh bb m P2.bts]) (fun w A h=>?_) ?_
   ·exact Sep.take [1,2,3,4,5,6,7,8,9,10,11,12,13,14,15,0,16,17,18,19,20] h
   refine dt [(21,.int .i64 i),(22,aK b9),(254,.slice x.A2 (ao t).length x.c2),(255,.int .i64 (ao t).length),(256,.int .i64 i),(12,slV fb n),(1,.slice fA facts.length fc),(2,aK b2),(5,.int .i64 n),(6,.int .i64 m),(7,aK be)] ⟨rfl,rfl,rfl,rfl,rfl,rfl,rfl,rfl,rfl,rfl,rfl,trivial⟩ ?_;refine ar ?_;refine Ja (Je ?_);refine El ?_;refine Jg (Jm (Jb ?_));refine ay rfl (fun h2=>?_) (fun h2=>?_)
   ·have e9:(En.lay6 t P1.of P2.bts e i)=e:=by unfold En.lay6;rw [if_pos (decide_eq_true (by omega))]
    rw [e9];refine aG rfl ?_;exact aC () ⟨rfl,rfl,rfl,rfl,rfl,rfl,rfl,rfl,rfl,trivial⟩ (fun h=>St.take [0,1,2,3,4,5,6,7,8,9,10,11,12,13,14,16,17,18,19,20] h)
   obtain ⟨e0,he0⟩:∃ e0,e0=(if cZ t i then (ap P2.bts i).foldl En.lay6p { e with backed:=e.backed.set (ai t i).2.1.toNat true } else e):=⟨_,rfl⟩;have e9:(En.lay6 t P1.of P2.bts e i)=(ap P1.of i).foldl En.lay6q e0:=by unfold En.lay6;rw [if_neg (by rw [decide_eq_true_iff];omega),he0]
   rw [e9]
   have hk0:aE n m np e0:=by
    rw [he0];split
    ·exact aE.fold (N:=np) (fun e u h u0 u1=>h.lay6p u0 u1) (hbt.at_ (b:=(i:Int)) hq0 hq1).2 (hk.backed1 _ _)
    ·exact hk
   refine al (ah ?_);clear e9 hk' hS;refine bf (ι:=Unit) (fun _=>[(21,.int .i64 i),(22,aK b9),(254,.slice x.A2 (ao t).length x.c2),(255,.int .i64 (ao t).length),(256,.int .i64 i),(12,slV fb n),(1,.slice fA facts.length fc),(2,aK b2),(5,.int .i64 n),(6,.int .i64 m),(7,aK be)]) (fun _=>enH be a (zL t x [] [] [] 0 ib ob bb n m pA pc np) n m sv e0++[blk b9 (bJ (ai t i) A5 c5) 51,blk b2 (x.th t) 25,ax 4 1 (slV fb n) (fct.map bu),bh ib n inn,bh ob m P1.of,bh bb m P2.bts]) ?_ (fun _=>?_)
   ·refine Ja (Jc (Jc ?_))
    refine aD Tryz.call79 rfl (fun w hw=>kw (z:=(zL t x [] [] [] 0 ib ob bb n m pA pc np)) hw (hT.mono (au hw)) hr (by omega) (by omega)) rfl ?_;refine Jb ?_;refine ce rfl (fun h3=>?_) (fun h3=>?_);rotate_left
    ·rw [if_neg (by simp [h3])] at he0
     rw [he0];refine al ?_;exact aC () ⟨rfl,rfl,rfl,rfl,rfl,rfl,rfl,rfl,rfl,rfl,rfl,trivial⟩ (fun h=>h)
    rw [if_pos h3] at he0;refine bR (by kernel_rfl) rfl ?_;refine Xc (Xf (Xe ?_));refine Aw (fun _ _=>Eh Dn) ?_;refine Xe ?_;refine Aw (fun _ _=>El Dn) ?_;refine Aw (fun _ _=>Ei Dn) ?_;refine Aq fun bq=>?_;refine ES.backed hk rfl rfl hd0 hd1 ?_;refine aq (ah ?_);have hke1:=hk.backed1 (ai t i).2.1.toNat true;obtain ⟨eb,heb⟩:∃ eb,eb={ e with backed:=e.backed.set (ai t i).2.1.toNat true }:=⟨_,rfl⟩;rw [← heb] at hke1 he0;refine cI (enH be a (zL t x [] [] [] 0 ib ob bb n m pA pc np) n m sv eb++[blk b9 (bJ (ai t i) A5 c5) 51,blk b2 (x.th t) 25,ax 4 1 (slV fb n) (fct.map bu),bh ib n inn,bh ob m P1.of,bh bb m P2.bts]) (fun w A h=>by rw [heb];exact h) ?_;refine dt [(21,.int .i64 i),(22,aK b9),(254,.slice x.A2 (ao t).length x.c2),(255,.int .i64 (ao t).length),(256,.int .i64 i),(12,slV fb n),(1,.slice fA facts.length fc),(2,aK b2),(5,.int .i64 n),(6,.int .i64 m),(7,aK be)] ⟨rfl,rfl,rfl,rfl,rfl,rfl,rfl,rfl,rfl,rfl,rfl,trivial⟩ ?_;have hlen:=hbt.len;have hrng:=(hbt.at_ (b:=(i:Int)) hq0 hq1).2;have hrl:=(hbt.at_ (b:=(i:Int)) hq0 hq1).1;have hl:P2.bts[i]?=some (ap P2.bts i):=getD_some (d:=[]) hlen hq0 hq1;have hbi:i < P2.bts.length:=by rw [hlen];exact hi'
    refine iW (ι:=List (List Value) × Value) (fun q=>q.1[i]?=some [q.2]∧q.1.length=(P2.bts).length) (fun q=>enH be a (zL t x [] [] [] 0 ib ob bb n m pA pc np) n m sv eb++[blk b9 (bJ (ai t i) A5 c5) 51,blk b2 (x.th t) 25,ax 4 1 (slV fb n) (fct.map bu),bh ib n inn,bh ob m P1.of,ax 26 1 (slV bb m) q.1,ax 3 1 q.2 ((ap P2.bts i).map bY),cT (some i) 3 q.1 P2.bts]) (fun w A h=>?_) (fun ⟨es,uv⟩ ⟨hq2,hq3⟩=>?_)
    ·obtain ⟨q,hq,h2⟩:=fp hl (Sep.take [20,0,1,2,3,4,5,6,7,8,9,10,11,12,13,14,15,16,17,18,19] h)
     exact ⟨q,hq,Sep.take [3,4,5,6,7,8,9,10,11,12,13,14,15,16,17,18,19,20,21,22,0,1,2] h2⟩
    dsimp only at hq2 hq3;generalize ap P2.bts i=L at *;refine fk (φ:=∃ A c,uv=.slice A L.length c∧(L≠[]→∃ B,A=some ⟨B,0,none⟩)) (fun w hw=>?_) (fun ⟨rA,rc,huv,hrA⟩=>?_)
    ·obtain ⟨A,c,g1,g2⟩:=eK (pre:=[_,_,_,_,_,_,_,_,_,_,_,_,_,_,_,_,_,_,_,_,_]) hw
     rw [List.length_map] at g1;exact ⟨A,c,g1,fun h=>g2 (by simpa using h)⟩
    subst huv;refine Ja (Jc (Jf (Je ?_)));refine Eh ?_;refine Jc ?_;refine Ei ?_;refine az [_,_,_,_,_,_,_,_,_,_,_,_,_,_,_,_,_,_,_,_] (i:=i) (j:=0) rfl (by simp) hq2 rfl rfl rfl ?_;refine Jg (Jc (Jb ?_));refine ak ?_
    refine aI (ι:={ q:Nat × En // q.1≤L.length∧aE n m np q.2∧L.foldl En.lay6p eb=(L.drop q.1).foldl En.lay6p q.2 })
     (fun q=>[(281,.slice rA L.length rc),(282,.int .i64 L.length),(283,.int .i64 q.1.1),(21,.int .i64 i),(22,aK b9),(254,.slice x.A2 (ao t).length x.c2),(255,.int .i64 (ao t).length),(256,.int .i64 i),(12,slV fb n),(1,.slice fA facts.length fc),(2,aK b2),(5,.int .i64 n),(6,.int .i64 m),(7,aK be)]) (fun q=>enH be a (zL t x [] [] [] 0 ib ob bb n m pA pc np) n m sv q.1.2++[blk b9 (bJ (ai t i) A5 c5) 51,blk b2 (x.th t) 25,ax 4 1 (slV fb n) (fct.map bu),bh ib n inn,bh ob m P1.of,ax 26 1 (slV bb m) es,ax 3 1 (.slice rA L.length rc) (L.map bY),cT (some i) 3 es P2.bts]) (fun q=>L.length - q.1.1) ⟨(0,eb),Nat.zero_le _,hke1,rfl⟩ ⟨rfl,rfl,rfl,rfl,rfl,rfl,rfl,rfl,rfl,rfl,rfl,rfl,rfl,rfl,trivial⟩ (fun h=>h) ?_
    intro ⟨⟨j,y⟩,hj,hy,hS3⟩;dsimp only at hj hy hS3 ⊢;refine Ja (Jk (Jb ?_));refine ar ?_;refine ay rfl (fun hlt3=>?_) (fun hge3=>?_);rotate_left
    ·rw [List.drop_eq_nil_of_le (by omega),List.foldl_nil] at hS3
     refine aG rfl ?_;rw [he0,hS3];refine fI (H':=enH be a (zL t x [] [] [] 0 ib ob bb n m pA pc np) n m sv y++[blk b9 (bJ (ai t i) A5 c5) 51,blk b2 (x.th t) 25,ax 4 1 (slV fb n) (fct.map bu),bh ib n inn,bh ob m P1.of,bh bb m P2.bts]) (fun w A h=>?_) ?_
     ·have h2:=d9 (v':=.slice rA L.length rc) (l:=L) (i:=i) (L:=P2.bts) (es:=es) hbi (by rw [gP hq2];exact Sep.take [20,21,22,0,1,2,3,4,5,6,7,8,9,10,11,12,13,14,15,16,17,18,19] h)
      rw [gP hl] at h2;exact Sep.take [1,2,3,4,5,6,7,8,9,10,11,12,13,14,15,16,17,18,19,20,0] h2
     exact aC () ⟨rfl,rfl,rfl,rfl,rfl,rfl,rfl,rfl,rfl,rfl,rfl,trivial⟩ (fun h=>h)
    have hlt4:j < L.length:=by omega
    rw [fq hlt4] at hS3;obtain ⟨p0,p1⟩:=hrng _ (List.getElem_mem hlt4);have hrj:(L.map bY)[j]?=some (bY L[j]):=by rw [List.getElem?_map,List.getElem?_eq_getElem hlt4];rfl
    generalize L[j]=p at *;obtain ⟨PB,rfl⟩:=hPA (by omega);obtain ⟨RB,rfl⟩:=hrA (by intro h;rw [h] at hlt4;exact absurd hlt4 (by simp));obtain ⟨⟨u0,u1⟩,v0,v1⟩:=hy.pair p0 p1;have hy':aE n m np (En.lay6p y p):=hy.lay6p p0 p1;refine al (ah ?_);refine bf (ι:=Unit) (fun _=>[(281,.slice (some ⟨RB,0,none⟩) L.length rc),(282,.int .i64 L.length),(283,.int .i64 j),(21,.int .i64 i),(22,aK b9),(254,.slice x.A2 (ao t).length x.c2),(255,.int .i64 (ao t).length),(256,.int .i64 i),(12,slV fb n),(1,.slice fA facts.length fc),(2,aK b2),(5,.int .i64 n),(6,.int .i64 m),(7,aK be)]) (fun _=>enH be a (zL t x [] [] [] 0 ib ob bb n m (some ⟨PB,0,none⟩) pc np) n m sv (En.lay6p y p)++[blk b9 (bJ (ai t i) A5 c5) 51,blk b2 (x.th t) 25,ax 4 1 (slV fb n) (fct.map bu),bh ib n inn,bh ob m P1.of,ax 26 1 (slV bb m) es,ax 3 1 (.slice (some ⟨RB,0,none⟩) L.length rc) (L.map bY),cT (some i) 3 es P2.bts]) ?_ (fun _=>?_)
    ·refine ak ?_
     refine Ja ?_;refine aa rfl rfl rfl (by omega) (by omega) rfl ?_;refine az [_,_,_,_,_,_,_,_,_,_,_,_,_,_,_,_,_,_,_,_,_] (i:=j) (j:=0) rfl (by simp) hrj rfl rfl rfl ?_;refine Jd (Jb (Ja (Jc (Jf (Je ?_)))));refine Eh ?_;refine Jc ?_;refine aa rfl rfl rfl p0 p1 rfl ?_;refine Je ?_;refine ig (j:=2) hy rfl rfl (by omega) p0 p1 rfl rfl rfl ?_;refine Js (Jb ?_);refine ce rfl (fun h3=>?_) (fun h3=>?_);rotate_left
     ·rw [Bool.not_eq_false'] at h3
      have e9:En.lay6p y p=y:=by unfold En.lay6p;rw [if_pos h3]
      rw [e9];refine al ?_;exact aC () ⟨rfl,rfl,rfl,rfl,rfl,rfl,rfl,rfl,rfl,rfl,rfl,rfl,rfl,rfl,trivial⟩ (fun h=>h)
     rw [Bool.not_eq_true'] at h3;have e9:En.lay6p y p={ y with pairs:=y.pairs.set p.toNat ((y.pair p).1,(y.pair p).2.1,true,(y.pair p).2.2.2),attacks:=En.dec y.attacks (y.pair p).1 }:=by unfold En.lay6p;rw [if_neg (by simp [h3])]
     rw [e9];refine Ja (Jc (Jf (Je ?_)));refine Eh ?_;refine Jc ?_;refine aa rfl rfl rfl p0 p1 rfl ?_;refine Je ?_;refine oG hy rfl rfl (by omega) rfl p0 p1 ?_;refine aq (ah ?_);have hk2:=hy.settle1 p0 p1
     have hp2:({ y with pairs:=y.pairs.set p.toNat ((y.pair p).1,(y.pair p).2.1,true,(y.pair p).2.2.2) }:En).pair p=((y.pair p).1,(y.pair p).2.1,true,(y.pair p).2.2.2):=by
      show (y.pairs.set p.toNat _).getD p.toNat (0,0,false,0)=_;rw [List.getD_eq_getElem?_getD,List.getElem?_set_self (by rw [hy.pairs];omega)]
      rfl
     have hu1:(fx (({ y with pairs:=y.pairs.set p.toNat ((y.pair p).1,(y.pair p).2.1,true,(y.pair p).2.2.2) }:En).pair p))[0]?=some (.int .i64 (y.pair p).1):=by rw [hp2];rfl
     refine dZ (by kernel_rfl) rfl ?_;refine Xc (Xf (Xe ?_));refine Aw (fun _ _=>Eh Dn) ?_;refine Xc (Xf (Xe ?_));refine Aw (fun _ _=>Eh Dn) ?_;refine Xc ?_;refine Aw (fun _ _=>aa rfl rfl rfl p0 p1 rfl Dn) ?_;refine Xe ?_;refine Aw (fun _ _=>ig (j:=0) hk2 rfl rfl (by omega) p0 p1 hu1 rfl rfl Dn) ?_;refine Aw (fun _ _=>Ei Dn) ?_;refine Aw (fun _ _=>iV (by assumption) rfl (by assumption) (by assumption) rfl Dn) ?_;refine Aw (fun _ _=>eG rfl rfl rfl rfl Dn) ?_;refine Aw (fun _ _=>Ei Dn) ?_;refine Aq fun bq=>?_;refine ES.attacks hk2 rfl rfl u0 u1 ?_;refine aq ?_;exact aC () ⟨rfl,rfl,rfl,rfl,rfl,rfl,rfl,rfl,rfl,rfl,rfl,rfl,rfl,rfl,trivial⟩ (fun h=>h)
    refine aj ?_;refine Ka ?_;refine Jc ?_;refine aq ?_;exact Pa ⟨(j + 1,En.lay6p y p),hlt4,hy',hS3⟩
   have hlen:=hof.len;have hrng:=(hof.at_ (b:=(i:Int)) hq0 hq1).2;have hrl:=(hof.at_ (b:=(i:Int)) hq0 hq1).1;have hl:P1.of[i]?=some (ap P1.of i):=getD_some (d:=[]) hlen hq0 hq1;have hbi:i < P1.of.length:=by rw [hlen];exact hi'
   refine iW (ι:=List (List Value) × Value) (fun q=>q.1[i]?=some [q.2]∧q.1.length=(P1.of).length) (fun q=>enH be a (zL t x [] [] [] 0 ib ob bb n m pA pc np) n m sv e0++[blk b9 (bJ (ai t i) A5 c5) 51,blk b2 (x.th t) 25,ax 4 1 (slV fb n) (fct.map bu),bh ib n inn,ax 26 1 (slV ob m) q.1,ax 3 1 q.2 ((ap P1.of i).map bY),cT (some i) 3 q.1 P1.of,bh bb m P2.bts]) (fun w A h=>?_) (fun ⟨es,uv⟩ ⟨hq2,hq3⟩=>?_)
   ·obtain ⟨q,hq,h2⟩:=fp hl (Sep.take [19,0,1,2,3,4,5,6,7,8,9,10,11,12,13,14,15,16,17,18,20] h)
    exact ⟨q,hq,Sep.take [3,4,5,6,7,8,9,10,11,12,13,14,15,16,17,18,19,20,21,0,1,2,22] h2⟩
   dsimp only at hq2 hq3;generalize ap P1.of i=L at *;refine fk (φ:=∃ A c,uv=.slice A L.length c∧(L≠[]→∃ B,A=some ⟨B,0,none⟩)) (fun w hw=>?_) (fun ⟨rA,rc,huv,hrA⟩=>?_)
   ·obtain ⟨A,c,g1,g2⟩:=eK (pre:=[_,_,_,_,_,_,_,_,_,_,_,_,_,_,_,_,_,_,_,_]) hw
    rw [List.length_map] at g1;exact ⟨A,c,g1,fun h=>g2 (by simpa using h)⟩
   subst huv;refine Ja (Jc (Jf (Je ?_)));refine Eh ?_;refine Jc ?_;refine Ei ?_;refine az [_,_,_,_,_,_,_,_,_,_,_,_,_,_,_,_,_,_,_] (i:=i) (j:=0) rfl (by simp) hq2 rfl rfl rfl ?_;refine Jg (Jc (Jb ?_));refine ak ?_
   refine aI (ι:={ q:Nat × En // q.1≤L.length∧aE n m np q.2∧L.foldl En.lay6q e0=(L.drop q.1).foldl En.lay6q q.2 })
    (fun q=>[(326,.slice rA L.length rc),(327,.int .i64 L.length),(328,.int .i64 q.1.1),(21,.int .i64 i),(22,aK b9),(254,.slice x.A2 (ao t).length x.c2),(255,.int .i64 (ao t).length),(256,.int .i64 i),(12,slV fb n),(1,.slice fA facts.length fc),(2,aK b2),(5,.int .i64 n),(6,.int .i64 m),(7,aK be)]) (fun q=>enH be a (zL t x [] [] [] 0 ib ob bb n m pA pc np) n m sv q.1.2++[blk b9 (bJ (ai t i) A5 c5) 51,blk b2 (x.th t) 25,ax 4 1 (slV fb n) (fct.map bu),bh ib n inn,ax 26 1 (slV ob m) es,ax 3 1 (.slice rA L.length rc) (L.map bY),cT (some i) 3 es P1.of,bh bb m P2.bts]) (fun q=>L.length - q.1.1) ⟨(0,e0),Nat.zero_le _,hk0,rfl⟩ ⟨rfl,rfl,rfl,rfl,rfl,rfl,rfl,rfl,rfl,rfl,rfl,rfl,rfl,rfl,trivial⟩ (fun h=>h) ?_
   intro ⟨⟨j,y⟩,hj,hy,hS3⟩;dsimp only at hj hy hS3 ⊢;refine Ja (Jk (Jb ?_));refine ar ?_;refine ay rfl (fun hlt3=>?_) (fun hge3=>?_);rotate_left
   ·rw [List.drop_eq_nil_of_le (by omega),List.foldl_nil] at hS3
    refine aG rfl ?_;rw [hS3];refine fI (H':=enH be a (zL t x [] [] [] 0 ib ob bb n m pA pc np) n m sv y++[blk b9 (bJ (ai t i) A5 c5) 51,blk b2 (x.th t) 25,ax 4 1 (slV fb n) (fct.map bu),bh ib n inn,bh ob m P1.of,bh bb m P2.bts]) (fun w A h=>?_) ?_
    ·have h2:=d9 (v':=.slice rA L.length rc) (l:=L) (i:=i) (L:=P1.of) (es:=es) hbi (by rw [gP hq2];exact Sep.take [19,20,21,0,1,2,3,4,5,6,7,8,9,10,11,12,13,14,15,16,17,18,22] h)
     rw [gP hl] at h2;exact Sep.take [1,2,3,4,5,6,7,8,9,10,11,12,13,14,15,16,17,18,19,0,20] h2
    exact aC () ⟨rfl,rfl,rfl,rfl,rfl,rfl,rfl,rfl,rfl,trivial⟩ (fun h=>St.take [0,1,2,3,4,5,6,7,8,9,10,11,12,13,14,16,17,18,19,20] h)
   have hlt4:j < L.length:=by omega
   rw [fq hlt4] at hS3;obtain ⟨p0,p1⟩:=hrng _ (List.getElem_mem hlt4);have hrj:(L.map bY)[j]?=some (bY L[j]):=by rw [List.getElem?_map,List.getElem?_eq_getElem hlt4];rfl
   generalize L[j]=p at *;obtain ⟨PB,rfl⟩:=hPA (by omega);obtain ⟨RB,rfl⟩:=hrA (by intro h;rw [h] at hlt4;exact absurd hlt4 (by simp));obtain ⟨⟨u0,u1⟩,v0,v1⟩:=hy.pair p0 p1;have hy':aE n m np (En.lay6q y p):=hy.lay6q;refine al (ah ?_);refine bf (ι:=Unit) (fun _=>[(326,.slice (some ⟨RB,0,none⟩) L.length rc),(327,.int .i64 L.length),(328,.int .i64 j),(21,.int .i64 i),(22,aK b9),(254,.slice x.A2 (ao t).length x.c2),(255,.int .i64 (ao t).length),(256,.int .i64 i),(12,slV fb n),(1,.slice fA facts.length fc),(2,aK b2),(5,.int .i64 n),(6,.int .i64 m),(7,aK be)]) (fun _=>enH be a (zL t x [] [] [] 0 ib ob bb n m (some ⟨PB,0,none⟩) pc np) n m sv (En.lay6q y p)++[blk b9 (bJ (ai t i) A5 c5) 51,blk b2 (x.th t) 25,ax 4 1 (slV fb n) (fct.map bu),bh ib n inn,ax 26 1 (slV ob m) es,ax 3 1 (.slice (some ⟨RB,0,none⟩) L.length rc) (L.map bY),cT (some i) 3 es P1.of,bh bb m P2.bts]) ?_ (fun _=>?_)
   ·refine ak ?_
    refine Ja ?_;refine aa rfl rfl rfl (by omega) (by omega) rfl ?_;refine az [_,_,_,_,_,_,_,_,_,_,_,_,_,_,_,_,_,_,_,_] (i:=j) (j:=0) rfl (by simp) hrj rfl rfl rfl ?_;refine Jd (Jb (Ja (Jc (Jf (Je ?_)))));refine Eh ?_;refine Jc ?_;refine aa rfl rfl rfl p0 p1 rfl ?_;refine Je ?_;refine ig (j:=3) hy rfl rfl (by omega) p0 p1 rfl rfl rfl ?_;refine Ji (Jb ?_);refine ay rfl (fun h3=>?_) (fun h3=>?_);rotate_left
    ·have e9:En.lay6q y p=y:=by unfold En.lay6q;rw [if_neg (by simp only [beq_false_of_ne h3];simp)]
     rw [e9];refine al ?_;exact aC () ⟨rfl,rfl,rfl,rfl,rfl,rfl,rfl,rfl,rfl,rfl,rfl,rfl,rfl,rfl,trivial⟩ (fun h=>h)
    have e9:En.lay6q y p={ y with standing:=y.standing.set (y.pair p).1.toNat true }:=by unfold En.lay6q;rw [if_pos (beq_iff_eq.2 h3)]
    rw [e9];refine dZ (by kernel_rfl) rfl ?_;refine Xc (Xf (Xe ?_));refine Aw (fun _ _=>Eh Dn) ?_;refine Xc (Xf (Xe ?_));refine Aw (fun _ _=>Eh Dn) ?_;refine Xc ?_;refine Aw (fun _ _=>aa rfl rfl rfl p0 p1 rfl Dn) ?_;refine Xe ?_;refine Aw (fun _ _=>ig (j:=0) hy rfl rfl (by omega) p0 p1 rfl rfl rfl Dn) ?_;refine Aw (fun _ _=>Ei Dn) ?_;refine Aq fun bq=>?_;refine ES.standing hy rfl rfl u0 u1 ?_;refine aq ?_;exact aC () ⟨rfl,rfl,rfl,rfl,rfl,rfl,rfl,rfl,rfl,rfl,rfl,rfl,rfl,rfl,trivial⟩ (fun h=>h)
   refine aj ?_;refine Ka ?_;refine Jc ?_;refine aq ?_;exact Pa ⟨(j + 1,En.lay6q y p),hlt4,hy',hS3⟩
  refine aj ?_;refine Ka ?_;refine Jc ?_;refine aq ?_;exact Pa ⟨(i + 1,(En.lay6 t P1.of P2.bts e i)),hi',hk',hS⟩
 refine fk (φ:=∃ A c,sv=.slice A e6.told.length c) (fun w hw=>?_) (fun ⟨tA,tc,hsv⟩=>?_)
 ·obtain ⟨A,c,g1,g2⟩:=eK (pre:=[_,_]) hw
  rw [List.length_map] at g1;exact ⟨A,c,g1⟩
 subst hsv;refine Ja (Jc (Jc (Jf (Je ?_))));refine Eh ?_;refine Jg (Jf (Je ?_));refine ES.first rfl rfl ?_;refine Jb (Ja (Jc (Jf (Je (Je ?_)))));refine ES.up rfl rfl ?_;refine Jb (Ja (Jc (Jd (Jb ?_))));have hnp6:np=e6.pairs.length:=hk6.pairs.symm;refine aZ (rs:=[.tmp 4]) (vs:=[aK be]) rfl Tryz.results47 rfl (.tmp rfl aL.nil) fun w hw=>⟨⟨be,a,ib,ob,bb,pA,pc,.slice tA e6.told.length tc⟩,rfl,?_⟩;rw [show Fm t x n m facts ⟨be,a,ib,ob,bb,pA,pc,.slice tA e6.told.length tc⟩=_ from rfl];unfold Fm;rw [hS1,hD1];dsimp only;rw [← hnp6];exact St.take [0,1,2,3,4,5,6,7,8,9,10,11,12,13,14,17,18,19] hw
end
end
section
section
variable {n m:Nat} {t:ThV} {e:En} {facts:List Int}
abbrev A8 (t:ThV) (n m:Nat) (facts:List Int):Prop:=∀ (r:Nat),r < m→cZ t r=true→∀ s∈ap (aN t) r,∃ p,i2 ((En.pair1 t n m (En.layE t n m facts)).d.getD (ai t r).2.1.toNat []) s=some p∧0≤p∧p < ((En.pair1 t n m (En.layE t n m facts)).e.pairs.length:Nat)
theorem tT {α:Type} {f:En→α→En}:∀ {l:List α} {e:En},(∀ a∈l,∀ e,LOk n m e→LOk n m (f e a))→LOk n m e→LOk n m (l.foldl f e)
 | [],e,_,h=>h
 | a::l,e,hf,h=>tT (l:=l) (fun b hb=>hf b (List.mem_cons_of_mem _ hb)) (hf a (List.mem_cons_self ..) e h)
theorem rZ (ht:TOk n m t) (hfr:∀ q∈facts,0≤q∧q < n):LOk n m (En.layE t n m facts):=by
 have hn:=ht.small.1;have h1:LOk n m (dN (En.lay1 t) m 0 (En.lay0 n m)):=co (fun _ e=>LOk n m e) m 0 _ (fun j e _ _ h=>h.lay1) (LOk.new n m);have h2:LOk n m (facts.foldl En.lay2 (dN (En.lay1 t) m 0 (En.lay0 n m))):=tT (fun q hq e h=>h.tell hn (hfr q hq).1 (hfr q hq).2 (by omega) (by omega)) h1;have h3:=co (f:=En.lay3 t) (fun _ e=>LOk n m e) m 0 _ (fun j e _ hj h=>h.lay3 ht (by omega)) h2;have h4:=co (f:=En.lay4 (facts.foldl En.lay2F (List.replicate n false))) (fun _ e=>LOk n m e) n 0 _ (fun j e _ hj h=>h.lay4 hn (by omega)) h3;exact co (f:=En.lay5 t) (fun _ e=>LOk n m e) n 0 _ (fun j e _ hj h=>h.lay5) h4
theorem tH (ht:TOk n m t):bE n m (16 * 4096) (En.layIn t n m):=by
 have hm:=ht.small.2;have:=co (f:=En.lay1I t) (fun i L=>bE n m (16 * i) L) m 0 (List.replicate n []) (fun j L _ hj h=>tJ ht (by omega) h) (bE.new _ _ _);exact bE.mono this (Nat.le_refl _) (by omega)
theorem r6 (ht:TOk n m t) (hfr:∀ q∈facts,0≤q∧q < n) (hl:A8 t n m facts):∃ np,np≤64 * 4096∧np=(En.pair1 t n m (En.layE t n m facts)).e.pairs.length∧bE m np (64 * 4096) (En.layS t n m facts).of∧bE m np (4096 * 4096) (En.layS t n m facts).beats∧aE n m np (En.layD t n m facts):=by
 have h0:=rZ ht hfr;have h1:=lv ht h0;have h2:=tn ht h0 hl;have hof:bE m (En.pair1 t n m (En.layE t n m facts)).e.pairs.length (64 * 4096) (En.layS t n m facts).of:=h1.of.mono (Nat.le_refl _) h1.most;have hb:bE m (En.pair1 t n m (En.layE t n m facts)).e.pairs.length (4096 * 4096) (En.layS t n m facts).beats:=h2.bts;refine ⟨_,h1.most,rfl,hof,hb,?_⟩;have h3:=co (f:=En.lay6 t (En.layS t n m facts).of (En.layS t n m facts).beats) (fun _ x=>aE n m (En.pair1 t n m (En.layE t n m facts)).e.pairs.length x) m 0 _ (fun j y _ hj hy=>hy.lay6 (K:=4096 * 4096) (hof.mono (Nat.le_refl _) (by omega)) hb (by omega)) h2.e;exact ⟨h3.marks,h3.needD,h3.need,h3.deadD,h3.dead,h3.strict,h3.backs,h3.backed,h3.opn,h3.clash,h3.attacks,h3.standing,h3.pairs,h3.mks,h3.pr,h3.td,h3.cnt,h3.qd⟩
theorem xz {np:Nat} (ht:TOk n m t) (hof:bE m np (64 * 4096) (En.layS t n m facts).of) (hb:bE m np (4096 * 4096) (En.layS t n m facts).beats):fJ n m np (En.layS t n m facts):=by
 have hi:=tH ht;exact ⟨ht.lits,ht.foes,ht.rules,hi.len,hof.len,hb.len,ht.small,fun l hl=>(hi.row l hl).2,fun l hl=>(hof.row l hl).2,fun l hl=>(hb.row l hl).2,fun l hl=>(ht.foes2 l hl).2,fun r hr=>(ht.head r hr).1⟩
theorem wt {N K:Nat} {L:List (List Int)} (hN:N≤9223372036854775807) (hK:K * 8≤br) (h:bE n N K L):∀ l∈L,l.length * 8≤br∧C1 l:=fun l hl=>by
 have h1:=h.row l hl;refine ⟨by have:=h1.1;omega,fun x hx=>?_⟩;have:=h1.2 x hx;exact BC (by omega) (by omega)
end
section
variable {s:Es} {first i:Nat} {e:En} {q:Int}
theorem jQ (h:first≤i):En.does s first i e (q,2)=En.onLate s e q:=by simp [En.does,h]
theorem lz (h:¬ first≤i):En.does s first i e (q,2)=En.onNoD s e q:=by simp only [En.does,if_neg h];rfl
theorem BN:En.does s first i e (q,1)=En.onPlusD s e q:=rfl
theorem BM:En.does s first i e (q,3)=En.onPlus s e q:=rfl
theorem BL:En.does s first i e (q,4)=En.onMinus s e q:=rfl
end
attribute [local irreducible] RW CW
section
variable {n m:Nat} {t:ThV} {x:TC} {fA:Option Addr} {fc:Nat} {facts:List Int}
set_option maxHeartbeats 64000000 in
theorem Cs (ht:TOk n m t) (hfr:∀ q∈facts,0≤q∧q < n) (hl:A8 t n m facts) (w:World) (hT:gp (mem w (fun b=>¬ No b)) t x) (hF:Rd cO (mem w (fun b=>¬ No b)) [.slice fA facts.length fc] facts):
 iT Tryz.prog 25 [.agg (x.th t).toArray,.slice fA facts.length fc] w No (fun q:LQ=>aK q.be)
  (fun q=>enH q.be q.a (zL t x (En.layS t n m facts).inn (En.layS t n m facts).of (En.layS t n m facts).beats (En.layD t n m facts).told.length q.ib q.ob q.bb n m q.pA q.pc (En.layD t n m facts).pairs.length) n m q.sv (En.runD t n m facts)):=by
 have hle:=hq0 w;obtain ⟨np,hnp,hnpe,hof,hbt,hkD⟩:=r6 ht hfr hl;have hes:=xz (facts:=facts) ht hof hbt;have hin:=tH ht;obtain ⟨hn,hm⟩:=ht.small;have hnpD:(En.layD t n m facts).pairs.length=np:=hkD.pairs;have hfm:(En.layD t n m facts).told.length≤4 * n:=hkD.most;have hrun:En.runD t n m facts=En.work (En.layS t n m facts) (En.layD t n m facts).told.length (4 * n) 0 (dN (fun e q=>e.look q) n 0 (En.layD t n m facts)):=rfl;rw [hrun,hnpD];clear hrun;refine rq Tryz.func25 rfl _ rfl rfl (S:=No) (H:=[]) trivial ?_;refine bZ ?_;refine aS rfl rfl fun b2 _=>?_;refine Jd (Jb (Ja ?_));refine JE ?_;refine Jc ?_;refine dY Tryz.call47 rfl (fun w hw=>CV ht hfr hl w (hT.mono (au hw)) (hF.mono (au hw))) rfl fun ⟨be,a,ib,ob,bb,pA,pc,sv⟩=>?_;refine cH (c:=[.pointer none]) rfl rfl fun b5 _=>?_
 skip
 refine bQ [] rfl rfl rfl rfl rfl (by decide) ?_;refine aq (ah ?_);unfold Fm;rw [hnpD];dsimp only;obtain ⟨LS,hLS⟩:∃ LS,LS=En.layS t n m facts:=⟨_,rfl⟩;have hLt:t=LS.t:=by rw [hLS];rfl
 have hLi:LS.inn=En.layIn t n m:=by rw [hLS];rfl
 rw [← hLS] at hes hof hbt ⊢;rw [← hLi] at hin;clear hLS hLi;obtain ⟨t2,inn,of,bts⟩:=LS;dsimp only at hLt hof hbt hin ⊢;subst hLt;generalize En.layD t n m facts=D0 at *;obtain ⟨first,hfirst⟩:∃ first,first=D0.told.length:=⟨_,rfl⟩
 rw [← hfirst] at hfm ⊢;refine Ja ?_;refine JA ?_;refine Jx ?_;refine JA ?_;refine Jx ?_;refine JA ?_;refine Jx ?_;refine JA ?_;refine Jx ?_;refine eQ (v:=.agg (nq be).toArray) rfl (fun w=>by kernel_rfl) rfl ?_;refine cH (c:=[.nilFunc,.nilFunc,.nilFunc,.nilFunc,.nilFunc]) rfl rfl fun b6 _=>?_
 skip
 refine aX [] (vs:=nq be) rfl rfl rfl rfl rfl (by simp [Value.oneCell']) ?_;refine aq (ah ?_);refine cI (enH be a (zL t x inn of bts first ib ob bb n m pA pc np) n m sv D0++[blk b5 [aK be] 67,blk b6 (nq be) qL,blk b2 (x.th t) 25,bh ib n inn,bh ob m of,bh bb m bts]) (fun w A h=>Sep.take [2,3,4,5,6,7,8,9,10,11,12,13,14,15,16,1,0,20,17,18,19] h) ?_;refine dt [(2,aK b2),(5,aK b5),(6,aK b6)] ⟨rfl,rfl,rfl,trivial⟩ ?_;refine fk (φ:=DB (zL t x inn of bts first ib ob bb n m pA pc np)) (fun w hw h=>?_) (fun hP=>?_)
 ·obtain ⟨A,c,g1,g2⟩:=eK (pre:=[_,_,_,_,_,_,_,_,_,_,_,_,_,_]) hw
  simp only [Value.slice.injEq] at g1;obtain ⟨B,hB⟩:=g2 (by intro h2;exact h (by have:=congrArg List.length h2;rw [List.length_map,hkD.pairs] at this;simpa using this));exact ⟨B,g1.1.trans hB⟩
 obtain ⟨E0,hE0⟩:∃ E0,E0=dN (fun e (q:Nat)=>e.look (q:Int)) n 0 D0:=⟨_,rfl⟩;rw [← hE0];refine bf (ι:={ q:Value // aE n m np E0 }) (fun _=>[(2,aK b2),(5,aK b5),(6,aK b6)]) (fun q=>enH be a (zL t x inn of bts first ib ob bb n m pA pc np) n m q.1 E0++[blk b5 [aK be] 67,blk b6 (nq be) qL,blk b2 (x.th t) 25,bh ib n inn,bh ob m of,bh bb m bts]) ?_ (fun ⟨sv2,hkE⟩=>?_)
 ·refine Ja (Je ?_)
  refine dG [_,_,_,_,_,_,_,_,_,_,_,_,_,_,_,_,_] rfl rfl rfl rfl ?_;rw [ht.lits];refine Jc (Jb ?_);refine ak ?_
  refine aI (ι:={ q:Nat × En × Value // q.1≤n∧aE n m np q.2.1∧E0=dN (fun e (q:Nat)=>e.look (q:Int)) (n - q.1) q.1 q.2.1 })
   (fun q=>[(23,.int .i64 n),(24,.int .i64 q.1.1),(2,aK b2),(5,aK b5),(6,aK b6)]) (fun q=>enH be a (zL t x inn of bts first ib ob bb n m pA pc np) n m q.1.2.2 q.1.2.1++[blk b5 [aK be] 67,blk b6 (nq be) qL,blk b2 (x.th t) 25,bh ib n inn,bh ob m of,bh bb m bts]) (fun q=>n - q.1.1) ⟨(0,D0,sv),Nat.zero_le _,hkD,hE0⟩ ⟨rfl,rfl,rfl,rfl,rfl,trivial⟩ (fun h=>h) ?_
  intro ⟨⟨i,e,sv⟩,hi,hk,hS⟩;dsimp only at hi hk hS ⊢;refine Ja (Jk (Jb ?_));refine ar ?_;refine ay rfl (fun hlt=>?_) (fun hge=>?_);rotate_left
  ·have hW:E0=e:=by rw [hS,show n - i=0 by omega];rfl
   rw [hW]
   skip
   refine aG rfl ?_;exact aC ⟨sv,hW ▸ hk⟩ ⟨rfl,rfl,rfl,trivial⟩ (fun h=>h)
  have hi':i < n:=by omega
  have hq0:(0:Int)≤(i:Nat):=by omega
  have hq1:((i:Nat):Int) < n:=by omega
  rw [show n - i=(n - (i + 1)) + 1 by omega,dN] at hS;refine al (ah ?_);refine bf (ι:=Value) (fun _=>[(23,.int .i64 n),(24,.int .i64 i),(2,aK b2),(5,aK b5),(6,aK b6)]) (fun sv3=>enH be a (zL t x inn of bts first ib ob bb n m pA pc np) n m sv3 (e.look (i:Int))++[blk b5 [aK be] 67,blk b6 (nq be) qL,blk b2 (x.th t) 25,bh ib n inn,bh ob m of,bh bb m bts]) ?_ (fun sv3=>?_)
  ·refine ak ?_
   refine Ja (Jc (Jd (Jb ?_)));refine aj ?_;refine El ?_;refine Jc ?_;refine a8 (enH be a (zL t x inn of bts first ib ob bb n m pA pc np) n m sv e) Tryz.call52 rfl (fun w F _ hC _=>eP hn hk hq0 hq1 w F hC) rfl fun sv3=>?_;refine aq ?_;exact aC sv3 ⟨rfl,rfl,rfl,rfl,rfl,trivial⟩ (fun h=>h)
  refine aj ?_;refine Ka ?_;refine Jc ?_;refine aq ?_;exact Pa ⟨(i + 1,e.look (i:Int),sv3),hi',hk.look hn hq0 hq1,hS⟩
 clear hE0 hkD;refine ar ?_;refine Ja ?_;refine El ?_;refine dY Tryz.call53 rfl (fun w hw=>zh) rfl fun b1=>?_;refine aq (ah ?_);refine ak ?_;refine cI (wkH b1 b5 b6 be a (zL t x inn of bts first ib ob bb n m pA pc np) n m sv2 E0++[blk b2 (x.th t) 25]) (fun w A h=>?_) ?_
 ·have e1:=lq (by rw [hin.len];unfold br;omega) (wt (by omega) (by unfold br;omega) hin) (Sep.take [19,0,1,2,3,4,5,6,7,8,9,10,11,12,13,14,15,16,17,18,20,21] h)
  have e2:=lq (by rw [hof.len];unfold br;omega) (wt (by omega) (by unfold br;omega) hof) (Sep.take [20,0,1,2,3,4,5,6,7,8,9,10,11,12,13,14,15,16,17,18,19,21] e1);have e3:=lq (by rw [hbt.len];unfold br;omega) (wt (by omega) (by unfold br;omega) hbt) (Sep.take [21,0,1,2,3,4,5,6,7,8,9,10,11,12,13,14,15,16,17,18,19,20] e2);exact Sep.take [3,19,20,4,5,6,7,8,9,10,11,12,13,14,15,16,17,18,2,1,0,21] e3
 refine dt [(2,aK b2),(5,aK b5),(6,aK b6),(32,.func (.func 88) #[] #[aK b1])] ⟨rfl,rfl,rfl,rfl,trivial⟩ ?_;refine vI (wkH b1 b5 b6 be a (zL t x inn of bts first ib ob bb n m pA pc np) n m sv2 E0) (α:=Value) (c:=fun sv3=>wkH b1 b5 b6 be a (zL t x inn of bts first ib ob bb n m pA pc np) n m sv3 (En.work ⟨t,inn,of,bts⟩ first (4 * n) 0 E0)) Tryz.call88 rfl (fun w3 F3 l rec hrec hle3 hC _=>vS (z:=(zL t x inn of bts first ib ob bb n m pA pc np)) (first:=first) (by rw [hrec.ps];rfl) hes hkE (fun i e p sv w2 F2 hk hi hp hT hC=>?_) w3 F3 (hT.mono hle3) hC) (fun sv3 D=>?_)
 ·obtain ⟨⟨q0,q1⟩,k0,k1⟩:=hk.tdAt hp
  refine BX.enter hrec rfl rfl hC ?_;refine CI.seqR rfl (fun ⟨_,_,h⟩=>h) ?_;refine Jd ?_;refine aq (ie ?_);refine CI.region rfl (fun ⟨_,_,h⟩=>h) ?_;refine cH (c:=[.int .i64 0,.int .i64 0]) rfl rfl fun b9 _=>?_;refine aX [] (vs:=ku p) rfl rfl rfl rfl rfl (by simp [Value.oneCell']) ?_;refine aq ?_;refine fI (H':=cS l rec::blk b9 (ku p) 111::wkH b1 b5 b6 be a (zL t x inn of bts first ib ob bb n m pA pc np) n m sv e) (fun w A h=>Sep.take [1,0,2,3,4,5,6,7,8,9,10,11,12,13,14,15,16,17,18,19,20,21,22] h) ?_;refine A7 hrec.state ?_;refine CI.block ?_;refine CI.seq ?_;refine fI (H':=(blk b9 (ku p) 111::blk b5 [aK be] 67::cS l { rec with state:=.busy }::blk b6 (nq be) qL::blk b1 [aK be] 67::(enH be a (zL t x inn of bts first ib ob bb n m pA pc np) n m sv e++wkX n m (zL t x inn of bts first ib ob bb n m pA pc np)))) (fun w A h=>Sep.take [1,3,0,4,2,5,6,7,8,9,10,11,12,13,14,15,16,17,18,19,20,21,22] h) ?_;refine ie ?_;refine CI.seq ?_;refine CI.region rfl (fun ⟨_,_,h⟩=>h) ?_;obtain ⟨pq,pk⟩:=p;dsimp only at q0 q1 k0 k1;refine Je ?_;refine JA ?_;refine Ji (Jc ?_);refine aY 38 rfl (fun h1=>?_) (fun h1=>?_)
  ·subst h1
   refine Jy (Jc ?_);refine Jy ?_;refine JB ?_;refine Jy (Jf ?_);refine Jy (Je ?_);refine Jy ?_;refine dG [_,_,_,_,_] rfl rfl rfl rfl ?_;refine Jy (Jn (Jv ?_));refine aq (ie ?_);refine CI.ite rfl (fun h2=>?_) (fun h2=>?_)
   ·have e9:En.does ⟨t,inn,of,bts⟩ first i e (pq,2)=En.onLate ⟨t,inn,of,bts⟩ e pq:=jQ (by have h3:(first:Int)≤(i:Nat):=h2;omega)
    rw [e9];refine CI.seqR rfl (fun ⟨_,_,h⟩=>h) ?_;refine JB ?_;refine Je ?_;refine JA ?_;refine pt [5,6,7,8,9,10,11,12,13,14,15,16,17,18,19,0,1,2,3,4,20,21,22] (enH be a (zL t x inn of bts first ib ob bb n m pA pc np) n m sv e) rfl rfl rfl Tryz.call54 (fun w F hle hC hR=>uT hes hP rfl hk q0 q1 w F (vU (M:=fun _ _ _=>False) (Sep.take [5,6,7] hR) (hT.mono hle)) hC) fun sv3=>?_;refine aq (ie ?_);refine CI.exit rfl ?_;refine fI (H':=cS l { rec with state:=.busy }::wkH b1 b5 b6 be a (zL t x inn of bts first ib ob bb n m pA pc np) n m sv3 (En.onLate ⟨t,inn,of,bts⟩ e pq)) (fun w A h=>Sep.take [17,19,16,18,0,1,2,3,4,5,6,7,8,9,10,11,12,13,14,20,21,22] h) ?_;exact mR sv3 hrec.state hrec.pend
   refine CI.skip ?_;refine ie ?_;refine iX (by kernel_rfl) rfl (fun ⟨_,_,h⟩=>h) ?_;refine hY (by kernel_rfl) ?_;refine Xe ?_;refine Aw (fun _ _=>JA Dn) ?_;refine Aw (fun _ _=>ia rfl rfl (by omega) (by omega) rfl Dn) ?_;refine Aw (fun _ _=>JD Dn) ?_;refine Xe ?_;refine Aw (fun _ _=>JA Dn) ?_;refine Aq fun bq=>?_;refine ka [5,6,7,8,9,10,11,12,13,14,15,16,17,18,19,0,1,2,3,4,20,21,22] (enH be a (zL t x inn of bts first ib ob bb n m pA pc np) n m sv e) rfl rfl rfl rfl Tryz.call49 (fun w F hle hC hR=>qb hes hP rfl hk q0 q1 w F (vU (M:=fun _ _ _=>False) (Sep.take [5,6,7] hR) (hT.mono hle)) hC) fun sv3=>?_;refine aq ?_;have e9:En.does ⟨t,inn,of,bts⟩ first i e (pq,2)=En.onNoD ⟨t,inn,of,bts⟩ e pq:=lz (by have h3:¬ (first:Int)≤(i:Nat):=h2;omega)
   rw [e9];refine fI (H':=cS l { rec with state:=.busy }::wkH b1 b5 b6 be a (zL t x inn of bts first ib ob bb n m pA pc np) n m sv3 (En.onNoD ⟨t,inn,of,bts⟩ e pq)) (fun w A h=>Sep.take [17,19,16,18,0,1,2,3,4,5,6,7,8,9,10,11,12,13,14,20,21,22] h) ?_;exact mR sv3 hrec.state hrec.pend
  (iterate 6 refine Jz ?_);refine Jw ?_
  refine aq (ie ?_);refine CI.cf rfl ?_;refine CI.skip ?_;refine ie ?_;obtain rfl | rfl | rfl:pk=1∨pk=3∨pk=4:=by omega
  ·refine iX (by kernel_rfl) rfl (fun ⟨_,_,h⟩=>h) ?_
   refine hY (by kernel_rfl) ?_;refine Xe ?_;refine Aw (fun _ _=>JA Dn) ?_;refine Aw (fun _ _=>ia rfl rfl (by omega) (by omega) rfl Dn) ?_;refine Aw (fun _ _=>JD Dn) ?_;refine Xe ?_;refine Aw (fun _ _=>JA Dn) ?_;refine Aq fun bq=>?_;refine ka [5,6,7,8,9,10,11,12,13,14,15,16,17,18,19,0,1,2,3,4,20,21,22] (enH be a (zL t x inn of bts first ib ob bb n m pA pc np) n m sv e) rfl rfl rfl rfl Tryz.call48 (fun w F hle hC hR=>rQ hes hP rfl hk q0 q1 w F (vU (M:=fun _ _ _=>False) (Sep.take [5,6,7] hR) (hT.mono hle)) hC) fun sv3=>?_;refine aq ?_;have e9:En.does ⟨t,inn,of,bts⟩ first i e (pq,1)=En.onPlusD ⟨t,inn,of,bts⟩ e pq:=BN
   rw [e9];refine fI (H':=cS l { rec with state:=.busy }::wkH b1 b5 b6 be a (zL t x inn of bts first ib ob bb n m pA pc np) n m sv3 (En.onPlusD ⟨t,inn,of,bts⟩ e pq)) (fun w A h=>Sep.take [17,19,16,18,0,1,2,3,4,5,6,7,8,9,10,11,12,13,14,20,21,22] h) ?_;exact mR sv3 hrec.state hrec.pend
  ·refine iX (by kernel_rfl) rfl (fun ⟨_,_,h⟩=>h) ?_
   refine hY (by kernel_rfl) ?_;refine Xe ?_;refine Aw (fun _ _=>JA Dn) ?_;refine Aw (fun _ _=>ia rfl rfl (by omega) (by omega) rfl Dn) ?_;refine Aw (fun _ _=>JD Dn) ?_;refine Xe ?_;refine Aw (fun _ _=>JA Dn) ?_;refine Aq fun bq=>?_;refine ka [5,6,7,8,9,10,11,12,13,14,15,16,17,18,19,0,1,2,3,4,20,21,22] (enH be a (zL t x inn of bts first ib ob bb n m pA pc np) n m sv e) rfl rfl rfl rfl Tryz.call50 (fun w F hle hC hR=>uS hes hP rfl hk q0 q1 w F (vU (M:=fun _ _ _=>False) (Sep.take [5,6,7] hR) (hT.mono hle)) hC) fun sv3=>?_;refine aq ?_;have e9:En.does ⟨t,inn,of,bts⟩ first i e (pq,3)=En.onPlus ⟨t,inn,of,bts⟩ e pq:=BM
   rw [e9];refine fI (H':=cS l { rec with state:=.busy }::wkH b1 b5 b6 be a (zL t x inn of bts first ib ob bb n m pA pc np) n m sv3 (En.onPlus ⟨t,inn,of,bts⟩ e pq)) (fun w A h=>Sep.take [17,19,16,18,0,1,2,3,4,5,6,7,8,9,10,11,12,13,14,20,21,22] h) ?_;exact mR sv3 hrec.state hrec.pend
  refine iX (by kernel_rfl) rfl (fun ⟨_,_,h⟩=>h) ?_;refine hY (by kernel_rfl) ?_;refine Xe ?_;refine Aw (fun _ _=>JA Dn) ?_;refine Aw (fun _ _=>ia rfl rfl (by omega) (by omega) rfl Dn) ?_;refine Aw (fun _ _=>JD Dn) ?_;refine Xe ?_;refine Aw (fun _ _=>JA Dn) ?_;refine Aq fun bq=>?_;refine ka [5,6,7,8,9,10,11,12,13,14,15,16,17,18,19,0,1,2,3,4,20,21,22] (enH be a (zL t x inn of bts first ib ob bb n m pA pc np) n m sv e) rfl rfl rfl rfl Tryz.call51 (fun w F hle hC hR=>rR hes hP rfl hk q0 q1 w F (vU (M:=fun _ _ _=>False) (Sep.take [5,6,7] hR) (hT.mono hle)) hC) fun sv3=>?_;refine aq ?_;have e9:En.does ⟨t,inn,of,bts⟩ first i e (pq,4)=En.onMinus ⟨t,inn,of,bts⟩ e pq:=BL
  rw [e9];refine fI (H':=cS l { rec with state:=.busy }::wkH b1 b5 b6 be a (zL t x inn of bts first ib ob bb n m pA pc np) n m sv3 (En.onMinus ⟨t,inn,of,bts⟩ e pq)) (fun w A h=>Sep.take [17,19,16,18,0,1,2,3,4,5,6,7,8,9,10,11,12,13,14,20,21,22] h) ?_;exact mR sv3 hrec.state hrec.pend
 refine ah ?_;refine Ja ?_;refine JC ?_;refine Jd (Jb ?_)
 skip
 refine y7 rfl ?_;exact DC (rs:=[.tmp 4]) (vs:=[aK be]) Tryz.results25 rfl (.tmp rfl .nil) fun w hw=>⟨⟨be,a,ib,ob,bb,pA,pc,sv3⟩,rfl,St.take [3,4,5,6,7,8,9,10,11,12,13,14,15,16,17] hw⟩
end
end
end Go.Proofs.YtbcdgcodnkgdoaaGreat
namespace Go.Proofs.YtbcdgcodnkgdoaaGreat
open Go Go.RowKit
structure Cr where
 needD:List Int
 need:List Int
 deadD:List Bool
 dead:List Bool
 strict:List Int
 backs:List Int
 backed:List Bool
 opn:List Int
 clash:List Bool
 attacks:List Int
 standing:List Bool
 pairs:List (Int × Int × Bool × Int)
def En.core (e:En):Cr:=⟨e.needD,e.need,e.deadD,e.dead,e.strict,e.backs,e.backed,e.opn,e.clash,e.attacks,e.standing,e.pairs⟩
namespace Cr
def pair (c:Cr) (p:Int):Int × Int × Bool × Int:=c.pairs.getD p.toNat (0,0,false,0)
def settle (c:Cr) (p:Int):Cr:=if (c.pair p).2.2.1 then c else { c with pairs:=c.pairs.set p.toNat ((c.pair p).1,(c.pair p).2.1,true,(c.pair p).2.2.2),attacks:=En.dec c.attacks (c.pair p).1 }
def stand (c:Cr) (p:Int):Cr:=if (c.need.getD (c.pair p).2.1.toNat 0 == 0)&&((c.pair p).2.2.2 == 0)&&!c.standing.getD (c.pair p).1.toNat false then { c with standing:=c.standing.set (c.pair p).1.toNat true } else c
def back (c:Cr) (q:Int):Cr:=if c.backed.getD q.toNat false then c else { c with backed:=c.backed.set q.toNat true }
def fire1 (s:Es) (c:Cr) (r:Int):Cr:=if cZ s.t r then (ap s.beats r).foldl settle (c.back (ai s.t r).2.1) else c
def fire (s:Es) (c:Cr) (r:Int):Cr:=(ap s.of r).foldl stand (fire1 s c r)
def onPlusD1 (s:Es) (c:Cr) (r:Int):Cr:=if (ai s.t r).1 == 1 then { c with needD:=En.dec c.needD r } else c
def onPlusD2 (c:Cr) (f:Int):Cr:=if decide (0 < c.backs.getD f.toNat 0)&&!c.clash.getD f.toNat false then { c with clash:=c.clash.set f.toNat true } else c
def onNoD1 (s:Es) (c:Cr) (r:Int):Cr:=if (ai s.t r).1 == 1&&!c.deadD.getD r.toNat false then { c with deadD:=c.deadD.set r.toNat true,strict:=En.dec c.strict (ai s.t r).2.1 } else c
def onLate1 (c:Cr) (f:Int):Cr:=if decide (0 < c.backs.getD f.toNat 0) || c.backed.getD f.toNat false then { c with opn:=En.dec c.opn f } else c
def onPlus1 (s:Es) (c:Cr) (r:Int):Cr:=
 let c:={ c with need:=En.dec c.need r }
 if c.need.getD r.toNat 0 == 0 then fire s c r else c
def onMinus2 (c:Cr) (p:Int):Cr:=({ c with pairs:=c.pairs.set p.toNat ((c.pair p).1,(c.pair p).2.1,(c.pair p).2.2.1,En.w64 ((c.pair p).2.2.2 - 1)) }).stand p
def onMinus1 (s:Es) (c:Cr) (r:Int):Cr:=if c.dead.getD r.toNat false then c else
 let c:=(ap s.of r).foldl settle { c with dead:=c.dead.set r.toNat true }
 if cZ s.t r then (ap s.beats r).foldl onMinus2 { c with backs:=En.dec c.backs (ai s.t r).2.1 } else c
def onPlusD (s:Es) (c:Cr) (q:Int):Cr:=(ap (aH s.t) q).foldl onPlusD2 ((ap s.inn q).foldl (onPlusD1 s) c)
def onNoD (s:Es) (c:Cr) (q:Int):Cr:=(ap s.inn q).foldl (onNoD1 s) c
def onLate (s:Es) (c:Cr) (q:Int):Cr:=onNoD s ((ap (aH s.t) q).foldl onLate1 c) q
def onPlus (s:Es) (c:Cr) (q:Int):Cr:=(ap s.inn q).foldl (onPlus1 s) c
def onMinus (s:Es) (c:Cr) (q:Int):Cr:=(ap s.inn q).foldl (onMinus1 s) c
def does (s:Es) (first:Nat) (i:Nat) (c:Cr) (p:Int × Int):Cr:=
 if p.2 == 2 then (if first≤i then onLate s c p.1 else onNoD s c p.1)
 else if p.2 == 1 then onPlusD s c p.1
 else if p.2 == 3 then onPlus s c p.1
 else onMinus s c p.1
end Cr
section
variable {e:En} {s:Es} {q k r p f:Int}
theorem cw {α:Type} {f:En→α→En} {g:Cr→α→Cr} (h:∀ e a,(f e a).core=g e.core a):∀ {l:List α} {e:En},(l.foldl f e).core=l.foldl g e.core
 | [],e=>rfl
 | a::l,e=>by rw [List.foldl_cons,List.foldl_cons,cw h,h]
@[simp] theorem dS:(e.tell q k).core=e.core:=by unfold En.tell;split <;> rfl
@[simp] theorem ox:(e.look1 q).core=e.core:=by unfold En.look1;split <;> simp
@[simp] theorem DT:(e.look2 q).core=e.core:=by unfold En.look2;split <;> simp
@[simp] theorem dD:(e.look q).core=e.core:=by unfold En.look;simp
@[simp] theorem lA:(e.ups k).core=e.core:=rfl
theorem qW:e.pair p=e.core.pair p:=rfl
theorem gW:(e.settle p).core=e.core.settle p:=by
 unfold En.settle Cr.settle;rw [qW];split
 ·rfl
 ·rw [dD];rfl
theorem kM:(e.stand p).core=e.core.stand p:=by
 unfold En.stand Cr.stand;rw [qW];show (if (e.core.need.getD (e.core.pair p).2.1.toNat 0 == 0)&&((e.core.pair p).2.2.2 == 0)&&!e.core.standing.getD (e.core.pair p).1.toNat false then _ else e).core=_;split
 ·rw [dD];rfl
 ·rfl
theorem oy:(En.fire1 s e r).core=Cr.fire1 s e.core r:=by
 unfold En.fire1 Cr.fire1;split
 ·rw [dD,cw (g:=Cr.settle) (fun _ _=>gW)]
  congr 1
  unfold Cr.back;show (if e.backed.getD (ai s.t r).2.1.toNat false=true then e else _).core=if e.backed.getD (ai s.t r).2.1.toNat false=true then _ else _
  split <;> rfl
 ·rfl
theorem yj:(En.fire s e r).core=Cr.fire s e.core r:=by
 unfold En.fire Cr.fire;rw [cw (g:=Cr.stand) (fun _ _=>kM),oy]
theorem iQ:(En.upL s e r).core=e.core:=by unfold En.upL;split <;> rfl
theorem e8:(En.onPlusD1 s e r).core=Cr.onPlusD1 s e.core r:=by
 unfold En.onPlusD1 Cr.onPlusD1;split
 ·dsimp only
  have h:(En.lowerD s e r).core={ e.core with needD:=En.dec e.core.needD r }:=by unfold En.lowerD;rw [iQ];rfl
  split
  ·rw [dS,h]
  ·rw [h]
 ·rfl
theorem jY:(En.onPlusD2 e f).core=Cr.onPlusD2 e.core f:=by
 unfold En.onPlusD2 Cr.onPlusD2;show (if decide (0 < e.core.backs.getD f.toNat 0)&&!e.core.clash.getD f.toNat false then _ else e).core=_;split
 ·rw [dD];rfl
 ·rfl
theorem qX:(En.onPlusD s e q).core=Cr.onPlusD s e.core q:=by
 unfold En.onPlusD Cr.onPlusD;rw [dD,cw (g:=Cr.onPlusD2) (fun _ _=>jY),cw (g:=Cr.onPlusD1 s) (fun _ _=>e8)]
theorem jk:(En.onNoD1 s e r).core=Cr.onNoD1 s e.core r:=by
 unfold En.onNoD1 Cr.onNoD1;show (if (ai s.t r).1 == 1&&!e.core.deadD.getD r.toNat false then _ else e).core=_;split
 ·dsimp only
  unfold En.upL;split <;> split <;> first | (rw [dS];rfl) | rfl
 ·rfl
theorem ow:(En.onNoD s e q).core=Cr.onNoD s e.core q:=by
 unfold En.onNoD Cr.onNoD;rw [dD,cw (g:=Cr.onNoD1 s) (fun _ _=>jk)]
theorem iE:(En.onLate1 e f).core=Cr.onLate1 e.core f:=by
 unfold En.onLate1 Cr.onLate1;show (if decide (0 < e.core.backs.getD f.toNat 0) || e.core.backed.getD f.toNat false then _ else e).core=_;split
 ·rw [dD];rfl
 ·rfl
theorem sC:(En.onLate s e q).core=Cr.onLate s e.core q:=by
 unfold En.onLate Cr.onLate;rw [ow,cw (g:=Cr.onLate1) (fun _ _=>iE)]
theorem lc:(En.onPlus1 s e r).core=Cr.onPlus1 s e.core r:=by
 unfold En.onPlus1 Cr.onPlus1;have h:(En.lower s e r).core={ e.core with need:=En.dec e.core.need r }:=by unfold En.lower;rw [iQ];rfl
 dsimp only;have h2:(En.lower s e r).need=En.dec e.core.need r:=congrArg Cr.need h;rw [h2];split
 ·rw [yj,h]
 ·rw [h]
theorem sB:(En.onPlus s e q).core=Cr.onPlus s e.core q:=cw (g:=Cr.onPlus1 s) (fun _ _=>lc)
theorem jZ:(En.onMinus2 e p).core=Cr.onMinus2 e.core p:=by
 unfold En.onMinus2 Cr.onMinus2;rw [kM]
 rfl
theorem j3:(En.onMinus1 s e r).core=Cr.onMinus1 s e.core r:=by
 unfold En.onMinus1 Cr.onMinus1;show (if e.core.dead.getD r.toNat false=true then e else _).core=_;split
 ·rfl
 ·dsimp only
  have h:((ap s.of r).foldl En.settle (En.upL s { e with dead:=e.dead.set r.toNat true } r)).core=(ap s.of r).foldl Cr.settle { e.core with dead:=e.core.dead.set r.toNat true }:=by
   rw [cw (g:=Cr.settle) (fun _ _=>gW),iQ];rfl
  split
  ·rw [dD,cw (g:=Cr.onMinus2) (fun _ _=>jZ),lA]
   congr 1
   rw [← h];rfl
  ·exact h
theorem qY:(En.onMinus s e q).core=Cr.onMinus s e.core q:=cw (g:=Cr.onMinus1 s) (fun _ _=>j3)
theorem qZ {first i:Nat} {x:Int × Int}:(En.does s first i e x).core=Cr.does s first i e.core x:=by
 unfold En.does Cr.does;split
 ·split
  ·exact sC
  ·exact ow
 ·split
  ·exact qX
  ·split
   ·exact sB
   ·exact qY
end
end Go.Proofs.YtbcdgcodnkgdoaaGreat
namespace Go.Proofs.YtbcdgcodnkgdoaaGreat
open Go Go.RowKit
section
abbrev gi (l:List Int) (q:Int):Int:=l.getD q.toNat 0
abbrev gb (l:List Bool) (q:Int):Bool:=l.getD q.toNat false
theorem aV {α:Type} {l:List α} {n:Nat} {q x:Int} {v d:α} (hl:l.length=n) (q0:0≤q) (q1:q < n) (x0:0≤x):(l.set q.toNat v).getD x.toNat d=if x=q then v else l.getD x.toNat d:=by
 rw [List.getD_eq_getElem?_getD,List.getD_eq_getElem?_getD];split
 ·rename_i h
  rw [h,List.getElem?_set_self (by omega)]
  rfl
 ·rename_i h
  rw [List.getElem?_set_ne (by omega)]
def cN (m:Nat) (f:Int→Bool):Int:=((List.range m).countP (fun (i:Nat)=>f i):Nat)
theorem dM {m:Nat} {f:Int→Bool}:cN (m + 1) f=cN m f + (if f m=true then 1 else 0):=by
 unfold cN;rw [List.range_succ,List.countP_append,List.countP_singleton];split <;> simp_all
theorem bL {m:Nat} {f g:Int→Bool} (h:∀ (i:Int),0≤i→i < m→f i=g i):cN m f=cN m g:=by
 induction m with
 | zero=>rfl
 | succ m ih=>rw [dM,dM,ih (fun i h0 h1=>h i h0 (by omega)),h m (by omega) (by omega)]
theorem jl {m:Nat} {f g:Int→Bool} {r:Int} (r0:0≤r) (r1:r < m) (hf:f r=true) (hg:g r=false) (h:∀ (i:Int),0≤i→i < m→i≠r→f i=g i):cN m f=cN m g + 1:=by
 induction m with
 | zero=>omega
 | succ m ih=>
  rw [dM,dM];by_cases e:r=m
  ·subst e
   rw [hf,hg,bL (fun i h0 h1=>h i h0 (by omega) (by omega))];simp
  ·rw [ih (by omega) (fun i h0 h1=>h i h0 (by omega)),h m (by omega) (by omega) (fun e2=>e e2.symm)]
   split <;> omega
theorem ci (m:Nat) (f:Int→Bool):0≤cN m f:=by unfold cN;omega
theorem nu (m:Nat) (f:Int→Bool):cN m f≤m:=by
 unfold cN;have:=List.countP_le_length (p:=fun (i:Nat)=>f i) (l:=List.range m);rw [List.length_range] at this;omega
theorem cz {m:Nat} {f:Int→Bool}:cN m f=0↔∀ (i:Int),0≤i→i < m→f i=false:=by
 induction m with
 | zero=>exact ⟨fun _ i h0 h1=>by omega,fun _=>rfl⟩
 | succ m ih=>
  rw [dM];have hn:=ci m f;constructor
  ·intro h i h0 h1
   by_cases hf:f m=true
   ·rw [if_pos hf] at h;omega
   ·rw [if_neg hf] at h
    by_cases e:i=m
    ·subst e;simpa using hf
    ·exact ih.1 (by omega) i h0 (by omega)
  ·intro h
   rw [ih.2 (fun i h0 h1=>h i h0 (by omega)),h m (by omega) (by omega)];simp
theorem ue {m:Nat} {f:Int→Bool} {r:Int} (r0:0≤r) (r1:r < m) (h:f r=true):1≤cN m f:=by
 have hn:=ci m f;by_cases h0:cN m f=0
 ·rw [cz.1 h0 r r0 r1] at h;cases h
 ·omega
theorem jj {l:List Int} {f g:Int→Bool} {b:Int} (hn:l.Nodup) (hb:b∈l) (hf:f b=true) (hg:g b=false) (h:∀ i,i≠b→f i=g i):l.countP f=l.countP g + 1:=by
 induction l with
 | nil=>cases hb
 | cons a l ih=>
  rw [List.nodup_cons] at hn;rw [List.countP_cons,List.countP_cons];by_cases e:a=b
  ·subst e
   have h2:l.countP f=l.countP g:=List.countP_congr fun i hi=>by rw [h i (fun e=>hn.1 (e ▸ hi))]
   rw [h2,hf,hg];simp
  ·have hb2:b∈l:=by
    rcases List.mem_cons.1 hb with h1 | h1
    ·exact absurd h1.symm e
    ·exact h1
   rw [ih hn.2 hb2,h a e];omega
theorem c9 {l:List Int} {f g:Int→Bool} (h:∀ i∈l,f i=g i):l.countP f=l.countP g:=List.countP_congr fun i hi=>by rw [h i hi]
theorem eA {l:List Int} {f:Int→Bool}:l.countP f≤l.length:=List.countP_le_length
theorem dC {l:List Int} {f:Int→Bool}:l.countP f=0↔∀ i∈l,f i=false:=by
 rw [List.countP_eq_zero];exact ⟨fun h i hi=>by simpa using h i hi,fun h i hi=>by simp [h i hi]⟩
theorem ny {x:Int} (h0:-9223372036854775808≤x) (h1:x≤9223372036854775807):En.w64 x=x:=w64 h0 h1
theorem ji {l:List Int} {q:Int}:(En.dec l q).length=l.length:=by unfold En.dec;rw [List.length_set]
theorem i8 {l:List Int} {n:Nat} {q x:Int} (hl:l.length=n) (q0:0≤q) (q1:q < n) (x0:0≤x) (h0:-9223372036854775807≤gi l q) (h1:gi l q≤9223372036854775807):gi (En.dec l q) x=if x=q then gi l q - 1 else gi l x:=by
 unfold En.dec;dsimp only [gi] at h0 h1 ⊢;have:=aV (v:=En.w64 (l.getD q.toNat 0 - 1)) (d:=(0:Int)) hl q0 q1 x0;rw [ny (by omega) (by omega)] at this;rw [ny (by omega) (by omega)];exact this
end
section
abbrev bd (s:Es) (r:Int):List Int:=(ai s.t r).2.2
abbrev hd (s:Es) (r:Int):Int:=(ai s.t r).2.1
abbrev fC (s:Es) (r:Int):Bool:=(ai s.t r).1 == 1
structure Con (n m np:Nat) (s:Es) (pq ps:Int→Int):Prop where
 ok:fJ n m np s
 np1:np≤262144
 body:∀ (r:Int),0≤r→r < m→(bd s r).Nodup∧(bd s r).length≤16∧∀ b∈bd s r,0≤b∧b < n
 head:∀ (r:Int),0≤r→r < m→0≤hd s r∧hd s r < n
 inn:∀ (q:Int),0≤q→q < n→(ap s.inn q).Nodup∧∀ r,r∈ap s.inn q↔(0≤r∧r < m)∧q∈bd s r
 of:∀ (r:Int),0≤r→r < m→(ap s.of r).Nodup∧∀ p,p∈ap s.of r↔(0≤p∧p < np)∧ps p=r
 beats:∀ (t:Int),0≤t→t < m→(ap s.beats t).Nodup∧∀ p,p∈ap s.beats t→(0≤p∧p < np)∧cZ s.t t=true∧pq p=hd s t
 pr:∀ (p:Int),0≤p→p < np→(0≤pq p∧pq p < n)∧(0≤ps p∧ps p < m)
 foes:∀ (q:Int),0≤q→q < n→(ap (aH s.t) q).Nodup∧(ap (aH s.t) q).length≤64∧∀ f∈ap (aH s.t) q,0≤f∧f < n
def upd (dl:Int→Int→Int→Bool) (r b k:Int):Int→Int→Int→Bool:=fun r' b' k'=>dl r' b' k' || (r' == r&&b' == b&&k' == k)
section
variable {dl:Int→Int→Int→Bool} {r b k r' b' k':Int}
theorem pE:upd dl r b k r b k=true:=by simp [upd]
theorem mZ (h:k'≠k):upd dl r b k r' b' k'=dl r' b' k':=by simp [upd,h]
theorem lg (h:r'≠r):upd dl r b k r' b' k'=dl r' b' k':=by simp [upd,h]
theorem Ce (h:b'≠b):upd dl r b k r' b' k'=dl r' b' k':=by simp [upd,h]
end
structure jb (n m:Nat) (s:Es) (fact:Int→Bool) (dl:Int→Int→Int→Bool) (c:Cr):Prop where
 lnD:c.needD.length=m
 ldD:c.deadD.length=m
 lst:c.strict.length=n
 needD:∀ (r:Int),0≤r→r < m→fC s r=true→gi c.needD r=((bd s r).countP (fun b=>!dl r b 1):Nat)
 deadD:∀ (r:Int),0≤r→r < m→gb c.deadD r=(fC s r&&(bd s r).any (fun b=>dl r b 2))
 strict:∀ (q:Int),0≤q→q < n→fact q=false→gi c.strict q=cN m (fun r=>fC s r&&(hd s r == q)&&!gb c.deadD r)
 strictF:∀ (q:Int),0≤q→q < n→fact q=true→gi c.strict q=-1 - cN m (fun r=>fC s r&&(hd s r == q)&&gb c.deadD r)
section
variable {n m np:Nat} {s:Es} {pq ps:Int→Int} {fact:Int→Bool} {dl dl':Int→Int→Int→Bool} {c c':Cr} {r q:Int}
theorem jb.congr (h:jb n m s fact dl c) (h1:c'.needD=c.needD) (h2:c'.deadD=c.deadD) (h3:c'.strict=c.strict) (hd1:∀ r b,dl' r b 1=dl r b 1) (hd2:∀ r b,dl' r b 2=dl r b 2):jb n m s fact dl' c':=
 ⟨by rw [h1];exact h.lnD,by rw [h2];exact h.ldD,by rw [h3];exact h.lst,fun r r0 r1 hs=>by rw [h1,h.needD r r0 r1 hs];simp only [hd1],fun r r0 r1=>by rw [h2,h.deadD r r0 r1];simp only [hd2],fun q q0 q1 hf=>by rw [h2,h3];exact h.strict q q0 q1 hf,fun q q0 q1 hf=>by rw [h2,h3];exact h.strictF q q0 q1 hf⟩
theorem jb.strictR (hm:m≤4096) (h:jb n m s fact dl c) (q0:0≤q) (q1:q < n):-4097≤gi c.strict q∧gi c.strict q≤4096:=by
 cases hf:fact q with
 | false=>
  rw [h.strict q q0 q1 hf];have:=ci m (fun r=>fC s r&&(hd s r == q)&&!gb c.deadD r);have:=nu m (fun r=>fC s r&&(hd s r == q)&&!gb c.deadD r);omega
 | true=>
  rw [h.strictF q q0 q1 hf];have:=ci m (fun r=>fC s r&&(hd s r == q)&&gb c.deadD r);have:=nu m (fun r=>fC s r&&(hd s r == q)&&gb c.deadD r);omega
theorem jb.plusD1 (hc:Con n m np s pq ps) (h:jb n m s fact dl c) (r0:0≤r) (r1:r < m) (hq:q∈bd s r) (hn:dl r q 1=false):jb n m s fact (upd dl r q 1) (Cr.onPlusD1 s c r):=by
 obtain ⟨hnd,hlen,_⟩:=hc.body r r0 r1;have hU2:∀ r' b,upd dl r q 1 r' b 2=dl r' b 2:=fun r' b=>mZ (by decide);by_cases hs:fC s r=true
 ·have e:Cr.onPlusD1 s c r={ c with needD:=En.dec c.needD r }:=by unfold Cr.onPlusD1;rw [if_pos hs]
  rw [e];have hv:=h.needD r r0 r1 hs;have hle:=eA (l:=bd s r) (f:=fun b=>!dl r b 1);refine ⟨by show (En.dec _ _).length=m;rw [ji];exact h.lnD,h.ldD,h.lst,fun r' r0' r1' hs'=>?_,fun r' r0' r1'=>?_,h.strict,h.strictF⟩
  ·show gi (En.dec c.needD r) r'=_
   rw [i8 h.lnD r0 r1 r0' (by omega) (by omega)];by_cases er:r'=r
   ·subst er
    rw [if_pos rfl,hv];have:=jj (f:=fun b=>!dl r' b 1) (g:=fun b=>!upd dl r' q 1 r' b 1) hnd hq (by simp [hn]) (by simp [pE]) (fun i hi=>by rw [Ce hi]);omega
   ·rw [if_neg er,h.needD r' r0' r1' hs']
    congr 1
    exact c9 fun b _=>by rw [lg er]
  ·show gb c.deadD r'=_
   rw [h.deadD r' r0' r1'];simp only [hU2]
 ·have e:Cr.onPlusD1 s c r=c:=by unfold Cr.onPlusD1;rw [if_neg hs]
  rw [e];refine ⟨h.lnD,h.ldD,h.lst,fun r' r0' r1' hs'=>?_,fun r' r0' r1'=>?_,h.strict,h.strictF⟩
  ·rw [h.needD r' r0' r1' hs']
   congr 1
   exact c9 fun b _=>by rw [lg (r:=r) (fun (er:r'=r)=>hs (by rw [← er];exact hs'))]
  ·rw [h.deadD r' r0' r1']
   simp only [hU2]
theorem ph (hq:q∈bd s r) {k:Int}:(bd s r).any (fun b=>upd dl r q k r b k)=true:=List.any_eq_true.2 ⟨q,hq,pE⟩
theorem jb.noD1 (hc:Con n m np s pq ps) (hm:m≤4096) (h:jb n m s fact dl c) (r0:0≤r) (r1:r < m) (hq:q∈bd s r):jb n m s fact (upd dl r q 2) (Cr.onNoD1 s c r):=by
 have hU1:∀ r' b,upd dl r q 2 r' b 1=dl r' b 1:=fun r' b=>mZ (by decide);obtain ⟨h0,h1⟩:=hc.head r r0 r1;by_cases hs:(fC s r&&!gb c.deadD r)=true
 ·have e:Cr.onNoD1 s c r={ c with deadD:=c.deadD.set r.toNat true,strict:=En.dec c.strict (hd s r) }:=by unfold Cr.onNoD1;rw [if_pos hs]
  rw [e];rw [Bool.and_eq_true,Bool.not_eq_true'] at hs;obtain ⟨hs1,hs2⟩:=hs;have hset:∀ (x:Int),0≤x→gb (c.deadD.set r.toNat true) x=if x=r then true else gb c.deadD x:=fun x x0=>aV h.ldD r0 r1 x0
  have hR:=h.strictR hm h0 h1;refine ⟨h.lnD,by show (c.deadD.set _ _).length=m;rw [List.length_set];exact h.ldD,by show (En.dec _ _).length=n;rw [ji];exact h.lst,fun r' r0' r1' hs'=>?_,fun r' r0' r1'=>?_,fun x x0 x1 hf=>?_,fun x x0 x1 hf=>?_⟩
  ·show gi c.needD r'=_
   rw [h.needD r' r0' r1' hs'];simp only [hU1]
  ·show gb (c.deadD.set r.toNat true) r'=_
   rw [hset r' r0'];by_cases er:r'=r
   ·subst er
    rw [if_pos rfl,hs1,ph hq]
    rfl
   ·rw [if_neg er,h.deadD r' r0' r1']
    congr 1
    congr 1
    funext b
    rw [lg er]
  ·show gi (En.dec c.strict (hd s r)) x=cN m (fun r'=>fC s r'&&(hd s r' == x)&&!gb (c.deadD.set r.toNat true) r')
   rw [i8 h.lst h0 h1 x0 (by omega) (by omega)];by_cases ex:x=hd s r
   ·subst ex
    rw [if_pos rfl,h.strict _ h0 h1 hf];have:=jl (f:=fun r'=>fC s r'&&(hd s r' == hd s r)&&!gb c.deadD r') (g:=fun r'=>fC s r'&&(hd s r' == hd s r)&&!gb (c.deadD.set r.toNat true) r') r0 r1 (by simp only [hs1,hs2];simp) (by simp only [hset r r0];simp) (fun i i0 i1 hi=>by simp only [hset i i0,if_neg hi]);omega
   ·rw [if_neg ex,h.strict x x0 x1 hf]
    refine bL fun i i0 i1=>?_;by_cases ei:i=r
    ·subst ei
     have:(hd s i == x)=false:=by rw [beq_eq_false_iff_ne];exact fun h=>ex h.symm
     simp [this]
    ·rw [hset i i0,if_neg ei]
  ·show gi (En.dec c.strict (hd s r)) x=-1 - cN m (fun r'=>fC s r'&&(hd s r' == x)&&gb (c.deadD.set r.toNat true) r')
   rw [i8 h.lst h0 h1 x0 (by omega) (by omega)];by_cases ex:x=hd s r
   ·subst ex
    rw [if_pos rfl,h.strictF _ h0 h1 hf];have:=jl (g:=fun r'=>fC s r'&&(hd s r' == hd s r)&&gb c.deadD r') (f:=fun r'=>fC s r'&&(hd s r' == hd s r)&&gb (c.deadD.set r.toNat true) r') r0 r1 (by simp only [hset r r0,hs1];simp) (by simp only [hs2];simp) (fun i i0 i1 hi=>by simp only [hset i i0,if_neg hi]);omega
   ·rw [if_neg ex,h.strictF x x0 x1 hf]
    congr 1
    refine bL fun i i0 i1=>?_;by_cases ei:i=r
    ·subst ei
     have:(hd s i == x)=false:=by rw [beq_eq_false_iff_ne];exact fun h=>ex h.symm
     simp [this]
    ·rw [hset i i0,if_neg ei]
 ·have e:Cr.onNoD1 s c r=c:=by unfold Cr.onNoD1;rw [if_neg hs]
  rw [e];refine ⟨h.lnD,h.ldD,h.lst,fun r' r0' r1' hs'=>?_,fun r' r0' r1'=>?_,h.strict,h.strictF⟩
  ·rw [h.needD r' r0' r1' hs']
   simp only [hU1]
  ·rw [h.deadD r' r0' r1']
   by_cases er:r'=r
   ·subst er
    cases hs1:fC s r' with
    | false=>rfl
    | true=>
     rw [ph hq]
     have hd1:gb c.deadD r'=true:=by
      cases hd2:gb c.deadD r' with
      | true=>rfl
      | false=>exact absurd (by rw [hs1,hd2];rfl) hs
     rw [h.deadD r' r0' r1',hs1] at hd1;exact hd1
   ·congr 1
    congr 1
    funext b
    rw [lg er]
end
end
end Go.Proofs.YtbcdgcodnkgdoaaGreat
namespace Go.Proofs.YtbcdgcodnkgdoaaGreat
open Go Go.RowKit
namespace Cr
abbrev sett (c:Cr) (p:Int):Bool:=(c.pair p).2.2.1
abbrev left (c:Cr) (p:Int):Int:=(c.pair p).2.2.2
end Cr
structure gk (n np:Nat) (pq ps:Int→Int) (c:Cr):Prop where
 lpr:c.pairs.length=np
 lat:c.attacks.length=n
 prq:∀ (p:Int),0≤p→p < np→(c.pair p).1=pq p∧(c.pair p).2.1=ps p
 att:∀ (q:Int),0≤q→q < n→gi c.attacks q=cN np (fun p=>pq p == q&&!c.sett p)
section
variable {n m np:Nat} {s:Es} {pq ps:Int→Int} {c:Cr} {p q x:Int}
theorem gk.attR (hnp:np≤262144) (h:gk n np pq ps c) (q0:0≤q) (q1:q < n):0≤gi c.attacks q∧gi c.attacks q≤262144:=by
 rw [h.att q q0 q1];have:=ci np (fun p=>pq p == q&&!c.sett p);have:=nu np (fun p=>pq p == q&&!c.sett p);omega
theorem gS {v:Int × Int × Bool × Int} {P:List (Int × Int × Bool × Int)} (hl:P.length=np) (p0:0≤p) (p1:p < np) (x0:0≤x):(P.set p.toNat v).getD x.toNat (0,0,false,0)=if x=p then v else P.getD x.toNat (0,0,false,0):=aV hl p0 p1 x0
structure EW (np:Nat) (L:List Int) (c c':Cr):Prop where
 eq:c'={ c with pairs:=c'.pairs,attacks:=c'.attacks }
 sett:∀ (x:Int),0≤x→x < np→c'.sett x=(c.sett x || L.contains x)
 left:∀ (x:Int),0≤x→x < np→c'.left x=c.left x
theorem lT (hc:Con n m np s pq ps) (h:gk n np pq ps c) (p0:0≤p) (p1:p < np):gk n np pq ps (c.settle p)∧EW np [p] c (c.settle p):=by
 obtain ⟨⟨q0,q1⟩,_⟩:=hc.pr p p0 p1;obtain ⟨hp1,hp2⟩:=h.prq p p0 p1;by_cases hb:c.sett p=true
 ·have e:c.settle p=c:=by unfold Cr.settle;rw [if_pos hb]
  rw [e];refine ⟨h,rfl,fun x x0 x1=>?_,fun x x0 x1=>rfl⟩;by_cases ex:x=p
  ·subst ex;rw [hb];rfl
  ·have:[p].contains x=false:=by simp [ex]
   rw [this,Bool.or_false]
 ·have e:c.settle p={ c with pairs:=c.pairs.set p.toNat ((c.pair p).1,(c.pair p).2.1,true,(c.pair p).2.2.2),attacks:=En.dec c.attacks (c.pair p).1 }:=by unfold Cr.settle;rw [if_neg hb]
  have hb2:c.sett p=false:=by simpa using hb
  have hpx:∀ (x:Int),0≤x→(c.settle p).pair x=if x=p then ((c.pair p).1,(c.pair p).2.1,true,(c.pair p).2.2.2) else c.pair x:=fun x x0=>by rw [e];exact gS h.lpr p0 p1 x0
  have hs:∀ (x:Int),0≤x→(c.settle p).sett x=if x=p then true else c.sett x:=fun x x0=>by
   show ((c.settle p).pair x).2.2.1=_;rw [hpx x x0];split <;> rfl
  have hR:=h.attR hc.np1 q0 q1;refine ⟨⟨by rw [e];simp [h.lpr],by rw [e];show (En.dec _ _).length=n;rw [ji];exact h.lat,fun x x0 x1=>?_,fun y y0 y1=>?_⟩,⟨by rw [e],fun x x0 x1=>?_,fun x x0 x1=>?_⟩⟩
  ·rw [hpx x x0]
   split
   ·rename_i ex;subst ex;exact ⟨hp1,hp2⟩
   ·exact h.prq x x0 x1
  ·have ea:(c.settle p).attacks=En.dec c.attacks (pq p):=by rw [e,← hp1]
   rw [ea,i8 h.lat q0 q1 y0 (by omega) (by omega)];by_cases ey:y=pq p
   ·subst ey
    rw [if_pos rfl,h.att _ q0 q1];have:=jl (f:=fun x=>pq x == pq p&&!c.sett x) (g:=fun x=>pq x == pq p&&!(c.settle p).sett x) p0 p1 (by simp only [hb2];simp) (by simp only [hs p p0];simp) (fun i i0 i1 hi=>by simp only [hs i i0,if_neg hi]);omega
   ·rw [if_neg ey,h.att y y0 y1]
    refine bL fun i i0 i1=>?_;by_cases ei:i=p
    ·subst ei
     have:(pq i == y)=false:=by rw [beq_eq_false_iff_ne];exact fun h=>ey h.symm
     simp [this]
    ·rw [hs i i0,if_neg ei]
  ·rw [hs x x0]
   by_cases ex:x=p
   ·subst ex;simp
   ·have:[p].contains x=false:=by simp [ex]
    rw [if_neg ex,this,Bool.or_false]
  ·show ((c.settle p).pair x).2.2.2=_
   rw [hpx x x0];split
   ·rename_i ex;subst ex;rfl
   ·rfl
theorem fo (hc:Con n m np s pq ps):∀ {L:List Int} {c:Cr},gk n np pq ps c→(∀ p∈L,0≤p∧p < np)→gk n np pq ps (L.foldl Cr.settle c)∧EW np L c (L.foldl Cr.settle c)
 | [],c,h,_=>⟨h,rfl,fun x _ _=>by simp,fun x _ _=>rfl⟩
 | p::L,c,h,hL=>by
  obtain ⟨p0,p1⟩:=hL p (List.mem_cons_self ..);obtain ⟨h1,k1⟩:=lT hc h p0 p1;obtain ⟨h2,k2⟩:=fo hc (L:=L) h1 (fun p hp=>hL p (List.mem_cons_of_mem _ hp));rw [List.foldl_cons];refine ⟨h2,?_,fun x x0 x1=>?_,fun x x0 x1=>?_⟩
  ·have e1:=k1.eq
   have e2:=k2.eq;generalize L.foldl Cr.settle (c.settle p)=c2 at *;rw [e2];generalize c.settle p=c1 at *;rw [e1]
  ·rw [k2.sett x x0 x1,k1.sett x x0 x1,show (p::L).contains x=([p].contains x || L.contains x) by simp [List.contains_cons],Bool.or_assoc]
  ·rw [k2.left x x0 x1,k1.left x x0 x1]
def dJ (c:Cr) (pq ps:Int→Int) (L:List Int) (q:Int):Bool:=L.any fun p=>pq p == q&&(gi c.need (ps p) == 0)&&(c.left p == 0)
theorem js (hc:Con n m np s pq ps) (hl:c.standing.length=n) (h:gk n np pq ps c) (p0:0≤p) (p1:p < np):(c.stand p)={ c with standing:=(c.stand p).standing }∧(c.stand p).standing.length=n∧∀ (q:Int),0≤q→q < n→gb (c.stand p).standing q=(gb c.standing q || dJ c pq ps [p] q):=by
 obtain ⟨⟨q0,q1⟩,_⟩:=hc.pr p p0 p1;obtain ⟨hp1,hp2⟩:=h.prq p p0 p1;have hB:∀ q,dJ c pq ps [p] q=(pq p == q&&(gi c.need (ps p) == 0)&&(c.left p == 0)):=fun q=>by unfold dJ;simp
 by_cases hb:((c.need.getD (c.pair p).2.1.toNat 0 == 0)&&((c.pair p).2.2.2 == 0)&&!c.standing.getD (c.pair p).1.toNat false)=true
 ·have e:c.stand p={ c with standing:=c.standing.set (pq p).toNat true }:=by unfold Cr.stand;rw [if_pos hb,hp1]
  rw [e];rw [hp1,hp2] at hb;rw [Bool.and_eq_true,Bool.and_eq_true] at hb;refine ⟨rfl,by simp [hl],fun q g0 g1=>?_⟩;show gb (c.standing.set (pq p).toNat true) q=_;rw [show gb (c.standing.set (pq p).toNat true) q=if q=pq p then true else gb c.standing q from aV hl q0 q1 g0,hB];split
  ·rename_i eq
   subst eq;rw [show (gi c.need (ps p) == 0)=true from hb.1.1,show (c.left p == 0)=true from hb.1.2];simp
  ·rename_i eq
   have:(pq p == q)=false:=by rw [beq_eq_false_iff_ne];exact fun h=>eq h.symm
   rw [this];simp
 ·have e:c.stand p=c:=by unfold Cr.stand;rw [if_neg hb]
  rw [e];refine ⟨rfl,hl,fun q g0 g1=>?_⟩;rw [hB];rw [hp1,hp2] at hb;by_cases eq:pq p=q
  ·subst eq
   cases h3:gb c.standing (pq p) with
   | true=>rfl
   | false=>
    rw [show (c.standing.getD (pq p).toNat false)=false from h3] at hb;simp only [Bool.not_false,Bool.and_true,Bool.not_eq_true] at hb;rw [Bool.false_or,Bool.and_assoc];show false=(_&&((c.need.getD (ps p).toNat 0 == 0)&&((c.pair p).2.2.2 == 0)));rw [hb,Bool.and_false]
  ·have:(pq p == q)=false:=by rw [beq_eq_false_iff_ne];exact eq
   rw [this];simp
theorem kX {c c':Cr} {L:List Int} (h1:c'.need=c.need) (h2:c'.pairs=c.pairs):dJ c' pq ps L q=dJ c pq ps L q:=by unfold dJ Cr.left Cr.pair;rw [h1,h2]
theorem gk.congr {c':Cr} (h:gk n np pq ps c) (h1:c'.pairs=c.pairs) (h2:c'.attacks=c.attacks):gk n np pq ps c':=by
 obtain ⟨a1,a2,a3,a4⟩:=h;refine ⟨by rw [h1];exact a1,by rw [h2];exact a2,fun p p0 p1=>?_,fun q q0 q1=>?_⟩
 ·unfold Cr.pair;rw [h1];exact a3 p p0 p1
 ·rw [h2,a4 q q0 q1]
  unfold Cr.sett Cr.pair;rw [h1]
theorem pK (hc:Con n m np s pq ps):∀ {L:List Int} {c:Cr},c.standing.length=n→gk n np pq ps c→(∀ p∈L,0≤p∧p < np)→
 (L.foldl Cr.stand c)={ c with standing:=(L.foldl Cr.stand c).standing }∧(L.foldl Cr.stand c).standing.length=n∧∀ (q:Int),0≤q→q < n→gb (L.foldl Cr.stand c).standing q=(gb c.standing q || dJ c pq ps L q)
 | [],c,hl,h,_=>⟨rfl,hl,fun q _ _=>by simp [dJ]⟩
 | p::L,c,hl,h,hL=>by
  obtain ⟨p0,p1⟩:=hL p (List.mem_cons_self ..);obtain ⟨e1,l1,k1⟩:=js hc hl h p0 p1;have h1:gk n np pq ps (c.stand p):=h.congr (by rw [e1]) (by rw [e1]);obtain ⟨e2,l2,k2⟩:=pK hc (L:=L) l1 h1 (fun p hp=>hL p (List.mem_cons_of_mem _ hp));rw [List.foldl_cons];refine ⟨?_,l2,fun q q0 q1=>?_⟩
  ·generalize L.foldl Cr.stand (c.stand p)=c2 at *
   rw [e2];generalize c.stand p=c1 at *;rw [e1]
  ·rw [k2 q q0 q1,k1 q q0 q1,kX (c:=c) (c':=c.stand p) (by rw [e1]) (by rw [e1])]
   have:dJ c pq ps (p::L) q=(dJ c pq ps [p] q || dJ c pq ps L q):=by unfold dJ;simp
   rw [this,Bool.or_assoc]
end
end Go.Proofs.YtbcdgcodnkgdoaaGreat
namespace Go.Proofs.YtbcdgcodnkgdoaaGreat
open Go Go.RowKit
section
section
variable {n m np:Nat} {s:Es} {pq ps:Int→Int} {c:Cr} {p q x:Int}
structure E8 (n np:Nat) (pq ps:Int→Int) (L:List Int) (c c':Cr):Prop where
 eq:c'={ c with pairs:=c'.pairs,standing:=c'.standing }
 ls:c'.standing.length=n
 sett:∀ (x:Int),0≤x→x < np→c'.sett x=c.sett x
 left:∀ (x:Int),0≤x→x < np→c'.left x=if x∈L then c.left x - 1 else c.left x
 stand:∀ (q:Int),0≤q→q < n→gb c'.standing q=(gb c.standing q || dJ c' pq ps L q)
theorem xg (hc:Con n m np s pq ps) (hl:c.standing.length=n) (h:gk n np pq ps c) (p0:0≤p) (p1:p < np) (hb0:1≤c.left p) (hb1:c.left p≤4096):gk n np pq ps (c.onMinus2 p)∧E8 n np pq ps [p] c (c.onMinus2 p):=by
 obtain ⟨hp1,hp2⟩:=h.prq p p0 p1;obtain ⟨c1,hc1⟩:∃ c1:Cr,c1={ c with pairs:=c.pairs.set p.toNat ((c.pair p).1,(c.pair p).2.1,(c.pair p).2.2.1,En.w64 ((c.pair p).2.2.2 - 1)) }:=⟨_,rfl⟩;have e:c.onMinus2 p=c1.stand p:=by rw [hc1];rfl
 have hpx:∀ (x:Int),0≤x→c1.pair x=if x=p then ((c.pair p).1,(c.pair p).2.1,(c.pair p).2.2.1,c.left p - 1) else c.pair x:=fun x x0=>by
  have hw:En.w64 (c.left p - 1)=c.left p - 1:=ny (by omega) (by omega);have:=gS (v:=((c.pair p).1,(c.pair p).2.1,(c.pair p).2.2.1,En.w64 (c.left p - 1))) h.lpr p0 p1 x0;rw [hc1];refine Eq.trans this ?_;rw [hw];rfl
 have hset:∀ (x:Int),0≤x→c1.sett x=c.sett x:=fun x x0=>by
  show (c1.pair x).2.2.1=_;rw [hpx x x0];split
  ·rename_i ex;subst ex;rfl
  ·rfl
 have h1:gk n np pq ps c1:=by
  refine ⟨by rw [hc1];simp [h.lpr],by rw [hc1];exact h.lat,fun x x0 x1=>?_,fun y y0 y1=>?_⟩
  ·rw [hpx x x0];split
   ·rename_i ex;subst ex;exact ⟨hp1,hp2⟩
   ·exact h.prq x x0 x1
  ·rw [show c1.attacks=c.attacks by rw [hc1],h.att y y0 y1]
   exact bL fun i i0 i1=>by simp only [hset i i0]
 obtain ⟨e2,l2,k2⟩:=js hc (by rw [hc1];exact hl) h1 p0 p1;rw [e];have hpairs:(c1.stand p).pairs=c1.pairs:=by rw [e2]
 have hneed:(c1.stand p).need=c1.need:=by rw [e2]
 refine ⟨h1.congr hpairs (by rw [e2]),⟨by rw [e2,hc1],l2,fun x x0 x1=>?_,fun x x0 x1=>?_,fun q q0 q1=>?_⟩⟩
 ·rw [show (c1.stand p).sett x=c1.sett x by unfold Cr.sett Cr.pair;rw [hpairs]]
  exact hset x x0
 ·rw [show (c1.stand p).left x=c1.left x by unfold Cr.left Cr.pair;rw [hpairs]]
  show (c1.pair x).2.2.2=_;rw [hpx x x0];by_cases ex:x=p
  ·subst ex;simp
  ·rw [if_neg ex,if_neg (by simp [ex])]
 ·rw [k2 q q0 q1,kX (c:=c1) (c':=c1.stand p) hneed hpairs]
  rw [show c1.standing=c.standing by rw [hc1]]
theorem n5 (hc:Con n m np s pq ps):∀ {L:List Int} {c:Cr},L.Nodup→c.standing.length=n→gk n np pq ps c→(∀ p∈L,(0≤p∧p < np)∧1≤c.left p∧c.left p≤4096)→gk n np pq ps (L.foldl Cr.onMinus2 c)∧E8 n np pq ps L c (L.foldl Cr.onMinus2 c)
 | [],c,_,hl,h,_=>⟨h,rfl,hl,fun x _ _=>rfl,fun x _ _=>by simp,fun q _ _=>by simp [dJ]⟩
 | p::L,c,hn,hl,h,hL=>by
  rw [List.nodup_cons] at hn;obtain ⟨⟨p0,p1⟩,b0,b1⟩:=hL p (List.mem_cons_self ..);obtain ⟨h1,k1⟩:=xg hc hl h p0 p1 b0 b1
  obtain ⟨h2,k2⟩:=n5 hc (L:=L) hn.2 k1.ls h1 (fun x hx=>by
   obtain ⟨⟨x0,x1⟩,c0,c1⟩:=hL x (List.mem_cons_of_mem _ hx);refine ⟨⟨x0,x1⟩,?_⟩;rw [k1.left x x0 x1,if_neg (by intro hm;rw [List.mem_singleton] at hm;exact hn.1 (hm ▸ hx))];exact ⟨c0,c1⟩)
  rw [List.foldl_cons];have e1:=k1.eq;have e2:=k2.eq;generalize L.foldl Cr.onMinus2 (c.onMinus2 p)=c2 at *;generalize c.onMinus2 p=c1 at *
  have hleft:∀ (x:Int),0≤x→x < np→c2.left x=if x∈p::L then c.left x - 1 else c.left x:=fun x x0 x1=>by
   rw [k2.left x x0 x1,k1.left x x0 x1];by_cases ex:x=p
   ·subst ex
    rw [if_neg hn.1,if_pos (by simp),if_pos (by simp)]
   ·rw [if_neg (c:=x∈[p]) (by simp [ex])]
    by_cases hx:x∈L
    ·rw [if_pos hx,if_pos (by simp [hx])]
    ·rw [if_neg hx,if_neg (by simp [hx,ex])]
  refine ⟨h2,?_,k2.ls,fun x x0 x1=>by rw [k2.sett x x0 x1,k1.sett x x0 x1],hleft,fun q q0 q1=>?_⟩
  ·rw [e2,e1]
  ·rw [k2.stand q q0 q1,k1.stand q q0 q1]
   have hneed:c2.need=c1.need:=by rw [e2]
   have hp:c2.left p=c1.left p:=by rw [k2.left p p0 p1,if_neg hn.1]
   have:dJ c2 pq ps (p::L) q=(dJ c1 pq ps [p] q || dJ c2 pq ps L q):=by
    unfold dJ;rw [List.any_cons,hp,hneed];simp
   rw [this,Bool.or_assoc]
end
structure gq (n m np:Nat) (s:Es) (pq ps:Int→Int) (dl df:Int→Int→Int→Bool) (c:Cr):Prop where
 lnd:c.need.length=m
 ldd:c.dead.length=m
 lbk:c.backs.length=n
 lbd:c.backed.length=n
 lop:c.opn.length=n
 lcl:c.clash.length=n
 lsd:c.standing.length=n
 pr:gk n np pq ps c
 need:∀ (r:Int),0≤r→r < m→gi c.need r=((bd s r).countP (fun b=>!dl r b 3):Nat)
 dead:∀ (r:Int),0≤r→r < m→gb c.dead r=(bd s r).any (fun b=>dl r b 4)
 backs:∀ (q:Int),0≤q→q < n→gi c.backs q=cN m (fun r=>cZ s.t r&&(hd s r == q)&&!gb c.dead r)
 backed:∀ (q:Int),0≤q→q < n→(gb c.backed q=true↔∃ (r:Int),(0≤r∧r < m)∧cZ s.t r=true∧hd s r=q∧gi c.need r=0)
 opn1:∀ (q:Int),0≤q→q < n→((ap (aH s.t) q).countP (fun f=>!df q f 2):Nat)≤gi c.opn q∧gi c.opn q≤64
 opn2:∀ (q:Int),0≤q→q < n→gi c.opn q=((ap (aH s.t) q).countP (fun f=>!df q f 2):Nat)∨(gi c.backs q=0∧gb c.backed q=false)
 clash1:∀ (q:Int),0≤q→q < n→gb c.clash q=true→∃ f∈ap (aH s.t) q,df q f 1=true
 clash2:∀ (q:Int),0≤q→q < n→∀ f∈ap (aH s.t) q,df q f 1=true→gb c.clash q=true∨gi c.backs q=0
 sett:∀ (p:Int),0≤p→p < np→(c.sett p=true↔gb c.dead (ps p)=true∨∃ (t:Int),(0≤t∧t < m)∧p∈ap s.beats t∧gi c.need t=0)
 left:∀ (p:Int),0≤p→p < np→c.left p=cN m (fun t=>decide (p∈ap s.beats t)&&!gb c.dead t)
 stand:∀ (q:Int),0≤q→q < n→(gb c.standing q=true↔∃ (p:Int),(0≤p∧p < np)∧pq p=q∧gi c.need (ps p)=0∧c.left p=0)
end
section
section
variable {n m np:Nat} {s:Es} {pq ps:Int→Int} {dl df:Int→Int→Int→Bool} {c:Cr} {p q r x:Int}
theorem sL {h:Int} (hl:c.backed.length=n) (h0:0≤h) (h1:h < n):c.back h={ c with backed:=(c.back h).backed }∧(c.back h).backed.length=n∧∀ (q:Int),0≤q→q < n→(gb (c.back h).backed q=true↔gb c.backed q=true∨h=q):=by
 unfold Cr.back;split
 ·rename_i hb
  exact ⟨rfl,hl,fun q q0 q1=>⟨.inl,fun k=>k.elim id (fun e=>e ▸ hb)⟩⟩
 ·refine ⟨rfl,by simp [hl],fun q q0 q1=>?_⟩
  rw [show gb (c.backed.set h.toNat true) q=if q=h then true else gb c.backed q from aV hl h0 h1 q0];split
  ·rename_i e;exact ⟨fun _=>.inr e.symm,fun _=>rfl⟩
  ·rename_i e;exact ⟨.inl,fun k=>k.elim id (fun e2=>absurd e2.symm e)⟩
structure Fb (n np:Nat) (s:Es) (pq ps:Int→Int) (r:Int) (c c':Cr):Prop where
 eq:c'={ c with backed:=c'.backed,pairs:=c'.pairs,attacks:=c'.attacks,standing:=c'.standing }
 pr:gk n np pq ps c'
 lbd:c'.backed.length=n
 lsd:c'.standing.length=n
 backed:∀ (q:Int),0≤q→q < n→(gb c'.backed q=true↔gb c.backed q=true∨(cZ s.t r=true∧hd s r=q))
 sett:∀ (x:Int),0≤x→x < np→(c'.sett x=true↔c.sett x=true∨x∈ap s.beats r)
 left:∀ (x:Int),0≤x→x < np→c'.left x=c.left x
 stand:∀ (q:Int),0≤q→q < n→(gb c'.standing q=true↔gb c.standing q=true∨∃ p,p∈ap s.of r∧pq p=q∧gi c.need (ps p)=0∧c.left p=0)
theorem nE {L:List Int}:dJ c pq ps L q=true↔∃ p,p∈L∧pq p=q∧gi c.need (ps p)=0∧c.left p=0:=by
 unfold dJ;rw [List.any_eq_true];constructor
 ·rintro ⟨p,hp,h⟩
  rw [Bool.and_eq_true,Bool.and_eq_true] at h;exact ⟨p,hp,beq_iff_eq.1 h.1.1,beq_iff_eq.1 h.1.2,beq_iff_eq.1 h.2⟩
 ·rintro ⟨p,hp,h1,h2,h3⟩
  exact ⟨p,hp,by rw [Bool.and_eq_true,Bool.and_eq_true];exact ⟨⟨beq_iff_eq.2 h1,beq_iff_eq.2 h2⟩,beq_iff_eq.2 h3⟩⟩
theorem xY (hc:Con n m np s pq ps) (lbd:c.backed.length=n) (lsd:c.standing.length=n) (h:gk n np pq ps c) (r0:0≤r) (r1:r < m):Fb n np s pq ps r c (Cr.fire s c r):=by
 obtain ⟨h0,h1⟩:=hc.head r r0 r1;have hbt:=(hc.beats r r0 r1).2;have hof:=(hc.of r r0 r1).2
 have key:∃ c3,Cr.fire1 s c r=c3∧c3={ c with backed:=c3.backed,pairs:=c3.pairs,attacks:=c3.attacks }∧gk n np pq ps c3∧c3.backed.length=n∧(∀ (q:Int),0≤q→q < n→(gb c3.backed q=true↔gb c.backed q=true∨(cZ s.t r=true∧hd s r=q))) ∧
  (∀ (x:Int),0≤x→x < np→(c3.sett x=true↔c.sett x=true∨x∈ap s.beats r))∧(∀ (x:Int),0≤x→x < np→c3.left x=c.left x):=by
  refine ⟨_,rfl,?_⟩;unfold Cr.fire1;by_cases hs:cZ s.t r=true
  ·rw [if_pos hs]
   obtain ⟨e1,l1,k1⟩:=sL (c:=c) lbd h0 h1;have hp1:gk n np pq ps (c.back (hd s r)):=h.congr (by rw [e1]) (by rw [e1]);obtain ⟨hp2,k2⟩:=fo hc (L:=ap s.beats r) hp1 (fun p hp=>(hbt p hp).1);have e2:=k2.eq;have ks:=k2.sett;have kl:=k2.left;have hpr:(c.back (hd s r)).pairs=c.pairs:=by rw [e1]
   have hss:∀ x,(c.back (hd s r)).sett x=c.sett x:=fun x=>by unfold Cr.sett Cr.pair;rw [hpr]
   have hll:∀ x,(c.back (hd s r)).left x=c.left x:=fun x=>by unfold Cr.left Cr.pair;rw [hpr]
   show _=_∧_;change (ap s.beats r).foldl Cr.settle (c.back (hd s r))=_∧gk n np pq ps ((ap s.beats r).foldl Cr.settle (c.back (hd s r)))∧_;generalize (ap s.beats r).foldl Cr.settle (c.back (hd s r))=c3 at *;have hb3:c3.backed=(c.back (hd s r)).backed:=by rw [e2]
   refine ⟨?_,hp2,by rw [hb3];exact l1,fun q q0 q1=>?_,fun x x0 x1=>?_,fun x x0 x1=>by rw [kl x x0 x1,hll]⟩
   ·rw [e2]
    generalize c.back (hd s r)=c1 at *;rw [e1]
   ·rw [hb3,k1 q q0 q1]
    exact ⟨fun k=>k.imp id (fun e=>⟨hs,e⟩),fun k=>k.imp id (fun e=>e.2)⟩
   ·rw [ks x x0 x1,hss,Bool.or_eq_true,List.contains_iff_mem]
  ·rw [if_neg hs]
   refine ⟨rfl,h,lbd,fun q q0 q1=>⟨.inl,fun k=>k.elim id (fun e=>absurd e.1 hs)⟩,fun x x0 x1=>⟨.inl,fun k=>k.elim id (fun e=>absurd (hbt x e).2.1 hs)⟩,fun x x0 x1=>rfl⟩
 obtain ⟨c3,e3,f1,f2,f3,f4,f5,f6⟩:=key;unfold Cr.fire;rw [e3];obtain ⟨g1,g2,g3⟩:=pK hc (L:=ap s.of r) (c:=c3) (by rw [f1];exact lsd) f2 (fun p hp=>((hof p).1 hp).1);have hst:c3.standing=c.standing:=by rw [f1]
 have hnd:c3.need=c.need:=by rw [f1]
 generalize (ap s.of r).foldl Cr.stand c3=c4 at *;have hpr:c4.pairs=c3.pairs:=by rw [g1]
 refine ⟨?_,f2.congr hpr (by rw [g1]),by rw [g1];exact f3,g2,fun q q0 q1=>by rw [g1];exact f4 q q0 q1,fun x x0 x1=>?_,fun x x0 x1=>?_,fun q q0 q1=>?_⟩
 ·rw [g1,f1]
 ·rw [show c4.sett x=c3.sett x by unfold Cr.sett Cr.pair;rw [hpr]];exact f5 x x0 x1
 ·rw [show c4.left x=c3.left x by unfold Cr.left Cr.pair;rw [hpr]];exact f6 x x0 x1
 ·rw [g3 q q0 q1,Bool.or_eq_true,nE,hst,hnd]
  refine or_congr Iff.rfl ⟨fun ⟨p,h1,h2,h3,h4⟩=>⟨p,h1,h2,h3,?_⟩,fun ⟨p,h1,h2,h3,h4⟩=>⟨p,h1,h2,h3,?_⟩⟩
  ·rw [← f6 p ((hof p).1 h1).1.1 ((hof p).1 h1).1.2];exact h4
  ·rw [f6 p ((hof p).1 h1).1.1 ((hof p).1 h1).1.2];exact h4
theorem gq.plus1 (hc:Con n m np s pq ps) (h:gq n m np s pq ps dl df c) (r0:0≤r) (r1:r < m) (hq:q∈bd s r) (hn:dl r q 3=false)
 (hco:(∀ b∈bd s r,upd dl r q 3 r b 3=true)→∀ b∈bd s r,dl r b 4=false):gq n m np s pq ps (upd dl r q 3) df (Cr.onPlus1 s c r):=by
 obtain ⟨hnd,hlen,_⟩:=hc.body r r0 r1;have hU4:∀ r' b,upd dl r q 3 r' b 4=dl r' b 4:=fun r' b=>mZ (by decide);have hv:=h.need r r0 r1;have hle:=eA (l:=bd s r) (f:=fun b=>!dl r b 3);have hless:=jj (f:=fun b=>!dl r b 3) (g:=fun b=>!upd dl r q 3 r b 3) hnd hq (by simp [hn]) (by simp [pE]) (fun i hi=>by rw [Ce hi]);obtain ⟨nd,hnde⟩:∃ nd,nd=En.dec c.need r:=⟨_,rfl⟩;have lnd:nd.length=m:=by rw [hnde,ji];exact h.lnd
 have hg:∀ (x:Int),0≤x→gi nd x=if x=r then gi c.need r - 1 else gi c.need x:=fun x x0=>by rw [hnde];exact i8 h.lnd r0 r1 x0 (by omega) (by omega)
 have hneed:∀ (r':Int),0≤r'→r' < m→gi nd r'=((bd s r').countP (fun b=>!upd dl r q 3 r' b 3):Nat):=fun r' r0' r1'=>by
  rw [hg r' r0'];by_cases er:r'=r
  ·subst er;rw [if_pos rfl,hv];omega
  ·rw [if_neg er,h.need r' r0' r1']
   congr 1
   exact c9 fun b _=>by rw [lg er]
 have hdead:∀ (r':Int),0≤r'→r' < m→gb c.dead r'=(bd s r').any (fun b=>upd dl r q 3 r' b 4):=fun r' r0' r1'=>by rw [h.dead r' r0' r1'];simp only [hU4]
 have hr1:1≤gi c.need r:=by rw [hv];omega
 have e:Cr.onPlus1 s c r=if gi nd r == 0 then Cr.fire s { c with need:=nd } r else { c with need:=nd }:=by rw [hnde];rfl
 rw [e];by_cases hz:gi nd r=0
 ·rw [if_pos (beq_iff_eq.2 hz)]
  have hzz:∀ (t:Int),0≤t→t < m→(gi nd t=0↔gi c.need t=0∨t=r):=fun t t0 t1=>by
   rw [hg t t0];by_cases er:t=r
   ·subst er;rw [if_pos rfl];rw [hg t t0,if_pos rfl] at hz;exact ⟨fun _=>.inr rfl,fun _=>hz⟩
   ·rw [if_neg er];exact ⟨.inl,fun k=>k.elim id (fun e=>absurd e er)⟩
  have hall:∀ b∈bd s r,upd dl r q 3 r b 3=true:=fun b hb=>by
   have:=hneed r r0 r1;rw [hz] at this;have h2:=dC.1 (show (bd s r).countP (fun b=>!upd dl r q 3 r b 3)=0 by omega) b hb
   simpa using h2
  have hnod:gb c.dead r=false:=by
   rw [h.dead r r0 r1,List.any_eq_false];intro b hb;rw [hco hall b hb];simp
  have F:=xY (c:={ c with need:=nd }) hc h.lbd h.lsd (h.pr.congr rfl rfl) r0 r1;generalize Cr.fire s { c with need:=nd } r=c4 at *;have fe:=F.eq;have x1:c4.need=nd:=by rw [fe]
  have x2:c4.dead=c.dead:=by rw [fe]
  have x3:c4.backs=c.backs:=by rw [fe]
  have x4:c4.opn=c.opn:=by rw [fe]
  have x5:c4.clash=c.clash:=by rw [fe]
  refine ⟨by rw [x1];exact lnd,by rw [x2];exact h.ldd,by rw [x3];exact h.lbk,F.lbd,by rw [x4];exact h.lop,by rw [x5];exact h.lcl,F.lsd,F.pr,by rw [x1];exact hneed,by rw [x2];exact hdead,by rw [x2,x3];exact h.backs,fun y y0 y1=>?_,by rw [x4];exact h.opn1,fun y y0 y1=>?_,by rw [x5];exact h.clash1,by rw [x5,x3];exact h.clash2,fun p p0 p1=>?_,fun p p0 p1=>?_,fun y y0 y1=>?_⟩
  ·rw [F.backed y y0 y1,x1]
   show gb c.backed y=true∨_↔_;rw [h.backed y y0 y1];constructor
   ·rintro (⟨t,ht,h1,h2,h3⟩ | ⟨h1,h2⟩)
    ·exact ⟨t,ht,h1,h2,(hzz t ht.1 ht.2).2 (.inl h3)⟩
    ·exact ⟨r,⟨r0,r1⟩,h1,h2,hz⟩
   ·rintro ⟨t,ht,h1,h2,h3⟩
    rcases (hzz t ht.1 ht.2).1 h3 with h4 | h4
    ·exact .inl ⟨t,ht,h1,h2,h4⟩
    ·exact .inr ⟨h4 ▸ h1,h4 ▸ h2⟩
  ·rw [x3,x4]
   rcases h.opn2 y y0 y1 with k | ⟨k1,k2⟩
   ·exact .inl k
   ·refine .inr ⟨k1,?_⟩
    cases hb:gb c4.backed y with
    | false=>rfl
    | true=>
     rcases (F.backed y y0 y1).1 hb with k | ⟨k3,k4⟩
     ·rw [show gb c.backed y=true from k] at k2;cases k2
     ·rw [h.backs y y0 y1] at k1
      have:=cz.1 k1 r r0 r1;rw [k3,hnod,k4] at this;simp at this
  ·rw [F.sett p p0 p1,x1,x2]
   show c.sett p=true∨_↔_;rw [h.sett p p0 p1];constructor
   ·rintro ((k | ⟨t,ht,h1,h2⟩) | k)
    ·exact .inl k
    ·exact .inr ⟨t,ht,h1,(hzz t ht.1 ht.2).2 (.inl h2)⟩
    ·exact .inr ⟨r,⟨r0,r1⟩,k,hz⟩
   ·rintro (k | ⟨t,ht,h1,h2⟩)
    ·exact .inl (.inl k)
    ·rcases (hzz t ht.1 ht.2).1 h2 with h4 | h4
     ·exact .inl (.inr ⟨t,ht,h1,h4⟩)
     ·exact .inr (h4 ▸ h1)
  ·rw [F.left p p0 p1,x2]
   exact h.left p p0 p1
  ·rw [F.stand y y0 y1,x1]
   show gb c.standing y=true∨(∃ p,_∧_∧gi nd (ps p)=0∧c.left p=0)↔_;rw [h.stand y y0 y1];constructor
   ·rintro (⟨p,hp,h1,h2,h3⟩ | ⟨p,hp,h1,h2,h3⟩)
    ·have hps:=(hc.pr p hp.1 hp.2).2
     exact ⟨p,hp,h1,(hzz _ hps.1 hps.2).2 (.inl h2),by rw [F.left p hp.1 hp.2];exact h3⟩
    ·have hpr:=((hc.of r r0 r1).2 p).1 hp
     exact ⟨p,hpr.1,h1,h2,by rw [F.left p hpr.1.1 hpr.1.2];exact h3⟩
   ·rintro ⟨p,hp,h1,h2,h3⟩
    have hps:=(hc.pr p hp.1 hp.2).2;rw [F.left p hp.1 hp.2] at h3;rcases (hzz _ hps.1 hps.2).1 h2 with h4 | h4
    ·exact .inl ⟨p,hp,h1,h4,h3⟩
    ·exact .inr ⟨p,((hc.of r r0 r1).2 p).2 ⟨hp,h4⟩,h1,h2,h3⟩
 ·rw [if_neg (by rw [beq_iff_eq];exact hz)]
  have hzz:∀ (t:Int),0≤t→t < m→(gi nd t=0↔gi c.need t=0):=fun t t0 t1=>by
   rw [hg t t0];by_cases er:t=r
   ·subst er;rw [hg t t0,if_pos rfl] at hz;rw [if_pos rfl];exact ⟨fun k=>absurd k hz,fun k=>by omega⟩
   ·rw [if_neg er]
  refine ⟨lnd,h.ldd,h.lbk,h.lbd,h.lop,h.lcl,h.lsd,h.pr.congr rfl rfl,hneed,hdead,h.backs,fun y y0 y1=>?_,h.opn1,h.opn2,h.clash1,h.clash2,fun p p0 p1=>?_,h.left,fun y y0 y1=>?_⟩
  ·show gb c.backed y=true↔∃ r,_∧_∧_∧gi nd r=0
   rw [h.backed y y0 y1];exact ⟨fun ⟨t,ht,h1,h2,h3⟩=>⟨t,ht,h1,h2,(hzz t ht.1 ht.2).2 h3⟩,fun ⟨t,ht,h1,h2,h3⟩=>⟨t,ht,h1,h2,(hzz t ht.1 ht.2).1 h3⟩⟩
  ·show c.sett p=true↔gb c.dead (ps p)=true∨∃ t,_∧_∧gi nd t=0
   rw [h.sett p p0 p1];exact or_congr Iff.rfl ⟨fun ⟨t,ht,h1,h2⟩=>⟨t,ht,h1,(hzz t ht.1 ht.2).2 h2⟩,fun ⟨t,ht,h1,h2⟩=>⟨t,ht,h1,(hzz t ht.1 ht.2).1 h2⟩⟩
  ·show gb c.standing y=true↔∃ p,_∧_∧gi nd (ps p)=0∧c.left p=0
   rw [h.stand y y0 y1];refine ⟨fun ⟨p,hp,h1,h2,h3⟩=>⟨p,hp,h1,(hzz _ (hc.pr p hp.1 hp.2).2.1 (hc.pr p hp.1 hp.2).2.2).2 h2,h3⟩,fun ⟨p,hp,h1,h2,h3⟩=>⟨p,hp,h1,(hzz _ (hc.pr p hp.1 hp.2).2.1 (hc.pr p hp.1 hp.2).2.2).1 h2,h3⟩⟩
end
end
section
section
variable {n m np:Nat} {s:Es} {pq ps:Int→Int} {dl df:Int→Int→Int→Bool} {c:Cr} {p q r x f:Int}
theorem gq.backsR (hm:m≤4096) (h:gq n m np s pq ps dl df c) (q0:0≤q) (q1:q < n):0≤gi c.backs q∧gi c.backs q≤4096:=by
 rw [h.backs q q0 q1];have:=ci m (fun r=>cZ s.t r&&(hd s r == q)&&!gb c.dead r);have:=nu m (fun r=>cZ s.t r&&(hd s r == q)&&!gb c.dead r);omega
theorem gq.minus1 (hc:Con n m np s pq ps) (h:gq n m np s pq ps dl df c) (r0:0≤r) (r1:r < m) (hq:q∈bd s r):gq n m np s pq ps (upd dl r q 4) df (Cr.onMinus1 s c r):=by
 have hm:=hc.ok.small.2;obtain ⟨h0,h1⟩:=hc.head r r0 r1;have hU3:∀ r' b,upd dl r q 4 r' b 3=dl r' b 3:=fun r' b=>mZ (by decide);have hneed:∀ (r':Int),0≤r'→r' < m→gi c.need r'=((bd s r').countP (fun b=>!upd dl r q 4 r' b 3):Nat):=fun r' r0' r1'=>by rw [h.need r' r0' r1'];simp only [hU3]
 unfold Cr.onMinus1;by_cases hb:c.dead.getD r.toNat false=true
 ·rw [if_pos hb]
  refine ⟨h.lnd,h.ldd,h.lbk,h.lbd,h.lop,h.lcl,h.lsd,h.pr,hneed,fun r' r0' r1'=>?_,h.backs,h.backed,h.opn1,h.opn2,h.clash1,h.clash2,h.sett,h.left,h.stand⟩;by_cases er:r'=r
  ·subst er;rw [ph hq];exact hb
  ·rw [h.dead r' r0' r1']
   congr 1
   funext b
   rw [lg er]
 ·rw [if_neg hb]
  have hb2:gb c.dead r=false:=by simpa using hb
  obtain ⟨dd,hdd⟩:∃ dd,dd=c.dead.set r.toNat true:=⟨_,rfl⟩;rw [← hdd];have ldd:dd.length=m:=by rw [hdd,List.length_set];exact h.ldd
  have hset:∀ (x:Int),0≤x→gb dd x=if x=r then true else gb c.dead x:=fun x x0=>by rw [hdd];exact aV h.ldd r0 r1 x0
  have hdead:∀ (r':Int),0≤r'→r' < m→gb dd r'=(bd s r').any (fun b=>upd dl r q 4 r' b 4):=fun r' r0' r1'=>by
   rw [hset r' r0'];by_cases er:r'=r
   ·subst er;rw [if_pos rfl,ph hq]
   ·rw [if_neg er,h.dead r' r0' r1']
    congr 1
    funext b
    rw [lg er]
  have hof:=(hc.of r r0 r1).2;obtain ⟨hnb,hbt⟩:=hc.beats r r0 r1;obtain ⟨p1,k1⟩:=fo hc (L:=ap s.of r) (c:={ c with dead:=dd }) (h.pr.congr rfl rfl) (fun p hp=>((hof p).1 hp).1);have e1:=k1.eq;have s1:=k1.sett;have l1:=k1.left;generalize (ap s.of r).foldl Cr.settle { c with dead:=dd }=c2 at *
  -- what is settled
  have hsett:∀ (p:Int),0≤p→p < np→(c2.sett p=true↔gb dd (ps p)=true∨∃ (t:Int),(0≤t∧t < m)∧p∈ap s.beats t∧gi c.need t=0):=fun p p0 p1=>by
   have hps:=(hc.pr p p0 p1).2;rw [s1 p p0 p1,Bool.or_eq_true,List.contains_iff_mem,hof p,hset _ hps.1];show c.sett p=true∨_↔_;rw [h.sett p p0 p1];by_cases er:ps p=r
   ·rw [if_pos er]
    exact ⟨fun _=>.inl rfl,fun _=>.inr ⟨⟨p0,p1⟩,er⟩⟩
   ·rw [if_neg er]
    exact ⟨fun k=>k.elim id (fun e=>absurd e.2 er),.inl⟩
  -- how many beaters
  have hleft:∀ (x:Int),0≤x→x < np→cN m (fun t=>decide (x∈ap s.beats t)&&!gb dd t)=if x∈ap s.beats r then c.left x - 1 else c.left x:=fun x x0 x1=>by
   rw [h.left x x0 x1];split
   ·rename_i hx
    have:=jl (f:=fun t=>decide (x∈ap s.beats t)&&!gb c.dead t) (g:=fun t=>decide (x∈ap s.beats t)&&!gb dd t) r0 r1 (by simp only [hb2,hx];simp) (by simp only [hset r r0];simp) (fun i i0 i1 hi=>by simp only [hset i i0,if_neg hi]);omega
   ·rename_i hx
    refine bL fun i i0 i1=>?_;by_cases ei:i=r
    ·subst ei;rw [decide_eq_false hx,Bool.false_and,Bool.false_and]
    ·rw [hset i i0,if_neg ei]
  have hl0:∀ x,x∈ap s.beats r→1≤c.left x∧c.left x≤4096:=fun x hx=>by
   obtain ⟨⟨x0,x1⟩,_⟩:=hbt x hx;rw [h.left x x0 x1];have a1:=ue (f:=fun t=>decide (x∈ap s.beats t)&&!gb c.dead t) r0 r1 (by simp only [hb2,hx];simp);have a2:=nu m (fun t=>decide (x∈ap s.beats t)&&!gb c.dead t);omega
  by_cases hs:cZ s.t r=true
  ·rw [if_pos hs]
   have hR:=h.backsR hm h0 h1;obtain ⟨bk,hbk⟩:∃ bk,bk=En.dec c.backs (hd s r):=⟨_,rfl⟩;have lbk:bk.length=n:=by rw [hbk,ji];exact h.lbk
   have hbg:∀ (y:Int),0≤y→gi bk y=if y=hd s r then gi c.backs (hd s r) - 1 else gi c.backs y:=fun y y0=>by rw [hbk];exact i8 h.lbk h0 h1 y0 (by omega) (by omega)
   have hbacks:∀ (y:Int),0≤y→y < n→gi bk y=cN m (fun r'=>cZ s.t r'&&(hd s r' == y)&&!gb dd r'):=fun y y0 y1=>by
    rw [hbg y y0];by_cases ey:y=hd s r
    ·subst ey
     rw [if_pos rfl,h.backs _ h0 h1];have:=jl (f:=fun r'=>cZ s.t r'&&(hd s r' == hd s r)&&!gb c.dead r') (g:=fun r'=>cZ s.t r'&&(hd s r' == hd s r)&&!gb dd r') r0 r1 (by simp only [hs,hb2];simp) (by simp only [hset r r0];simp) (fun i i0 i1 hi=>by simp only [hset i i0,if_neg hi]);omega
    ·rw [if_neg ey,h.backs y y0 y1]
     refine bL fun i i0 i1=>?_;by_cases ei:i=r
     ·subst ei
      have:(hd s i == y)=false:=by rw [beq_eq_false_iff_ne];exact fun h=>ey h.symm
      simp [this]
     ·rw [hset i i0,if_neg ei]
   have hb0:∀ (y:Int),0≤y→y < n→gi c.backs y=0→gi bk y=0:=fun y y0 y1 hy=>by
    rw [hbg y y0];by_cases ey:y=hd s r
    ·subst ey
     rw [h.backs _ h0 h1] at hy;have:=cz.1 hy r r0 r1;rw [hs,hb2] at this;simp at this
    ·rw [if_neg ey];exact hy
   have e3:({ c2 with backs:=En.dec c2.backs (ai s.t r).2.1 }:Cr)={ c2 with backs:=bk }:=by rw [hbk,show c2.backs=c.backs by rw [e1]]
   rw [e3];have hls:({ c2 with backs:=bk }:Cr).standing.length=n:=by show c2.standing.length=n;rw [e1];exact h.lsd
   obtain ⟨p4,k4⟩:=n5 hc (L:=ap s.beats r) (c:={ c2 with backs:=bk }) hnb hls (p1.congr rfl rfl) (fun x hx=>by
    obtain ⟨⟨x0,x1⟩,_⟩:=hbt x hx;refine ⟨⟨x0,x1⟩,?_⟩;show 1≤c2.left x∧c2.left x≤4096;rw [l1 x x0 x1];exact hl0 x hx)
   have e4:=k4.eq;have l4:=k4.left;have s4:=k4.sett;have t4:=k4.stand;have g4:=k4.ls;generalize (ap s.beats r).foldl Cr.onMinus2 { c2 with backs:=bk }=c4 at *;have x1:c4.need=c.need:=by rw [e4,e1]
   have x2:c4.dead=dd:=by rw [e4,e1]
   have x3:c4.backs=bk:=by rw [e4]
   have x4:c4.backed=c.backed:=by rw [e4,e1]
   have x5:c4.opn=c.opn:=by rw [e4,e1]
   have x6:c4.clash=c.clash:=by rw [e4,e1]
   have x7:c2.standing=c.standing:=by rw [e1]
   have hL:∀ (x:Int),0≤x→x < np→c4.left x=if x∈ap s.beats r then c.left x - 1 else c.left x:=fun x x0 x1=>by
    rw [l4 x x0 x1];show (if x∈ap s.beats r then c2.left x - 1 else c2.left x)=_;rw [l1 x x0 x1]
    rfl
   refine ⟨by rw [x1];exact h.lnd,by rw [x2];exact ldd,by rw [x3];exact lbk,by rw [x4];exact h.lbd,by rw [x5];exact h.lop,by rw [x6];exact h.lcl,g4,p4,by rw [x1];exact hneed,by rw [x2];exact hdead,by rw [x3,x2];exact hbacks,by rw [x4,x1];exact h.backed,by rw [x5];exact h.opn1,fun y y0 y1=>?_,by rw [x6];exact h.clash1,fun y y0 y1 f hf hd1=>?_,fun p p0 p1=>?_,fun p p0 p1=>?_,fun y y0 y1=>?_⟩
   ·rw [x3,x4,x5]
    exact (h.opn2 y y0 y1).imp id (fun k=>⟨hb0 y y0 y1 k.1,k.2⟩)
   ·rw [x3,x6]
    exact (h.clash2 y y0 y1 f hf hd1).imp id (hb0 y y0 y1)
   ·rw [s4 p p0 p1,x1,x2]
    exact hsett p p0 p1
   ·rw [hL p p0 p1,x2,hleft p p0 p1]
   ·rw [t4 y y0 y1,x1,Bool.or_eq_true,nE,x1]
    show gb c2.standing y=true∨_↔_;rw [x7,h.stand y y0 y1];constructor
    ·rintro (⟨p,hp,g1,g2,g3⟩ | ⟨p,hp,g1,g2,g3⟩)
     ·refine ⟨p,hp,g1,g2,?_⟩
      rw [hL p hp.1 hp.2,if_neg (fun hx=>by have:=hl0 p hx;omega)];exact g3
     ·exact ⟨p,(hbt p hp).1,g1,g2,g3⟩
    ·rintro ⟨p,hp,g1,g2,g3⟩
     by_cases hx:p∈ap s.beats r
     ·exact .inr ⟨p,hx,g1,g2,g3⟩
     ·rw [hL p hp.1 hp.2,if_neg hx] at g3
      exact .inl ⟨p,hp,g1,g2,g3⟩
  ·rw [if_neg hs]
   have hno:∀ x,¬ x∈ap s.beats r:=fun x hx=>hs (hbt x hx).2.1;have x1:c2.need=c.need:=by rw [e1]
   have x2:c2.dead=dd:=by rw [e1]
   have x3:c2.backs=c.backs:=by rw [e1]
   have x4:c2.backed=c.backed:=by rw [e1]
   have x5:c2.opn=c.opn:=by rw [e1]
   have x6:c2.clash=c.clash:=by rw [e1]
   have x7:c2.standing=c.standing:=by rw [e1]
   refine ⟨by rw [x1];exact h.lnd,by rw [x2];exact ldd,by rw [x3];exact h.lbk,by rw [x4];exact h.lbd,by rw [x5];exact h.lop,by rw [x6];exact h.lcl,by rw [x7];exact h.lsd,p1,by rw [x1];exact hneed,by rw [x2];exact hdead,fun y y0 y1=>?_,by rw [x4,x1];exact h.backed,by rw [x5];exact h.opn1,by rw [x3,x4,x5];exact h.opn2,by rw [x6];exact h.clash1,by rw [x3,x6];exact h.clash2,fun p p0 p1=>by rw [x1,x2];exact hsett p p0 p1,fun p p0 p1=>?_,fun y y0 y1=>?_⟩
   ·rw [x3,x2,h.backs y y0 y1]
    refine bL fun i i0 i1=>?_;by_cases ei:i=r
    ·subst ei;simp [hs]
    ·rw [hset i i0,if_neg ei]
   ·rw [l1 p p0 p1,x2,hleft p p0 p1,if_neg (hno p)]
    rfl
   ·rw [x7,x1,h.stand y y0 y1]
    refine ⟨fun ⟨p,hp,g1,g2,g3⟩=>⟨p,hp,g1,g2,by rw [l1 p hp.1 hp.2];exact g3⟩,fun ⟨p,hp,g1,g2,g3⟩=>⟨p,hp,g1,g2,by rw [l1 p hp.1 hp.2] at g3;exact g3⟩⟩
theorem nz {a b k:Int} (h:df a b k=true) {a' b' k':Int}:upd df a' b' k' a b k=true:=by unfold upd;rw [h];rfl
theorem gq.clashS (hc:Con n m np s pq ps) (h:gq n m np s pq ps dl df c) (f0:0≤f) (f1:f < n) (hq:q∈ap (aH s.t) f):gq n m np s pq ps dl (upd df f q 1) (Cr.onPlusD2 c f):=by
 have hR:=h.backsR hc.ok.small.2 f0 f1;have hU2:∀ y g,upd df f q 1 y g 2=df y g 2:=fun y g=>mZ (by decide);have ho1:∀ (y:Int),0≤y→y < n→((ap (aH s.t) y).countP (fun g=>!upd df f q 1 y g 2):Nat)≤gi c.opn y∧gi c.opn y≤64:=fun y y0 y1=>by simp only [hU2];exact h.opn1 y y0 y1
 have ho2:∀ (y:Int),0≤y→y < n→gi c.opn y=((ap (aH s.t) y).countP (fun g=>!upd df f q 1 y g 2):Nat)∨(gi c.backs y=0∧gb c.backed y=false):=fun y y0 y1=>by simp only [hU2];exact h.opn2 y y0 y1
 have hold:∀ y g,upd df f q 1 y g 1=true→df y g 1=true∨(y=f∧g=q):=fun y g hu=>by
  unfold upd at hu;rw [Bool.or_eq_true,Bool.and_eq_true,Bool.and_eq_true] at hu;exact hu.imp id (fun k=>⟨beq_iff_eq.1 k.1.1,beq_iff_eq.1 k.1.2⟩)
 unfold Cr.onPlusD2;split
 ·have hset:∀ (x:Int),0≤x→gb (c.clash.set f.toNat true) x=if x=f then true else gb c.clash x:=fun x x0=>aV h.lcl f0 f1 x0
  refine ⟨h.lnd,h.ldd,h.lbk,h.lbd,h.lop,by simp [h.lcl],h.lsd,h.pr.congr rfl rfl,h.need,h.dead,h.backs,h.backed,ho1,ho2,fun y y0 y1 hy=>?_,fun y y0 y1 g hg hd1=>?_,h.sett,h.left,h.stand⟩
  ·replace hy:gb (c.clash.set f.toNat true) y=true:=hy
   rw [hset y y0] at hy;by_cases e:y=f
   ·subst e;exact ⟨q,hq,pE⟩
   ·rw [if_neg e] at hy
    obtain ⟨g,hg,hd1⟩:=h.clash1 y y0 y1 hy;exact ⟨g,hg,nz hd1⟩
  ·show gb (c.clash.set f.toNat true) y=true∨_
   rw [hset y y0];by_cases e:y=f
   ·rw [if_pos e];exact .inl rfl
   ·rw [if_neg e]
    rcases hold y g hd1 with k | k
    ·exact h.clash2 y y0 y1 g hg k
    ·exact absurd k.1 e
 ·rename_i hb
  refine ⟨h.lnd,h.ldd,h.lbk,h.lbd,h.lop,h.lcl,h.lsd,h.pr,h.need,h.dead,h.backs,h.backed,ho1,ho2,fun y y0 y1 hy=>?_,fun y y0 y1 g hg hd1=>?_,h.sett,h.left,h.stand⟩
  ·obtain ⟨g,hg,hd1⟩:=h.clash1 y y0 y1 hy
   exact ⟨g,hg,nz hd1⟩
  ·rcases hold y g hd1 with k | ⟨rfl,rfl⟩
   ·exact h.clash2 y y0 y1 g hg k
   ·by_cases hcl:gb c.clash y=true
    ·exact .inl hcl
    ·refine .inr ?_
     by_cases hz:0 < gi c.backs y
     ·refine absurd ?_ hb
      rw [Bool.and_eq_true,Bool.not_eq_true'];exact ⟨decide_eq_true hz,by simpa using hcl⟩
     ·omega
theorem gq.lateS (hc:Con n m np s pq ps) (h:gq n m np s pq ps dl df c) (f0:0≤f) (f1:f < n) (hq:q∈ap (aH s.t) f) (hn:df f q 2=false):gq n m np s pq ps dl (upd df f q 2) (Cr.onLate1 c f):=by
 have hR:=h.backsR hc.ok.small.2 f0 f1;obtain ⟨hnd,hlen,_⟩:=hc.foes f f0 f1;have hU1:∀ y g,upd df f q 2 y g 1=df y g 1:=fun y g=>mZ (by decide);have hless:=jj (f:=fun b=>!df f b 2) (g:=fun b=>!upd df f q 2 f b 2) hnd hq (by simp [hn]) (by simp [pE]) (fun i hi=>by rw [Ce hi]);have hother:∀ y,y≠f→(ap (aH s.t) y).countP (fun g=>!upd df f q 2 y g 2)=(ap (aH s.t) y).countP (fun g=>!df y g 2):=fun y hy=>c9 fun b _=>by rw [lg hy]
 have hc1:∀ (y:Int),0≤y→y < n→gb c.clash y=true→∃ g∈ap (aH s.t) y,upd df f q 2 y g 1=true:=fun y y0 y1 hy=>by simp only [hU1];exact h.clash1 y y0 y1 hy
 have hc2:∀ (y:Int),0≤y→y < n→∀ g∈ap (aH s.t) y,upd df f q 2 y g 1=true→gb c.clash y=true∨gi c.backs y=0:=fun y y0 y1 g hg=>by simp only [hU1];exact h.clash2 y y0 y1 g hg
 obtain ⟨o1,o2⟩:=h.opn1 f f0 f1;unfold Cr.onLate1;split
 ·rename_i hb
  have hset:∀ (x:Int),0≤x→gi (En.dec c.opn f) x=if x=f then gi c.opn f - 1 else gi c.opn x:=fun x x0=>i8 h.lop f0 f1 x0 (by omega) (by omega)
  refine ⟨h.lnd,h.ldd,h.lbk,h.lbd,by show (En.dec _ _).length=n;rw [ji];exact h.lop,h.lcl,h.lsd,h.pr.congr rfl rfl,h.need,h.dead,h.backs,h.backed,fun y y0 y1=>?_,fun y y0 y1=>?_,hc1,hc2,h.sett,h.left,h.stand⟩
  ·show _≤gi (En.dec c.opn f) y∧gi (En.dec c.opn f) y≤64
   rw [hset y y0];by_cases e:y=f
   ·subst e;rw [if_pos rfl];omega
   ·rw [if_neg e,hother y e];exact h.opn1 y y0 y1
  ·show gi (En.dec c.opn f) y=_∨_
   rw [hset y y0];by_cases e:y=f
   ·subst e
    rw [if_pos rfl];rcases h.opn2 y y0 y1 with k | ⟨k1,k2⟩
    ·left;rw [k];omega
    ·exfalso
     rw [Bool.or_eq_true,decide_eq_true_iff] at hb;rcases hb with hb | hb
     ·have:0 < gi c.backs y:=hb
      omega
     ·rw [show gb c.backed y=true from hb] at k2;cases k2
   ·rw [if_neg e,hother y e];exact h.opn2 y y0 y1
 ·rename_i hb
  rw [Bool.or_eq_true,decide_eq_true_iff] at hb
  have hz:gi c.backs f=0:=by
   have:¬ 0 < gi c.backs f:=fun k=>hb (.inl k);omega
  have hz2:gb c.backed f=false:=by
   cases hh:gb c.backed f with
   | false=>rfl
   | true=>exact absurd (.inr hh) hb
  refine ⟨h.lnd,h.ldd,h.lbk,h.lbd,h.lop,h.lcl,h.lsd,h.pr,h.need,h.dead,h.backs,h.backed,fun y y0 y1=>?_,fun y y0 y1=>?_,hc1,hc2,h.sett,h.left,h.stand⟩
  ·by_cases e:y=f
   ·subst e;omega
   ·rw [hother y e];exact h.opn1 y y0 y1
  ·by_cases e:y=f
   ·subst e;exact .inr ⟨hz,hz2⟩
   ·rw [hother y e];exact h.opn2 y y0 y1
theorem gq.congr {c':Cr} {dl':Int→Int→Int→Bool} (h:gq n m np s pq ps dl df c) (he:c'={ c with needD:=c'.needD,deadD:=c'.deadD,strict:=c'.strict }) (h3:∀ r b,dl' r b 3=dl r b 3) (h4:∀ r b,dl' r b 4=dl r b 4):gq n m np s pq ps dl' df c':=by
 rw [he];exact ⟨h.lnd,h.ldd,h.lbk,h.lbd,h.lop,h.lcl,h.lsd,h.pr.congr rfl rfl,fun r r0 r1=>by simp only [h3];exact h.need r r0 r1,fun r r0 r1=>by simp only [h4];exact h.dead r r0 r1,h.backs,h.backed,h.opn1,h.opn2,h.clash1,h.clash2,h.sett,h.left,h.stand⟩
end
end
end Go.Proofs.YtbcdgcodnkgdoaaGreat
