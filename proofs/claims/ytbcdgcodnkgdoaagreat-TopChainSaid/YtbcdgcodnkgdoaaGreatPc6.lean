/- Parts of the proof: fast's lay. · fast's run. · fast's counters alone, as plain functions: what telling does not touch. · Counting; lists read at numbers. · What fast's counters say: the strict part. · What fast's counters say: the pairs. · What fast's counters say: the part of +d and -d. Conditions: none. -/
import Derived.Test.YtbcdgcodnkgdoaaGreatPc5
/- fast's lay. Conditions: none. -/
set_option linter.unusedVariables false
set_option linter.unusedSimpArgs false
set_option maxRecDepth 10000
namespace Go.Proofs.YtbcdgcodnkgdoaaGreat
open Go Go.RowKit
structure LOk (n m:Nat) (e:En):Prop where
 ok:EnOk n m 0 e
 pr:e.pairs=[]
theorem tell_pairs {e:En} {q k:Int}:(e.tell q k).pairs=e.pairs:=by unfold En.tell;split <;> rfl
theorem upto_ind {α:Type} {f:α→Nat→α} (p:Nat→α→Prop):∀ (k i:Nat) (x:α),(∀ j x,i≤j→j < i + k→p j x→p (j + 1) (f x j))→p i x→p (i + k) (upto f k i x)
 | 0,i,x,_,h=>h
 | k + 1,i,x,hs,h=>by
  have:=upto_ind p k (i + 1) (f x i) (fun j y h1 h2=>hs j y (by omega) (by omega)) (hs i x (Nat.le_refl _) (by omega) h)
  rw [show i + (k + 1)=i + 1 + k by omega]
  exact this
section
variable {n m:Nat} {t:ThV} {e:En} {q:Int} {i:Nat}
theorem pair1_ok (ht:TOk n m t) (h:LOk n m e):En.PSOk n m (64 * 4096) (En.pair1 t n m e):=by
 have h1:=upto_ind (f:=En.pairAs t) (fun i x=>En.PSOk n m (64 * i) x) m 0 ⟨List.replicate n [],List.replicate m [],e⟩ (fun j x _ hj hx=>pairAs_ok ht hx (by omega)) ⟨by simp,RowsOk.new _ _ _,by rw [h.pr];exact h.ok,by rw [h.pr];exact Nat.zero_le _⟩
 have:=ht.small.2
 exact h1.mono (by omega)
theorem pair2_ok (ht:TOk n m t) (h:LOk n m e)
 (hl:∀ (r:Nat),r < m→supD t r=true→∀ s∈rowAt (tBeats t) r,∃ p,getM ((En.pair1 t n m e).d.getD (ruleAt t r).2.1.toNat []) s=some p∧0≤p∧p < ((En.pair1 t n m e).e.pairs.length:Nat)):En.PTOk n m (En.pair1 t n m e).e.pairs.length (4096 * 4096) (En.pair2 t n m e):=by
 have h1:=upto_ind (f:=En.pairBs t (En.pair1 t n m e).d) (fun i x=>En.PTOk n m (En.pair1 t n m e).e.pairs.length (4096 * i) x) m 0 ⟨List.replicate m [],(En.pair1 t n m e).e⟩ (fun j x _ hj hx=>pairBs_ok ht hx (by omega) (hl j (by omega))) ⟨RowsOk.new _ _ _,(pair1_ok ht h).e⟩
 have:=ht.small.2
 exact ⟨h1.bts.mono (Nat.le_refl _) (by omega),h1.e⟩
theorem LOk.tell {k:Int} (hn:n≤4096) (h:LOk n m e) (q0:0≤q) (q1:q < n) (k0:1≤k) (k1:k≤4):LOk n m (e.tell q k):=⟨h.ok.tell hn q0 q1 k0 k1,by rw [tell_pairs];exact h.pr⟩
theorem pops_rep (n:Nat):pops (List.replicate n 0)=0:=by
 induction n with
 | zero=>rfl
 | succ n ih=>
  have h0:pop4 0=0:=by decide +kernel
  rw [List.replicate_succ];unfold pops;rw [ih,h0]
theorem LOk.new (n m:Nat):LOk n m (En.lay0 n m):=by
 refine ⟨⟨by simp [En.lay0],by simp [En.lay0],by simp [En.lay0],by simp [En.lay0],by simp [En.lay0],by simp [En.lay0],by simp [En.lay0],by simp [En.lay0],by simp [En.lay0],by simp [En.lay0],by simp [En.lay0],by simp [En.lay0],rfl,fun x hx=>?_,fun p hp=>(by cases hp),fun p hp=>(by cases hp),?_,rfl⟩,rfl⟩
 ·obtain rfl:=(List.mem_replicate.1 hx).2;omega
 ·show 0=pops (List.replicate n 0)
  rw [pops_rep]
theorem LOk.lay1B (h:LOk n m e):LOk n m (En.lay1B t e i):=⟨(h.ok.needD1 _ _).need1 _ _,h.pr⟩
theorem LOk.lay1S (h:LOk n m e):LOk n m (En.lay1S t e i):=by unfold En.lay1S;split <;> first | exact ⟨h.ok.strict1 _ _,h.pr⟩ | exact h
theorem LOk.lay1K (h:LOk n m e):LOk n m (En.lay1K t e i):=by unfold En.lay1K;split <;> first | exact ⟨h.ok.backs1 _ _,h.pr⟩ | exact h
theorem LOk.lay1 (h:LOk n m e):LOk n m (En.lay1 t e i):=(h.lay1B.lay1S).lay1K
theorem LOk.lay3 (ht:TOk n m t) (h:LOk n m e) (hi:i < m):LOk n m (En.lay3 t e i):=by
 have hd:=(ht.rule (r:=(i:Int)) (by omega) (by omega)).1
 unfold En.lay3
 split
 ·exact h.tell ht.small.1 hd.1 hd.2 (by omega) (by omega)
 ·exact h
theorem LOk.lay4 {fact:List Bool} (hn:n≤4096) (h:LOk n m e) (hi:i < n):LOk n m (En.lay4 fact e i):=by
 unfold En.lay4
 split
 ·exact ⟨h.ok.strict1 _ _,h.pr⟩
 ·split
  ·exact h.tell hn (by omega) (by omega) (by omega) (by omega)
  ·exact h
theorem LOk.lay5f {f:Int} (h:LOk n m e):LOk n m (En.lay5f i e f):=by
 unfold En.lay5f
 dsimp only
 split
 ·exact ⟨h.ok.clash1 _ _,h.pr⟩
 ·exact ⟨EnOk.clash1 (h.ok.opn1 _ _) _ _,h.pr⟩
theorem LOk.fold {α:Type} {f:En→α→En} (hf:∀ e a,LOk n m e→LOk n m (f e a)):∀ {l:List α} {e:En},LOk n m e→LOk n m (l.foldl f e)
 | [],e,h=>h
 | a::l,e,h=>LOk.fold hf (l:=l) (hf e a h)
theorem LOk.lay5 (h:LOk n m e):LOk n m (En.lay5 t e i):=LOk.fold (fun e f h=>h.lay5f) h
theorem pushes_ok {N K:Nat} {r:Nat} (hr:r < N):∀ {l:List Int} {L:List (List Int)},(∀ b∈l,0≤b∧b < n)→RowsOk n N K L→RowsOk n N (K + l.length) (l.foldl (fun l b=>pushAt l b r) L)
 | [],L,_,h=>h
 | b::l,L,hl,h=>by
  have h1:=hl b (List.mem_cons_self ..)
  have:=pushes_ok (K:=K + 1) hr (l:=l) (fun q hq=>hl q (List.mem_cons_of_mem _ hq)) (h.push (Nat.le_refl _) h1.1 h1.2 (x:=(r:Int)) (by omega) (by omega))
  rw [List.foldl_cons,List.length_cons,show K + (l.length + 1)=K + 1 + l.length by omega]
  exact this
theorem lay1I_ok {L:List (List Int)} (ht:TOk n m t) (hi:i < m) (h:RowsOk n m (16 * i) L):RowsOk n m (16 * (i + 1)) (En.lay1I t L i):=by
 have hd:=(ht.rule (r:=(i:Int)) (by omega) (by omega)).2
 exact (pushes_ok hi hd.2 h).mono (Nat.le_refl _) (by omega)
theorem EnOk.lay6p {np:Nat} {p:Int} (h:EnOk n m np e) (p0:0≤p) (p1:p < np):EnOk n m np (En.lay6p e p):=by
 unfold En.lay6p
 split
 ·exact h
 ·exact (h.settle1 p0 p1).attacks1 _ _
theorem EnOk.lay6q {np:Nat} {p:Int} (h:EnOk n m np e):EnOk n m np (En.lay6q e p):=by
 unfold En.lay6q
 split
 ·exact h.standing1 _ _
 ·exact h
theorem EnOk.lay6 {np:Nat} {of bts:List (List Int)} {K:Nat} (ho:RowsOk m np K of) (hb:RowsOk m np K bts) (h:EnOk n m np e) (hi:i < m):EnOk n m np (En.lay6 t of bts e i):=by
 unfold En.lay6
 split
 ·exact h
 ·refine EnOk.fold (N:=np) (fun e u h u0 u1=>h.lay6q) (ho.at_ (b:=(i:Int)) (by omega) (by omega)).2 ?_
  split
  ·exact EnOk.fold (N:=np) (fun e u h u0 u1=>h.lay6p u0 u1) (hb.at_ (b:=(i:Int)) (by omega) (by omega)).2 (h.backed1 _ _)
  ·exact h
end
theorem ES.first {n m:Nat} {e:En} {be:Nat} {a:EAd} {z:ECs} {sv:Value} {X:List HP} {E:Env} {ops:Array Oper} {Q:Pst} {rest:List Oper} {G:List (Nat × Value)} {x y:Operand} {ty:TypeId} {pos:String} {af:Array Edge} {u:Int} (hx:ev G x=some (.pointer (some ⟨be,6,none⟩))) (hy:ev G y=some (.int .i64 u)) (k:RW Tryz.prog E ops Q rest G (enH be a { z with first:=u } n m sv e++X)):
 RW Tryz.prog E ops Q (⟨none,.store 3 x y,ty,pos,af,none⟩::rest) G (enH be a z n m sv e++X):=
 RW.store_blk [] rfl hx hy rfl rfl (Nat.lt_of_sub_eq_succ rfl) k
abbrev zL (t:ThV) (x:TC) (inn of bts:List (List Int)) (first:Int) (ib ob bb n m:Nat) (pA:Option Addr) (pc np:Nat):ECs:=⟨⟨t,inn,of,bts⟩,x,first,some ⟨ib,0,none⟩,some ⟨ob,0,none⟩,some ⟨bb,0,none⟩,pA,n,m,m,pc,np⟩
abbrev rwHP (b n:Nat) (L:List (List Int)):HP:=rowsHP 26 3 (slV b n) L
theorem lay_start {be b2 ib ob bb n m:Nat} {a:EAd} {t:ThV} {x:TC} {w:World} {A:Nat→Prop} (h:Sep (blk be (enC a (zL t x [] [] [] 0 ib ob bb n m none 0 0) n m (.slice none 0 0) 0 0) 73::blk b2 (x.th t) 25 ::
 ownHP 26 1 (slV bb m) (List.replicate m [.slice none 0 0])::ownHP 26 1 (slV ob m) (List.replicate m [.slice none 0 0])::ownHP 4 1 (slV a.sd n) (List.replicate n [.bool false])::ownHP 3 1 (slV a.at_ n) (List.replicate n [.int .i64 0]) ::
 ownHP 4 1 (slV a.cl n) (List.replicate n [.bool false])::ownHP 3 1 (slV a.op n) (List.replicate n [.int .i64 0])::ownHP 4 1 (slV a.bd n) (List.replicate n [.bool false])::ownHP 3 1 (slV a.bk n) (List.replicate n [.int .i64 0])::ownHP 3 1 (slV a.st n) (List.replicate n [.int .i64 0]) ::
 ownHP 4 1 (slV a.dx m) (List.replicate m [.bool false])::ownHP 4 1 (slV a.dd m) (List.replicate m [.bool false])::ownHP 3 1 (slV a.nn m) (List.replicate m [.int .i64 0])::ownHP 3 1 (slV a.nd m) (List.replicate m [.int .i64 0]) ::
 ownHP 26 1 (slV ib n) (List.replicate n [.slice none 0 0])::ownHP 45 1 (slV a.m n) (List.replicate n [.int .u8 0])::[]) w A):
 Sep (enH be a (zL t x [] [] [] 0 ib ob bb n m none 0 0) n m (.slice none 0 0) (En.lay0 n m)++[blk b2 (x.th t) 25,rwHP ib n (List.replicate n []),rwHP ob m (List.replicate m []),rwHP bb m (List.replicate m [])]) w A:=by
 have e1:∀ k,List.replicate k [Value.int .i64 0]=(List.replicate k (0:Int)).map intE:=fun k=>by rw [List.map_replicate]
 have e2:∀ k,List.replicate k [Value.bool false]=(List.replicate k false).map boolE:=fun k=>by rw [List.map_replicate]
 have e3:∀ k,List.replicate k [Value.int .u8 0]=(List.replicate k (0:Int)).map markE:=fun k=>by rw [List.map_replicate]
 rw [e1,e1,e2,e2,e3] at h
 have h1:=rows_new (e2:=3) (Sep.take [2,0,1,3,4,5,6,7,8,9,10,11,12,13,14,15,16] h)
 have h2:=rows_new (e2:=3) (Sep.take [3,0,1,2,4,5,6,7,8,9,10,11,12,13,14,15,16] h1)
 have h3:=rows_new (e2:=3) (Sep.take [15,0,1,2,3,4,5,6,7,8,9,10,11,12,13,14,16] h2)
 have h4:=Sep.addp (c:=ownHP 111 2 (.slice none 0 0) []) (.inl ⟨rfl,rfl⟩) h3
 have h5:=Sep.addp (c:=ownHP 148 4 (.slice none 0 0) []) (.inl ⟨rfl,rfl⟩) h4
 exact Sep.take [5,18,1,17,16,15,14,13,12,11,10,9,8,7,0,6,2,3,4] h5
structure LQ where
 be:Nat
 a:EAd
 (ib ob bb:Nat)
 pA:Option Addr
 pc:Nat
 sv:Value
attribute [local irreducible] RW CW
section
variable {n m:Nat} {t:ThV} {x:TC} {fA:Option Addr} {fc:Nat} {facts:List Int}
abbrev layH (t:ThV) (x:TC) (n m:Nat) (facts:List Int) (q:LQ):List HP:=
 enH q.be q.a (zL t x (En.layS t n m facts).inn (En.layS t n m facts).of (En.layS t n m facts).beats (En.layD t n m facts).told.length q.ib q.ob q.bb n m q.pA q.pc (En.layD t n m facts).pairs.length) n m q.sv (En.layD t n m facts)++[rwHP q.ib n (En.layS t n m facts).inn,rwHP q.ob m (En.layS t n m facts).of,rwHP q.bb m (En.layS t n m facts).beats]
set_option maxHeartbeats 128000000 in
theorem lay_ret (ht:TOk n m t) (hfr:∀ q∈facts,0≤q∧q < n)
 (hlook:∀ (r:Nat),r < m→supD t r=true→∀ s∈rowAt (tBeats t) r,∃ p,getM ((En.pair1 t n m (En.layE t n m facts)).d.getD (ruleAt t r).2.1.toNat []) s=some p∧0≤p∧p < ((En.pair1 t n m (En.layE t n m facts)).e.pairs.length:Nat))
 (w:World) (hT:ThOn (mem w (fun b=>¬ No b)) t x) (hF:Rd kInts (mem w (fun b=>¬ No b)) [.slice fA facts.length fc] facts):
 RetC Tryz.prog 47 [.agg (x.th t).toArray,.slice fA facts.length fc] w No (fun q:LQ=>ptrV q.be) (layH t x n m facts):=by
 have hle:Mem.le (mem w (fun b=>¬ No b)) (mem w (fun b=>¬ No b)):=Mem.le_refl _
 have hr:=ht.rules
 obtain ⟨hn,hm⟩:=ht.small
 refine Calls.enter Tryz.func47 rfl _ rfl rfl (S:=No) (H:=[]) trivial ?_
 refine CW.seqR ?_
 refine RW.box_agg rfl rfl fun b2 _=>?_
 refine Jd ?_;refine Jb ?_
 refine CW.seqA (by kernel_rfl) rfl ?_
 refine AW.val rfl (fun _ _=>by refine Je ?_;exact RW.done rfl) ?_;refine AW.val rfl (fun _ _=>by refine JA ?_;exact RW.done rfl) ?_;refine AW.val rfl (fun _ _=>by refine Je ?_;exact RW.done rfl) ?_;refine AW.val rfl (fun _ _=>by refine JA ?_;exact RW.done rfl) ?_;refine AW.val rfl (fun _ _=>by refine Jg ?_;exact RW.done rfl) ?_;refine AW.val rfl (fun _ _=>by refine Jd ?_;exact RW.done rfl) ?_;refine AW.val rfl (fun _ _=>by refine Jd ?_;exact RW.done rfl) ?_
 refine AW.stop (by kernel_rfl) (by kernel_rfl) fun bs0=>?_
 refine RW.nil (PW.code ?_)
 rw [ht.lits,hr]
 refine CW.keep [(1,.slice fA facts.length fc),(2,ptrV b2),(5,.int .i64 n),(6,.int .i64 m)] ⟨rfl,rfl,rfl,rfl,trivial⟩ ?_
 refine CW.seqA (by kernel_rfl) rfl ?_
 refine AW.val rfl (fun _ _=>by refine JE ?_;exact RW.done rfl) ?_;refine AW.val rfl (fun _ _=>by refine Jc ?_;exact RW.done rfl) ?_
 (apply AW.gen (fun b=>slV b n) (fun b=>ownHP 45 1 (slV b n) (List.replicate n [.int .u8 0])) rfl;· intro Gx X;refine RW.make (n:=n) (zc:=[.int .u8 0]) rfl rfl rfl rfl rfl (by unfold maxN;omega) (by omega) rfl fun b=>?_;exact RW.done_gen rfl)
 refine AW.val rfl (fun _ _=>by refine Jc ?_;exact RW.done rfl) ?_
 (apply AW.gen (fun b=>slV b n) (fun b=>ownHP 26 1 (slV b n) (List.replicate n [.slice none 0 0])) rfl;· intro Gx X;refine RW.make (n:=n) (zc:=[.slice none 0 0]) rfl rfl rfl rfl rfl (by unfold maxN;omega) (by omega) rfl fun b=>?_;exact RW.done_gen rfl)
 refine AW.val rfl (fun _ _=>by refine Jc ?_;exact RW.done rfl) ?_
 (apply AW.gen (fun b=>slV b m) (fun b=>ownHP 3 1 (slV b m) (List.replicate m [.int .i64 0])) rfl;· intro Gx X;refine RW.make (n:=m) (zc:=[.int .i64 0]) rfl rfl rfl rfl rfl (by unfold maxN;omega) (by omega) rfl fun b=>?_;exact RW.done_gen rfl)
 refine AW.val rfl (fun _ _=>by refine Jc ?_;exact RW.done rfl) ?_
 (apply AW.gen (fun b=>slV b m) (fun b=>ownHP 3 1 (slV b m) (List.replicate m [.int .i64 0])) rfl;· intro Gx X;refine RW.make (n:=m) (zc:=[.int .i64 0]) rfl rfl rfl rfl rfl (by unfold maxN;omega) (by omega) rfl fun b=>?_;exact RW.done_gen rfl)
 refine AW.val rfl (fun _ _=>by refine Jc ?_;exact RW.done rfl) ?_
 (apply AW.gen (fun b=>slV b m) (fun b=>ownHP 4 1 (slV b m) (List.replicate m [.bool false])) rfl;· intro Gx X;refine RW.make (n:=m) (zc:=[.bool false]) rfl rfl rfl rfl rfl (by unfold maxN;omega) (by omega) rfl fun b=>?_;exact RW.done_gen rfl)
 refine AW.val rfl (fun _ _=>by refine Jc ?_;exact RW.done rfl) ?_
 (apply AW.gen (fun b=>slV b m) (fun b=>ownHP 4 1 (slV b m) (List.replicate m [.bool false])) rfl;· intro Gx X;refine RW.make (n:=m) (zc:=[.bool false]) rfl rfl rfl rfl rfl (by unfold maxN;omega) (by omega) rfl fun b=>?_;exact RW.done_gen rfl)
 refine AW.val rfl (fun _ _=>by refine Jc ?_;exact RW.done rfl) ?_
 (apply AW.gen (fun b=>slV b n) (fun b=>ownHP 3 1 (slV b n) (List.replicate n [.int .i64 0])) rfl;· intro Gx X;refine RW.make (n:=n) (zc:=[.int .i64 0]) rfl rfl rfl rfl rfl (by unfold maxN;omega) (by omega) rfl fun b=>?_;exact RW.done_gen rfl)
 refine AW.val rfl (fun _ _=>by refine Jc ?_;exact RW.done rfl) ?_
 (apply AW.gen (fun b=>slV b n) (fun b=>ownHP 3 1 (slV b n) (List.replicate n [.int .i64 0])) rfl;· intro Gx X;refine RW.make (n:=n) (zc:=[.int .i64 0]) rfl rfl rfl rfl rfl (by unfold maxN;omega) (by omega) rfl fun b=>?_;exact RW.done_gen rfl)
 refine AW.val rfl (fun _ _=>by refine Jc ?_;exact RW.done rfl) ?_
 (apply AW.gen (fun b=>slV b n) (fun b=>ownHP 4 1 (slV b n) (List.replicate n [.bool false])) rfl;· intro Gx X;refine RW.make (n:=n) (zc:=[.bool false]) rfl rfl rfl rfl rfl (by unfold maxN;omega) (by omega) rfl fun b=>?_;exact RW.done_gen rfl)
 refine AW.val rfl (fun _ _=>by refine Jc ?_;exact RW.done rfl) ?_
 (apply AW.gen (fun b=>slV b n) (fun b=>ownHP 3 1 (slV b n) (List.replicate n [.int .i64 0])) rfl;· intro Gx X;refine RW.make (n:=n) (zc:=[.int .i64 0]) rfl rfl rfl rfl rfl (by unfold maxN;omega) (by omega) rfl fun b=>?_;exact RW.done_gen rfl)
 refine AW.val rfl (fun _ _=>by refine Jc ?_;exact RW.done rfl) ?_
 (apply AW.gen (fun b=>slV b n) (fun b=>ownHP 4 1 (slV b n) (List.replicate n [.bool false])) rfl;· intro Gx X;refine RW.make (n:=n) (zc:=[.bool false]) rfl rfl rfl rfl rfl (by unfold maxN;omega) (by omega) rfl fun b=>?_;exact RW.done_gen rfl)
 refine AW.val rfl (fun _ _=>by refine Jc ?_;exact RW.done rfl) ?_
 (apply AW.gen (fun b=>slV b n) (fun b=>ownHP 3 1 (slV b n) (List.replicate n [.int .i64 0])) rfl;· intro Gx X;refine RW.make (n:=n) (zc:=[.int .i64 0]) rfl rfl rfl rfl rfl (by unfold maxN;omega) (by omega) rfl fun b=>?_;exact RW.done_gen rfl)
 refine AW.val rfl (fun _ _=>by refine Jc ?_;exact RW.done rfl) ?_
 (apply AW.gen (fun b=>slV b n) (fun b=>ownHP 4 1 (slV b n) (List.replicate n [.bool false])) rfl;· intro Gx X;refine RW.make (n:=n) (zc:=[.bool false]) rfl rfl rfl rfl rfl (by unfold maxN;omega) (by omega) rfl fun b=>?_;exact RW.done_gen rfl)
 refine AW.val rfl (fun _ _=>by refine Jc ?_;exact RW.done rfl) ?_
 (apply AW.gen (fun b=>slV b m) (fun b=>ownHP 26 1 (slV b m) (List.replicate m [.slice none 0 0])) rfl;· intro Gx X;refine RW.make (n:=m) (zc:=[.slice none 0 0]) rfl rfl rfl rfl rfl (by unfold maxN;omega) (by omega) rfl fun b=>?_;exact RW.done_gen rfl)
 refine AW.val rfl (fun _ _=>by refine Jc ?_;exact RW.done rfl) ?_
 (apply AW.gen (fun b=>slV b m) (fun b=>ownHP 26 1 (slV b m) (List.replicate m [.slice none 0 0])) rfl;· intro Gx X;refine RW.make (n:=m) (zc:=[.slice none 0 0]) rfl rfl rfl rfl rfl (by unfold maxN;omega) (by omega) rfl fun b=>?_;exact RW.done_gen rfl)
 skip
 refine AW.stop (by kernel_rfl) (by kernel_rfl) fun bs=>?_
 refine RW.build (v:=.agg (enC (⟨bs 34,bs 38,bs 40,bs 42,bs 44,bs 46,bs 48,bs 50,bs 52,bs 54,bs 56,bs 58⟩:EAd) (zL t x [] [] [] 0 (bs 36) (bs 60) (bs 62) n m none 0 0) n m (.slice none 0 0) 0 0).toArray) rfl (fun w=>by kernel_rfl) rfl ?_
 refine RW.box_agg rfl rfl fun be _=>?_
 refine Jd ?_;refine Jb ?_
 refine CW.sep _ (fun w A h=>lay_start (a:=(⟨bs 34,bs 38,bs 40,bs 42,bs 44,bs 46,bs 48,bs 50,bs 52,bs 54,bs 56,bs 58⟩:EAd)) h) ?_
 refine CW.keep [(1,.slice fA facts.length fc),(2,ptrV b2),(5,.int .i64 n),(6,.int .i64 m),(7,ptrV be)] ⟨rfl,rfl,rfl,rfl,rfl,trivial⟩ ?_
 generalize (⟨bs 34,bs 38,bs 40,bs 42,bs 44,bs 46,bs 48,bs 50,bs 52,bs 54,bs 56,bs 58⟩:EAd)=a at *
 generalize bs 36=ib at *
 generalize bs 60=ob at *
 generalize bs 62=bb at *
 obtain ⟨inn,hinn⟩:∃ inn,inn=upto (En.lay1I t) m 0 (List.replicate n []):=⟨_,rfl⟩
 obtain ⟨e1,he1⟩:∃ e1,e1=upto (En.lay1 t) m 0 (En.lay0 n m):=⟨_,rfl⟩
 obtain ⟨fct,hfct⟩:∃ fct,fct=facts.foldl En.lay2F (List.replicate n false):=⟨_,rfl⟩
 obtain ⟨e2,he2⟩:∃ e2,e2=facts.foldl En.lay2 e1:=⟨_,rfl⟩
 obtain ⟨e3,he3⟩:∃ e3,e3=upto (En.lay3 t) m 0 e2:=⟨_,rfl⟩
 obtain ⟨e4,he4⟩:∃ e4,e4=upto (En.lay4 fct) n 0 e3:=⟨_,rfl⟩
 obtain ⟨e5,he5⟩:∃ e5,e5=upto (En.lay5 t) n 0 e4:=⟨_,rfl⟩
 have hE:En.layE t n m facts=e5:=by subst hfct he1 he2 he3 he4 he5;rfl
 have hI:En.layIn t n m=inn:=by subst hinn;rfl
 refine CW.cut (ι:={ _u:Unit // LOk n m e1∧RowsOk n m (16 * 4096) inn }) (fun _=>[(1,.slice fA facts.length fc),(2,ptrV b2),(5,.int .i64 n),(6,.int .i64 m),(7,ptrV be)]) (fun _=>enH be a (zL t x [] [] [] 0 ib ob bb n m none 0 0) n m (.slice none 0 0) e1++[blk b2 (x.th t) 25,rwHP ib n inn,rwHP ob m (List.replicate m []),rwHP bb m (List.replicate m [])]) ?_ (fun ⟨_,hk1,hro⟩=>?_)
 ·refine Ja ?_;refine Je ?_
  refine EL.ex rfl rfl rfl rfl ?_
  refine Jg ?_;refine Jc ?_;refine Jb ?_
  refine CW.block ?_
  refine CW.loop (ι:={ q:Nat × En × List (List Int) // q.1≤m∧LOk n m q.2.1∧RowsOk n m (16 * q.1) q.2.2∧e1=upto (En.lay1 t) (m - q.1) q.1 q.2.1∧inn=upto (En.lay1I t) (m - q.1) q.1 q.2.2 })
   (fun q=>[(66,.slice x.A2 (tRules t).length x.c2),(67,.int .i64 (tRules t).length),(68,.int .i64 q.1.1),(1,.slice fA facts.length fc),(2,ptrV b2),(5,.int .i64 n),(6,.int .i64 m),(7,ptrV be)]) (fun q=>enH be a (zL t x [] [] [] 0 ib ob bb n m none 0 0) n m (.slice none 0 0) q.1.2.1++[blk b2 (x.th t) 25,rwHP ib n q.1.2.2,rwHP ob m (List.replicate m []),rwHP bb m (List.replicate m [])]) (fun q=>m - q.1.1) ⟨(0,En.lay0 n m,List.replicate n []),Nat.zero_le _,LOk.new n m,RowsOk.new _ _ _,he1,hinn⟩ ⟨rfl,rfl,rfl,rfl,rfl,rfl,rfl,rfl,trivial⟩ (fun h=>h) ?_
  intro ⟨⟨i,e,il⟩,hi,hk,hil,hS,hSi⟩
  dsimp only at hi hk hil hS hSi ⊢
  refine Ja ?_;refine Jk ?_;refine Jb ?_
  refine CW.seq ?_
  refine CW.ite rfl (fun hlt=>?_) (fun hge=>?_)
  rotate_left
  ·have hW:e1=e:=by rw [hS,show m - i=0 by omega];rfl
   have hWi:inn=il:=by rw [hSi,show m - i=0 by omega];rfl
   rw [hW,hWi]
   refine CW.exit rfl ?_
   exact PW.meet ⟨(),hk,hil.mono (Nat.le_refl _) (by omega)⟩ ⟨rfl,rfl,rfl,rfl,rfl,trivial⟩ (fun h=>h)
  have hi':i < m:=by omega
  obtain ⟨B5,O5,A5,c5,hA5,hm5,hl5,_⟩:=rule_at hT (i:=(i:Int)) (by omega) (by omega)
  obtain ⟨⟨hd0,hd1⟩,hb16,hbr⟩:=ht.rule (r:=(i:Int)) (by omega) (by omega)
  rw [show m - i=(m - (i + 1)) + 1 by omega,upto] at hS hSi
  have hk':LOk n m (En.lay1 t e i):=hk.lay1
  have hil':RowsOk n m (16 * (i + 1)) (En.lay1I t il i):=lay1I_ok ht hi' hil
  refine CW.skip ?_
  refine PW.code ?_
  refine CW.cut (ι:=Unit) (fun _=>[(66,.slice x.A2 (tRules t).length x.c2),(67,.int .i64 (tRules t).length),(68,.int .i64 i),(1,.slice fA facts.length fc),(2,ptrV b2),(5,.int .i64 n),(6,.int .i64 m),(7,ptrV be)]) (fun _=>enH be a (zL t x [] [] [] 0 ib ob bb n m none 0 0) n m (.slice none 0 0) (En.lay1 t e i)++[blk b2 (x.th t) 25,rwHP ib n (En.lay1I t il i),rwHP ob m (List.replicate m []),rwHP bb m (List.replicate m [])]) ?_ (fun _=>?_)
  ·refine CW.block ?_
   refine Ja ?_;refine Jc ?_
   refine RW.indexAddrE hA5 rfl rfl (by omega) hlt rfl ?_
   refine RW.load_ros (cs:=ruleC (ruleAt t i) A5 c5) rfl hle hm5 rfl rfl (by simp) rfl ?_
   refine RW.alloc (c:=[.int .i64 0,.int .i64 0,.slice none 0 0]) rfl rfl fun b9 _=>?_
   refine Jd ?_
   refine RW.store_whole [] (vs:=ruleC (ruleAt t i) A5 c5) rfl rfl rfl rfl rfl (by simp [Value.oneCell']) ?_
   refine RW.nil (PW.code ?_)
   refine CW.sep (enH be a (zL t x [] [] [] 0 ib ob bb n m none 0 0) n m (.slice none 0 0) e++[blk b9 (ruleC (ruleAt t i) A5 c5) 51,blk b2 (x.th t) 25,rwHP ib n il,rwHP ob m (List.replicate m []),rwHP bb m (List.replicate m [])]) (fun w A h=>?_) ?_
   ·exact Sep.take [1,2,3,4,5,6,7,8,9,10,11,12,13,14,15,0,16,17,18,19] h
   refine CW.keep [(8,.int .i64 i),(9,ptrV b9),(66,.slice x.A2 (tRules t).length x.c2),(67,.int .i64 (tRules t).length),(68,.int .i64 i),(1,.slice fA facts.length fc),(2,ptrV b2),(5,.int .i64 n),(6,.int .i64 m),(7,ptrV be)] ⟨rfl,rfl,rfl,rfl,rfl,rfl,rfl,rfl,rfl,rfl,trivial⟩ ?_
   refine CW.seqL 9 (by kernel_rfl) rfl rfl rfl rfl rfl (by kernel_rfl) (by kernel_rfl) (by kernel_rfl) rfl ?_
   refine WA.store 17 (fun bo=>enH be a (zL t x [] [] [] 0 ib ob bb n m none 0 0) n m (.slice none 0 0) (cond bo { e with needD:=e.needD.set i ((ruleAt t i).2.2.length:Nat) } e)++[blk b9 (ruleC (ruleAt t i) A5 c5) 51,blk b2 (x.th t) 25,rwHP ib n il,rwHP ob m (List.replicate m []),rwHP bb m (List.replicate m [])]) (by kernel_rfl) ?_
   refine AS.val rfl rfl (fun _ _=>by refine Jc ?_;exact RW.done rfl) ?_;refine AS.val rfl rfl (fun _ _=>by refine Jf ?_;exact RW.done rfl) ?_;refine AS.val rfl rfl (fun _ _=>by refine Je ?_;exact RW.done rfl) ?_;refine AS.val rfl rfl (fun _ _=>by refine EL.hdr rfl rfl rfl rfl ?_;exact RW.done rfl) ?_;refine AS.val rfl rfl (fun _ _=>by refine Jc ?_;exact RW.done rfl) ?_;refine AS.val rfl rfl (fun _ _=>by refine Jc ?_;exact RW.done rfl) ?_;refine AS.val rfl rfl (fun _ _=>by refine Jf ?_;exact RW.done rfl) ?_;refine AS.val rfl rfl (fun _ _=>by refine Je ?_;exact RW.done rfl) ?_;refine AS.val rfl rfl (fun _ _=>by refine EL.hdr rfl rfl rfl rfl ?_;exact RW.done rfl) ?_;refine AS.val rfl rfl (fun _ _=>by refine Jc ?_;exact RW.done rfl) ?_;refine AS.val rfl rfl (fun _ _=>by refine Je ?_;exact RW.done rfl) ?_
   (apply AS.val rfl rfl;· intro bb Gx;(first | refine RW.yes rfl ?_ | skip);refine EL.ex rfl rfl rfl rfl ?_;exact RW.done rfl)
   refine AS.val rfl rfl (fun _ _=>by refine Jg ?_;exact RW.done rfl) ?_;refine AS.val rfl rfl (fun _ _=>by refine Je ?_;exact RW.done rfl) ?_
   (apply AS.val rfl rfl;· intro bb Gx;(first | refine RW.yes rfl ?_ | skip);refine EL.ex rfl rfl rfl rfl ?_;exact RW.done rfl)
   refine AS.val rfl rfl (fun _ _=>by refine Jg ?_;exact RW.done rfl) ?_
   (apply AS.val rfl rfl;· intro bb Gx;(first | refine RW.yes rfl ?_ | skip);refine RW.indexAddr rfl rfl (by omega) (by omega) rfl ?_;exact RW.done rfl)
   (apply AS.put rfl;· intro Gx;refine ES.needD hk.ok rfl rfl (q:=(i:Int)) (by omega) (by omega) ?_;exact RW.done_put)
   (apply AS.val rfl rfl;· intro bb Gx;(first | refine RW.yes rfl ?_ | skip);refine RW.indexAddr rfl rfl (by omega) (by omega) rfl ?_;exact RW.done rfl)
   refine AS.stop rfl (by kernel_rfl) (by kernel_rfl) ?_
   refine ES.need (hk.ok.needD1 _ _) rfl rfl (q:=(i:Int)) (by omega) (by omega) ?_
   refine RW.nil (PW.code ?_)
   have hkB:LOk n m (En.lay1B t e i):=hk.lay1B
   refine CW.sep (enH be a (zL t x [] [] [] 0 ib ob bb n m none 0 0) n m (.slice none 0 0) (En.lay1B t e i)++[blk b9 (ruleC (ruleAt t i) A5 c5) 51,blk b2 (x.th t) 25,rwHP ib n il,rwHP ob m (List.replicate m []),rwHP bb m (List.replicate m [])]) (fun w A h=>h) ?_
   refine CW.keep [(8,.int .i64 i),(9,ptrV b9),(66,.slice x.A2 (tRules t).length x.c2),(67,.int .i64 (tRules t).length),(68,.int .i64 i),(1,.slice fA facts.length fc),(2,ptrV b2),(5,.int .i64 n),(6,.int .i64 m),(7,ptrV be)] ⟨rfl,rfl,rfl,rfl,rfl,rfl,rfl,rfl,rfl,rfl,trivial⟩ ?_
   refine CW.cut (ι:=Unit) (fun _=>[(8,.int .i64 i),(9,ptrV b9),(66,.slice x.A2 (tRules t).length x.c2),(67,.int .i64 (tRules t).length),(68,.int .i64 i),(1,.slice fA facts.length fc),(2,ptrV b2),(5,.int .i64 n),(6,.int .i64 m),(7,ptrV be)]) (fun _=>enH be a (zL t x [] [] [] 0 ib ob bb n m none 0 0) n m (.slice none 0 0) (En.lay1B t e i)++[blk b9 (ruleC (ruleAt t i) A5 c5) 51,blk b2 (x.th t) 25,rwHP ib n (En.lay1I t il i),rwHP ob m (List.replicate m []),rwHP bb m (List.replicate m [])]) ?_ (fun _=>?_)
   ·refine Ja ?_;refine Je ?_
    refine EL.ex rfl rfl rfl rfl ?_
    refine Jg ?_;refine Jc ?_;refine Jb ?_
    have hIn:En.lay1I t il i=(ruleAt t i).2.2.foldl (fun l b=>pushAt l b i) il:=rfl
    rw [hIn]
    clear hIn hil' hSi
    obtain ⟨L,hL⟩:∃ L,L=(ruleAt t i).2.2:=⟨_,rfl⟩
    rw [← hL] at hl5 hb16 hbr ⊢
    refine CW.keep [(92,.slice A5 L.length c5),(93,.int .i64 L.length),(94,.int .i64 0),(8,.int .i64 i),(9,ptrV b9),(66,.slice x.A2 (tRules t).length x.c2),(67,.int .i64 (tRules t).length),(68,.int .i64 i),(1,.slice fA facts.length fc),(2,ptrV b2),(5,.int .i64 n),(6,.int .i64 m),(7,ptrV be)] ⟨by rw [hL];rfl,by rw [hL];rfl,rfl,rfl,rfl,rfl,rfl,rfl,rfl,rfl,rfl,rfl,rfl,trivial⟩ ?_
    refine CW.block ?_
    refine CW.loop (ι:={ q:Nat × List (List Int) // q.1≤L.length∧RowsOk n m (16 * i + q.1) q.2∧L.foldl (fun l b=>pushAt l b i) il=(L.drop q.1).foldl (fun l b=>pushAt l b i) q.2 })
     (fun q=>[(92,.slice A5 L.length c5),(93,.int .i64 L.length),(94,.int .i64 q.1.1),(8,.int .i64 i),(9,ptrV b9),(66,.slice x.A2 (tRules t).length x.c2),(67,.int .i64 (tRules t).length),(68,.int .i64 i),(1,.slice fA facts.length fc),(2,ptrV b2),(5,.int .i64 n),(6,.int .i64 m),(7,ptrV be)]) (fun q=>enH be a (zL t x [] [] [] 0 ib ob bb n m none 0 0) n m (.slice none 0 0) (En.lay1B t e i)++[blk b9 (ruleC (ruleAt t i) A5 c5) 51,blk b2 (x.th t) 25,rwHP ib n q.1.2,rwHP ob m (List.replicate m []),rwHP bb m (List.replicate m [])]) (fun q=>L.length - q.1.1) ⟨(0,il),Nat.zero_le _,hil,rfl⟩ ⟨rfl,rfl,rfl,rfl,rfl,rfl,rfl,rfl,rfl,rfl,rfl,rfl,rfl,trivial⟩ (fun h=>h) ?_
    intro ⟨⟨j,y⟩,hj,hy,hS3⟩
    dsimp only at hj hy hS3 ⊢
    refine Ja ?_;refine Jk ?_;refine Jb ?_
    refine CW.seq ?_
    refine CW.ite rfl (fun hlt3=>?_) (fun hge3=>?_)
    rotate_left
    ·rw [List.drop_eq_nil_of_le (by omega),List.foldl_nil] at hS3
     rw [hS3]
     refine CW.exit rfl ?_
     exact PW.meet () ⟨rfl,rfl,rfl,rfl,rfl,rfl,rfl,rfl,rfl,rfl,trivial⟩ (fun h=>h)
    have hlt4:j < L.length:=by omega
    rw [foldl_drop hlt4] at hS3
    obtain ⟨B4,O4,hA4,hm4,_⟩:=ints_get hl5 (List.getElem?_eq_getElem hlt4)
    obtain ⟨u0,u1⟩:=hbr _ (List.getElem_mem hlt4)
    generalize L[j]=u at *
    have hy':RowsOk n m (16 * i + j + 1) (pushAt y u i):=hy.push (Nat.le_refl _) u0 u1 (by omega) (by omega)
    refine CW.skip ?_
    refine PW.code ?_
    refine CW.cut (ι:=Unit) (fun _=>[(92,.slice A5 L.length c5),(93,.int .i64 L.length),(94,.int .i64 j),(8,.int .i64 i),(9,ptrV b9),(66,.slice x.A2 (tRules t).length x.c2),(67,.int .i64 (tRules t).length),(68,.int .i64 i),(1,.slice fA facts.length fc),(2,ptrV b2),(5,.int .i64 n),(6,.int .i64 m),(7,ptrV be)]) (fun _=>enH be a (zL t x [] [] [] 0 ib ob bb n m none 0 0) n m (.slice none 0 0) (En.lay1B t e i)++[blk b9 (ruleC (ruleAt t i) A5 c5) 51,blk b2 (x.th t) 25,rwHP ib n (pushAt y u i),rwHP ob m (List.replicate m []),rwHP bb m (List.replicate m [])]) ?_ (fun _=>?_)
    ·refine CW.block ?_
     refine Ja ?_
     refine RW.indexAddrE hA4 rfl rfl (by omega) hlt3 rfl ?_
     refine RW.load_ro rfl hle (ints_at hm4) rfl rfl ?_
     refine Jd ?_;refine Jb ?_
     have hl:y[u.toNat]?=some (rowAt y u):=getD_some (d:=[]) hy.len u0 u1
     have hbi:u.toNat < y.length:=by rw [hy.len];omega
     have hrl:=(hy.at_ u0 u1).1
     refine CW.sepEx (ι:=List (List Value) × Value) (fun q=>q.1[u.toNat]?=some [q.2]∧q.1.length=(y).length) (fun q=>ownHP 3 1 q.2 ((rowAt y u).map intE)::(enH be a (zL t x [] [] [] 0 ib ob bb n m none 0 0) n m (.slice none 0 0) (En.lay1B t e i)++[blk b9 (ruleC (ruleAt t i) A5 c5) 51,blk b2 (x.th t) 25,ownHP 26 1 (slV ib n) q.1,innerHP (some (u.toNat)) 3 q.1 (y),rwHP ob m (List.replicate m []),rwHP bb m (List.replicate m [])])) (fun w A h=>?_) (fun ⟨es,uv⟩ ⟨hq1,hq2⟩=>?_)
     ·obtain ⟨q,hq,h2⟩:=rows_focus hl (Sep.take [17,0,1,2,3,4,5,6,7,8,9,10,11,12,13,14,15,16,18,19] h)
      exact ⟨q,hq,Sep.take [1,3,4,5,6,7,8,9,10,11,12,13,14,15,16,17,18,19,0,2,20,21] h2⟩
     dsimp only at hq1 hq2
     refine CW.regB 14 13 _ (by kernel_rfl) (by kernel_rfl) ?_
     refine AB.val rfl rfl (fun _ _=>by refine Jc ?_;exact RW.done rfl) ?_;refine AB.val rfl rfl (fun _ _=>by refine Jf ?_;exact RW.done rfl) ?_;refine AB.val rfl rfl (fun _ _=>by refine Je ?_;exact RW.done rfl) ?_;refine AB.val rfl rfl (fun _ _=>by refine JA ?_;exact RW.done rfl) ?_;refine AB.val rfl rfl (fun _ _=>by refine Jc ?_;exact RW.done rfl) ?_;refine AB.val rfl rfl (fun _ _=>by refine Jc ?_;exact RW.done rfl) ?_;refine AB.val rfl rfl (fun _ _=>by refine Jf ?_;exact RW.done rfl) ?_;refine AB.val rfl rfl (fun _ _=>by refine Je ?_;exact RW.done rfl) ?_;refine AB.val rfl rfl (fun _ _=>by refine JA ?_;exact RW.done rfl) ?_;refine AB.val rfl rfl (fun _ _=>by refine Jc ?_;exact RW.done rfl) ?_
     (apply AB.val rfl rfl;· intro Gx X;(first | refine RW.yes rfl ?_ | skip);refine RW.indexAddr rfl rfl u0 u1 rfl ?_;exact RW.done rfl)
     (apply AB.val rfl rfl;· intro Gx X;(first | refine RW.yes rfl ?_ | skip);refine RW.loadOwn1 [_,_,_,_,_,_,_,_,_,_,_,_,_,_,_,_,_] (i:=u.toNat) (j:=0) rfl (by simp) hq1 rfl rfl rfl ?_;exact RW.done rfl)
     refine AB.val rfl rfl (fun _ _=>by refine Jc ?_;exact RW.done rfl) ?_
     (apply AB.gen (fun b=>.slice (some ⟨b,0,none⟩) 1 1) (fun b=>blk b [.int .i64 ((i:Int))] 3) rfl rfl;· intro Gx X;refine RW.buildSlice (e:=3) (c:=[.int .i64 ((i:Int))]) rfl (fun w=>by kernel_rfl) rfl fun b _=>?_;exact RW.done_gen rfl)
     refine AB.app (fun mm=>encU ((rowAt y u).length + 1) mm) (fun mm=>ownHP 3 1 (encU ((rowAt y u).length + 1) mm) (((rowAt y u)++[(i:Int)]).map intE)) rfl rfl rfl rfl rfl rfl (fun b Gx X=>?_) ?_
     ·refine RW.append [_] (e:=3) (sz:=1) (news:=[[.int .i64 ((i:Int))]]) (zc:=[.int .i64 0]) rfl rfl rfl rfl rfl (by simp) (by simp [Value.oneCell']) (fun w hw hn=>?_) ?_ ?_ rfl fun u1=>?_
      ·exact ⟨b,0,rfl,CellsAt.of_blk (St.blk (pre:=[]) hw)⟩
      ·rw [List.length_map];omega
      ·rw [List.length_map];unfold maxN;omega
      rw [show (rowAt y u).map intE++[[.int .i64 ((i:Int))]]=((rowAt y u)++[(i:Int)]).map intE by rw [List.map_append];rfl]
      refine RW.have_ (φ:=∃ mm,u1=encU ((rowAt y u).length + 1) mm) (fun w hw=>by have:=enc_ownU (pre:=[_]) hw;rwa [List.length_map,List.length_append,List.length_singleton] at this) (fun ⟨mm,hmm⟩=>?_)
      subst hmm
      exact RW.done_app rfl
     refine AB.stop rfl (by kernel_rfl) (by kernel_rfl) fun bs2=>?_
     have hv1:=encU_cells ((rowAt y u).length + 1) (bs2 112)
     refine RW.indexAddr rfl rfl u0 u1 rfl ?_
     refine RW.storeOwn [_,_,_,_,_,_,_,_,_,_,_,_,_,_,_,_,_] (v:=encU ((rowAt y u).length + 1) (bs2 112)) (i:=u.toNat) (j:=0) rfl (by simp) rfl hv1.1 hv1.2 hq1 (Nat.zero_lt_succ _) ?_
     refine RW.nil ?_
     refine PW.sep (H':=enH be a (zL t x [] [] [] 0 ib ob bb n m none 0 0) n m (.slice none 0 0) (En.lay1B t e i)++[blk b9 (ruleC (ruleAt t i) A5 c5) 51,blk b2 (x.th t) 25,rowsHP 26 3 (slV ib n) ((y).set (u.toNat) ((rowAt y u)++[(i:Int)])),rwHP ob m (List.replicate m []),rwHP bb m (List.replicate m [])]) (fun w A h=>?_) ?_
     ·have h2:=rows_unfocus (l:=(rowAt y u)++[(i:Int)]) (i:=u.toNat) hbi (Sep.take [17,21,18,0,1,2,3,4,5,6,7,8,9,10,11,12,13,14,15,16,19,20] h)
      exact Sep.take [1,2,3,4,5,6,7,8,9,10,11,12,13,14,15,16,17,0,18,19] h2
     exact PW.meet () ⟨rfl,rfl,rfl,rfl,rfl,rfl,rfl,rfl,rfl,rfl,rfl,rfl,rfl,trivial⟩ (fun h=>h)
    refine CW.region ?_
    refine RW.add rfl rfl (w64 (by omega) (by omega)) rfl ?_
    refine Jc ?_
    refine RW.nil ?_
    exact PW.again ⟨(j + 1,pushAt y u i),hlt4,hy',hS3⟩ ⟨rfl,rfl,rfl,rfl,rfl,rfl,rfl,rfl,rfl,rfl,rfl,rfl,rfl,trivial⟩ (fun h=>h) (by show L.length - (j + 1) < L.length - j;omega)
   refine CW.cut (ι:=Unit) (fun _=>[(8,.int .i64 i),(9,ptrV b9),(66,.slice x.A2 (tRules t).length x.c2),(67,.int .i64 (tRules t).length),(68,.int .i64 i),(1,.slice fA facts.length fc),(2,ptrV b2),(5,.int .i64 n),(6,.int .i64 m),(7,ptrV be)]) (fun _=>enH be a (zL t x [] [] [] 0 ib ob bb n m none 0 0) n m (.slice none 0 0) (En.lay1S t (En.lay1B t e i) i)++[blk b9 (ruleC (ruleAt t i) A5 c5) 51,blk b2 (x.th t) 25,rwHP ib n (En.lay1I t il i),rwHP ob m (List.replicate m []),rwHP bb m (List.replicate m [])]) ?_ (fun _=>?_)
   ·refine Ja ?_;refine Je ?_
    refine EL.ex rfl rfl rfl rfl ?_
    refine Ji ?_;refine Jb ?_
    have hBo:=hkB.ok
    refine CW.ite rfl (fun h1=>?_) (fun h1=>?_)
    ·have e9:En.lay1S t (En.lay1B t e i) i={ En.lay1B t e i with strict:=En.inc (En.lay1B t e i).strict (ruleAt t i).2.1 }:=by unfold En.lay1S;rw [if_pos (beq_iff_eq.2 h1)]
     rw [e9]
     refine CW.anyV (by kernel_rfl) rfl ?_
     refine AW.val rfl (fun _ _=>by refine Jc ?_;exact RW.done rfl) ?_;refine AW.val rfl (fun _ _=>by refine Jf ?_;exact RW.done rfl) ?_;refine AW.val rfl (fun _ _=>by refine Je ?_;exact RW.done rfl) ?_;refine AW.val rfl (fun _ _=>by refine EL.hdr rfl rfl rfl rfl ?_;exact RW.done rfl) ?_;refine AW.val rfl (fun _ _=>by refine Je ?_;exact RW.done rfl) ?_
     (apply AW.val rfl;· intro Gx X;(first | refine RW.yes rfl ?_ | skip);refine EL.ex rfl rfl rfl rfl ?_;exact RW.done rfl)
     refine AW.val rfl (fun _ _=>by refine EL.idx rfl rfl (by assumption) (by assumption) rfl ?_;exact RW.done rfl) ?_;refine AW.val rfl (fun _ _=>by refine EL.strict (by assumption) rfl (by assumption) (by assumption) rfl ?_;exact RW.done rfl) ?_
     (apply AW.val rfl;· intro Gx X;(first | refine RW.yes rfl ?_ | skip);refine RW.add rfl rfl rfl rfl ?_;exact RW.done rfl)
     refine AW.val rfl (fun _ _=>by refine EL.idx rfl rfl (by assumption) (by assumption) rfl ?_;exact RW.done rfl) ?_
     refine AW.stop (by kernel_rfl) (by kernel_rfl) fun bq=>?_
     refine ES.strict hkB.ok rfl rfl hd0 hd1 ?_
     refine RW.nil ?_
     exact PW.meet () ⟨rfl,rfl,rfl,rfl,rfl,rfl,rfl,rfl,rfl,rfl,trivial⟩ (fun h=>h)
    have e9:En.lay1S t (En.lay1B t e i) i=En.lay1B t e i:=by unfold En.lay1S;rw [if_neg (by simp only [beq_false_of_ne h1];simp)]
    rw [e9]
    refine CW.skip ?_
    exact PW.meet () ⟨rfl,rfl,rfl,rfl,rfl,rfl,rfl,rfl,rfl,rfl,trivial⟩ (fun h=>h)
   have hkS:LOk n m (En.lay1S t (En.lay1B t e i) i):=hkB.lay1S
   have hSo:=hkS.ok
   refine Ja ?_;refine Jc ?_;refine Jc ?_
   refine RW.call Tryz.call79 rfl (fun w hw=>support_th (z:=(zL t x [] [] [] 0 ib ob bb n m none 0 0)) hw (hT.mono (ro_call hw)) hr (by omega) (by omega)) rfl ?_
   refine Jb ?_
   refine CW.cond rfl (fun h3=>?_) (fun h3=>?_)
   ·have e9:En.lay1 t e i={ En.lay1S t (En.lay1B t e i) i with backs:=En.inc (En.lay1S t (En.lay1B t e i) i).backs (ruleAt t i).2.1 }:=by unfold En.lay1 En.lay1K;rw [if_pos h3]
    rw [e9]
    refine CW.anyV (by kernel_rfl) rfl ?_
    refine AW.val rfl (fun _ _=>by refine Jc ?_;exact RW.done rfl) ?_;refine AW.val rfl (fun _ _=>by refine Jf ?_;exact RW.done rfl) ?_;refine AW.val rfl (fun _ _=>by refine Je ?_;exact RW.done rfl) ?_;refine AW.val rfl (fun _ _=>by refine EL.hdr rfl rfl rfl rfl ?_;exact RW.done rfl) ?_;refine AW.val rfl (fun _ _=>by refine Je ?_;exact RW.done rfl) ?_
    (apply AW.val rfl;· intro Gx X;(first | refine RW.yes rfl ?_ | skip);refine EL.ex rfl rfl rfl rfl ?_;exact RW.done rfl)
    refine AW.val rfl (fun _ _=>by refine EL.idx rfl rfl (by assumption) (by assumption) rfl ?_;exact RW.done rfl) ?_;refine AW.val rfl (fun _ _=>by refine EL.backs (by assumption) rfl (by assumption) (by assumption) rfl ?_;exact RW.done rfl) ?_
    (apply AW.val rfl;· intro Gx X;(first | refine RW.yes rfl ?_ | skip);refine RW.add rfl rfl rfl rfl ?_;exact RW.done rfl)
    refine AW.val rfl (fun _ _=>by refine EL.idx rfl rfl (by assumption) (by assumption) rfl ?_;exact RW.done rfl) ?_
    refine AW.stop (by kernel_rfl) (by kernel_rfl) fun bq=>?_
    refine ES.backs hkS.ok rfl rfl hd0 hd1 ?_
    refine RW.nil ?_
    exact PW.meet () ⟨rfl,rfl,rfl,rfl,rfl,rfl,rfl,rfl,trivial⟩ (fun h=>St.take [0,1,2,3,4,5,6,7,8,9,10,11,12,13,14,16,17,18,19] h)
   have e9:En.lay1 t e i=En.lay1S t (En.lay1B t e i) i:=by unfold En.lay1 En.lay1K;rw [if_neg (by simp [h3])]
   rw [e9]
   refine CW.skip ?_
   exact PW.meet () ⟨rfl,rfl,rfl,rfl,rfl,rfl,rfl,rfl,trivial⟩ (fun h=>St.take [0,1,2,3,4,5,6,7,8,9,10,11,12,13,14,16,17,18,19] h)
  refine CW.region ?_
  refine RW.add rfl rfl (w64 (by omega) (by omega)) rfl ?_
  refine Jc ?_
  refine RW.nil ?_
  exact PW.again ⟨(i + 1,En.lay1 t e i,En.lay1I t il i),hi',hk',hil',hS,hSi⟩ ⟨rfl,rfl,rfl,rfl,rfl,rfl,rfl,rfl,trivial⟩ (fun h=>h) (by show m - (i + 1) < m - i;omega)
 have hfs:=sl_small hF
 unfold reach at hfs
 refine Ja ?_;refine Jc ?_
 refine RW.make (n:=n) (zc:=[.bool false]) rfl rfl rfl rfl rfl (by unfold maxN;omega) (by omega) rfl fun fb=>?_
 refine Jd ?_;refine Jb ?_
 refine CW.sep (enH be a (zL t x [] [] [] 0 ib ob bb n m none 0 0) n m (.slice none 0 0) e1++[blk b2 (x.th t) 25,ownHP 4 1 (slV fb n) ((List.replicate n false).map boolE),rwHP ib n inn,rwHP ob m (List.replicate m []),rwHP bb m (List.replicate m [])]) (fun w A h=>?_) ?_
 ·have e9:List.replicate n [Value.bool false]=(List.replicate n false).map boolE:=by rw [List.map_replicate]
  rw [e9] at h
  exact Sep.take [1,2,3,4,5,6,7,8,9,10,11,12,13,14,15,16,0,17,18,19] h
 refine CW.keep [(12,slV fb n),(1,.slice fA facts.length fc),(2,ptrV b2),(5,.int .i64 n),(6,.int .i64 m),(7,ptrV be)] ⟨rfl,rfl,rfl,rfl,rfl,rfl,trivial⟩ ?_
 have hf0:(List.replicate n false).length=n:=by simp
 refine CW.cut (ι:={ sv:Value // LOk n m e2∧fct.length=n }) (fun _=>[(12,slV fb n),(1,.slice fA facts.length fc),(2,ptrV b2),(5,.int .i64 n),(6,.int .i64 m),(7,ptrV be)]) (fun q=>enH be a (zL t x [] [] [] 0 ib ob bb n m none 0 0) n m q.1 e2++[blk b2 (x.th t) 25,ownHP 4 1 (slV fb n) (fct.map boolE),rwHP ib n inn,rwHP ob m (List.replicate m []),rwHP bb m (List.replicate m [])]) ?_ (fun ⟨sv,hk2,hfl⟩=>?_)
 ·refine Ja ?_;refine Jc ?_;refine Jg ?_;refine Jc ?_;refine Jb ?_
  refine CW.block ?_
  refine CW.loop (ι:={ q:Nat × En × List Bool × Value // q.1≤facts.length∧LOk n m q.2.1∧q.2.2.1.length=n∧e2=(facts.drop q.1).foldl En.lay2 q.2.1∧fct=(facts.drop q.1).foldl En.lay2F q.2.2.1 })
   (fun q=>[(144,.slice fA facts.length fc),(145,.int .i64 facts.length),(146,.int .i64 q.1.1),(12,slV fb n),(1,.slice fA facts.length fc),(2,ptrV b2),(5,.int .i64 n),(6,.int .i64 m),(7,ptrV be)]) (fun q=>enH be a (zL t x [] [] [] 0 ib ob bb n m none 0 0) n m q.1.2.2.2 q.1.2.1++[blk b2 (x.th t) 25,ownHP 4 1 (slV fb n) (q.1.2.2.1.map boolE),rwHP ib n inn,rwHP ob m (List.replicate m []),rwHP bb m (List.replicate m [])]) (fun q=>facts.length - q.1.1) ⟨(0,e1,List.replicate n false,(.slice none 0 0)),Nat.zero_le _,hk1,hf0,he2,hfct⟩ ⟨rfl,rfl,rfl,rfl,rfl,rfl,rfl,rfl,rfl,trivial⟩ (fun h=>h) ?_
  intro ⟨⟨i,e,fl,sv⟩,hi,hk,hfl,hS,hSf⟩
  dsimp only at hi hk hfl hS hSf ⊢
  refine Ja ?_;refine Jk ?_;refine Jb ?_
  refine CW.seq ?_
  refine CW.ite rfl (fun hlt=>?_) (fun hge=>?_)
  rotate_left
  ·rw [List.drop_eq_nil_of_le (by omega),List.foldl_nil] at hS hSf
   rw [hS,hSf]
   refine CW.exit rfl ?_
   exact PW.meet ⟨sv,hk,hfl⟩ ⟨rfl,rfl,rfl,rfl,rfl,rfl,trivial⟩ (fun h=>h)
  have hlt1:i < facts.length:=by omega
  rw [List.drop_eq_getElem_cons hlt1,List.foldl_cons] at hS hSf
  obtain ⟨B4,O4,hA4,hm4,_⟩:=ints_get hF (List.getElem?_eq_getElem hlt1)
  obtain ⟨u0,u1⟩:=hfr _ (List.getElem_mem hlt1)
  generalize facts[i]=u at *
  have hk':LOk n m (En.lay2 e u):=hk.tell hn u0 u1 (by omega) (by omega)
  have hfl':(En.lay2F fl u).length=n:=by unfold En.lay2F;rw [List.length_set];exact hfl
  refine CW.skip ?_
  refine PW.code ?_
  refine CW.cut (ι:=Value) (fun _=>[(144,.slice fA facts.length fc),(145,.int .i64 facts.length),(146,.int .i64 i),(12,slV fb n),(1,.slice fA facts.length fc),(2,ptrV b2),(5,.int .i64 n),(6,.int .i64 m),(7,ptrV be)]) (fun sv3=>enH be a (zL t x [] [] [] 0 ib ob bb n m none 0 0) n m sv3 (En.lay2 e u)++[blk b2 (x.th t) 25,ownHP 4 1 (slV fb n) ((En.lay2F fl u).map boolE),rwHP ib n inn,rwHP ob m (List.replicate m []),rwHP bb m (List.replicate m [])]) ?_ (fun sv3=>?_)
  ·refine CW.block ?_
   refine Ja ?_
   refine RW.indexAddrE hA4 rfl rfl (by omega) hlt rfl ?_
   refine RW.load_ro rfl hle (ints_at hm4) rfl rfl ?_
   refine Jd ?_;refine Jb ?_;refine Ja ?_;refine Jc ?_;refine Jc ?_
   refine RW.indexAddr rfl rfl u0 u1 rfl ?_
   refine RW.storeOwn [_,_,_,_,_,_,_,_,_,_,_,_,_,_,_,_] (i:=u.toNat) (j:=0) (cs:=[.bool (fl.getD u.toNat false)]) rfl (by simp) rfl rfl rfl (by rw [List.getElem?_map,getD_some (d:=false) hfl u0 u1];rfl) (Nat.zero_lt_succ _) ?_
   refine RW.nil (PW.code ?_)
   refine CW.sep (enH be a (zL t x [] [] [] 0 ib ob bb n m none 0 0) n m sv e++[blk b2 (x.th t) 25,ownHP 4 1 (slV fb n) ((En.lay2F fl u).map boolE),rwHP ib n inn,rwHP ob m (List.replicate m []),rwHP bb m (List.replicate m [])]) (fun w A h=>?_) ?_
   ·have e9:(fl.map boolE).set u.toNat ([Value.bool (fl.getD u.toNat false)].set 0 (.bool true))=(En.lay2F fl u).map boolE:=List.map_set.symm
    rw [← e9];exact h
   refine CW.region ?_
   refine Jc ?_;refine Jc ?_
   refine RW.callD (enH be a (zL t x [] [] [] 0 ib ob bb n m none 0 0) n m sv e) Tryz.call80 rfl (fun w F _ hC _=>tell_ret (k:=1) hn hk.ok u0 u1 (by omega) (by omega) w F hC) rfl fun sv3=>?_
   refine RW.nil ?_
   exact PW.meet sv3 ⟨rfl,rfl,rfl,rfl,rfl,rfl,rfl,rfl,rfl,trivial⟩ (fun h=>h)
  refine CW.region ?_
  refine RW.add rfl rfl (w64 (by omega) (by omega)) rfl ?_
  refine Jc ?_
  refine RW.nil ?_
  exact PW.again ⟨(i + 1,En.lay2 e u,En.lay2F fl u,sv3),hlt1,hk',hfl',hS,hSf⟩ ⟨rfl,rfl,rfl,rfl,rfl,rfl,rfl,rfl,rfl,trivial⟩ (fun h=>h) (by show facts.length - (i + 1) < facts.length - i;omega)
 refine CW.cut (ι:={ sv:Value // LOk n m e3 }) (fun _=>[(12,slV fb n),(1,.slice fA facts.length fc),(2,ptrV b2),(5,.int .i64 n),(6,.int .i64 m),(7,ptrV be)]) (fun q=>enH be a (zL t x [] [] [] 0 ib ob bb n m none 0 0) n m q.1 e3++[blk b2 (x.th t) 25,ownHP 4 1 (slV fb n) (fct.map boolE),rwHP ib n inn,rwHP ob m (List.replicate m []),rwHP bb m (List.replicate m [])]) ?_ (fun ⟨sv,hk3⟩=>?_)
 ·refine Ja ?_;refine Je ?_
  refine EL.ex rfl rfl rfl rfl ?_
  refine Jg ?_;refine Jc ?_;refine Jb ?_
  refine CW.block ?_
  refine CW.loop (ι:={ q:Nat × En × Value // q.1≤m∧LOk n m q.2.1∧e3=upto (En.lay3 t) (m - q.1) q.1 q.2.1 })
   (fun q=>[(158,.slice x.A2 (tRules t).length x.c2),(159,.int .i64 (tRules t).length),(160,.int .i64 q.1.1),(12,slV fb n),(1,.slice fA facts.length fc),(2,ptrV b2),(5,.int .i64 n),(6,.int .i64 m),(7,ptrV be)]) (fun q=>enH be a (zL t x [] [] [] 0 ib ob bb n m none 0 0) n m q.1.2.2 q.1.2.1++[blk b2 (x.th t) 25,ownHP 4 1 (slV fb n) (fct.map boolE),rwHP ib n inn,rwHP ob m (List.replicate m []),rwHP bb m (List.replicate m [])]) (fun q=>m - q.1.1) ⟨(0,e2,sv),Nat.zero_le _,hk2,he3⟩ ⟨rfl,rfl,rfl,rfl,rfl,rfl,rfl,rfl,rfl,trivial⟩ (fun h=>h) ?_
  clear sv
  intro ⟨⟨i,e,sv⟩,hi,hk,hS⟩
  dsimp only at hi hk hS ⊢
  refine Ja ?_;refine Jk ?_;refine Jb ?_
  refine CW.seq ?_
  refine CW.ite rfl (fun hlt=>?_) (fun hge=>?_)
  rotate_left
  ·have hW:e3=e:=by rw [hS,show m - i=0 by omega];rfl
   rw [hW]
   refine CW.exit rfl ?_
   exact PW.meet ⟨sv,hk⟩ ⟨rfl,rfl,rfl,rfl,rfl,rfl,trivial⟩ (fun h=>h)
  have hi':i < m:=by omega
  have hq0:(0:Int)≤(i:Nat):=by omega
  have hq1:((i:Nat):Int) < m:=by omega
  rw [show m - i=(m - (i + 1)) + 1 by omega,upto] at hS
  obtain ⟨B5,O5,A5,c5,hA5,hm5,hl5,_⟩:=rule_at hT (i:=(i:Int)) (by omega) (by omega)
  obtain ⟨⟨hd0,hd1⟩,hb16,hbr⟩:=ht.rule (r:=(i:Int)) (by omega) (by omega)
  have hk':LOk n m (En.lay3 t e i):=hk.lay3 ht hi'
  refine CW.skip ?_
  refine PW.code ?_
  refine CW.cut (ι:=Value) (fun _=>[(158,.slice x.A2 (tRules t).length x.c2),(159,.int .i64 (tRules t).length),(160,.int .i64 i),(12,slV fb n),(1,.slice fA facts.length fc),(2,ptrV b2),(5,.int .i64 n),(6,.int .i64 m),(7,ptrV be)]) (fun sv3=>enH be a (zL t x [] [] [] 0 ib ob bb n m none 0 0) n m sv3 (En.lay3 t e i)++[blk b2 (x.th t) 25,ownHP 4 1 (slV fb n) (fct.map boolE),rwHP ib n inn,rwHP ob m (List.replicate m []),rwHP bb m (List.replicate m [])]) ?_ (fun sv3=>?_)
  ·refine CW.block ?_
   refine Ja ?_
   refine RW.indexAddrE hA5 rfl rfl (by omega) hlt rfl ?_
   refine RW.load_ros (cs:=ruleC (ruleAt t i) A5 c5) rfl hle hm5 rfl rfl (by simp) rfl ?_
   refine RW.alloc (c:=[.int .i64 0,.int .i64 0,.slice none 0 0]) rfl rfl fun b9 _=>?_
   skip
   refine RW.store_whole [] (vs:=ruleC (ruleAt t i) A5 c5) rfl rfl rfl rfl rfl (by simp [Value.oneCell']) ?_
   refine RW.nil (PW.code ?_)
   refine CW.sep (enH be a (zL t x [] [] [] 0 ib ob bb n m none 0 0) n m sv e++[blk b9 (ruleC (ruleAt t i) A5 c5) 51,blk b2 (x.th t) 25,ownHP 4 1 (slV fb n) (fct.map boolE),rwHP ib n inn,rwHP ob m (List.replicate m []),rwHP bb m (List.replicate m [])]) (fun w A h=>?_) ?_
   ·exact Sep.take [1,2,3,4,5,6,7,8,9,10,11,12,13,14,15,0,16,17,18,19,20] h
   refine CW.keep [(16,ptrV b9),(158,.slice x.A2 (tRules t).length x.c2),(159,.int .i64 (tRules t).length),(160,.int .i64 i),(12,slV fb n),(1,.slice fA facts.length fc),(2,ptrV b2),(5,.int .i64 n),(6,.int .i64 m),(7,ptrV be)] ⟨rfl,rfl,rfl,rfl,rfl,rfl,rfl,rfl,rfl,rfl,trivial⟩ ?_
   refine Ja ?_;refine Je ?_;refine EL.ex rfl rfl rfl rfl ?_;refine Ji ?_;refine Jc ?_
   refine RW.splitD 167 rfl (fun h1=>?_) (fun h1=>?_)
   rotate_left
   ·refine Jz ?_;refine Jz ?_;refine Jz ?_;refine Jz ?_;refine Jw ?_;refine Jb ?_
    refine CW.cf rfl ?_
    refine CW.skip ?_
    have e9:En.lay3 t e i=e:=by unfold En.lay3;rw [if_neg (by simp only [beq_false_of_ne h1];simp)]
    rw [e9]
    exact PW.meet sv ⟨rfl,rfl,rfl,rfl,rfl,rfl,rfl,rfl,rfl,trivial⟩ (fun h=>St.take [0,1,2,3,4,5,6,7,8,9,10,11,12,13,14,16,17,18,19,20] h)
   refine Jy ?_;refine Je ?_;refine Jy ?_;refine EL.ex rfl rfl rfl rfl ?_;refine Jy ?_;refine Jg ?_;refine Jy ?_;refine Ji ?_;refine Jv ?_;refine Jb ?_
   refine CW.ite rfl (fun h2=>?_) (fun h2=>?_)
   rotate_left
   ·refine CW.skip ?_
    have e9:En.lay3 t e i=e:=by unfold En.lay3;rw [if_neg (by rw [show ((ruleAt t i).2.2.length == 0)=false from beq_false_of_ne (by omega)];simp)]
    rw [e9]
    exact PW.meet sv ⟨rfl,rfl,rfl,rfl,rfl,rfl,rfl,rfl,rfl,trivial⟩ (fun h=>St.take [0,1,2,3,4,5,6,7,8,9,10,11,12,13,14,16,17,18,19,20] h)
   have e9:En.lay3 t e i=e.tell (ruleAt t i).2.1 1:=by unfold En.lay3;rw [if_pos (by rw [show ((ruleAt t i).1 == 1)=true from beq_iff_eq.2 h1,show ((ruleAt t i).2.2.length == 0)=true from beq_iff_eq.2 (by omega)];rfl)]
   rw [e9]
   refine CW.region ?_
   refine Jc ?_;refine Je ?_;refine EL.ex rfl rfl rfl rfl ?_
   refine RW.callD (enH be a (zL t x [] [] [] 0 ib ob bb n m none 0 0) n m sv e) Tryz.call80 rfl (fun w F _ hC _=>tell_ret (k:=1) hn hk.ok hd0 hd1 (by omega) (by omega) w F hC) rfl fun sv3=>?_
   refine RW.nil ?_
   exact PW.meet sv3 ⟨rfl,rfl,rfl,rfl,rfl,rfl,rfl,rfl,rfl,trivial⟩ (fun h=>St.take [0,1,2,3,4,5,6,7,8,9,10,11,12,13,14,16,17,18,19,20] h)
  refine CW.region ?_
  refine RW.add rfl rfl (w64 (by omega) (by omega)) rfl ?_
  refine Jc ?_
  refine RW.nil ?_
  exact PW.again ⟨(i + 1,En.lay3 t e i,sv3),hi',hk',hS⟩ ⟨rfl,rfl,rfl,rfl,rfl,rfl,rfl,rfl,rfl,trivial⟩ (fun h=>h) (by show m - (i + 1) < m - i;omega)
 refine CW.cut (ι:={ sv:Value // LOk n m e4 }) (fun _=>[(12,slV fb n),(1,.slice fA facts.length fc),(2,ptrV b2),(5,.int .i64 n),(6,.int .i64 m),(7,ptrV be)]) (fun q=>enH be a (zL t x [] [] [] 0 ib ob bb n m none 0 0) n m q.1 e4++[blk b2 (x.th t) 25,ownHP 4 1 (slV fb n) (fct.map boolE),rwHP ib n inn,rwHP ob m (List.replicate m []),rwHP bb m (List.replicate m [])]) ?_ (fun ⟨sv,hk4⟩=>?_)
 ·refine Ja ?_;refine Jc ?_;refine Jc ?_;refine Jb ?_
  refine CW.block ?_
  refine CW.loop (ι:={ q:Nat × En × Value // q.1≤n∧LOk n m q.2.1∧e4=upto (En.lay4 fct) (n - q.1) q.1 q.2.1 })
   (fun q=>[(178,.int .i64 n),(179,.int .i64 q.1.1),(12,slV fb n),(1,.slice fA facts.length fc),(2,ptrV b2),(5,.int .i64 n),(6,.int .i64 m),(7,ptrV be)]) (fun q=>enH be a (zL t x [] [] [] 0 ib ob bb n m none 0 0) n m q.1.2.2 q.1.2.1++[blk b2 (x.th t) 25,ownHP 4 1 (slV fb n) (fct.map boolE),rwHP ib n inn,rwHP ob m (List.replicate m []),rwHP bb m (List.replicate m [])]) (fun q=>n - q.1.1) ⟨(0,e3,sv),Nat.zero_le _,hk3,he4⟩ ⟨rfl,rfl,rfl,rfl,rfl,rfl,rfl,rfl,trivial⟩ (fun h=>h) ?_
  clear sv
  intro ⟨⟨i,e,sv⟩,hi,hk,hS⟩
  dsimp only at hi hk hS ⊢
  refine Ja ?_;refine Jk ?_;refine Jb ?_
  refine CW.seq ?_
  refine CW.ite rfl (fun hlt=>?_) (fun hge=>?_)
  rotate_left
  ·have hW:e4=e:=by rw [hS,show n - i=0 by omega];rfl
   rw [hW]
   refine CW.exit rfl ?_
   exact PW.meet ⟨sv,hk⟩ ⟨rfl,rfl,rfl,rfl,rfl,rfl,trivial⟩ (fun h=>h)
  have hi':i < n:=by omega
  have hq0:(0:Int)≤(i:Nat):=by omega
  have hq1:((i:Nat):Int) < n:=by omega
  rw [show n - i=(n - (i + 1)) + 1 by omega,upto] at hS
  have hk':LOk n m (En.lay4 fct e i):=hk.lay4 hn hi'
  have ho:=hk.ok
  have hft:(fct.map boolE)[i]?=some [.bool (fct.getD i false)]:=by
   have h9:=getD_some (d:=false) hfl hq0 hq1
   rw [List.getElem?_map,show i=((i:Nat):Int).toNat from rfl,h9];rfl
  refine CW.skip ?_
  refine PW.code ?_
  refine CW.cut (ι:=Value) (fun _=>[(178,.int .i64 n),(179,.int .i64 i),(12,slV fb n),(1,.slice fA facts.length fc),(2,ptrV b2),(5,.int .i64 n),(6,.int .i64 m),(7,ptrV be)]) (fun sv3=>enH be a (zL t x [] [] [] 0 ib ob bb n m none 0 0) n m sv3 (En.lay4 fct e i)++[blk b2 (x.th t) 25,ownHP 4 1 (slV fb n) (fct.map boolE),rwHP ib n inn,rwHP ob m (List.replicate m []),rwHP bb m (List.replicate m [])]) ?_ (fun sv3=>?_)
  ·refine CW.block ?_
   refine Ja ?_;refine Jc ?_;refine Jd ?_;refine Jb ?_;refine Ja ?_;refine Jc ?_;refine Jc ?_
   refine RW.indexAddr rfl rfl hq0 hq1 rfl ?_
   refine RW.loadOwn1 [_,_,_,_,_,_,_,_,_,_,_,_,_,_,_,_] (i:=i) (j:=0) rfl (by simp) hft rfl rfl rfl ?_
   refine Jb ?_
   refine CW.cond rfl (fun h1=>?_) (fun h1=>?_)
   ·have e9:En.lay4 fct e i={ e with strict:=e.strict.set i (-1) }:=by unfold En.lay4;rw [if_pos h1]
    rw [e9]
    refine CW.region ?_
    refine Jc ?_;refine Jf ?_;refine Je ?_;refine EL.hdr rfl rfl rfl rfl ?_;refine Jc ?_;refine EL.idx rfl rfl (by assumption) (by assumption) rfl ?_
    refine ES.strict ho rfl rfl hq0 hq1 ?_
    refine RW.nil ?_
    exact PW.meet sv ⟨rfl,rfl,rfl,rfl,rfl,rfl,rfl,rfl,trivial⟩ (fun h=>h)
   refine Ja ?_;refine Jc ?_;refine Jf ?_;refine Je ?_;refine EL.hdr rfl rfl rfl rfl ?_;refine Jc ?_;refine EL.idx rfl rfl (by assumption) (by assumption) rfl ?_;refine EL.strict (by assumption) rfl (by assumption) (by assumption) rfl ?_;refine Ji ?_;refine Jb ?_
   refine CW.ite rfl (fun h2=>?_) (fun h2=>?_)
   rotate_left
   ·refine CW.skip ?_
    have e9:En.lay4 fct e i=e:=by unfold En.lay4;rw [if_neg (by rw [h1];simp),if_neg (by rw [show (e.strict.getD i 0 == 0)=false from beq_false_of_ne h2];simp)]
    rw [e9]
    exact PW.meet sv ⟨rfl,rfl,rfl,rfl,rfl,rfl,rfl,rfl,trivial⟩ (fun h=>h)
   have e9:En.lay4 fct e i=e.tell i 2:=by unfold En.lay4;rw [if_neg (by rw [h1];simp),if_pos (show (e.strict.getD i 0 == 0)=true from beq_iff_eq.2 h2)]
   rw [e9]
   refine CW.region ?_
   refine Jc ?_;refine Jc ?_
   refine RW.callD (enH be a (zL t x [] [] [] 0 ib ob bb n m none 0 0) n m sv e) Tryz.call80 rfl (fun w F _ hC _=>tell_ret (k:=2) hn hk.ok hq0 hq1 (by omega) (by omega) w F hC) rfl fun sv3=>?_
   refine RW.nil ?_
   exact PW.meet sv3 ⟨rfl,rfl,rfl,rfl,rfl,rfl,rfl,rfl,trivial⟩ (fun h=>h)
  refine CW.region ?_
  refine RW.add rfl rfl (w64 (by omega) (by omega)) rfl ?_
  refine Jc ?_
  refine RW.nil ?_
  exact PW.again ⟨(i + 1,En.lay4 fct e i,sv3),hi',hk',hS⟩ ⟨rfl,rfl,rfl,rfl,rfl,rfl,rfl,rfl,trivial⟩ (fun h=>h) (by show n - (i + 1) < n - i;omega)
 refine CW.cut (ι:={ sv:Value // LOk n m e5 }) (fun _=>[(12,slV fb n),(1,.slice fA facts.length fc),(2,ptrV b2),(5,.int .i64 n),(6,.int .i64 m),(7,ptrV be)]) (fun q=>enH be a (zL t x [] [] [] 0 ib ob bb n m none 0 0) n m q.1 e5++[blk b2 (x.th t) 25,ownHP 4 1 (slV fb n) (fct.map boolE),rwHP ib n inn,rwHP ob m (List.replicate m []),rwHP bb m (List.replicate m [])]) ?_ (fun ⟨sv,hk5⟩=>?_)
 ·refine Ja ?_;refine Jc ?_;refine Jc ?_;refine Jb ?_
  refine CW.block ?_
  refine CW.loop (ι:={ q:Nat × En × Value // q.1≤n∧LOk n m q.2.1∧e5=upto (En.lay5 t) (n - q.1) q.1 q.2.1 })
   (fun q=>[(204,.int .i64 n),(205,.int .i64 q.1.1),(12,slV fb n),(1,.slice fA facts.length fc),(2,ptrV b2),(5,.int .i64 n),(6,.int .i64 m),(7,ptrV be)]) (fun q=>enH be a (zL t x [] [] [] 0 ib ob bb n m none 0 0) n m q.1.2.2 q.1.2.1++[blk b2 (x.th t) 25,ownHP 4 1 (slV fb n) (fct.map boolE),rwHP ib n inn,rwHP ob m (List.replicate m []),rwHP bb m (List.replicate m [])]) (fun q=>n - q.1.1) ⟨(0,e4,sv),Nat.zero_le _,hk4,he5⟩ ⟨rfl,rfl,rfl,rfl,rfl,rfl,rfl,rfl,trivial⟩ (fun h=>h) ?_
  clear sv
  intro ⟨⟨i,e,sv⟩,hi,hk,hS⟩
  dsimp only at hi hk hS ⊢
  refine Ja ?_;refine Jk ?_;refine Jb ?_
  refine CW.seq ?_
  refine CW.ite rfl (fun hlt=>?_) (fun hge=>?_)
  rotate_left
  ·have hW:e5=e:=by rw [hS,show n - i=0 by omega];rfl
   rw [hW]
   refine CW.exit rfl ?_
   exact PW.meet ⟨sv,hk⟩ ⟨rfl,rfl,rfl,rfl,rfl,rfl,trivial⟩ (fun h=>h)
  have hi':i < n:=by omega
  have hq0:(0:Int)≤(i:Nat):=by omega
  have hq1:((i:Nat):Int) < n:=by omega
  rw [show n - i=(n - (i + 1)) + 1 by omega,upto] at hS
  have hk':LOk n m (En.lay5 t e i):=hk.lay5
  obtain ⟨gB,gO,ga,gc,gA,gm,gl,gi⟩:=row_get hT.foes (r:=(i:Int)) (by omega) (by rw [ht.foes];omega)
  obtain ⟨hg64,hgr⟩:=ht.foes2 _ gi
  refine CW.skip ?_
  refine PW.code ?_
  refine CW.cut (ι:=Unit) (fun _=>[(204,.int .i64 n),(205,.int .i64 i),(12,slV fb n),(1,.slice fA facts.length fc),(2,ptrV b2),(5,.int .i64 n),(6,.int .i64 m),(7,ptrV be)]) (fun _=>enH be a (zL t x [] [] [] 0 ib ob bb n m none 0 0) n m sv (En.lay5 t e i)++[blk b2 (x.th t) 25,ownHP 4 1 (slV fb n) (fct.map boolE),rwHP ib n inn,rwHP ob m (List.replicate m []),rwHP bb m (List.replicate m [])]) ?_ (fun _=>?_)
  ·refine CW.block ?_
   refine Ja ?_;refine Jc ?_;refine Jd ?_;refine Jb ?_;refine Ja ?_;refine Je ?_;refine EL.ex rfl rfl rfl rfl ?_;refine Jc ?_
   refine RW.indexAddrE gA rfl rfl (by omega) (by rw [ht.foes];omega) rfl ?_
   refine RW.load_ro rfl hle gm rfl rfl ?_
   refine Jg ?_;refine Jc ?_;refine Jb ?_
   have e9:En.lay5 t e i=(rowAt (tFoes t) i).foldl (En.lay5f i) e:=rfl
   rw [e9]
   clear e9 hk' hS gi
   generalize rowAt (tFoes t) i=L at *
   refine CW.block ?_
   refine CW.loop (ι:={ q:Nat × En // q.1≤L.length∧LOk n m q.2∧L.foldl (En.lay5f i) e=(L.drop q.1).foldl (En.lay5f i) q.2 })
    (fun q=>[(212,.slice ga L.length gc),(213,.int .i64 L.length),(214,.int .i64 q.1.1),(18,.int .i64 i),(204,.int .i64 n),(205,.int .i64 i),(12,slV fb n),(1,.slice fA facts.length fc),(2,ptrV b2),(5,.int .i64 n),(6,.int .i64 m),(7,ptrV be)]) (fun q=>enH be a (zL t x [] [] [] 0 ib ob bb n m none 0 0) n m sv q.1.2++[blk b2 (x.th t) 25,ownHP 4 1 (slV fb n) (fct.map boolE),rwHP ib n inn,rwHP ob m (List.replicate m []),rwHP bb m (List.replicate m [])]) (fun q=>L.length - q.1.1) ⟨(0,e),Nat.zero_le _,hk,rfl⟩ ⟨rfl,rfl,rfl,rfl,rfl,rfl,rfl,rfl,rfl,rfl,rfl,rfl,trivial⟩ (fun h=>h) ?_
   intro ⟨⟨j,y⟩,hj,hy,hS3⟩
   dsimp only at hj hy hS3 ⊢
   refine Ja ?_;refine Jk ?_;refine Jb ?_
   refine CW.seq ?_
   refine CW.ite rfl (fun hlt3=>?_) (fun hge3=>?_)
   rotate_left
   ·rw [List.drop_eq_nil_of_le (by omega),List.foldl_nil] at hS3
    rw [hS3]
    refine CW.exit rfl ?_
    exact PW.meet () ⟨rfl,rfl,rfl,rfl,rfl,rfl,rfl,rfl,trivial⟩ (fun h=>h)
   have hlt4:j < L.length:=by omega
   rw [foldl_drop hlt4] at hS3
   obtain ⟨B4,O4,hA4,hm4,_⟩:=ints_get gl (List.getElem?_eq_getElem hlt4)
   obtain ⟨u0,u1⟩:=hgr _ (List.getElem_mem hlt4)
   generalize L[j]=u at *
   have hy':LOk n m (En.lay5f i y u):=hy.lay5f
   have hyo:=hy.ok
   refine CW.skip ?_
   refine PW.code ?_
   refine CW.cut (ι:=Unit) (fun _=>[(212,.slice ga L.length gc),(213,.int .i64 L.length),(214,.int .i64 j),(18,.int .i64 i),(204,.int .i64 n),(205,.int .i64 i),(12,slV fb n),(1,.slice fA facts.length fc),(2,ptrV b2),(5,.int .i64 n),(6,.int .i64 m),(7,ptrV be)]) (fun _=>enH be a (zL t x [] [] [] 0 ib ob bb n m none 0 0) n m sv (En.lay5f i y u)++[blk b2 (x.th t) 25,ownHP 4 1 (slV fb n) (fct.map boolE),rwHP ib n inn,rwHP ob m (List.replicate m []),rwHP bb m (List.replicate m [])]) ?_ (fun _=>?_)
   ·refine CW.block ?_
    refine Ja ?_
    refine RW.indexAddrE hA4 rfl rfl (by omega) hlt3 rfl ?_
    refine RW.load_ro rfl hle (ints_at hm4) rfl rfl ?_
    refine Jd ?_;refine Jb ?_
    obtain ⟨y2,hy2⟩:∃ y2,y2=(if y.has u 2 then y else { y with opn:=En.inc y.opn i }):=⟨_,rfl⟩
    have e9:En.lay5f i y u={ y2 with clash:=y2.clash.set i (y2.clash.getD i false || y2.has u 1) }:=by rw [hy2];rfl
    rw [e9]
    have hy2o:EnOk n m 0 y2:=by rw [hy2];split <;> first | exact hyo | exact hyo.opn1 _ _
    clear e9 hy' hS3
    refine CW.cut (ι:=Unit) (fun _=>[(20,.int .i64 u),(212,.slice ga L.length gc),(213,.int .i64 L.length),(214,.int .i64 j),(18,.int .i64 i),(204,.int .i64 n),(205,.int .i64 i),(12,slV fb n),(1,.slice fA facts.length fc),(2,ptrV b2),(5,.int .i64 n),(6,.int .i64 m),(7,ptrV be)]) (fun _=>enH be a (zL t x [] [] [] 0 ib ob bb n m none 0 0) n m sv y2++[blk b2 (x.th t) 25,ownHP 4 1 (slV fb n) (fct.map boolE),rwHP ib n inn,rwHP ob m (List.replicate m []),rwHP bb m (List.replicate m [])]) ?_ (fun _=>?_)
    ·refine Ja ?_;refine Jc ?_;refine Jc ?_
     refine RW.call Tryz.call81 rfl (fun w hw=>en_has (k:=2) hw hyo u0 u1 (by omega) (by omega)) rfl ?_
     refine Js ?_;refine Jb ?_
     refine CW.cond rfl (fun h1=>?_) (fun h1=>?_)
     rotate_left
     ·rw [Bool.not_eq_false'] at h1
      rw [if_pos h1] at hy2
      rw [hy2]
      refine CW.skip ?_
      exact PW.meet () ⟨rfl,rfl,rfl,rfl,rfl,rfl,rfl,rfl,rfl,rfl,rfl,rfl,rfl,trivial⟩ (fun h=>h)
     rw [Bool.not_eq_true'] at h1
     rw [if_neg (by simp [h1])] at hy2
     rw [hy2]
     refine CW.region ?_
     refine Jc ?_;refine Jf ?_;refine Je ?_;refine EL.hdr rfl rfl rfl rfl ?_;refine Jc ?_;refine EL.idx rfl rfl (by assumption) (by assumption) rfl ?_;refine EL.opn (by assumption) rfl (by assumption) (by assumption) rfl ?_
     refine RW.add rfl rfl rfl rfl ?_
     refine EL.idx rfl rfl (by assumption) (by assumption) rfl ?_
     refine ES.opn hyo rfl rfl hq0 hq1 ?_
     refine RW.nil ?_
     exact PW.meet () ⟨rfl,rfl,rfl,rfl,rfl,rfl,rfl,rfl,rfl,rfl,rfl,rfl,rfl,trivial⟩ (fun h=>h)
    by_cases hc:y2.clash.getD ((i:Nat):Int).toNat false=true
    ·have e9:(y2.clash.getD i false || y2.has u 1)=true:=by rw [show y2.clash.getD i false=true from hc];rfl
     rw [e9]
     refine CW.anyV (by kernel_rfl) rfl ?_
     refine AW.val rfl (fun _ _=>by refine Jc ?_;exact RW.done rfl) ?_;refine AW.val rfl (fun _ _=>by refine Jf ?_;exact RW.done rfl) ?_;refine AW.val rfl (fun _ _=>by refine Je ?_;exact RW.done rfl) ?_;refine AW.val rfl (fun _ _=>by refine EL.hdr rfl rfl rfl rfl ?_;exact RW.done rfl) ?_;refine AW.val rfl (fun _ _=>by refine Jc ?_;exact RW.done rfl) ?_;refine AW.val rfl (fun _ _=>by refine Jc ?_;exact RW.done rfl) ?_;refine AW.val rfl (fun _ _=>by refine Jf ?_;exact RW.done rfl) ?_;refine AW.val rfl (fun _ _=>by refine Je ?_;exact RW.done rfl) ?_;refine AW.val rfl (fun _ _=>by refine EL.hdr rfl rfl rfl rfl ?_;exact RW.done rfl) ?_;refine AW.val rfl (fun _ _=>by refine Jc ?_;exact RW.done rfl) ?_;refine AW.val rfl (fun _ _=>by refine EL.idx rfl rfl (by assumption) (by assumption) rfl ?_;exact RW.done rfl) ?_;refine AW.val rfl (fun _ _=>by refine EL.clash (by assumption) rfl (by assumption) (by assumption) rfl ?_;exact RW.done rfl) ?_;refine AW.val rfl (fun _ _=>by refine Jc ?_;exact RW.done rfl) ?_
     rw [hc]
     refine AW.val rfl (fun _ _=>by refine Jz ?_;exact RW.done rfl) ?_;refine AW.val rfl (fun _ _=>by refine Jz ?_;exact RW.done rfl) ?_;refine AW.val rfl (fun _ _=>by refine Jz ?_;exact RW.done rfl) ?_;refine AW.val rfl (fun _ _=>by refine Jv ?_;exact RW.done rfl) ?_;refine AW.val rfl (fun _ _=>by refine EL.idx rfl rfl (by assumption) (by assumption) rfl ?_;exact RW.done rfl) ?_
     refine AW.stop (by kernel_rfl) (by kernel_rfl) fun bq=>?_
     refine ES.clash hy2o rfl rfl hq0 hq1 ?_
     refine RW.nil ?_
     exact PW.meet () ⟨rfl,rfl,rfl,rfl,rfl,rfl,rfl,rfl,rfl,rfl,rfl,rfl,trivial⟩ (fun h=>h)
    have hc':y2.clash.getD ((i:Nat):Int).toNat false=false:=by simpa using hc
    have e9:(y2.clash.getD i false || y2.has u 1)=y2.has u 1:=by rw [show y2.clash.getD i false=false from hc'];rfl
    rw [e9]
    refine CW.anyV (by kernel_rfl) rfl ?_
    refine AW.val rfl (fun _ _=>by refine Jc ?_;exact RW.done rfl) ?_;refine AW.val rfl (fun _ _=>by refine Jf ?_;exact RW.done rfl) ?_;refine AW.val rfl (fun _ _=>by refine Je ?_;exact RW.done rfl) ?_;refine AW.val rfl (fun _ _=>by refine EL.hdr rfl rfl rfl rfl ?_;exact RW.done rfl) ?_;refine AW.val rfl (fun _ _=>by refine Jc ?_;exact RW.done rfl) ?_;refine AW.val rfl (fun _ _=>by refine Jc ?_;exact RW.done rfl) ?_;refine AW.val rfl (fun _ _=>by refine Jf ?_;exact RW.done rfl) ?_;refine AW.val rfl (fun _ _=>by refine Je ?_;exact RW.done rfl) ?_;refine AW.val rfl (fun _ _=>by refine EL.hdr rfl rfl rfl rfl ?_;exact RW.done rfl) ?_;refine AW.val rfl (fun _ _=>by refine Jc ?_;exact RW.done rfl) ?_;refine AW.val rfl (fun _ _=>by refine EL.idx rfl rfl (by assumption) (by assumption) rfl ?_;exact RW.done rfl) ?_;refine AW.val rfl (fun _ _=>by refine EL.clash (by assumption) rfl (by assumption) (by assumption) rfl ?_;exact RW.done rfl) ?_;refine AW.val rfl (fun _ _=>by refine Jc ?_;exact RW.done rfl) ?_
    rw [hc']
    refine AW.val rfl (fun _ _=>by refine RW.yes rfl ?_;refine Jc ?_;exact RW.done rfl) ?_;refine AW.val rfl (fun _ _=>by refine RW.yes rfl ?_;refine Jc ?_;exact RW.done rfl) ?_
    (apply AW.val rfl;· intro Gx X;(first | refine RW.yes rfl ?_ | skip);refine RW.call Tryz.call81 rfl (fun w hw=>en_has (k:=1) hw hy2o u0 u1 (by omega) (by omega)) rfl ?_;exact RW.done rfl)
    refine AW.val rfl (fun _ _=>by refine Jw ?_;exact RW.done rfl) ?_;refine AW.val rfl (fun _ _=>by refine EL.idx rfl rfl (by assumption) (by assumption) rfl ?_;exact RW.done rfl) ?_
    refine AW.stop (by kernel_rfl) (by kernel_rfl) fun bq=>?_
    refine ES.clash hy2o rfl rfl hq0 hq1 ?_
    refine RW.nil ?_
    exact PW.meet () ⟨rfl,rfl,rfl,rfl,rfl,rfl,rfl,rfl,rfl,rfl,rfl,rfl,trivial⟩ (fun h=>h)
   refine CW.region ?_
   refine RW.add rfl rfl (w64 (by omega) (by omega)) rfl ?_
   refine Jc ?_
   refine RW.nil ?_
   exact PW.again ⟨(j + 1,En.lay5f i y u),hlt4,hy',hS3⟩ ⟨rfl,rfl,rfl,rfl,rfl,rfl,rfl,rfl,rfl,rfl,rfl,rfl,trivial⟩ (fun h=>h) (by show L.length - (j + 1) < L.length - j;omega)
  refine CW.region ?_
  refine RW.add rfl rfl (w64 (by omega) (by omega)) rfl ?_
  refine Jc ?_
  refine RW.nil ?_
  exact PW.again ⟨(i + 1,En.lay5 t e i,sv),hi',hk',hS⟩ ⟨rfl,rfl,rfl,rfl,rfl,rfl,rfl,rfl,trivial⟩ (fun h=>h) (by show n - (i + 1) < n - i;omega)
 rw [hE] at hlook
 have hP1:=pair1_ok ht hk5
 have hP2:=pair2_ok ht hk5 hlook
 have hS1:En.layS t n m facts=⟨t,inn,(En.pair1 t n m e5).of,(En.pair2 t n m e5).bts⟩:=by unfold En.layS;rw [hE,hI]
 have hD1:En.layD t n m facts={ (upto (En.lay6 t (En.pair1 t n m e5).of (En.pair2 t n m e5).bts) m 0 (En.pair2 t n m e5).e) with up:=0 }:=by unfold En.layD;rw [hS1,hE]
 refine CW.sep ((enH be a (zP (zL t x [] [] [] 0 ib ob bb n m none 0 0) none 0 0) n m sv e5++[rwHP ob m (List.replicate m []),rwHP bb m (List.replicate m [])])++[blk b2 (x.th t) 25,ownHP 4 1 (slV fb n) (fct.map boolE),rwHP ib n inn]) (fun w A h=>Sep.take [0,1,2,3,4,5,6,7,8,9,10,11,12,13,14,18,19,15,16,17] h) ?_
 refine Ja ?_;refine Jc ?_
 refine RW.callD (enH be a (zP (zL t x [] [] [] 0 ib ob bb n m none 0 0) none 0 0) n m sv e5++[rwHP ob m (List.replicate m []),rwHP bb m (List.replicate m [])]) Tryz.call82 rfl (fun w3 F hle3 hC _=>pair_ret (z:=(zL t x [] [] [] 0 ib ob bb n m none 0 0)) hn ht rfl rfl hk5.ok hk5.pr hlook w3 F (hT.mono hle3) hC) rfl fun ⟨pA,pc⟩=>?_
 dsimp only
 refine RW.nil (PW.code ?_)
 generalize En.pair2 t n m e5=P2 at *
 generalize En.pair1 t n m e5=P1 at *
 generalize hnp:P1.e.pairs.length=np at *
 refine CW.sep (enH be a (zL t x [] [] [] 0 ib ob bb n m pA pc np) n m sv P2.e++[blk b2 (x.th t) 25,ownHP 4 1 (slV fb n) (fct.map boolE),rwHP ib n inn,rwHP ob m P1.of,rwHP bb m P2.bts]) (fun w A h=>Sep.take [0,1,2,3,4,5,6,7,8,9,10,11,12,13,14,17,18,19,15,16] h) ?_
 refine CW.keep [(12,slV fb n),(1,.slice fA facts.length fc),(2,ptrV b2),(5,.int .i64 n),(6,.int .i64 m),(7,ptrV be)] ⟨rfl,rfl,rfl,rfl,rfl,rfl,trivial⟩ ?_
 have hmost:=hP1.most
 rw [hnp] at hmost
 have hof:RowsOk m np (64 * 4096) P1.of:=by have:=hP1.of;rw [hnp] at this;exact this.mono (Nat.le_refl _) hmost
 have hbt:=hP2.bts
 have hke:=hP2.e
 refine CW.have_ (φ:=np≠0→∃ B,pA=some ⟨B,0,none⟩) (fun w hw h=>?_) (fun hPA=>?_)
 ·obtain ⟨A,c,g1,g2⟩:=own_shapeM (pre:=[_,_,_,_,_,_,_,_,_,_,_,_,_,_]) hw
  simp only [Value.slice.injEq] at g1
  obtain ⟨B,hB⟩:=g2 (by intro h2;exact h (by have:=congrArg List.length h2;rw [List.length_map,hke.pairs] at this;simpa using this))
  exact ⟨B,g1.1.trans hB⟩
 obtain ⟨e6,he6⟩:∃ e6,e6=upto (En.lay6 t P1.of P2.bts) m 0 P2.e:=⟨_,rfl⟩
 have hk6:EnOk n m np e6:=by rw [he6];exact upto_ind (f:=En.lay6 t P1.of P2.bts) (fun _ x=>EnOk n m np x) m 0 P2.e (fun j y _ hj hy=>hy.lay6 (K:=4096 * 4096) (hof.mono (Nat.le_refl _) (by omega)) hbt (by omega)) hke
 rw [← he6] at hD1
 refine CW.cut (ι:=Unit) (fun _=>[(12,slV fb n),(1,.slice fA facts.length fc),(2,ptrV b2),(5,.int .i64 n),(6,.int .i64 m),(7,ptrV be)]) (fun _=>enH be a (zL t x [] [] [] 0 ib ob bb n m pA pc np) n m sv e6++[blk b2 (x.th t) 25,ownHP 4 1 (slV fb n) (fct.map boolE),rwHP ib n inn,rwHP ob m P1.of,rwHP bb m P2.bts]) ?_ (fun _=>?_)
 ·refine Ja ?_;refine Je ?_
  refine EL.ex rfl rfl rfl rfl ?_
  refine Jg ?_;refine Jc ?_;refine Jb ?_
  refine CW.block ?_
  refine CW.loop (ι:={ q:Nat × En // q.1≤m∧EnOk n m np q.2∧e6=upto (En.lay6 t P1.of P2.bts) (m - q.1) q.1 q.2 })
   (fun q=>[(254,.slice x.A2 (tRules t).length x.c2),(255,.int .i64 (tRules t).length),(256,.int .i64 q.1.1),(12,slV fb n),(1,.slice fA facts.length fc),(2,ptrV b2),(5,.int .i64 n),(6,.int .i64 m),(7,ptrV be)]) (fun q=>enH be a (zL t x [] [] [] 0 ib ob bb n m pA pc np) n m sv q.1.2++[blk b2 (x.th t) 25,ownHP 4 1 (slV fb n) (fct.map boolE),rwHP ib n inn,rwHP ob m P1.of,rwHP bb m P2.bts]) (fun q=>m - q.1.1) ⟨(0,P2.e),Nat.zero_le _,hke,he6⟩ ⟨rfl,rfl,rfl,rfl,rfl,rfl,rfl,rfl,rfl,trivial⟩ (fun h=>h) ?_
  intro ⟨⟨i,e⟩,hi,hk,hS⟩
  dsimp only at hi hk hS ⊢
  refine Ja ?_;refine Jk ?_;refine Jb ?_
  refine CW.seq ?_
  refine CW.ite rfl (fun hlt=>?_) (fun hge=>?_)
  rotate_left
  ·have hW:e6=e:=by rw [hS,show m - i=0 by omega];rfl
   rw [hW]
   refine CW.exit rfl ?_
   exact PW.meet () ⟨rfl,rfl,rfl,rfl,rfl,rfl,trivial⟩ (fun h=>h)
  have hi':i < m:=by omega
  obtain ⟨B5,O5,A5,c5,hA5,hm5,hl5,_⟩:=rule_at hT (i:=(i:Int)) (by omega) (by omega)
  obtain ⟨⟨hd0,hd1⟩,hb16,hbr⟩:=ht.rule (r:=(i:Int)) (by omega) (by omega)
  have hq0:(0:Int)≤(i:Nat):=by omega
  have hq1:((i:Nat):Int) < m:=by omega
  rw [show m - i=(m - (i + 1)) + 1 by omega,upto] at hS
  have hk':EnOk n m np (En.lay6 t P1.of P2.bts e i):=hk.lay6 (K:=4096 * 4096) (hof.mono (Nat.le_refl _) (by omega)) hbt hi'
  refine CW.skip ?_
  refine PW.code ?_
  refine CW.cut (ι:=Unit) (fun _=>[(254,.slice x.A2 (tRules t).length x.c2),(255,.int .i64 (tRules t).length),(256,.int .i64 i),(12,slV fb n),(1,.slice fA facts.length fc),(2,ptrV b2),(5,.int .i64 n),(6,.int .i64 m),(7,ptrV be)]) (fun _=>enH be a (zL t x [] [] [] 0 ib ob bb n m pA pc np) n m sv (En.lay6 t P1.of P2.bts e i)++[blk b2 (x.th t) 25,ownHP 4 1 (slV fb n) (fct.map boolE),rwHP ib n inn,rwHP ob m P1.of,rwHP bb m P2.bts]) ?_ (fun _=>?_)
  ·refine CW.block ?_
   refine Ja ?_;refine Jc ?_
   refine RW.indexAddrE hA5 rfl rfl (by omega) hlt rfl ?_
   refine RW.load_ros (cs:=ruleC (ruleAt t i) A5 c5) rfl hle hm5 rfl rfl (by simp) rfl ?_
   refine RW.alloc (c:=[.int .i64 0,.int .i64 0,.slice none 0 0]) rfl rfl fun b9 _=>?_
   refine Jd ?_
   refine RW.store_whole [] (vs:=ruleC (ruleAt t i) A5 c5) rfl rfl rfl rfl rfl (by simp [Value.oneCell']) ?_
   refine RW.nil (PW.code ?_)
   refine CW.sep (enH be a (zL t x [] [] [] 0 ib ob bb n m pA pc np) n m sv e++[blk b9 (ruleC (ruleAt t i) A5 c5) 51,blk b2 (x.th t) 25,ownHP 4 1 (slV fb n) (fct.map boolE),rwHP ib n inn,rwHP ob m P1.of,rwHP bb m P2.bts]) (fun w A h=>?_) ?_
   ·exact Sep.take [1,2,3,4,5,6,7,8,9,10,11,12,13,14,15,0,16,17,18,19,20] h
   refine CW.keep [(21,.int .i64 i),(22,ptrV b9),(254,.slice x.A2 (tRules t).length x.c2),(255,.int .i64 (tRules t).length),(256,.int .i64 i),(12,slV fb n),(1,.slice fA facts.length fc),(2,ptrV b2),(5,.int .i64 n),(6,.int .i64 m),(7,ptrV be)] ⟨rfl,rfl,rfl,rfl,rfl,rfl,rfl,rfl,rfl,rfl,rfl,trivial⟩ ?_
   refine CW.seq ?_
   refine Ja ?_;refine Je ?_;refine EL.ex rfl rfl rfl rfl ?_;refine Jg ?_;refine Jm ?_;refine Jb ?_
   refine CW.ite rfl (fun h2=>?_) (fun h2=>?_)
   ·have e9:(En.lay6 t P1.of P2.bts e i)=e:=by unfold En.lay6;rw [if_pos (decide_eq_true (by omega))]
    rw [e9]
    refine CW.exit rfl ?_
    exact PW.meet () ⟨rfl,rfl,rfl,rfl,rfl,rfl,rfl,rfl,rfl,trivial⟩ (fun h=>St.take [0,1,2,3,4,5,6,7,8,9,10,11,12,13,14,16,17,18,19,20] h)
   obtain ⟨e0,he0⟩:∃ e0,e0=(if supD t i then (rowAt P2.bts i).foldl En.lay6p { e with backed:=e.backed.set (ruleAt t i).2.1.toNat true } else e):=⟨_,rfl⟩
   have e9:(En.lay6 t P1.of P2.bts e i)=(rowAt P1.of i).foldl En.lay6q e0:=by unfold En.lay6;rw [if_neg (by rw [decide_eq_true_iff];omega),he0]
   rw [e9]
   have hk0:EnOk n m np e0:=by
    rw [he0]
    split
    ·exact EnOk.fold (N:=np) (fun e u h u0 u1=>h.lay6p u0 u1) (hbt.at_ (b:=(i:Int)) hq0 hq1).2 (hk.backed1 _ _)
    ·exact hk
   refine CW.skip ?_
   refine PW.code ?_
   clear e9 hk' hS
   refine CW.cut (ι:=Unit) (fun _=>[(21,.int .i64 i),(22,ptrV b9),(254,.slice x.A2 (tRules t).length x.c2),(255,.int .i64 (tRules t).length),(256,.int .i64 i),(12,slV fb n),(1,.slice fA facts.length fc),(2,ptrV b2),(5,.int .i64 n),(6,.int .i64 m),(7,ptrV be)]) (fun _=>enH be a (zL t x [] [] [] 0 ib ob bb n m pA pc np) n m sv e0++[blk b9 (ruleC (ruleAt t i) A5 c5) 51,blk b2 (x.th t) 25,ownHP 4 1 (slV fb n) (fct.map boolE),rwHP ib n inn,rwHP ob m P1.of,rwHP bb m P2.bts]) ?_ (fun _=>?_)
   ·refine Ja ?_;refine Jc ?_;refine Jc ?_
    refine RW.call Tryz.call79 rfl (fun w hw=>support_th (z:=(zL t x [] [] [] 0 ib ob bb n m pA pc np)) hw (hT.mono (ro_call hw)) hr (by omega) (by omega)) rfl ?_
    refine Jb ?_
    refine CW.cond rfl (fun h3=>?_) (fun h3=>?_)
    rotate_left
    ·rw [if_neg (by simp [h3])] at he0
     rw [he0]
     refine CW.skip ?_
     exact PW.meet () ⟨rfl,rfl,rfl,rfl,rfl,rfl,rfl,rfl,rfl,rfl,rfl,trivial⟩ (fun h=>h)
    rw [if_pos h3] at he0
    refine CW.seqA (by kernel_rfl) rfl ?_
    refine AW.val rfl (fun _ _=>by refine Jc ?_;exact RW.done rfl) ?_;refine AW.val rfl (fun _ _=>by refine Jf ?_;exact RW.done rfl) ?_;refine AW.val rfl (fun _ _=>by refine Je ?_;exact RW.done rfl) ?_;refine AW.val rfl (fun _ _=>by refine EL.hdr rfl rfl rfl rfl ?_;exact RW.done rfl) ?_;refine AW.val rfl (fun _ _=>by refine Je ?_;exact RW.done rfl) ?_;refine AW.val rfl (fun _ _=>by refine EL.ex rfl rfl rfl rfl ?_;exact RW.done rfl) ?_;refine AW.val rfl (fun _ _=>by refine EL.idx rfl rfl (by assumption) (by assumption) rfl ?_;exact RW.done rfl) ?_
    refine AW.stop (by kernel_rfl) (by kernel_rfl) fun bq=>?_
    refine ES.backed hk rfl rfl hd0 hd1 ?_
    refine RW.nil (PW.code ?_)
    have hke1:=hk.backed1 (ruleAt t i).2.1.toNat true
    obtain ⟨eb,heb⟩:∃ eb,eb={ e with backed:=e.backed.set (ruleAt t i).2.1.toNat true }:=⟨_,rfl⟩
    rw [← heb] at hke1 he0
    refine CW.sep (enH be a (zL t x [] [] [] 0 ib ob bb n m pA pc np) n m sv eb++[blk b9 (ruleC (ruleAt t i) A5 c5) 51,blk b2 (x.th t) 25,ownHP 4 1 (slV fb n) (fct.map boolE),rwHP ib n inn,rwHP ob m P1.of,rwHP bb m P2.bts]) (fun w A h=>by rw [heb];exact h) ?_
    refine CW.keep [(21,.int .i64 i),(22,ptrV b9),(254,.slice x.A2 (tRules t).length x.c2),(255,.int .i64 (tRules t).length),(256,.int .i64 i),(12,slV fb n),(1,.slice fA facts.length fc),(2,ptrV b2),(5,.int .i64 n),(6,.int .i64 m),(7,ptrV be)] ⟨rfl,rfl,rfl,rfl,rfl,rfl,rfl,rfl,rfl,rfl,rfl,trivial⟩ ?_
    have hlen:=hbt.len
    have hrng:=(hbt.at_ (b:=(i:Int)) hq0 hq1).2
    have hrl:=(hbt.at_ (b:=(i:Int)) hq0 hq1).1
    have hl:P2.bts[i]?=some (rowAt P2.bts i):=getD_some (d:=[]) hlen hq0 hq1
    have hbi:i < P2.bts.length:=by rw [hlen];exact hi'
    refine CW.sepEx (ι:=List (List Value) × Value) (fun q=>q.1[i]?=some [q.2]∧q.1.length=(P2.bts).length) (fun q=>enH be a (zL t x [] [] [] 0 ib ob bb n m pA pc np) n m sv eb++[blk b9 (ruleC (ruleAt t i) A5 c5) 51,blk b2 (x.th t) 25,ownHP 4 1 (slV fb n) (fct.map boolE),rwHP ib n inn,rwHP ob m P1.of,ownHP 26 1 (slV bb m) q.1,ownHP 3 1 q.2 ((rowAt P2.bts i).map intE),innerHP (some i) 3 q.1 P2.bts]) (fun w A h=>?_) (fun ⟨es,uv⟩ ⟨hq2,hq3⟩=>?_)
    ·obtain ⟨q,hq,h2⟩:=rows_focus hl (Sep.take [20,0,1,2,3,4,5,6,7,8,9,10,11,12,13,14,15,16,17,18,19] h)
     exact ⟨q,hq,Sep.take [3,4,5,6,7,8,9,10,11,12,13,14,15,16,17,18,19,20,21,22,0,1,2] h2⟩
    dsimp only at hq2 hq3
    generalize rowAt P2.bts i=L at *
    refine CW.have_ (φ:=∃ A c,uv=.slice A L.length c∧(L≠[]→∃ B,A=some ⟨B,0,none⟩)) (fun w hw=>?_) (fun ⟨rA,rc,huv,hrA⟩=>?_)
    ·obtain ⟨A,c,g1,g2⟩:=own_shapeM (pre:=[_,_,_,_,_,_,_,_,_,_,_,_,_,_,_,_,_,_,_,_,_]) hw
     rw [List.length_map] at g1
     exact ⟨A,c,g1,fun h=>g2 (by simpa using h)⟩
    subst huv
    refine Ja ?_;refine Jc ?_;refine Jf ?_;refine Je ?_;refine EL.hdr rfl rfl rfl rfl ?_;refine Jc ?_;refine EL.idx rfl rfl (by assumption) (by assumption) rfl ?_
    refine RW.loadOwn1 [_,_,_,_,_,_,_,_,_,_,_,_,_,_,_,_,_,_,_,_] (i:=i) (j:=0) rfl (by simp) hq2 rfl rfl rfl ?_
    refine Jg ?_;refine Jc ?_;refine Jb ?_
    refine CW.block ?_
    refine CW.loop (ι:={ q:Nat × En // q.1≤L.length∧EnOk n m np q.2∧L.foldl En.lay6p eb=(L.drop q.1).foldl En.lay6p q.2 })
     (fun q=>[(281,.slice rA L.length rc),(282,.int .i64 L.length),(283,.int .i64 q.1.1),(21,.int .i64 i),(22,ptrV b9),(254,.slice x.A2 (tRules t).length x.c2),(255,.int .i64 (tRules t).length),(256,.int .i64 i),(12,slV fb n),(1,.slice fA facts.length fc),(2,ptrV b2),(5,.int .i64 n),(6,.int .i64 m),(7,ptrV be)]) (fun q=>enH be a (zL t x [] [] [] 0 ib ob bb n m pA pc np) n m sv q.1.2++[blk b9 (ruleC (ruleAt t i) A5 c5) 51,blk b2 (x.th t) 25,ownHP 4 1 (slV fb n) (fct.map boolE),rwHP ib n inn,rwHP ob m P1.of,ownHP 26 1 (slV bb m) es,ownHP 3 1 (.slice rA L.length rc) (L.map intE),innerHP (some i) 3 es P2.bts]) (fun q=>L.length - q.1.1) ⟨(0,eb),Nat.zero_le _,hke1,rfl⟩ ⟨rfl,rfl,rfl,rfl,rfl,rfl,rfl,rfl,rfl,rfl,rfl,rfl,rfl,rfl,trivial⟩ (fun h=>h) ?_
    intro ⟨⟨j,y⟩,hj,hy,hS3⟩
    dsimp only at hj hy hS3 ⊢
    refine Ja ?_;refine Jk ?_;refine Jb ?_
    refine CW.seq ?_
    refine CW.ite rfl (fun hlt3=>?_) (fun hge3=>?_)
    rotate_left
    ·rw [List.drop_eq_nil_of_le (by omega),List.foldl_nil] at hS3
     refine CW.exit rfl ?_
     rw [he0,hS3]
     refine PW.sep (H':=enH be a (zL t x [] [] [] 0 ib ob bb n m pA pc np) n m sv y++[blk b9 (ruleC (ruleAt t i) A5 c5) 51,blk b2 (x.th t) 25,ownHP 4 1 (slV fb n) (fct.map boolE),rwHP ib n inn,rwHP ob m P1.of,rwHP bb m P2.bts]) (fun w A h=>?_) ?_
     ·have h2:=rows_unfocus (v':=.slice rA L.length rc) (l:=L) (i:=i) (L:=P2.bts) (es:=es) hbi (by rw [set_same hq2];exact Sep.take [20,21,22,0,1,2,3,4,5,6,7,8,9,10,11,12,13,14,15,16,17,18,19] h)
      rw [set_same hl] at h2
      exact Sep.take [1,2,3,4,5,6,7,8,9,10,11,12,13,14,15,16,17,18,19,20,0] h2
     exact PW.meet () ⟨rfl,rfl,rfl,rfl,rfl,rfl,rfl,rfl,rfl,rfl,rfl,trivial⟩ (fun h=>h)
    have hlt4:j < L.length:=by omega
    rw [foldl_drop hlt4] at hS3
    obtain ⟨p0,p1⟩:=hrng _ (List.getElem_mem hlt4)
    have hrj:(L.map intE)[j]?=some (intE L[j]):=by rw [List.getElem?_map,List.getElem?_eq_getElem hlt4];rfl
    generalize L[j]=p at *
    obtain ⟨PB,rfl⟩:=hPA (by omega)
    obtain ⟨RB,rfl⟩:=hrA (by intro h;rw [h] at hlt4;exact absurd hlt4 (by simp))
    obtain ⟨⟨u0,u1⟩,v0,v1⟩:=hy.pair p0 p1
    have hy':EnOk n m np (En.lay6p y p):=hy.lay6p p0 p1
    refine CW.skip ?_
    refine PW.code ?_
    refine CW.cut (ι:=Unit) (fun _=>[(281,.slice (some ⟨RB,0,none⟩) L.length rc),(282,.int .i64 L.length),(283,.int .i64 j),(21,.int .i64 i),(22,ptrV b9),(254,.slice x.A2 (tRules t).length x.c2),(255,.int .i64 (tRules t).length),(256,.int .i64 i),(12,slV fb n),(1,.slice fA facts.length fc),(2,ptrV b2),(5,.int .i64 n),(6,.int .i64 m),(7,ptrV be)]) (fun _=>enH be a (zL t x [] [] [] 0 ib ob bb n m (some ⟨PB,0,none⟩) pc np) n m sv (En.lay6p y p)++[blk b9 (ruleC (ruleAt t i) A5 c5) 51,blk b2 (x.th t) 25,ownHP 4 1 (slV fb n) (fct.map boolE),rwHP ib n inn,rwHP ob m P1.of,ownHP 26 1 (slV bb m) es,ownHP 3 1 (.slice (some ⟨RB,0,none⟩) L.length rc) (L.map intE),innerHP (some i) 3 es P2.bts]) ?_ (fun _=>?_)
    ·refine CW.block ?_
     refine Ja ?_
     refine RW.indexAddrE rfl rfl rfl (by omega) (by omega) rfl ?_
     refine RW.loadOwn1 [_,_,_,_,_,_,_,_,_,_,_,_,_,_,_,_,_,_,_,_,_] (i:=j) (j:=0) rfl (by simp) hrj rfl rfl rfl ?_
     refine Jd ?_;refine Jb ?_;refine Ja ?_;refine Jc ?_;refine Jf ?_;refine Je ?_;refine EL.hdr rfl rfl rfl rfl ?_;refine Jc ?_
     refine RW.indexAddrE rfl rfl rfl p0 p1 rfl ?_
     refine Je ?_
     refine EL.pair (j:=2) hy rfl rfl (by omega) p0 p1 rfl rfl rfl ?_
     refine Js ?_;refine Jb ?_
     refine CW.cond rfl (fun h3=>?_) (fun h3=>?_)
     rotate_left
     ·rw [Bool.not_eq_false'] at h3
      have e9:En.lay6p y p=y:=by unfold En.lay6p;rw [if_pos h3]
      rw [e9]
      refine CW.skip ?_
      exact PW.meet () ⟨rfl,rfl,rfl,rfl,rfl,rfl,rfl,rfl,rfl,rfl,rfl,rfl,rfl,rfl,trivial⟩ (fun h=>h)
     rw [Bool.not_eq_true'] at h3
     have e9:En.lay6p y p={ y with pairs:=y.pairs.set p.toNat ((y.pair p).1,(y.pair p).2.1,true,(y.pair p).2.2.2),attacks:=En.dec y.attacks (y.pair p).1 }:=by unfold En.lay6p;rw [if_neg (by simp [h3])]
     rw [e9]
     refine Ja ?_;refine Jc ?_;refine Jf ?_;refine Je ?_;refine EL.hdr rfl rfl rfl rfl ?_;refine Jc ?_
     refine RW.indexAddrE rfl rfl rfl p0 p1 rfl ?_
     refine Je ?_
     refine ES.settled hy rfl rfl (by omega) rfl p0 p1 ?_
     refine RW.nil (PW.code ?_)
     have hk2:=hy.settle1 p0 p1
     have hp2:({ y with pairs:=y.pairs.set p.toNat ((y.pair p).1,(y.pair p).2.1,true,(y.pair p).2.2.2) }:En).pair p=((y.pair p).1,(y.pair p).2.1,true,(y.pair p).2.2.2):=by
      show (y.pairs.set p.toNat _).getD p.toNat (0,0,false,0)=_
      rw [List.getD_eq_getElem?_getD,List.getElem?_set_self (by rw [hy.pairs];omega)]
      rfl
     have hu1:(pairE (({ y with pairs:=y.pairs.set p.toNat ((y.pair p).1,(y.pair p).2.1,true,(y.pair p).2.2.2) }:En).pair p))[0]?=some (.int .i64 (y.pair p).1):=by rw [hp2];rfl
     refine CW.anyV (by kernel_rfl) rfl ?_
     refine AW.val rfl (fun _ _=>by refine Jc ?_;exact RW.done rfl) ?_;refine AW.val rfl (fun _ _=>by refine Jf ?_;exact RW.done rfl) ?_;refine AW.val rfl (fun _ _=>by refine Je ?_;exact RW.done rfl) ?_;refine AW.val rfl (fun _ _=>by refine EL.hdr rfl rfl rfl rfl ?_;exact RW.done rfl) ?_;refine AW.val rfl (fun _ _=>by refine Jc ?_;exact RW.done rfl) ?_;refine AW.val rfl (fun _ _=>by refine Jf ?_;exact RW.done rfl) ?_;refine AW.val rfl (fun _ _=>by refine Je ?_;exact RW.done rfl) ?_;refine AW.val rfl (fun _ _=>by refine EL.hdr rfl rfl rfl rfl ?_;exact RW.done rfl) ?_;refine AW.val rfl (fun _ _=>by refine Jc ?_;exact RW.done rfl) ?_
     (apply AW.val rfl;· intro Gx X;(first | refine RW.yes rfl ?_ | skip);refine RW.indexAddrE rfl rfl rfl p0 p1 rfl ?_;exact RW.done rfl)
     refine AW.val rfl (fun _ _=>by refine Je ?_;exact RW.done rfl) ?_
     (apply AW.val rfl;· intro Gx X;(first | refine RW.yes rfl ?_ | skip);refine EL.pair (j:=0) hk2 rfl rfl (by omega) p0 p1 hu1 rfl rfl ?_;exact RW.done rfl)
     refine AW.val rfl (fun _ _=>by refine EL.idx rfl rfl (by assumption) (by assumption) rfl ?_;exact RW.done rfl) ?_;refine AW.val rfl (fun _ _=>by refine EL.attacks (by assumption) rfl (by assumption) (by assumption) rfl ?_;exact RW.done rfl) ?_
     (apply AW.val rfl;· intro Gx X;(first | refine RW.yes rfl ?_ | skip);refine RW.sub rfl rfl rfl rfl ?_;exact RW.done rfl)
     refine AW.val rfl (fun _ _=>by refine EL.idx rfl rfl (by assumption) (by assumption) rfl ?_;exact RW.done rfl) ?_
     refine AW.stop (by kernel_rfl) (by kernel_rfl) fun bq=>?_
     refine ES.attacks hk2 rfl rfl u0 u1 ?_
     refine RW.nil ?_
     exact PW.meet () ⟨rfl,rfl,rfl,rfl,rfl,rfl,rfl,rfl,rfl,rfl,rfl,rfl,rfl,rfl,trivial⟩ (fun h=>h)
    refine CW.region ?_
    refine RW.add rfl rfl (w64 (by omega) (by omega)) rfl ?_
    refine Jc ?_
    refine RW.nil ?_
    exact PW.again ⟨(j + 1,En.lay6p y p),hlt4,hy',hS3⟩ ⟨rfl,rfl,rfl,rfl,rfl,rfl,rfl,rfl,rfl,rfl,rfl,rfl,rfl,rfl,trivial⟩ (fun h=>h) (by show L.length - (j + 1) < L.length - j;omega)
   have hlen:=hof.len
   have hrng:=(hof.at_ (b:=(i:Int)) hq0 hq1).2
   have hrl:=(hof.at_ (b:=(i:Int)) hq0 hq1).1
   have hl:P1.of[i]?=some (rowAt P1.of i):=getD_some (d:=[]) hlen hq0 hq1
   have hbi:i < P1.of.length:=by rw [hlen];exact hi'
   refine CW.sepEx (ι:=List (List Value) × Value) (fun q=>q.1[i]?=some [q.2]∧q.1.length=(P1.of).length) (fun q=>enH be a (zL t x [] [] [] 0 ib ob bb n m pA pc np) n m sv e0++[blk b9 (ruleC (ruleAt t i) A5 c5) 51,blk b2 (x.th t) 25,ownHP 4 1 (slV fb n) (fct.map boolE),rwHP ib n inn,ownHP 26 1 (slV ob m) q.1,ownHP 3 1 q.2 ((rowAt P1.of i).map intE),innerHP (some i) 3 q.1 P1.of,rwHP bb m P2.bts]) (fun w A h=>?_) (fun ⟨es,uv⟩ ⟨hq2,hq3⟩=>?_)
   ·obtain ⟨q,hq,h2⟩:=rows_focus hl (Sep.take [19,0,1,2,3,4,5,6,7,8,9,10,11,12,13,14,15,16,17,18,20] h)
    exact ⟨q,hq,Sep.take [3,4,5,6,7,8,9,10,11,12,13,14,15,16,17,18,19,20,21,0,1,2,22] h2⟩
   dsimp only at hq2 hq3
   generalize rowAt P1.of i=L at *
   refine CW.have_ (φ:=∃ A c,uv=.slice A L.length c∧(L≠[]→∃ B,A=some ⟨B,0,none⟩)) (fun w hw=>?_) (fun ⟨rA,rc,huv,hrA⟩=>?_)
   ·obtain ⟨A,c,g1,g2⟩:=own_shapeM (pre:=[_,_,_,_,_,_,_,_,_,_,_,_,_,_,_,_,_,_,_,_]) hw
    rw [List.length_map] at g1
    exact ⟨A,c,g1,fun h=>g2 (by simpa using h)⟩
   subst huv
   refine Ja ?_;refine Jc ?_;refine Jf ?_;refine Je ?_;refine EL.hdr rfl rfl rfl rfl ?_;refine Jc ?_;refine EL.idx rfl rfl (by assumption) (by assumption) rfl ?_
   refine RW.loadOwn1 [_,_,_,_,_,_,_,_,_,_,_,_,_,_,_,_,_,_,_] (i:=i) (j:=0) rfl (by simp) hq2 rfl rfl rfl ?_
   refine Jg ?_;refine Jc ?_;refine Jb ?_
   refine CW.block ?_
   refine CW.loop (ι:={ q:Nat × En // q.1≤L.length∧EnOk n m np q.2∧L.foldl En.lay6q e0=(L.drop q.1).foldl En.lay6q q.2 })
    (fun q=>[(326,.slice rA L.length rc),(327,.int .i64 L.length),(328,.int .i64 q.1.1),(21,.int .i64 i),(22,ptrV b9),(254,.slice x.A2 (tRules t).length x.c2),(255,.int .i64 (tRules t).length),(256,.int .i64 i),(12,slV fb n),(1,.slice fA facts.length fc),(2,ptrV b2),(5,.int .i64 n),(6,.int .i64 m),(7,ptrV be)]) (fun q=>enH be a (zL t x [] [] [] 0 ib ob bb n m pA pc np) n m sv q.1.2++[blk b9 (ruleC (ruleAt t i) A5 c5) 51,blk b2 (x.th t) 25,ownHP 4 1 (slV fb n) (fct.map boolE),rwHP ib n inn,ownHP 26 1 (slV ob m) es,ownHP 3 1 (.slice rA L.length rc) (L.map intE),innerHP (some i) 3 es P1.of,rwHP bb m P2.bts]) (fun q=>L.length - q.1.1) ⟨(0,e0),Nat.zero_le _,hk0,rfl⟩ ⟨rfl,rfl,rfl,rfl,rfl,rfl,rfl,rfl,rfl,rfl,rfl,rfl,rfl,rfl,trivial⟩ (fun h=>h) ?_
   intro ⟨⟨j,y⟩,hj,hy,hS3⟩
   dsimp only at hj hy hS3 ⊢
   refine Ja ?_;refine Jk ?_;refine Jb ?_
   refine CW.seq ?_
   refine CW.ite rfl (fun hlt3=>?_) (fun hge3=>?_)
   rotate_left
   ·rw [List.drop_eq_nil_of_le (by omega),List.foldl_nil] at hS3
    refine CW.exit rfl ?_
    rw [hS3]
    refine PW.sep (H':=enH be a (zL t x [] [] [] 0 ib ob bb n m pA pc np) n m sv y++[blk b9 (ruleC (ruleAt t i) A5 c5) 51,blk b2 (x.th t) 25,ownHP 4 1 (slV fb n) (fct.map boolE),rwHP ib n inn,rwHP ob m P1.of,rwHP bb m P2.bts]) (fun w A h=>?_) ?_
    ·have h2:=rows_unfocus (v':=.slice rA L.length rc) (l:=L) (i:=i) (L:=P1.of) (es:=es) hbi (by rw [set_same hq2];exact Sep.take [19,20,21,0,1,2,3,4,5,6,7,8,9,10,11,12,13,14,15,16,17,18,22] h)
     rw [set_same hl] at h2
     exact Sep.take [1,2,3,4,5,6,7,8,9,10,11,12,13,14,15,16,17,18,19,0,20] h2
    exact PW.meet () ⟨rfl,rfl,rfl,rfl,rfl,rfl,rfl,rfl,rfl,trivial⟩ (fun h=>St.take [0,1,2,3,4,5,6,7,8,9,10,11,12,13,14,16,17,18,19,20] h)
   have hlt4:j < L.length:=by omega
   rw [foldl_drop hlt4] at hS3
   obtain ⟨p0,p1⟩:=hrng _ (List.getElem_mem hlt4)
   have hrj:(L.map intE)[j]?=some (intE L[j]):=by rw [List.getElem?_map,List.getElem?_eq_getElem hlt4];rfl
   generalize L[j]=p at *
   obtain ⟨PB,rfl⟩:=hPA (by omega)
   obtain ⟨RB,rfl⟩:=hrA (by intro h;rw [h] at hlt4;exact absurd hlt4 (by simp))
   obtain ⟨⟨u0,u1⟩,v0,v1⟩:=hy.pair p0 p1
   have hy':EnOk n m np (En.lay6q y p):=hy.lay6q
   refine CW.skip ?_
   refine PW.code ?_
   refine CW.cut (ι:=Unit) (fun _=>[(326,.slice (some ⟨RB,0,none⟩) L.length rc),(327,.int .i64 L.length),(328,.int .i64 j),(21,.int .i64 i),(22,ptrV b9),(254,.slice x.A2 (tRules t).length x.c2),(255,.int .i64 (tRules t).length),(256,.int .i64 i),(12,slV fb n),(1,.slice fA facts.length fc),(2,ptrV b2),(5,.int .i64 n),(6,.int .i64 m),(7,ptrV be)]) (fun _=>enH be a (zL t x [] [] [] 0 ib ob bb n m (some ⟨PB,0,none⟩) pc np) n m sv (En.lay6q y p)++[blk b9 (ruleC (ruleAt t i) A5 c5) 51,blk b2 (x.th t) 25,ownHP 4 1 (slV fb n) (fct.map boolE),rwHP ib n inn,ownHP 26 1 (slV ob m) es,ownHP 3 1 (.slice (some ⟨RB,0,none⟩) L.length rc) (L.map intE),innerHP (some i) 3 es P1.of,rwHP bb m P2.bts]) ?_ (fun _=>?_)
   ·refine CW.block ?_
    refine Ja ?_
    refine RW.indexAddrE rfl rfl rfl (by omega) (by omega) rfl ?_
    refine RW.loadOwn1 [_,_,_,_,_,_,_,_,_,_,_,_,_,_,_,_,_,_,_,_] (i:=j) (j:=0) rfl (by simp) hrj rfl rfl rfl ?_
    refine Jd ?_;refine Jb ?_;refine Ja ?_;refine Jc ?_;refine Jf ?_;refine Je ?_;refine EL.hdr rfl rfl rfl rfl ?_;refine Jc ?_
    refine RW.indexAddrE rfl rfl rfl p0 p1 rfl ?_
    refine Je ?_
    refine EL.pair (j:=3) hy rfl rfl (by omega) p0 p1 rfl rfl rfl ?_
    refine Ji ?_;refine Jb ?_
    refine CW.ite rfl (fun h3=>?_) (fun h3=>?_)
    rotate_left
    ·have e9:En.lay6q y p=y:=by unfold En.lay6q;rw [if_neg (by simp only [beq_false_of_ne h3];simp)]
     rw [e9]
     refine CW.skip ?_
     exact PW.meet () ⟨rfl,rfl,rfl,rfl,rfl,rfl,rfl,rfl,rfl,rfl,rfl,rfl,rfl,rfl,trivial⟩ (fun h=>h)
    have e9:En.lay6q y p={ y with standing:=y.standing.set (y.pair p).1.toNat true }:=by unfold En.lay6q;rw [if_pos (beq_iff_eq.2 h3)]
    rw [e9]
    refine CW.anyV (by kernel_rfl) rfl ?_
    refine AW.val rfl (fun _ _=>by refine Jc ?_;exact RW.done rfl) ?_;refine AW.val rfl (fun _ _=>by refine Jf ?_;exact RW.done rfl) ?_;refine AW.val rfl (fun _ _=>by refine Je ?_;exact RW.done rfl) ?_;refine AW.val rfl (fun _ _=>by refine EL.hdr rfl rfl rfl rfl ?_;exact RW.done rfl) ?_;refine AW.val rfl (fun _ _=>by refine Jc ?_;exact RW.done rfl) ?_;refine AW.val rfl (fun _ _=>by refine Jf ?_;exact RW.done rfl) ?_;refine AW.val rfl (fun _ _=>by refine Je ?_;exact RW.done rfl) ?_;refine AW.val rfl (fun _ _=>by refine EL.hdr rfl rfl rfl rfl ?_;exact RW.done rfl) ?_;refine AW.val rfl (fun _ _=>by refine Jc ?_;exact RW.done rfl) ?_
    (apply AW.val rfl;· intro Gx X;(first | refine RW.yes rfl ?_ | skip);refine RW.indexAddrE rfl rfl rfl p0 p1 rfl ?_;exact RW.done rfl)
    refine AW.val rfl (fun _ _=>by refine Je ?_;exact RW.done rfl) ?_
    (apply AW.val rfl;· intro Gx X;(first | refine RW.yes rfl ?_ | skip);refine EL.pair (j:=0) hy rfl rfl (by omega) p0 p1 rfl rfl rfl ?_;exact RW.done rfl)
    refine AW.val rfl (fun _ _=>by refine EL.idx rfl rfl (by assumption) (by assumption) rfl ?_;exact RW.done rfl) ?_
    refine AW.stop (by kernel_rfl) (by kernel_rfl) fun bq=>?_
    refine ES.standing hy rfl rfl u0 u1 ?_
    refine RW.nil ?_
    exact PW.meet () ⟨rfl,rfl,rfl,rfl,rfl,rfl,rfl,rfl,rfl,rfl,rfl,rfl,rfl,rfl,trivial⟩ (fun h=>h)
   refine CW.region ?_
   refine RW.add rfl rfl (w64 (by omega) (by omega)) rfl ?_
   refine Jc ?_
   refine RW.nil ?_
   exact PW.again ⟨(j + 1,En.lay6q y p),hlt4,hy',hS3⟩ ⟨rfl,rfl,rfl,rfl,rfl,rfl,rfl,rfl,rfl,rfl,rfl,rfl,rfl,rfl,trivial⟩ (fun h=>h) (by show L.length - (j + 1) < L.length - j;omega)
  refine CW.region ?_
  refine RW.add rfl rfl (w64 (by omega) (by omega)) rfl ?_
  refine Jc ?_
  refine RW.nil ?_
  exact PW.again ⟨(i + 1,(En.lay6 t P1.of P2.bts e i)),hi',hk',hS⟩ ⟨rfl,rfl,rfl,rfl,rfl,rfl,rfl,rfl,rfl,trivial⟩ (fun h=>h) (by show m - (i + 1) < m - i;omega)
 refine CW.have_ (φ:=∃ A c,sv=.slice A e6.told.length c) (fun w hw=>?_) (fun ⟨tA,tc,hsv⟩=>?_)
 ·obtain ⟨A,c,g1,g2⟩:=own_shapeM (pre:=[_,_]) hw
  rw [List.length_map] at g1
  exact ⟨A,c,g1⟩
 subst hsv
 refine Ja ?_;refine Jc ?_;refine Jc ?_;refine Jf ?_;refine Je ?_;refine EL.hdr rfl rfl rfl rfl ?_;refine Jg ?_;refine Jf ?_;refine Je ?_
 refine ES.first rfl rfl ?_
 refine Jb ?_;refine Ja ?_;refine Jc ?_;refine Jf ?_;refine Je ?_;refine Je ?_
 refine ES.up rfl rfl ?_
 refine Jb ?_;refine Ja ?_;refine Jc ?_;refine Jd ?_;refine Jb ?_
 have hnp6:np=e6.pairs.length:=hk6.pairs.symm
 refine CW.rets (rs:=[.tmp 4]) (vs:=[ptrV be]) rfl Tryz.results47 rfl (.tmp rfl ResOK.nil) fun w hw=>⟨⟨be,a,ib,ob,bb,pA,pc,.slice tA e6.told.length tc⟩,rfl,?_⟩
 rw [show layH t x n m facts ⟨be,a,ib,ob,bb,pA,pc,.slice tA e6.told.length tc⟩=_ from rfl]
 unfold layH
 rw [hS1,hD1]
 dsimp only
 rw [← hnp6]
 exact St.take [0,1,2,3,4,5,6,7,8,9,10,11,12,13,14,17,18,19] hw
end
end Go.Proofs.YtbcdgcodnkgdoaaGreat
namespace Go.Proofs.YtbcdgcodnkgdoaaGreat
open Go Go.RowKit
section
variable {n m:Nat} {t:ThV} {e:En} {facts:List Int}
abbrev HLook (t:ThV) (n m:Nat) (facts:List Int):Prop:=∀ (r:Nat),r < m→supD t r=true→∀ s∈rowAt (tBeats t) r,∃ p,getM ((En.pair1 t n m (En.layE t n m facts)).d.getD (ruleAt t r).2.1.toNat []) s=some p∧0≤p∧p < ((En.pair1 t n m (En.layE t n m facts)).e.pairs.length:Nat)
theorem foldl_ok {α:Type} {f:En→α→En}:∀ {l:List α} {e:En},(∀ a∈l,∀ e,LOk n m e→LOk n m (f e a))→LOk n m e→LOk n m (l.foldl f e)
 | [],e,_,h=>h
 | a::l,e,hf,h=>foldl_ok (l:=l) (fun b hb=>hf b (List.mem_cons_of_mem _ hb)) (hf a (List.mem_cons_self ..) e h)
theorem layE_ok (ht:TOk n m t) (hfr:∀ q∈facts,0≤q∧q < n):LOk n m (En.layE t n m facts):=by
 have hn:=ht.small.1
 have h1:LOk n m (upto (En.lay1 t) m 0 (En.lay0 n m)):=upto_ind (fun _ e=>LOk n m e) m 0 _ (fun j e _ _ h=>h.lay1) (LOk.new n m)
 have h2:LOk n m (facts.foldl En.lay2 (upto (En.lay1 t) m 0 (En.lay0 n m))):=foldl_ok (fun q hq e h=>h.tell hn (hfr q hq).1 (hfr q hq).2 (by omega) (by omega)) h1
 have h3:=upto_ind (f:=En.lay3 t) (fun _ e=>LOk n m e) m 0 _ (fun j e _ hj h=>h.lay3 ht (by omega)) h2
 have h4:=upto_ind (f:=En.lay4 (facts.foldl En.lay2F (List.replicate n false))) (fun _ e=>LOk n m e) n 0 _ (fun j e _ hj h=>h.lay4 hn (by omega)) h3
 exact upto_ind (f:=En.lay5 t) (fun _ e=>LOk n m e) n 0 _ (fun j e _ hj h=>h.lay5) h4
theorem layIn_ok (ht:TOk n m t):RowsOk n m (16 * 4096) (En.layIn t n m):=by
 have hm:=ht.small.2
 have:=upto_ind (f:=En.lay1I t) (fun i L=>RowsOk n m (16 * i) L) m 0 (List.replicate n []) (fun j L _ hj h=>lay1I_ok ht (by omega) h) (RowsOk.new _ _ _)
 exact RowsOk.mono this (Nat.le_refl _) (by omega)
theorem layD_ok (ht:TOk n m t) (hfr:∀ q∈facts,0≤q∧q < n) (hl:HLook t n m facts):∃ np,np≤64 * 4096∧np=(En.pair1 t n m (En.layE t n m facts)).e.pairs.length∧RowsOk m np (64 * 4096) (En.layS t n m facts).of∧RowsOk m np (4096 * 4096) (En.layS t n m facts).beats∧EnOk n m np (En.layD t n m facts):=by
 have h0:=layE_ok ht hfr
 have h1:=pair1_ok ht h0
 have h2:=pair2_ok ht h0 hl
 have hof:RowsOk m (En.pair1 t n m (En.layE t n m facts)).e.pairs.length (64 * 4096) (En.layS t n m facts).of:=h1.of.mono (Nat.le_refl _) h1.most
 have hb:RowsOk m (En.pair1 t n m (En.layE t n m facts)).e.pairs.length (4096 * 4096) (En.layS t n m facts).beats:=h2.bts
 refine ⟨_,h1.most,rfl,hof,hb,?_⟩
 have h3:=upto_ind (f:=En.lay6 t (En.layS t n m facts).of (En.layS t n m facts).beats) (fun _ x=>EnOk n m (En.pair1 t n m (En.layE t n m facts)).e.pairs.length x) m 0 _ (fun j y _ hj hy=>hy.lay6 (K:=4096 * 4096) (hof.mono (Nat.le_refl _) (by omega)) hb (by omega)) h2.e
 exact ⟨h3.marks,h3.needD,h3.need,h3.deadD,h3.dead,h3.strict,h3.backs,h3.backed,h3.opn,h3.clash,h3.attacks,h3.standing,h3.pairs,h3.mks,h3.pr,h3.td,h3.cnt,h3.qd⟩
theorem layS_ok {np:Nat} (ht:TOk n m t) (hof:RowsOk m np (64 * 4096) (En.layS t n m facts).of) (hb:RowsOk m np (4096 * 4096) (En.layS t n m facts).beats):EsOk n m np (En.layS t n m facts):=by
 have hi:=layIn_ok ht
 exact ⟨ht.lits,ht.foes,ht.rules,hi.len,hof.len,hb.len,ht.small,fun l hl=>(hi.row l hl).2,fun l hl=>(hof.row l hl).2,fun l hl=>(hb.row l hl).2,fun l hl=>(ht.foes2 l hl).2,fun r hr=>(ht.head r hr).1⟩
theorem rows_r {N K:Nat} {L:List (List Int)} (hN:N≤9223372036854775807) (hK:K * 8≤reach) (h:RowsOk n N K L):∀ l∈L,l.length * 8≤reach∧inR64 l:=fun l hl=>by
 have h1:=h.row l hl
 refine ⟨by have:=h1.1;omega,fun x hx=>?_⟩
 have:=h1.2 x hx
 exact i64_of (by omega) (by omega)
end
section
variable {s:Es} {first i:Nat} {e:En} {q:Int}
theorem does_late (h:first≤i):En.does s first i e (q,2)=En.onLate s e q:=by simp [En.does,h]
theorem does_noD (h:¬ first≤i):En.does s first i e (q,2)=En.onNoD s e q:=by simp only [En.does,if_neg h];rfl
theorem does_1:En.does s first i e (q,1)=En.onPlusD s e q:=rfl
theorem does_3:En.does s first i e (q,3)=En.onPlus s e q:=rfl
theorem does_4:En.does s first i e (q,4)=En.onMinus s e q:=rfl
end
attribute [local irreducible] RW CW
section
variable {n m:Nat} {t:ThV} {x:TC} {fA:Option Addr} {fc:Nat} {facts:List Int}
set_option maxHeartbeats 64000000 in
theorem run_ret (ht:TOk n m t) (hfr:∀ q∈facts,0≤q∧q < n) (hl:HLook t n m facts) (w:World) (hT:ThOn (mem w (fun b=>¬ No b)) t x) (hF:Rd kInts (mem w (fun b=>¬ No b)) [.slice fA facts.length fc] facts):
 RetC Tryz.prog 25 [.agg (x.th t).toArray,.slice fA facts.length fc] w No (fun q:LQ=>ptrV q.be)
  (fun q=>enH q.be q.a (zL t x (En.layS t n m facts).inn (En.layS t n m facts).of (En.layS t n m facts).beats (En.layD t n m facts).told.length q.ib q.ob q.bb n m q.pA q.pc (En.layD t n m facts).pairs.length) n m q.sv (En.runD t n m facts)):=by
 have hle:Mem.le (mem w (fun b=>¬ No b)) (mem w (fun b=>¬ No b)):=Mem.le_refl _
 obtain ⟨np,hnp,hnpe,hof,hbt,hkD⟩:=layD_ok ht hfr hl
 have hes:=layS_ok (facts:=facts) ht hof hbt
 have hin:=layIn_ok ht
 obtain ⟨hn,hm⟩:=ht.small
 have hnpD:(En.layD t n m facts).pairs.length=np:=hkD.pairs
 have hfm:(En.layD t n m facts).told.length≤4 * n:=hkD.most
 have hrun:En.runD t n m facts=En.work (En.layS t n m facts) (En.layD t n m facts).told.length (4 * n) 0 (upto (fun e q=>e.look q) n 0 (En.layD t n m facts)):=rfl
 rw [hrun,hnpD]
 clear hrun
 refine Calls.enterM Tryz.func25 rfl _ rfl rfl (S:=No) (H:=[]) trivial ?_
 refine CW.seqR ?_
 refine RW.box_agg rfl rfl fun b2 _=>?_
 refine Jd ?_;refine Jb ?_;refine Ja ?_;refine JE ?_;refine Jc ?_
 refine RW.callN Tryz.call47 rfl (fun w hw=>lay_ret ht hfr hl w (hT.mono (ro_call hw)) (hF.mono (ro_call hw))) rfl fun ⟨be,a,ib,ob,bb,pA,pc,sv⟩=>?_
 refine RW.alloc (c:=[.pointer none]) rfl rfl fun b5 _=>?_
 skip
 refine RW.store_blk [] rfl rfl rfl rfl rfl (by decide) ?_
 refine RW.nil (PW.code ?_)
 unfold layH
 rw [hnpD]
 dsimp only
 obtain ⟨LS,hLS⟩:∃ LS,LS=En.layS t n m facts:=⟨_,rfl⟩
 have hLt:t=LS.t:=by rw [hLS];rfl
 have hLi:LS.inn=En.layIn t n m:=by rw [hLS];rfl
 rw [← hLS] at hes hof hbt ⊢
 rw [← hLi] at hin
 clear hLS hLi
 obtain ⟨t2,inn,of,bts⟩:=LS
 dsimp only at hLt hof hbt hin ⊢
 subst hLt
 generalize En.layD t n m facts=D0 at *
 obtain ⟨first,hfirst⟩:∃ first,first=D0.told.length:=⟨_,rfl⟩
 rw [← hfirst] at hfm ⊢
 refine Ja ?_;refine JA ?_;refine Jx ?_;refine JA ?_;refine Jx ?_;refine JA ?_;refine Jx ?_;refine JA ?_;refine Jx ?_
 refine RW.build (v:=.agg (doesV be).toArray) rfl (fun w=>by kernel_rfl) rfl ?_
 refine RW.alloc (c:=[.nilFunc,.nilFunc,.nilFunc,.nilFunc,.nilFunc]) rfl rfl fun b6 _=>?_
 skip
 refine RW.store_whole [] (vs:=doesV be) rfl rfl rfl rfl rfl (by simp [Value.oneCell']) ?_
 refine RW.nil (PW.code ?_)
 refine CW.sep (enH be a (zL t x inn of bts first ib ob bb n m pA pc np) n m sv D0++[blk b5 [ptrV be] 67,blk b6 (doesV be) doesT,blk b2 (x.th t) 25,rwHP ib n inn,rwHP ob m of,rwHP bb m bts]) (fun w A h=>Sep.take [2,3,4,5,6,7,8,9,10,11,12,13,14,15,16,1,0,20,17,18,19] h) ?_
 refine CW.keep [(2,ptrV b2),(5,ptrV b5),(6,ptrV b6)] ⟨rfl,rfl,rfl,trivial⟩ ?_
 refine CW.have_ (φ:=PrAt (zL t x inn of bts first ib ob bb n m pA pc np)) (fun w hw h=>?_) (fun hP=>?_)
 ·obtain ⟨A,c,g1,g2⟩:=own_shapeM (pre:=[_,_,_,_,_,_,_,_,_,_,_,_,_,_]) hw
  simp only [Value.slice.injEq] at g1
  obtain ⟨B,hB⟩:=g2 (by intro h2;exact h (by have:=congrArg List.length h2;rw [List.length_map,hkD.pairs] at this;simpa using this))
  exact ⟨B,g1.1.trans hB⟩
 obtain ⟨E0,hE0⟩:∃ E0,E0=upto (fun e (q:Nat)=>e.look (q:Int)) n 0 D0:=⟨_,rfl⟩
 rw [← hE0]
 refine CW.cut (ι:={ q:Value // EnOk n m np E0 }) (fun _=>[(2,ptrV b2),(5,ptrV b5),(6,ptrV b6)]) (fun q=>enH be a (zL t x inn of bts first ib ob bb n m pA pc np) n m q.1 E0++[blk b5 [ptrV be] 67,blk b6 (doesV be) doesT,blk b2 (x.th t) 25,rwHP ib n inn,rwHP ob m of,rwHP bb m bts]) ?_ (fun ⟨sv2,hkE⟩=>?_)
 ·refine Ja ?_;refine Je ?_
  refine RW.load_blk [_,_,_,_,_,_,_,_,_,_,_,_,_,_,_,_,_] rfl rfl rfl rfl ?_
  rw [ht.lits]
  refine Jc ?_;refine Jb ?_
  refine CW.block ?_
  refine CW.loop (ι:={ q:Nat × En × Value // q.1≤n∧EnOk n m np q.2.1∧E0=upto (fun e (q:Nat)=>e.look (q:Int)) (n - q.1) q.1 q.2.1 })
   (fun q=>[(23,.int .i64 n),(24,.int .i64 q.1.1),(2,ptrV b2),(5,ptrV b5),(6,ptrV b6)]) (fun q=>enH be a (zL t x inn of bts first ib ob bb n m pA pc np) n m q.1.2.2 q.1.2.1++[blk b5 [ptrV be] 67,blk b6 (doesV be) doesT,blk b2 (x.th t) 25,rwHP ib n inn,rwHP ob m of,rwHP bb m bts]) (fun q=>n - q.1.1) ⟨(0,D0,sv),Nat.zero_le _,hkD,hE0⟩ ⟨rfl,rfl,rfl,rfl,rfl,trivial⟩ (fun h=>h) ?_
  intro ⟨⟨i,e,sv⟩,hi,hk,hS⟩
  dsimp only at hi hk hS ⊢
  refine Ja ?_;refine Jk ?_;refine Jb ?_
  refine CW.seq ?_
  refine CW.ite rfl (fun hlt=>?_) (fun hge=>?_)
  rotate_left
  ·have hW:E0=e:=by rw [hS,show n - i=0 by omega];rfl
   rw [hW]
   skip
   refine CW.exit rfl ?_
   exact PW.meet ⟨sv,hW ▸ hk⟩ ⟨rfl,rfl,rfl,trivial⟩ (fun h=>h)
  have hi':i < n:=by omega
  have hq0:(0:Int)≤(i:Nat):=by omega
  have hq1:((i:Nat):Int) < n:=by omega
  rw [show n - i=(n - (i + 1)) + 1 by omega,upto] at hS
  refine CW.skip ?_
  refine PW.code ?_
  refine CW.cut (ι:=Value) (fun _=>[(23,.int .i64 n),(24,.int .i64 i),(2,ptrV b2),(5,ptrV b5),(6,ptrV b6)]) (fun sv3=>enH be a (zL t x inn of bts first ib ob bb n m pA pc np) n m sv3 (e.look (i:Int))++[blk b5 [ptrV be] 67,blk b6 (doesV be) doesT,blk b2 (x.th t) 25,rwHP ib n inn,rwHP ob m of,rwHP bb m bts]) ?_ (fun sv3=>?_)
  ·refine CW.block ?_
   refine Ja ?_;refine Jc ?_;refine Jd ?_;refine Jb ?_
   refine CW.region ?_
   refine EL.ex rfl rfl rfl rfl ?_;refine Jc ?_
   refine RW.callD (enH be a (zL t x inn of bts first ib ob bb n m pA pc np) n m sv e) Tryz.call52 rfl (fun w F _ hC _=>look_ret hn hk hq0 hq1 w F hC) rfl fun sv3=>?_
   refine RW.nil ?_
   exact PW.meet sv3 ⟨rfl,rfl,rfl,rfl,rfl,trivial⟩ (fun h=>h)
  refine CW.region ?_
  refine RW.add rfl rfl (w64 (by omega) (by omega)) rfl ?_
  refine Jc ?_
  refine RW.nil ?_
  exact PW.again ⟨(i + 1,e.look (i:Int),sv3),hi',hk.look hn hq0 hq1,hS⟩ ⟨rfl,rfl,rfl,rfl,rfl,trivial⟩ (fun h=>h) (by show n - (i + 1) < n - i;omega)
 clear hE0 hkD
 refine CW.seq ?_
 refine Ja ?_;refine EL.ex rfl rfl rfl rfl ?_
 refine RW.callN Tryz.call53 rfl (fun w hw=>work_ret) rfl fun b1=>?_
 refine RW.nil (PW.code ?_)
 refine CW.block ?_
 refine CW.sep (wkH b1 b5 b6 be a (zL t x inn of bts first ib ob bb n m pA pc np) n m sv2 E0++[blk b2 (x.th t) 25]) (fun w A h=>?_) ?_
 ·have e1:=rows_own (by rw [hin.len];unfold reach;omega) (rows_r (by omega) (by unfold reach;omega) hin) (Sep.take [19,0,1,2,3,4,5,6,7,8,9,10,11,12,13,14,15,16,17,18,20,21] h)
  have e2:=rows_own (by rw [hof.len];unfold reach;omega) (rows_r (by omega) (by unfold reach;omega) hof) (Sep.take [20,0,1,2,3,4,5,6,7,8,9,10,11,12,13,14,15,16,17,18,19,21] e1)
  have e3:=rows_own (by rw [hbt.len];unfold reach;omega) (rows_r (by omega) (by unfold reach;omega) hbt) (Sep.take [21,0,1,2,3,4,5,6,7,8,9,10,11,12,13,14,15,16,17,18,19,20] e2)
  exact Sep.take [3,19,20,4,5,6,7,8,9,10,11,12,13,14,15,16,17,18,2,1,0,21] e3
 refine CW.keep [(2,ptrV b2),(5,ptrV b5),(6,ptrV b6),(32,.func (.func 88) #[] #[ptrV b1])] ⟨rfl,rfl,rfl,rfl,trivial⟩ ?_
 refine CW.rangeFn (wkH b1 b5 b6 be a (zL t x inn of bts first ib ob bb n m pA pc np) n m sv2 E0) (α:=Value) (c:=fun sv3=>wkH b1 b5 b6 be a (zL t x inn of bts first ib ob bb n m pA pc np) n m sv3 (En.work ⟨t,inn,of,bts⟩ first (4 * n) 0 E0)) Tryz.call88 rfl (fun w3 F3 l rec hrec hle3 hC _=>work1_ret (z:=(zL t x inn of bts first ib ob bb n m pA pc np)) (first:=first) (by rw [hrec.ps];rfl) hes hkE (fun i e p sv w2 F2 hk hi hp hT hC=>?_) w3 F3 (hT.mono hle3) hC) (fun sv3 D=>?_)
 ·obtain ⟨⟨q0,q1⟩,k0,k1⟩:=hk.tdAt hp
  refine RndC.enter hrec rfl rfl hC ?_
  refine CI.seqR rfl (fun ⟨_,_,h⟩=>h) ?_
  refine Jd ?_
  refine RW.nil (PW.codeI ?_)
  refine CI.region rfl (fun ⟨_,_,h⟩=>h) ?_
  refine RW.alloc (c:=[.int .i64 0,.int .i64 0]) rfl rfl fun b9 _=>?_
  refine RW.store_whole [] (vs:=toldE p) rfl rfl rfl rfl rfl (by simp [Value.oneCell']) ?_
  refine RW.nil ?_
  refine PW.sep (H':=recHP l rec::blk b9 (toldE p) 111::wkH b1 b5 b6 be a (zL t x inn of bts first ib ob bb n m pA pc np) n m sv e) (fun w A h=>Sep.take [1,0,2,3,4,5,6,7,8,9,10,11,12,13,14,15,16,17,18,19,20,21,22] h) ?_
  refine PW.begin hrec.state ?_
  refine CI.block ?_
  refine CI.seq ?_
  refine PW.sep (H':=(blk b9 (toldE p) 111::blk b5 [ptrV be] 67::recHP l { rec with state:=.busy }::blk b6 (doesV be) doesT::blk b1 [ptrV be] 67::(enH be a (zL t x inn of bts first ib ob bb n m pA pc np) n m sv e++wkX n m (zL t x inn of bts first ib ob bb n m pA pc np)))) (fun w A h=>Sep.take [1,3,0,4,2,5,6,7,8,9,10,11,12,13,14,15,16,17,18,19,20,21,22] h) ?_
  refine PW.codeI ?_
  refine CI.seq ?_
  refine CI.region rfl (fun ⟨_,_,h⟩=>h) ?_
  obtain ⟨pq,pk⟩:=p
  dsimp only at q0 q1 k0 k1
  refine Je ?_;refine JA ?_;refine Ji ?_;refine Jc ?_
  refine RW.splitD 38 rfl (fun h1=>?_) (fun h1=>?_)
  ·subst h1
   refine Jy ?_;refine Jc ?_;refine Jy ?_;refine JB ?_;refine Jy ?_;refine Jf ?_;refine Jy ?_;refine Je ?_;refine Jy ?_
   refine RW.load_blk [_,_,_,_,_] rfl rfl rfl rfl ?_
   refine Jy ?_;refine Jn ?_;refine Jv ?_
   refine RW.nil (PW.codeI ?_)
   refine CI.ite rfl (fun h2=>?_) (fun h2=>?_)
   ·have e9:En.does ⟨t,inn,of,bts⟩ first i e (pq,2)=En.onLate ⟨t,inn,of,bts⟩ e pq:=does_late (by have h3:(first:Int)≤(i:Nat):=h2;omega)
    rw [e9]
    refine CI.seqR rfl (fun ⟨_,_,h⟩=>h) ?_
    refine JB ?_;refine Je ?_;refine JA ?_
    refine RW.callT [5,6,7,8,9,10,11,12,13,14,15,16,17,18,19,0,1,2,3,4,20,21,22] (enH be a (zL t x inn of bts first ib ob bb n m pA pc np) n m sv e) rfl rfl rfl Tryz.call54 (fun w F hle hC hR=>onLate_ret hes hP rfl hk q0 q1 w F (wk_on (M:=fun _ _ _=>False) (Sep.take [5,6,7] hR) (hT.mono hle)) hC) fun sv3=>?_
    refine RW.nil (PW.codeI ?_)
    refine CI.exit rfl ?_
    refine PW.sep (H':=recHP l { rec with state:=.busy }::wkH b1 b5 b6 be a (zL t x inn of bts first ib ob bb n m pA pc np) n m sv3 (En.onLate ⟨t,inn,of,bts⟩ e pq)) (fun w A h=>Sep.take [17,19,16,18,0,1,2,3,4,5,6,7,8,9,10,11,12,13,14,20,21,22] h) ?_
    exact PW.end_ sv3 hrec.state hrec.pend
   refine CI.skip ?_
   refine PW.codeI ?_
   refine CI.regionA (by kernel_rfl) rfl (fun ⟨_,_,h⟩=>h) ?_
   refine WA.anyV (by kernel_rfl) ?_
   refine AW.val rfl (fun _ _=>by refine Je ?_;exact RW.done rfl) ?_;refine AW.val rfl (fun _ _=>by refine JA ?_;exact RW.done rfl) ?_
   (apply AW.val rfl;· intro Gx X;(first | refine RW.yes rfl ?_ | skip);refine RW.indexArr rfl rfl (by omega) (by omega) rfl ?_;exact RW.done rfl)
   refine AW.val rfl (fun _ _=>by refine JD ?_;exact RW.done rfl) ?_;refine AW.val rfl (fun _ _=>by refine Je ?_;exact RW.done rfl) ?_;refine AW.val rfl (fun _ _=>by refine JA ?_;exact RW.done rfl) ?_
   refine AW.stop (by kernel_rfl) (by kernel_rfl) fun bq=>?_
   refine RW.callwT [5,6,7,8,9,10,11,12,13,14,15,16,17,18,19,0,1,2,3,4,20,21,22] (enH be a (zL t x inn of bts first ib ob bb n m pA pc np) n m sv e) rfl rfl rfl rfl Tryz.call49 (fun w F hle hC hR=>onNoD_ret hes hP rfl hk q0 q1 w F (wk_on (M:=fun _ _ _=>False) (Sep.take [5,6,7] hR) (hT.mono hle)) hC) fun sv3=>?_
   refine RW.nil ?_
   have e9:En.does ⟨t,inn,of,bts⟩ first i e (pq,2)=En.onNoD ⟨t,inn,of,bts⟩ e pq:=does_noD (by have h3:¬ (first:Int)≤(i:Nat):=h2;omega)
   rw [e9]
   refine PW.sep (H':=recHP l { rec with state:=.busy }::wkH b1 b5 b6 be a (zL t x inn of bts first ib ob bb n m pA pc np) n m sv3 (En.onNoD ⟨t,inn,of,bts⟩ e pq)) (fun w A h=>Sep.take [17,19,16,18,0,1,2,3,4,5,6,7,8,9,10,11,12,13,14,20,21,22] h) ?_
   exact PW.end_ sv3 hrec.state hrec.pend
  refine Jz ?_;refine Jz ?_;refine Jz ?_;refine Jz ?_;refine Jz ?_;refine Jz ?_;refine Jw ?_
  refine RW.nil (PW.codeI ?_)
  refine CI.cf rfl ?_
  refine CI.skip ?_
  refine PW.codeI ?_
  obtain rfl | rfl | rfl:pk=1∨pk=3∨pk=4:=by omega
  ·refine CI.regionA (by kernel_rfl) rfl (fun ⟨_,_,h⟩=>h) ?_
   refine WA.anyV (by kernel_rfl) ?_
   refine AW.val rfl (fun _ _=>by refine Je ?_;exact RW.done rfl) ?_;refine AW.val rfl (fun _ _=>by refine JA ?_;exact RW.done rfl) ?_
   (apply AW.val rfl;· intro Gx X;(first | refine RW.yes rfl ?_ | skip);refine RW.indexArr rfl rfl (by omega) (by omega) rfl ?_;exact RW.done rfl)
   refine AW.val rfl (fun _ _=>by refine JD ?_;exact RW.done rfl) ?_;refine AW.val rfl (fun _ _=>by refine Je ?_;exact RW.done rfl) ?_;refine AW.val rfl (fun _ _=>by refine JA ?_;exact RW.done rfl) ?_
   refine AW.stop (by kernel_rfl) (by kernel_rfl) fun bq=>?_
   refine RW.callwT [5,6,7,8,9,10,11,12,13,14,15,16,17,18,19,0,1,2,3,4,20,21,22] (enH be a (zL t x inn of bts first ib ob bb n m pA pc np) n m sv e) rfl rfl rfl rfl Tryz.call48 (fun w F hle hC hR=>onPlusD_ret hes hP rfl hk q0 q1 w F (wk_on (M:=fun _ _ _=>False) (Sep.take [5,6,7] hR) (hT.mono hle)) hC) fun sv3=>?_
   refine RW.nil ?_
   have e9:En.does ⟨t,inn,of,bts⟩ first i e (pq,1)=En.onPlusD ⟨t,inn,of,bts⟩ e pq:=does_1
   rw [e9]
   refine PW.sep (H':=recHP l { rec with state:=.busy }::wkH b1 b5 b6 be a (zL t x inn of bts first ib ob bb n m pA pc np) n m sv3 (En.onPlusD ⟨t,inn,of,bts⟩ e pq)) (fun w A h=>Sep.take [17,19,16,18,0,1,2,3,4,5,6,7,8,9,10,11,12,13,14,20,21,22] h) ?_
   exact PW.end_ sv3 hrec.state hrec.pend
  ·refine CI.regionA (by kernel_rfl) rfl (fun ⟨_,_,h⟩=>h) ?_
   refine WA.anyV (by kernel_rfl) ?_
   refine AW.val rfl (fun _ _=>by refine Je ?_;exact RW.done rfl) ?_;refine AW.val rfl (fun _ _=>by refine JA ?_;exact RW.done rfl) ?_
   (apply AW.val rfl;· intro Gx X;(first | refine RW.yes rfl ?_ | skip);refine RW.indexArr rfl rfl (by omega) (by omega) rfl ?_;exact RW.done rfl)
   refine AW.val rfl (fun _ _=>by refine JD ?_;exact RW.done rfl) ?_;refine AW.val rfl (fun _ _=>by refine Je ?_;exact RW.done rfl) ?_;refine AW.val rfl (fun _ _=>by refine JA ?_;exact RW.done rfl) ?_
   refine AW.stop (by kernel_rfl) (by kernel_rfl) fun bq=>?_
   refine RW.callwT [5,6,7,8,9,10,11,12,13,14,15,16,17,18,19,0,1,2,3,4,20,21,22] (enH be a (zL t x inn of bts first ib ob bb n m pA pc np) n m sv e) rfl rfl rfl rfl Tryz.call50 (fun w F hle hC hR=>onPlus_ret hes hP rfl hk q0 q1 w F (wk_on (M:=fun _ _ _=>False) (Sep.take [5,6,7] hR) (hT.mono hle)) hC) fun sv3=>?_
   refine RW.nil ?_
   have e9:En.does ⟨t,inn,of,bts⟩ first i e (pq,3)=En.onPlus ⟨t,inn,of,bts⟩ e pq:=does_3
   rw [e9]
   refine PW.sep (H':=recHP l { rec with state:=.busy }::wkH b1 b5 b6 be a (zL t x inn of bts first ib ob bb n m pA pc np) n m sv3 (En.onPlus ⟨t,inn,of,bts⟩ e pq)) (fun w A h=>Sep.take [17,19,16,18,0,1,2,3,4,5,6,7,8,9,10,11,12,13,14,20,21,22] h) ?_
   exact PW.end_ sv3 hrec.state hrec.pend
  refine CI.regionA (by kernel_rfl) rfl (fun ⟨_,_,h⟩=>h) ?_
  refine WA.anyV (by kernel_rfl) ?_
  refine AW.val rfl (fun _ _=>by refine Je ?_;exact RW.done rfl) ?_;refine AW.val rfl (fun _ _=>by refine JA ?_;exact RW.done rfl) ?_
  (apply AW.val rfl;· intro Gx X;(first | refine RW.yes rfl ?_ | skip);refine RW.indexArr rfl rfl (by omega) (by omega) rfl ?_;exact RW.done rfl)
  refine AW.val rfl (fun _ _=>by refine JD ?_;exact RW.done rfl) ?_;refine AW.val rfl (fun _ _=>by refine Je ?_;exact RW.done rfl) ?_;refine AW.val rfl (fun _ _=>by refine JA ?_;exact RW.done rfl) ?_
  refine AW.stop (by kernel_rfl) (by kernel_rfl) fun bq=>?_
  refine RW.callwT [5,6,7,8,9,10,11,12,13,14,15,16,17,18,19,0,1,2,3,4,20,21,22] (enH be a (zL t x inn of bts first ib ob bb n m pA pc np) n m sv e) rfl rfl rfl rfl Tryz.call51 (fun w F hle hC hR=>onMinus_ret hes hP rfl hk q0 q1 w F (wk_on (M:=fun _ _ _=>False) (Sep.take [5,6,7] hR) (hT.mono hle)) hC) fun sv3=>?_
  refine RW.nil ?_
  have e9:En.does ⟨t,inn,of,bts⟩ first i e (pq,4)=En.onMinus ⟨t,inn,of,bts⟩ e pq:=does_4
  rw [e9]
  refine PW.sep (H':=recHP l { rec with state:=.busy }::wkH b1 b5 b6 be a (zL t x inn of bts first ib ob bb n m pA pc np) n m sv3 (En.onMinus ⟨t,inn,of,bts⟩ e pq)) (fun w A h=>Sep.take [17,19,16,18,0,1,2,3,4,5,6,7,8,9,10,11,12,13,14,20,21,22] h) ?_
  exact PW.end_ sv3 hrec.state hrec.pend
 refine PW.code ?_
 refine Ja ?_;refine JC ?_;refine Jd ?_;refine Jb ?_
 skip
 refine CW.ret rfl ?_
 exact PW.retM (rs:=[.tmp 4]) (vs:=[ptrV be]) Tryz.results25 rfl (.tmp rfl .nil) fun w hw=>⟨⟨be,a,ib,ob,bb,pA,pc,sv3⟩,rfl,St.take [3,4,5,6,7,8,9,10,11,12,13,14,15,16,17] hw⟩
end
end Go.Proofs.YtbcdgcodnkgdoaaGreat
namespace Go.Proofs.YtbcdgcodnkgdoaaGreat
open Go Go.RowKit
structure Cr where
 needD:List Int
 need:List Int
 deadD:List Bool
 dead:List Bool
 strict:List Int
 backs:List Int
 backed:List Bool
 opn:List Int
 clash:List Bool
 attacks:List Int
 standing:List Bool
 pairs:List (Int × Int × Bool × Int)
def En.core (e:En):Cr:=⟨e.needD,e.need,e.deadD,e.dead,e.strict,e.backs,e.backed,e.opn,e.clash,e.attacks,e.standing,e.pairs⟩
namespace Cr
def pair (c:Cr) (p:Int):Int × Int × Bool × Int:=c.pairs.getD p.toNat (0,0,false,0)
def settle (c:Cr) (p:Int):Cr:=if (c.pair p).2.2.1 then c else { c with pairs:=c.pairs.set p.toNat ((c.pair p).1,(c.pair p).2.1,true,(c.pair p).2.2.2),attacks:=En.dec c.attacks (c.pair p).1 }
def stand (c:Cr) (p:Int):Cr:=if (c.need.getD (c.pair p).2.1.toNat 0 == 0)&&((c.pair p).2.2.2 == 0)&&!c.standing.getD (c.pair p).1.toNat false then { c with standing:=c.standing.set (c.pair p).1.toNat true } else c
def back (c:Cr) (q:Int):Cr:=if c.backed.getD q.toNat false then c else { c with backed:=c.backed.set q.toNat true }
def fire1 (s:Es) (c:Cr) (r:Int):Cr:=if supD s.t r then (rowAt s.beats r).foldl settle (c.back (ruleAt s.t r).2.1) else c
def fire (s:Es) (c:Cr) (r:Int):Cr:=(rowAt s.of r).foldl stand (fire1 s c r)
def onPlusD1 (s:Es) (c:Cr) (r:Int):Cr:=if (ruleAt s.t r).1 == 1 then { c with needD:=En.dec c.needD r } else c
def onPlusD2 (c:Cr) (f:Int):Cr:=if decide (0 < c.backs.getD f.toNat 0)&&!c.clash.getD f.toNat false then { c with clash:=c.clash.set f.toNat true } else c
def onNoD1 (s:Es) (c:Cr) (r:Int):Cr:=if (ruleAt s.t r).1 == 1&&!c.deadD.getD r.toNat false then { c with deadD:=c.deadD.set r.toNat true,strict:=En.dec c.strict (ruleAt s.t r).2.1 } else c
def onLate1 (c:Cr) (f:Int):Cr:=if decide (0 < c.backs.getD f.toNat 0) || c.backed.getD f.toNat false then { c with opn:=En.dec c.opn f } else c
def onPlus1 (s:Es) (c:Cr) (r:Int):Cr:=
 let c:={ c with need:=En.dec c.need r }
 if c.need.getD r.toNat 0 == 0 then fire s c r else c
def onMinus2 (c:Cr) (p:Int):Cr:=({ c with pairs:=c.pairs.set p.toNat ((c.pair p).1,(c.pair p).2.1,(c.pair p).2.2.1,En.w64 ((c.pair p).2.2.2 - 1)) }).stand p
def onMinus1 (s:Es) (c:Cr) (r:Int):Cr:=if c.dead.getD r.toNat false then c else
 let c:=(rowAt s.of r).foldl settle { c with dead:=c.dead.set r.toNat true }
 if supD s.t r then (rowAt s.beats r).foldl onMinus2 { c with backs:=En.dec c.backs (ruleAt s.t r).2.1 } else c
def onPlusD (s:Es) (c:Cr) (q:Int):Cr:=(rowAt (tFoes s.t) q).foldl onPlusD2 ((rowAt s.inn q).foldl (onPlusD1 s) c)
def onNoD (s:Es) (c:Cr) (q:Int):Cr:=(rowAt s.inn q).foldl (onNoD1 s) c
def onLate (s:Es) (c:Cr) (q:Int):Cr:=onNoD s ((rowAt (tFoes s.t) q).foldl onLate1 c) q
def onPlus (s:Es) (c:Cr) (q:Int):Cr:=(rowAt s.inn q).foldl (onPlus1 s) c
def onMinus (s:Es) (c:Cr) (q:Int):Cr:=(rowAt s.inn q).foldl (onMinus1 s) c
def does (s:Es) (first:Nat) (i:Nat) (c:Cr) (p:Int × Int):Cr:=
 if p.2 == 2 then (if first≤i then onLate s c p.1 else onNoD s c p.1)
 else if p.2 == 1 then onPlusD s c p.1
 else if p.2 == 3 then onPlus s c p.1
 else onMinus s c p.1
end Cr
section
variable {e:En} {s:Es} {q k r p f:Int}
theorem fold_core {α:Type} {f:En→α→En} {g:Cr→α→Cr} (h:∀ e a,(f e a).core=g e.core a):∀ {l:List α} {e:En},(l.foldl f e).core=l.foldl g e.core
 | [],e=>rfl
 | a::l,e=>by rw [List.foldl_cons,List.foldl_cons,fold_core h,h]
@[simp] theorem core_tell:(e.tell q k).core=e.core:=by unfold En.tell;split <;> rfl
@[simp] theorem core_look1:(e.look1 q).core=e.core:=by unfold En.look1;split <;> simp
@[simp] theorem core_look2:(e.look2 q).core=e.core:=by unfold En.look2;split <;> simp
@[simp] theorem core_look:(e.look q).core=e.core:=by unfold En.look;simp
@[simp] theorem core_ups:(e.ups k).core=e.core:=rfl
theorem core_pair:e.pair p=e.core.pair p:=rfl
theorem core_settle:(e.settle p).core=e.core.settle p:=by
 unfold En.settle Cr.settle
 rw [core_pair]
 split
 ·rfl
 ·rw [core_look];rfl
theorem core_stand:(e.stand p).core=e.core.stand p:=by
 unfold En.stand Cr.stand
 rw [core_pair]
 show (if (e.core.need.getD (e.core.pair p).2.1.toNat 0 == 0)&&((e.core.pair p).2.2.2 == 0)&&!e.core.standing.getD (e.core.pair p).1.toNat false then _ else e).core=_
 split
 ·rw [core_look];rfl
 ·rfl
theorem core_fire1:(En.fire1 s e r).core=Cr.fire1 s e.core r:=by
 unfold En.fire1 Cr.fire1
 split
 ·rw [core_look,fold_core (g:=Cr.settle) (fun _ _=>core_settle)]
  congr 1
  unfold Cr.back
  show (if e.backed.getD (ruleAt s.t r).2.1.toNat false=true then e else _).core=if e.backed.getD (ruleAt s.t r).2.1.toNat false=true then _ else _
  split <;> rfl
 ·rfl
theorem core_fire:(En.fire s e r).core=Cr.fire s e.core r:=by
 unfold En.fire Cr.fire
 rw [fold_core (g:=Cr.stand) (fun _ _=>core_stand),core_fire1]
theorem core_upL:(En.upL s e r).core=e.core:=by unfold En.upL;split <;> rfl
theorem core_onPlusD1:(En.onPlusD1 s e r).core=Cr.onPlusD1 s e.core r:=by
 unfold En.onPlusD1 Cr.onPlusD1
 split
 ·dsimp only
  have h:(En.lowerD s e r).core={ e.core with needD:=En.dec e.core.needD r }:=by unfold En.lowerD;rw [core_upL];rfl
  split
  ·rw [core_tell,h]
  ·rw [h]
 ·rfl
theorem core_onPlusD2:(En.onPlusD2 e f).core=Cr.onPlusD2 e.core f:=by
 unfold En.onPlusD2 Cr.onPlusD2
 show (if decide (0 < e.core.backs.getD f.toNat 0)&&!e.core.clash.getD f.toNat false then _ else e).core=_
 split
 ·rw [core_look];rfl
 ·rfl
theorem core_onPlusD:(En.onPlusD s e q).core=Cr.onPlusD s e.core q:=by
 unfold En.onPlusD Cr.onPlusD
 rw [core_look,fold_core (g:=Cr.onPlusD2) (fun _ _=>core_onPlusD2),fold_core (g:=Cr.onPlusD1 s) (fun _ _=>core_onPlusD1)]
theorem core_onNoD1:(En.onNoD1 s e r).core=Cr.onNoD1 s e.core r:=by
 unfold En.onNoD1 Cr.onNoD1
 show (if (ruleAt s.t r).1 == 1&&!e.core.deadD.getD r.toNat false then _ else e).core=_
 split
 ·dsimp only
  unfold En.upL
  split <;> split <;> first | (rw [core_tell];rfl) | rfl
 ·rfl
theorem core_onNoD:(En.onNoD s e q).core=Cr.onNoD s e.core q:=by
 unfold En.onNoD Cr.onNoD
 rw [core_look,fold_core (g:=Cr.onNoD1 s) (fun _ _=>core_onNoD1)]
theorem core_onLate1:(En.onLate1 e f).core=Cr.onLate1 e.core f:=by
 unfold En.onLate1 Cr.onLate1
 show (if decide (0 < e.core.backs.getD f.toNat 0) || e.core.backed.getD f.toNat false then _ else e).core=_
 split
 ·rw [core_look];rfl
 ·rfl
theorem core_onLate:(En.onLate s e q).core=Cr.onLate s e.core q:=by
 unfold En.onLate Cr.onLate
 rw [core_onNoD,fold_core (g:=Cr.onLate1) (fun _ _=>core_onLate1)]
theorem core_onPlus1:(En.onPlus1 s e r).core=Cr.onPlus1 s e.core r:=by
 unfold En.onPlus1 Cr.onPlus1
 have h:(En.lower s e r).core={ e.core with need:=En.dec e.core.need r }:=by unfold En.lower;rw [core_upL];rfl
 dsimp only
 have h2:(En.lower s e r).need=En.dec e.core.need r:=congrArg Cr.need h
 rw [h2]
 split
 ·rw [core_fire,h]
 ·rw [h]
theorem core_onPlus:(En.onPlus s e q).core=Cr.onPlus s e.core q:=fold_core (g:=Cr.onPlus1 s) (fun _ _=>core_onPlus1)
theorem core_onMinus2:(En.onMinus2 e p).core=Cr.onMinus2 e.core p:=by
 unfold En.onMinus2 Cr.onMinus2
 rw [core_stand]
 rfl
theorem core_onMinus1:(En.onMinus1 s e r).core=Cr.onMinus1 s e.core r:=by
 unfold En.onMinus1 Cr.onMinus1
 show (if e.core.dead.getD r.toNat false=true then e else _).core=_
 split
 ·rfl
 ·dsimp only
  have h:((rowAt s.of r).foldl En.settle (En.upL s { e with dead:=e.dead.set r.toNat true } r)).core=(rowAt s.of r).foldl Cr.settle { e.core with dead:=e.core.dead.set r.toNat true }:=by
   rw [fold_core (g:=Cr.settle) (fun _ _=>core_settle),core_upL];rfl
  split
  ·rw [core_look,fold_core (g:=Cr.onMinus2) (fun _ _=>core_onMinus2),core_ups]
   congr 1
   rw [← h];rfl
  ·exact h
theorem core_onMinus:(En.onMinus s e q).core=Cr.onMinus s e.core q:=fold_core (g:=Cr.onMinus1 s) (fun _ _=>core_onMinus1)
theorem core_does {first i:Nat} {x:Int × Int}:(En.does s first i e x).core=Cr.does s first i e.core x:=by
 unfold En.does Cr.does
 split
 ·split
  ·exact core_onLate
  ·exact core_onNoD
 ·split
  ·exact core_onPlusD
  ·split
   ·exact core_onPlus
   ·exact core_onMinus
end
end Go.Proofs.YtbcdgcodnkgdoaaGreat
namespace Go.Proofs.YtbcdgcodnkgdoaaGreat
open Go Go.RowKit
abbrev gi (l:List Int) (q:Int):Int:=l.getD q.toNat 0
abbrev gb (l:List Bool) (q:Int):Bool:=l.getD q.toNat false
theorem getD_setAt {α:Type} {l:List α} {n:Nat} {q x:Int} {v d:α} (hl:l.length=n) (q0:0≤q) (q1:q < n) (x0:0≤x):(l.set q.toNat v).getD x.toNat d=if x=q then v else l.getD x.toNat d:=by
 rw [List.getD_eq_getElem?_getD,List.getD_eq_getElem?_getD]
 split
 ·rename_i h
  rw [h,List.getElem?_set_self (by omega)]
  rfl
 ·rename_i h
  rw [List.getElem?_set_ne (by omega)]
def cN (m:Nat) (f:Int→Bool):Int:=((List.range m).countP (fun (i:Nat)=>f i):Nat)
theorem cN_succ {m:Nat} {f:Int→Bool}:cN (m + 1) f=cN m f + (if f m=true then 1 else 0):=by
 unfold cN
 rw [List.range_succ,List.countP_append,List.countP_singleton]
 split <;> simp_all
theorem cN_congr {m:Nat} {f g:Int→Bool} (h:∀ (i:Int),0≤i→i < m→f i=g i):cN m f=cN m g:=by
 induction m with
 | zero=>rfl
 | succ m ih=>rw [cN_succ,cN_succ,ih (fun i h0 h1=>h i h0 (by omega)),h m (by omega) (by omega)]
theorem cN_less {m:Nat} {f g:Int→Bool} {r:Int} (r0:0≤r) (r1:r < m) (hf:f r=true) (hg:g r=false) (h:∀ (i:Int),0≤i→i < m→i≠r→f i=g i):cN m f=cN m g + 1:=by
 induction m with
 | zero=>omega
 | succ m ih=>
  rw [cN_succ,cN_succ]
  by_cases e:r=m
  ·subst e
   rw [hf,hg,cN_congr (fun i h0 h1=>h i h0 (by omega) (by omega))]
   simp
  ·rw [ih (by omega) (fun i h0 h1=>h i h0 (by omega)),h m (by omega) (by omega) (fun e2=>e e2.symm)]
   split <;> omega
theorem cN_nonneg (m:Nat) (f:Int→Bool):0≤cN m f:=by unfold cN;omega
theorem cN_le (m:Nat) (f:Int→Bool):cN m f≤m:=by
 unfold cN
 have:=List.countP_le_length (p:=fun (i:Nat)=>f i) (l:=List.range m)
 rw [List.length_range] at this
 omega
theorem cN_zero {m:Nat} {f:Int→Bool}:cN m f=0↔∀ (i:Int),0≤i→i < m→f i=false:=by
 induction m with
 | zero=>exact ⟨fun _ i h0 h1=>by omega,fun _=>rfl⟩
 | succ m ih=>
  rw [cN_succ]
  have hn:=cN_nonneg m f
  constructor
  ·intro h i h0 h1
   by_cases hf:f m=true
   ·rw [if_pos hf] at h;omega
   ·rw [if_neg hf] at h
    by_cases e:i=m
    ·subst e;simpa using hf
    ·exact ih.1 (by omega) i h0 (by omega)
  ·intro h
   rw [ih.2 (fun i h0 h1=>h i h0 (by omega)),h m (by omega) (by omega)]
   simp
theorem cN_pos {m:Nat} {f:Int→Bool} {r:Int} (r0:0≤r) (r1:r < m) (h:f r=true):1≤cN m f:=by
 have hn:=cN_nonneg m f
 by_cases h0:cN m f=0
 ·rw [cN_zero.1 h0 r r0 r1] at h;cases h
 ·omega
theorem countP_less {l:List Int} {f g:Int→Bool} {b:Int} (hn:l.Nodup) (hb:b∈l) (hf:f b=true) (hg:g b=false) (h:∀ i,i≠b→f i=g i):l.countP f=l.countP g + 1:=by
 induction l with
 | nil=>cases hb
 | cons a l ih=>
  rw [List.nodup_cons] at hn
  rw [List.countP_cons,List.countP_cons]
  by_cases e:a=b
  ·subst e
   have h2:l.countP f=l.countP g:=List.countP_congr fun i hi=>by rw [h i (fun e=>hn.1 (e ▸ hi))]
   rw [h2,hf,hg]
   simp
  ·have hb2:b∈l:=by
    rcases List.mem_cons.1 hb with h1 | h1
    ·exact absurd h1.symm e
    ·exact h1
   rw [ih hn.2 hb2,h a e]
   omega
theorem countP_same {l:List Int} {f g:Int→Bool} (h:∀ i∈l,f i=g i):l.countP f=l.countP g:=List.countP_congr fun i hi=>by rw [h i hi]
theorem countP_le_len {l:List Int} {f:Int→Bool}:l.countP f≤l.length:=List.countP_le_length
theorem countP_zero {l:List Int} {f:Int→Bool}:l.countP f=0↔∀ i∈l,f i=false:=by
 rw [List.countP_eq_zero]
 exact ⟨fun h i hi=>by simpa using h i hi,fun h i hi=>by simp [h i hi]⟩
theorem w64_id {x:Int} (h0:-9223372036854775808≤x) (h1:x≤9223372036854775807):En.w64 x=x:=w64 h0 h1
theorem dec_len {l:List Int} {q:Int}:(En.dec l q).length=l.length:=by unfold En.dec;rw [List.length_set]
theorem gi_dec {l:List Int} {n:Nat} {q x:Int} (hl:l.length=n) (q0:0≤q) (q1:q < n) (x0:0≤x) (h0:-9223372036854775807≤gi l q) (h1:gi l q≤9223372036854775807):gi (En.dec l q) x=if x=q then gi l q - 1 else gi l x:=by
 unfold En.dec
 dsimp only [gi] at h0 h1 ⊢
 have:=getD_setAt (v:=En.w64 (l.getD q.toNat 0 - 1)) (d:=(0:Int)) hl q0 q1 x0
 rw [w64_id (by omega) (by omega)] at this
 rw [w64_id (by omega) (by omega)]
 exact this
end Go.Proofs.YtbcdgcodnkgdoaaGreat
namespace Go.Proofs.YtbcdgcodnkgdoaaGreat
open Go Go.RowKit
abbrev bd (s:Es) (r:Int):List Int:=(ruleAt s.t r).2.2
abbrev hd (s:Es) (r:Int):Int:=(ruleAt s.t r).2.1
abbrev isSt (s:Es) (r:Int):Bool:=(ruleAt s.t r).1 == 1
structure Con (n m np:Nat) (s:Es) (pq ps:Int→Int):Prop where
 ok:EsOk n m np s
 np1:np≤262144
 body:∀ (r:Int),0≤r→r < m→(bd s r).Nodup∧(bd s r).length≤16∧∀ b∈bd s r,0≤b∧b < n
 head:∀ (r:Int),0≤r→r < m→0≤hd s r∧hd s r < n
 inn:∀ (q:Int),0≤q→q < n→(rowAt s.inn q).Nodup∧∀ r,r∈rowAt s.inn q↔(0≤r∧r < m)∧q∈bd s r
 of:∀ (r:Int),0≤r→r < m→(rowAt s.of r).Nodup∧∀ p,p∈rowAt s.of r↔(0≤p∧p < np)∧ps p=r
 beats:∀ (t:Int),0≤t→t < m→(rowAt s.beats t).Nodup∧∀ p,p∈rowAt s.beats t→(0≤p∧p < np)∧supD s.t t=true∧pq p=hd s t
 pr:∀ (p:Int),0≤p→p < np→(0≤pq p∧pq p < n)∧(0≤ps p∧ps p < m)
 foes:∀ (q:Int),0≤q→q < n→(rowAt (tFoes s.t) q).Nodup∧(rowAt (tFoes s.t) q).length≤64∧∀ f∈rowAt (tFoes s.t) q,0≤f∧f < n
def upd (dl:Int→Int→Int→Bool) (r b k:Int):Int→Int→Int→Bool:=fun r' b' k'=>dl r' b' k' || (r' == r&&b' == b&&k' == k)
section
variable {dl:Int→Int→Int→Bool} {r b k r' b' k':Int}
theorem upd_at:upd dl r b k r b k=true:=by simp [upd]
theorem upd_k (h:k'≠k):upd dl r b k r' b' k'=dl r' b' k':=by simp [upd,h]
theorem upd_r (h:r'≠r):upd dl r b k r' b' k'=dl r' b' k':=by simp [upd,h]
theorem upd_b (h:b'≠b):upd dl r b k r' b' k'=dl r' b' k':=by simp [upd,h]
end
structure CanD (n m:Nat) (s:Es) (fact:Int→Bool) (dl:Int→Int→Int→Bool) (c:Cr):Prop where
 lnD:c.needD.length=m
 ldD:c.deadD.length=m
 lst:c.strict.length=n
 needD:∀ (r:Int),0≤r→r < m→isSt s r=true→gi c.needD r=((bd s r).countP (fun b=>!dl r b 1):Nat)
 deadD:∀ (r:Int),0≤r→r < m→gb c.deadD r=(isSt s r&&(bd s r).any (fun b=>dl r b 2))
 strict:∀ (q:Int),0≤q→q < n→fact q=false→gi c.strict q=cN m (fun r=>isSt s r&&(hd s r == q)&&!gb c.deadD r)
 strictF:∀ (q:Int),0≤q→q < n→fact q=true→gi c.strict q=-1 - cN m (fun r=>isSt s r&&(hd s r == q)&&gb c.deadD r)
section
variable {n m np:Nat} {s:Es} {pq ps:Int→Int} {fact:Int→Bool} {dl dl':Int→Int→Int→Bool} {c c':Cr} {r q:Int}
theorem CanD.congr (h:CanD n m s fact dl c) (h1:c'.needD=c.needD) (h2:c'.deadD=c.deadD) (h3:c'.strict=c.strict) (hd1:∀ r b,dl' r b 1=dl r b 1) (hd2:∀ r b,dl' r b 2=dl r b 2):CanD n m s fact dl' c':=
 ⟨by rw [h1];exact h.lnD,by rw [h2];exact h.ldD,by rw [h3];exact h.lst,fun r r0 r1 hs=>by rw [h1,h.needD r r0 r1 hs];simp only [hd1],fun r r0 r1=>by rw [h2,h.deadD r r0 r1];simp only [hd2],fun q q0 q1 hf=>by rw [h2,h3];exact h.strict q q0 q1 hf,fun q q0 q1 hf=>by rw [h2,h3];exact h.strictF q q0 q1 hf⟩
theorem CanD.strictR (hm:m≤4096) (h:CanD n m s fact dl c) (q0:0≤q) (q1:q < n):-4097≤gi c.strict q∧gi c.strict q≤4096:=by
 cases hf:fact q with
 | false=>
  rw [h.strict q q0 q1 hf]
  have:=cN_nonneg m (fun r=>isSt s r&&(hd s r == q)&&!gb c.deadD r)
  have:=cN_le m (fun r=>isSt s r&&(hd s r == q)&&!gb c.deadD r)
  omega
 | true=>
  rw [h.strictF q q0 q1 hf]
  have:=cN_nonneg m (fun r=>isSt s r&&(hd s r == q)&&gb c.deadD r)
  have:=cN_le m (fun r=>isSt s r&&(hd s r == q)&&gb c.deadD r)
  omega
theorem CanD.plusD1 (hc:Con n m np s pq ps) (h:CanD n m s fact dl c) (r0:0≤r) (r1:r < m) (hq:q∈bd s r) (hn:dl r q 1=false):CanD n m s fact (upd dl r q 1) (Cr.onPlusD1 s c r):=by
 obtain ⟨hnd,hlen,_⟩:=hc.body r r0 r1
 have hU2:∀ r' b,upd dl r q 1 r' b 2=dl r' b 2:=fun r' b=>upd_k (by decide)
 by_cases hs:isSt s r=true
 ·have e:Cr.onPlusD1 s c r={ c with needD:=En.dec c.needD r }:=by unfold Cr.onPlusD1;rw [if_pos hs]
  rw [e]
  have hv:=h.needD r r0 r1 hs
  have hle:=countP_le_len (l:=bd s r) (f:=fun b=>!dl r b 1)
  refine ⟨by show (En.dec _ _).length=m;rw [dec_len];exact h.lnD,h.ldD,h.lst,fun r' r0' r1' hs'=>?_,fun r' r0' r1'=>?_,h.strict,h.strictF⟩
  ·show gi (En.dec c.needD r) r'=_
   rw [gi_dec h.lnD r0 r1 r0' (by omega) (by omega)]
   by_cases er:r'=r
   ·subst er
    rw [if_pos rfl,hv]
    have:=countP_less (f:=fun b=>!dl r' b 1) (g:=fun b=>!upd dl r' q 1 r' b 1) hnd hq (by simp [hn]) (by simp [upd_at]) (fun i hi=>by rw [upd_b hi])
    omega
   ·rw [if_neg er,h.needD r' r0' r1' hs']
    congr 1
    exact countP_same fun b _=>by rw [upd_r er]
  ·show gb c.deadD r'=_
   rw [h.deadD r' r0' r1']
   simp only [hU2]
 ·have e:Cr.onPlusD1 s c r=c:=by unfold Cr.onPlusD1;rw [if_neg hs]
  rw [e]
  refine ⟨h.lnD,h.ldD,h.lst,fun r' r0' r1' hs'=>?_,fun r' r0' r1'=>?_,h.strict,h.strictF⟩
  ·rw [h.needD r' r0' r1' hs']
   congr 1
   exact countP_same fun b _=>by rw [upd_r (r:=r) (fun (er:r'=r)=>hs (by rw [← er];exact hs'))]
  ·rw [h.deadD r' r0' r1']
   simp only [hU2]
theorem any_upd (hq:q∈bd s r) {k:Int}:(bd s r).any (fun b=>upd dl r q k r b k)=true:=List.any_eq_true.2 ⟨q,hq,upd_at⟩
theorem CanD.noD1 (hc:Con n m np s pq ps) (hm:m≤4096) (h:CanD n m s fact dl c) (r0:0≤r) (r1:r < m) (hq:q∈bd s r):CanD n m s fact (upd dl r q 2) (Cr.onNoD1 s c r):=by
 have hU1:∀ r' b,upd dl r q 2 r' b 1=dl r' b 1:=fun r' b=>upd_k (by decide)
 obtain ⟨h0,h1⟩:=hc.head r r0 r1
 by_cases hs:(isSt s r&&!gb c.deadD r)=true
 ·have e:Cr.onNoD1 s c r={ c with deadD:=c.deadD.set r.toNat true,strict:=En.dec c.strict (hd s r) }:=by unfold Cr.onNoD1;rw [if_pos hs]
  rw [e]
  rw [Bool.and_eq_true,Bool.not_eq_true'] at hs
  obtain ⟨hs1,hs2⟩:=hs
  have hset:∀ (x:Int),0≤x→gb (c.deadD.set r.toNat true) x=if x=r then true else gb c.deadD x:=fun x x0=>getD_setAt h.ldD r0 r1 x0
  have hR:=h.strictR hm h0 h1
  refine ⟨h.lnD,by show (c.deadD.set _ _).length=m;rw [List.length_set];exact h.ldD,by show (En.dec _ _).length=n;rw [dec_len];exact h.lst,fun r' r0' r1' hs'=>?_,fun r' r0' r1'=>?_,fun x x0 x1 hf=>?_,fun x x0 x1 hf=>?_⟩
  ·show gi c.needD r'=_
   rw [h.needD r' r0' r1' hs']
   simp only [hU1]
  ·show gb (c.deadD.set r.toNat true) r'=_
   rw [hset r' r0']
   by_cases er:r'=r
   ·subst er
    rw [if_pos rfl,hs1,any_upd hq]
    rfl
   ·rw [if_neg er,h.deadD r' r0' r1']
    congr 1
    congr 1
    funext b
    rw [upd_r er]
  ·show gi (En.dec c.strict (hd s r)) x=cN m (fun r'=>isSt s r'&&(hd s r' == x)&&!gb (c.deadD.set r.toNat true) r')
   rw [gi_dec h.lst h0 h1 x0 (by omega) (by omega)]
   by_cases ex:x=hd s r
   ·subst ex
    rw [if_pos rfl,h.strict _ h0 h1 hf]
    have:=cN_less (f:=fun r'=>isSt s r'&&(hd s r' == hd s r)&&!gb c.deadD r') (g:=fun r'=>isSt s r'&&(hd s r' == hd s r)&&!gb (c.deadD.set r.toNat true) r') r0 r1 (by simp only [hs1,hs2];simp) (by simp only [hset r r0];simp) (fun i i0 i1 hi=>by simp only [hset i i0,if_neg hi])
    omega
   ·rw [if_neg ex,h.strict x x0 x1 hf]
    refine cN_congr fun i i0 i1=>?_
    by_cases ei:i=r
    ·subst ei
     have:(hd s i == x)=false:=by rw [beq_eq_false_iff_ne];exact fun h=>ex h.symm
     simp [this]
    ·rw [hset i i0,if_neg ei]
  ·show gi (En.dec c.strict (hd s r)) x=-1 - cN m (fun r'=>isSt s r'&&(hd s r' == x)&&gb (c.deadD.set r.toNat true) r')
   rw [gi_dec h.lst h0 h1 x0 (by omega) (by omega)]
   by_cases ex:x=hd s r
   ·subst ex
    rw [if_pos rfl,h.strictF _ h0 h1 hf]
    have:=cN_less (g:=fun r'=>isSt s r'&&(hd s r' == hd s r)&&gb c.deadD r') (f:=fun r'=>isSt s r'&&(hd s r' == hd s r)&&gb (c.deadD.set r.toNat true) r') r0 r1 (by simp only [hset r r0,hs1];simp) (by simp only [hs2];simp) (fun i i0 i1 hi=>by simp only [hset i i0,if_neg hi])
    omega
   ·rw [if_neg ex,h.strictF x x0 x1 hf]
    congr 1
    refine cN_congr fun i i0 i1=>?_
    by_cases ei:i=r
    ·subst ei
     have:(hd s i == x)=false:=by rw [beq_eq_false_iff_ne];exact fun h=>ex h.symm
     simp [this]
    ·rw [hset i i0,if_neg ei]
 ·have e:Cr.onNoD1 s c r=c:=by unfold Cr.onNoD1;rw [if_neg hs]
  rw [e]
  refine ⟨h.lnD,h.ldD,h.lst,fun r' r0' r1' hs'=>?_,fun r' r0' r1'=>?_,h.strict,h.strictF⟩
  ·rw [h.needD r' r0' r1' hs']
   simp only [hU1]
  ·rw [h.deadD r' r0' r1']
   by_cases er:r'=r
   ·subst er
    cases hs1:isSt s r' with
    | false=>rfl
    | true=>
     rw [any_upd hq]
     have hd1:gb c.deadD r'=true:=by
      cases hd2:gb c.deadD r' with
      | true=>rfl
      | false=>exact absurd (by rw [hs1,hd2];rfl) hs
     rw [h.deadD r' r0' r1',hs1] at hd1
     exact hd1
   ·congr 1
    congr 1
    funext b
    rw [upd_r er]
end
end Go.Proofs.YtbcdgcodnkgdoaaGreat
namespace Go.Proofs.YtbcdgcodnkgdoaaGreat
open Go Go.RowKit
namespace Cr
abbrev sett (c:Cr) (p:Int):Bool:=(c.pair p).2.2.1
abbrev left (c:Cr) (p:Int):Int:=(c.pair p).2.2.2
end Cr
structure PrOk (n np:Nat) (pq ps:Int→Int) (c:Cr):Prop where
 lpr:c.pairs.length=np
 lat:c.attacks.length=n
 prq:∀ (p:Int),0≤p→p < np→(c.pair p).1=pq p∧(c.pair p).2.1=ps p
 att:∀ (q:Int),0≤q→q < n→gi c.attacks q=cN np (fun p=>pq p == q&&!c.sett p)
section
variable {n m np:Nat} {s:Es} {pq ps:Int→Int} {c:Cr} {p q x:Int}
theorem PrOk.attR (hnp:np≤262144) (h:PrOk n np pq ps c) (q0:0≤q) (q1:q < n):0≤gi c.attacks q∧gi c.attacks q≤262144:=by
 rw [h.att q q0 q1]
 have:=cN_nonneg np (fun p=>pq p == q&&!c.sett p)
 have:=cN_le np (fun p=>pq p == q&&!c.sett p)
 omega
theorem pair_put {v:Int × Int × Bool × Int} {P:List (Int × Int × Bool × Int)} (hl:P.length=np) (p0:0≤p) (p1:p < np) (x0:0≤x):(P.set p.toNat v).getD x.toNat (0,0,false,0)=if x=p then v else P.getD x.toNat (0,0,false,0):=getD_setAt hl p0 p1 x0
structure SetSt (np:Nat) (L:List Int) (c c':Cr):Prop where
 eq:c'={ c with pairs:=c'.pairs,attacks:=c'.attacks }
 sett:∀ (x:Int),0≤x→x < np→c'.sett x=(c.sett x || L.contains x)
 left:∀ (x:Int),0≤x→x < np→c'.left x=c.left x
theorem settle_ok (hc:Con n m np s pq ps) (h:PrOk n np pq ps c) (p0:0≤p) (p1:p < np):PrOk n np pq ps (c.settle p)∧SetSt np [p] c (c.settle p):=by
 obtain ⟨⟨q0,q1⟩,_⟩:=hc.pr p p0 p1
 obtain ⟨hp1,hp2⟩:=h.prq p p0 p1
 by_cases hb:c.sett p=true
 ·have e:c.settle p=c:=by unfold Cr.settle;rw [if_pos hb]
  rw [e]
  refine ⟨h,rfl,fun x x0 x1=>?_,fun x x0 x1=>rfl⟩
  by_cases ex:x=p
  ·subst ex;rw [hb];rfl
  ·have:[p].contains x=false:=by simp [ex]
   rw [this,Bool.or_false]
 ·have e:c.settle p={ c with pairs:=c.pairs.set p.toNat ((c.pair p).1,(c.pair p).2.1,true,(c.pair p).2.2.2),attacks:=En.dec c.attacks (c.pair p).1 }:=by unfold Cr.settle;rw [if_neg hb]
  have hb2:c.sett p=false:=by simpa using hb
  have hpx:∀ (x:Int),0≤x→(c.settle p).pair x=if x=p then ((c.pair p).1,(c.pair p).2.1,true,(c.pair p).2.2.2) else c.pair x:=fun x x0=>by rw [e];exact pair_put h.lpr p0 p1 x0
  have hs:∀ (x:Int),0≤x→(c.settle p).sett x=if x=p then true else c.sett x:=fun x x0=>by
   show ((c.settle p).pair x).2.2.1=_
   rw [hpx x x0];split <;> rfl
  have hR:=h.attR hc.np1 q0 q1
  refine ⟨⟨by rw [e];simp [h.lpr],by rw [e];show (En.dec _ _).length=n;rw [dec_len];exact h.lat,fun x x0 x1=>?_,fun y y0 y1=>?_⟩,⟨by rw [e],fun x x0 x1=>?_,fun x x0 x1=>?_⟩⟩
  ·rw [hpx x x0]
   split
   ·rename_i ex;subst ex;exact ⟨hp1,hp2⟩
   ·exact h.prq x x0 x1
  ·have ea:(c.settle p).attacks=En.dec c.attacks (pq p):=by rw [e,← hp1]
   rw [ea,gi_dec h.lat q0 q1 y0 (by omega) (by omega)]
   by_cases ey:y=pq p
   ·subst ey
    rw [if_pos rfl,h.att _ q0 q1]
    have:=cN_less (f:=fun x=>pq x == pq p&&!c.sett x) (g:=fun x=>pq x == pq p&&!(c.settle p).sett x) p0 p1 (by simp only [hb2];simp) (by simp only [hs p p0];simp) (fun i i0 i1 hi=>by simp only [hs i i0,if_neg hi])
    omega
   ·rw [if_neg ey,h.att y y0 y1]
    refine cN_congr fun i i0 i1=>?_
    by_cases ei:i=p
    ·subst ei
     have:(pq i == y)=false:=by rw [beq_eq_false_iff_ne];exact fun h=>ey h.symm
     simp [this]
    ·rw [hs i i0,if_neg ei]
  ·rw [hs x x0]
   by_cases ex:x=p
   ·subst ex;simp
   ·have:[p].contains x=false:=by simp [ex]
    rw [if_neg ex,this,Bool.or_false]
  ·show ((c.settle p).pair x).2.2.2=_
   rw [hpx x x0]
   split
   ·rename_i ex;subst ex;rfl
   ·rfl
theorem settles_ok (hc:Con n m np s pq ps):∀ {L:List Int} {c:Cr},PrOk n np pq ps c→(∀ p∈L,0≤p∧p < np)→PrOk n np pq ps (L.foldl Cr.settle c)∧SetSt np L c (L.foldl Cr.settle c)
 | [],c,h,_=>⟨h,rfl,fun x _ _=>by simp,fun x _ _=>rfl⟩
 | p::L,c,h,hL=>by
  obtain ⟨p0,p1⟩:=hL p (List.mem_cons_self ..)
  obtain ⟨h1,k1⟩:=settle_ok hc h p0 p1
  obtain ⟨h2,k2⟩:=settles_ok hc (L:=L) h1 (fun p hp=>hL p (List.mem_cons_of_mem _ hp))
  rw [List.foldl_cons]
  refine ⟨h2,?_,fun x x0 x1=>?_,fun x x0 x1=>?_⟩
  ·have e1:=k1.eq
   have e2:=k2.eq
   generalize L.foldl Cr.settle (c.settle p)=c2 at *
   rw [e2]
   generalize c.settle p=c1 at *
   rw [e1]
  ·rw [k2.sett x x0 x1,k1.sett x x0 x1,show (p::L).contains x=([p].contains x || L.contains x) by simp [List.contains_cons],Bool.or_assoc]
  ·rw [k2.left x x0 x1,k1.left x x0 x1]
def standB (c:Cr) (pq ps:Int→Int) (L:List Int) (q:Int):Bool:=L.any fun p=>pq p == q&&(gi c.need (ps p) == 0)&&(c.left p == 0)
theorem stand_ok (hc:Con n m np s pq ps) (hl:c.standing.length=n) (h:PrOk n np pq ps c) (p0:0≤p) (p1:p < np):(c.stand p)={ c with standing:=(c.stand p).standing }∧(c.stand p).standing.length=n∧∀ (q:Int),0≤q→q < n→gb (c.stand p).standing q=(gb c.standing q || standB c pq ps [p] q):=by
 obtain ⟨⟨q0,q1⟩,_⟩:=hc.pr p p0 p1
 obtain ⟨hp1,hp2⟩:=h.prq p p0 p1
 have hB:∀ q,standB c pq ps [p] q=(pq p == q&&(gi c.need (ps p) == 0)&&(c.left p == 0)):=fun q=>by unfold standB;simp
 by_cases hb:((c.need.getD (c.pair p).2.1.toNat 0 == 0)&&((c.pair p).2.2.2 == 0)&&!c.standing.getD (c.pair p).1.toNat false)=true
 ·have e:c.stand p={ c with standing:=c.standing.set (pq p).toNat true }:=by unfold Cr.stand;rw [if_pos hb,hp1]
  rw [e]
  rw [hp1,hp2] at hb
  rw [Bool.and_eq_true,Bool.and_eq_true] at hb
  refine ⟨rfl,by simp [hl],fun q g0 g1=>?_⟩
  show gb (c.standing.set (pq p).toNat true) q=_
  rw [show gb (c.standing.set (pq p).toNat true) q=if q=pq p then true else gb c.standing q from getD_setAt hl q0 q1 g0,hB]
  split
  ·rename_i eq
   subst eq
   rw [show (gi c.need (ps p) == 0)=true from hb.1.1,show (c.left p == 0)=true from hb.1.2]
   simp
  ·rename_i eq
   have:(pq p == q)=false:=by rw [beq_eq_false_iff_ne];exact fun h=>eq h.symm
   rw [this];simp
 ·have e:c.stand p=c:=by unfold Cr.stand;rw [if_neg hb]
  rw [e]
  refine ⟨rfl,hl,fun q g0 g1=>?_⟩
  rw [hB]
  rw [hp1,hp2] at hb
  by_cases eq:pq p=q
  ·subst eq
   cases h3:gb c.standing (pq p) with
   | true=>rfl
   | false=>
    rw [show (c.standing.getD (pq p).toNat false)=false from h3] at hb
    simp only [Bool.not_false,Bool.and_true,Bool.not_eq_true] at hb
    rw [Bool.false_or,Bool.and_assoc]
    show false=(_&&((c.need.getD (ps p).toNat 0 == 0)&&((c.pair p).2.2.2 == 0)))
    rw [hb,Bool.and_false]
  ·have:(pq p == q)=false:=by rw [beq_eq_false_iff_ne];exact eq
   rw [this];simp
theorem standB_congr {c c':Cr} {L:List Int} (h1:c'.need=c.need) (h2:c'.pairs=c.pairs):standB c' pq ps L q=standB c pq ps L q:=by unfold standB Cr.left Cr.pair;rw [h1,h2]
theorem PrOk.congr {c':Cr} (h:PrOk n np pq ps c) (h1:c'.pairs=c.pairs) (h2:c'.attacks=c.attacks):PrOk n np pq ps c':=by
 obtain ⟨a1,a2,a3,a4⟩:=h
 refine ⟨by rw [h1];exact a1,by rw [h2];exact a2,fun p p0 p1=>?_,fun q q0 q1=>?_⟩
 ·unfold Cr.pair;rw [h1];exact a3 p p0 p1
 ·rw [h2,a4 q q0 q1]
  unfold Cr.sett Cr.pair
  rw [h1]
theorem stands_ok (hc:Con n m np s pq ps):∀ {L:List Int} {c:Cr},c.standing.length=n→PrOk n np pq ps c→(∀ p∈L,0≤p∧p < np)→
 (L.foldl Cr.stand c)={ c with standing:=(L.foldl Cr.stand c).standing }∧(L.foldl Cr.stand c).standing.length=n∧∀ (q:Int),0≤q→q < n→gb (L.foldl Cr.stand c).standing q=(gb c.standing q || standB c pq ps L q)
 | [],c,hl,h,_=>⟨rfl,hl,fun q _ _=>by simp [standB]⟩
 | p::L,c,hl,h,hL=>by
  obtain ⟨p0,p1⟩:=hL p (List.mem_cons_self ..)
  obtain ⟨e1,l1,k1⟩:=stand_ok hc hl h p0 p1
  have h1:PrOk n np pq ps (c.stand p):=h.congr (by rw [e1]) (by rw [e1])
  obtain ⟨e2,l2,k2⟩:=stands_ok hc (L:=L) l1 h1 (fun p hp=>hL p (List.mem_cons_of_mem _ hp))
  rw [List.foldl_cons]
  refine ⟨?_,l2,fun q q0 q1=>?_⟩
  ·generalize L.foldl Cr.stand (c.stand p)=c2 at *
   rw [e2]
   generalize c.stand p=c1 at *
   rw [e1]
  ·rw [k2 q q0 q1,k1 q q0 q1,standB_congr (c:=c) (c':=c.stand p) (by rw [e1]) (by rw [e1])]
   have:standB c pq ps (p::L) q=(standB c pq ps [p] q || standB c pq ps L q):=by unfold standB;simp
   rw [this,Bool.or_assoc]
end
end Go.Proofs.YtbcdgcodnkgdoaaGreat
namespace Go.Proofs.YtbcdgcodnkgdoaaGreat
open Go Go.RowKit
section
variable {n m np:Nat} {s:Es} {pq ps:Int→Int} {c:Cr} {p q x:Int}
structure MinSt (n np:Nat) (pq ps:Int→Int) (L:List Int) (c c':Cr):Prop where
 eq:c'={ c with pairs:=c'.pairs,standing:=c'.standing }
 ls:c'.standing.length=n
 sett:∀ (x:Int),0≤x→x < np→c'.sett x=c.sett x
 left:∀ (x:Int),0≤x→x < np→c'.left x=if x∈L then c.left x - 1 else c.left x
 stand:∀ (q:Int),0≤q→q < n→gb c'.standing q=(gb c.standing q || standB c' pq ps L q)
theorem minus2_ok (hc:Con n m np s pq ps) (hl:c.standing.length=n) (h:PrOk n np pq ps c) (p0:0≤p) (p1:p < np) (hb0:1≤c.left p) (hb1:c.left p≤4096):PrOk n np pq ps (c.onMinus2 p)∧MinSt n np pq ps [p] c (c.onMinus2 p):=by
 obtain ⟨hp1,hp2⟩:=h.prq p p0 p1
 obtain ⟨c1,hc1⟩:∃ c1:Cr,c1={ c with pairs:=c.pairs.set p.toNat ((c.pair p).1,(c.pair p).2.1,(c.pair p).2.2.1,En.w64 ((c.pair p).2.2.2 - 1)) }:=⟨_,rfl⟩
 have e:c.onMinus2 p=c1.stand p:=by rw [hc1];rfl
 have hpx:∀ (x:Int),0≤x→c1.pair x=if x=p then ((c.pair p).1,(c.pair p).2.1,(c.pair p).2.2.1,c.left p - 1) else c.pair x:=fun x x0=>by
  have hw:En.w64 (c.left p - 1)=c.left p - 1:=w64_id (by omega) (by omega)
  have:=pair_put (v:=((c.pair p).1,(c.pair p).2.1,(c.pair p).2.2.1,En.w64 (c.left p - 1))) h.lpr p0 p1 x0
  rw [hc1]
  refine Eq.trans this ?_
  rw [hw];rfl
 have hset:∀ (x:Int),0≤x→c1.sett x=c.sett x:=fun x x0=>by
  show (c1.pair x).2.2.1=_
  rw [hpx x x0];split
  ·rename_i ex;subst ex;rfl
  ·rfl
 have h1:PrOk n np pq ps c1:=by
  refine ⟨by rw [hc1];simp [h.lpr],by rw [hc1];exact h.lat,fun x x0 x1=>?_,fun y y0 y1=>?_⟩
  ·rw [hpx x x0];split
   ·rename_i ex;subst ex;exact ⟨hp1,hp2⟩
   ·exact h.prq x x0 x1
  ·rw [show c1.attacks=c.attacks by rw [hc1],h.att y y0 y1]
   exact cN_congr fun i i0 i1=>by simp only [hset i i0]
 obtain ⟨e2,l2,k2⟩:=stand_ok hc (by rw [hc1];exact hl) h1 p0 p1
 rw [e]
 have hpairs:(c1.stand p).pairs=c1.pairs:=by rw [e2]
 have hneed:(c1.stand p).need=c1.need:=by rw [e2]
 refine ⟨h1.congr hpairs (by rw [e2]),⟨by rw [e2,hc1],l2,fun x x0 x1=>?_,fun x x0 x1=>?_,fun q q0 q1=>?_⟩⟩
 ·rw [show (c1.stand p).sett x=c1.sett x by unfold Cr.sett Cr.pair;rw [hpairs]]
  exact hset x x0
 ·rw [show (c1.stand p).left x=c1.left x by unfold Cr.left Cr.pair;rw [hpairs]]
  show (c1.pair x).2.2.2=_
  rw [hpx x x0]
  by_cases ex:x=p
  ·subst ex;simp
  ·rw [if_neg ex,if_neg (by simp [ex])]
 ·rw [k2 q q0 q1,standB_congr (c:=c1) (c':=c1.stand p) hneed hpairs]
  rw [show c1.standing=c.standing by rw [hc1]]
theorem minus2s_ok (hc:Con n m np s pq ps):∀ {L:List Int} {c:Cr},L.Nodup→c.standing.length=n→PrOk n np pq ps c→(∀ p∈L,(0≤p∧p < np)∧1≤c.left p∧c.left p≤4096)→PrOk n np pq ps (L.foldl Cr.onMinus2 c)∧MinSt n np pq ps L c (L.foldl Cr.onMinus2 c)
 | [],c,_,hl,h,_=>⟨h,rfl,hl,fun x _ _=>rfl,fun x _ _=>by simp,fun q _ _=>by simp [standB]⟩
 | p::L,c,hn,hl,h,hL=>by
  rw [List.nodup_cons] at hn
  obtain ⟨⟨p0,p1⟩,b0,b1⟩:=hL p (List.mem_cons_self ..)
  obtain ⟨h1,k1⟩:=minus2_ok hc hl h p0 p1 b0 b1
  obtain ⟨h2,k2⟩:=minus2s_ok hc (L:=L) hn.2 k1.ls h1 (fun x hx=>by
   obtain ⟨⟨x0,x1⟩,c0,c1⟩:=hL x (List.mem_cons_of_mem _ hx)
   refine ⟨⟨x0,x1⟩,?_⟩
   rw [k1.left x x0 x1,if_neg (by intro hm;rw [List.mem_singleton] at hm;exact hn.1 (hm ▸ hx))]
   exact ⟨c0,c1⟩)
  rw [List.foldl_cons]
  have e1:=k1.eq
  have e2:=k2.eq
  generalize L.foldl Cr.onMinus2 (c.onMinus2 p)=c2 at *
  generalize c.onMinus2 p=c1 at *
  have hleft:∀ (x:Int),0≤x→x < np→c2.left x=if x∈p::L then c.left x - 1 else c.left x:=fun x x0 x1=>by
   rw [k2.left x x0 x1,k1.left x x0 x1]
   by_cases ex:x=p
   ·subst ex
    rw [if_neg hn.1,if_pos (by simp),if_pos (by simp)]
   ·rw [if_neg (c:=x∈[p]) (by simp [ex])]
    by_cases hx:x∈L
    ·rw [if_pos hx,if_pos (by simp [hx])]
    ·rw [if_neg hx,if_neg (by simp [hx,ex])]
  refine ⟨h2,?_,k2.ls,fun x x0 x1=>by rw [k2.sett x x0 x1,k1.sett x x0 x1],hleft,fun q q0 q1=>?_⟩
  ·rw [e2,e1]
  ·rw [k2.stand q q0 q1,k1.stand q q0 q1]
   have hneed:c2.need=c1.need:=by rw [e2]
   have hp:c2.left p=c1.left p:=by rw [k2.left p p0 p1,if_neg hn.1]
   have:standB c2 pq ps (p::L) q=(standB c1 pq ps [p] q || standB c2 pq ps L q):=by
    unfold standB
    rw [List.any_cons,hp,hneed]
    simp
   rw [this,Bool.or_assoc]
end
structure CanS (n m np:Nat) (s:Es) (pq ps:Int→Int) (dl df:Int→Int→Int→Bool) (c:Cr):Prop where
 lnd:c.need.length=m
 ldd:c.dead.length=m
 lbk:c.backs.length=n
 lbd:c.backed.length=n
 lop:c.opn.length=n
 lcl:c.clash.length=n
 lsd:c.standing.length=n
 pr:PrOk n np pq ps c
 need:∀ (r:Int),0≤r→r < m→gi c.need r=((bd s r).countP (fun b=>!dl r b 3):Nat)
 dead:∀ (r:Int),0≤r→r < m→gb c.dead r=(bd s r).any (fun b=>dl r b 4)
 backs:∀ (q:Int),0≤q→q < n→gi c.backs q=cN m (fun r=>supD s.t r&&(hd s r == q)&&!gb c.dead r)
 backed:∀ (q:Int),0≤q→q < n→(gb c.backed q=true↔∃ (r:Int),(0≤r∧r < m)∧supD s.t r=true∧hd s r=q∧gi c.need r=0)
 opn1:∀ (q:Int),0≤q→q < n→((rowAt (tFoes s.t) q).countP (fun f=>!df q f 2):Nat)≤gi c.opn q∧gi c.opn q≤64
 opn2:∀ (q:Int),0≤q→q < n→gi c.opn q=((rowAt (tFoes s.t) q).countP (fun f=>!df q f 2):Nat)∨(gi c.backs q=0∧gb c.backed q=false)
 clash1:∀ (q:Int),0≤q→q < n→gb c.clash q=true→∃ f∈rowAt (tFoes s.t) q,df q f 1=true
 clash2:∀ (q:Int),0≤q→q < n→∀ f∈rowAt (tFoes s.t) q,df q f 1=true→gb c.clash q=true∨gi c.backs q=0
 sett:∀ (p:Int),0≤p→p < np→(c.sett p=true↔gb c.dead (ps p)=true∨∃ (t:Int),(0≤t∧t < m)∧p∈rowAt s.beats t∧gi c.need t=0)
 left:∀ (p:Int),0≤p→p < np→c.left p=cN m (fun t=>decide (p∈rowAt s.beats t)&&!gb c.dead t)
 stand:∀ (q:Int),0≤q→q < n→(gb c.standing q=true↔∃ (p:Int),(0≤p∧p < np)∧pq p=q∧gi c.need (ps p)=0∧c.left p=0)
end Go.Proofs.YtbcdgcodnkgdoaaGreat
