/- Parts of the proof: slices.IndexFunc over numbers; theory.circle. · fast's has, tell, look. · fast's look. · fast's settle, stand, support. · fast's stand, support. · fast's support, lower, kill. · fast's fire, onPlus. · fast's onPlus, onPlusD, onNoD, onLateNoD. · fast's onMinus. · Lists of lists of numbers, of one's own, their types known: one row opened, and put back. · A list of maps of numbers, of one's own: one map taken out, and put back. · fast's lay and pair as plain functions. · fast's lay and pair: what may be. Conditions: none. -/
import Derived.Test.YtbcdgcodnkgdoaaGreatPc3
/- slices.IndexFunc over numbers; theory.circle. Conditions: none. -/
set_option linter.unusedVariables false
set_option linter.unusedSimpArgs false
set_option maxRecDepth 10000
namespace Go.Proofs.YtbcdgcodnkgdoaaGreat
open Go Go.RowKit
def IntsAt (M:Mem) (A:Option Addr) (l:List Int):Prop:=∀ (i:Nat) (x:Int),l[i]?=some x→∃ B O,A=some ⟨B,O,none⟩∧M B (O + i) (.int .i64 x)
theorem IntsAt.mono {M M':Mem} {A:Option Addr} {l:List Int} (h:IntsAt M A l) (hM:Mem.le M M'):IntsAt M' A l:=fun i x hi=>by
 obtain ⟨B,O,h1,h2⟩:=h i x hi
 exact ⟨B,O,h1,hM _ _ _ h2⟩
theorem blk_mem {w:World} {ok:Nat→Prop} {b:Nat} {c:List Value} {t:TypeId} (hb:ok b) (h:w.heap[b]?=some (.cells c.toArray t (0,0))):∀ (j:Nat) (v:Value),c[j]?=some v→mem w ok b j v:=fun j v hj=>
 ⟨⟨hb,unfrozen_of_blk h _⟩,cell_of_blk h hj⟩
theorem flat_intE:∀ (l:List Int),(l.map intE).flatten=l.map intV
 | []=>rfl
 | x::l=>by rw [List.map_cons,List.flatten_cons,flat_intE l];rfl
theorem own_ints {w0 w:World} {S:Nat→Prop} {pre r:List HP} {e:TypeId} {A:Option Addr} {n c:Nat} {l:List Int} (h:St w0 S (pre++ownHP e 1 (.slice A n c) (l.map intE)::r) w):IntsAt (mem w (fun b=>¬ No b)) A l:=fun i x hi=>by
 obtain ⟨F2,hp,_⟩:=h.get
 rcases hp with ⟨_,h2⟩ | ⟨B,c',tl,h1,_,h3,_⟩
 ·rw [List.map_eq_nil_iff] at h2;subst h2;simp at hi
 ·simp only [Value.slice.injEq] at h1
  refine ⟨B,0,h1.1,?_⟩
  rw [Nat.zero_add]
  refine blk_mem (fun k=>k) h3 i _ ?_
  have hlt:=(List.getElem?_eq_some_iff.1 hi).1
  rw [flat_intE,List.getElem?_append_left (by rw [List.length_map];exact hlt),List.getElem?_map,hi]
  rfl
def idxGo (p:Int→Bool):List Int→Int→Int
 | [],_=>-1
 | x::r,i=>if p x=true then i else idxGo p r (i + 1)
def idxF (p:Int→Bool) (l:List Int):Int:=idxGo p l 0
attribute [local irreducible] RW CW
theorem indexFunc_ret {f:FuncId} {caps:List Value} {p:Int→Bool} {A:Option Addr} {c:Nat} {l:List Int} {w:World} (hcall:∀ args w,(callFunc f args).run Tryz.prog w=.ok (.enter f args) w) (hn:l.length≤140737488351232) (hl:IntsAt (mem w (fun b=>¬ No b)) A l)
 (hp:∀ (w2:World) (x:Int),x∈l→Keeps No w w2→Ret Tryz.prog f (.int .i64 x::caps) w2 (.bool (p x))):Ret Tryz.prog 119 [.slice A l.length c,.func (.func f) #[] caps.toArray] w (.int .i64 (idxF p l)):=by
 have hle:Mem.le (mem w (fun b=>¬ No b)) (mem w (fun b=>¬ No b)):=Mem.le_refl _
 refine Calls.enter Tryz.func119 rfl _ rfl rfl (S:=No) (H:=[]) trivial ?_
 refine Ja ?_;refine Jd ?_;refine Jb ?_
 refine CW.seq ?_
 refine Ja ?_;refine Jc ?_;refine Jg ?_;refine Jc ?_;refine Jb ?_
 refine CW.block ?_
 refine CW.loop (ι:={ k:Nat // k≤l.length∧idxF p l=idxGo p (l.drop k) k }) (fun k=>[(0,.slice A l.length c),(1,.func (.func f) #[] caps.toArray),(7,.int .i64 l.length),(8,.int .i64 k.1)]) (fun _=>[]) (fun k=>l.length - k.1) ⟨0,Nat.zero_le _,rfl⟩ ⟨rfl,rfl,rfl,rfl,trivial⟩ (fun h=>h) ?_
 intro ⟨k,hk,hS⟩
 dsimp only at hk hS ⊢
 refine Ja ?_;refine Jk ?_;refine Jb ?_
 refine CW.seq ?_
 refine CW.ite rfl (fun hlt=>?_) (fun hge=>?_)
 rotate_left
 ·have hge':l.length≤k:=by omega
  rw [List.drop_eq_nil_of_le hge'] at hS
  refine CW.exit rfl ?_
  refine PW.code ?_
  refine Ja ?_;refine Jd ?_;refine Jb ?_
  exact CW.ret1 rfl Tryz.results119 rfl rfl fun w hw=>⟨by rw [hS];rfl,hw.kp⟩
 have hlt':k < l.length:=by omega
 rw [List.drop_eq_getElem_cons hlt',idxGo] at hS
 obtain ⟨B,O,hA,hm⟩:=hl k _ (List.getElem?_eq_getElem hlt')
 have hx:=List.getElem_mem hlt'
 generalize l[k]=x at *
 refine CW.skip ?_
 refine PW.code ?_
 refine CW.seq ?_
 refine CW.block ?_
 refine Ja ?_;refine Jc ?_;refine Jd ?_;refine Jb ?_;refine Ja ?_;refine Jc ?_;refine Jc ?_;refine Jc ?_
 refine RW.indexAddrE hA rfl rfl (by omega) hlt rfl ?_
 refine RW.load_ro rfl hle (ints_at hm) rfl rfl ?_
 refine RW.callv hcall rfl rfl (fun w2 hw=>hp w2 x hx hw.kp) rfl ?_
 refine Jb ?_
 refine CW.cond rfl (fun h1=>?_) (fun h1=>?_)
 ·rw [if_pos h1] at hS
  refine Ja ?_;refine Jc ?_;refine Jd ?_;refine Jb ?_
  exact CW.ret1 rfl Tryz.results119 rfl rfl fun w hw=>⟨by rw [hS],hw.kp⟩
 rw [if_neg (by simp [h1])] at hS
 refine CW.skip ?_
 refine PW.code ?_
 refine CW.region ?_
 refine RW.add rfl rfl (w64 (by omega) (by omega)) rfl ?_
 refine Jc ?_
 refine RW.nil ?_
 exact PW.again ⟨k + 1,hlt',hS⟩ ⟨rfl,rfl,rfl,rfl,trivial⟩ (fun h=>h) (by show l.length - (k + 1) < l.length - k;omega)
theorem circle2_ret {b4 n c:Nat} {A:Option Addr} {sz:List Int} {x:Int} {w:World} (hb:mem w (fun b=>¬ No b) b4 0 (.slice A n c)) (hl:IntsAt (mem w (fun b=>¬ No b)) A sz) (hn:sz.length=n) (h0:0≤x) (h1:x < n):Ret Tryz.prog 120 [.int .i64 x,ptrV b4] w (.bool (decide (1 < hdAt sz x))):=by
 have hle:Mem.le (mem w (fun b=>¬ No b)) (mem w (fun b=>¬ No b)):=Mem.le_refl _
 obtain ⟨B,O,hA,hm⟩:=hl x.toNat _ (hd_get hn h0 h1)
 refine Calls.enter Tryz.func120 rfl _ rfl rfl (S:=No) (H:=[]) trivial ?_
 refine Ja ?_;refine Jd ?_;refine Jb ?_;refine Ja ?_
 refine RW.load_ro rfl hle hb rfl rfl ?_
 refine Jc ?_
 refine RW.indexAddrE hA rfl rfl h0 h1 rfl ?_
 refine RW.load_ro (v:=.int .i64 (hdAt sz x)) rfl hle (by rw [Nat.mul_one];exact hm) rfl rfl ?_
 refine Jm ?_;refine Jd ?_;refine Jb ?_
 exact CW.ret1 rfl Tryz.results120 rfl rfl fun w hw=>⟨rfl,hw.kp⟩
end Go.Proofs.YtbcdgcodnkgdoaaGreat
namespace Go.Proofs.YtbcdgcodnkgdoaaGreat
open Go Go.RowKit
theorem own_mem {w0 w:World} {S:Nat→Prop} {pre r:List HP} {e:TypeId} {sz B n c i j:Nat} {es:List (List Value)} {cs:List Value} {v:Value} (h:St w0 S (pre++ownHP e sz (.slice (some ⟨B,0,none⟩) n c) es::r) w) (hi:es[i]?=some cs) (hj:cs[j]?=some v):mem w (fun b=>¬ No b) B (i * sz + j) v:=by
 have h2:=own_at h hi j v hj
 obtain ⟨F,hp,hF⟩:=h.get
 rcases hp with ⟨hp,_⟩ | ⟨B',c',tl,h1,h3,h4,h5⟩
 ·cases hp
 simp only [Value.slice.injEq,Option.some.injEq,Addr.mk.injEq] at h1
 obtain ⟨⟨rfl,_⟩,_,_⟩:=h1
 exact ⟨⟨fun hb=>hb,unfrozen_of_blk h4 _⟩,h2⟩
attribute [local irreducible] RW CW
theorem ehas_ret {be bm n:Nat} {x q k:Int} {w:World} (hb:mem w (fun b=>¬ No b) be 4 (slV bm n)) (hm:mem w (fun b=>¬ No b) bm q.toNat (.int .u8 x)) (q0:0≤q) (q1:q < n) (h1:1≤k) (h2:k≤4):
 Ret Tryz.prog 81 [ptrV be,.int .i64 q,.int .i64 k] w (.bool (En.bit x k)):=by
 have hle:Mem.le (mem w (fun b=>¬ No b)) (mem w (fun b=>¬ No b)):=Mem.le_refl _
 refine Calls.enter Tryz.func81 rfl _ rfl rfl (S:=No) (H:=[]) trivial ?_
 refine Ja ?_;refine Jd ?_;refine Jb ?_;refine Ja ?_;refine Jc ?_;refine Jf ?_;refine Je ?_
 refine RW.load_ro rfl hle hb rfl rfl ?_
 refine Jc ?_
 refine RW.indexAddrE rfl rfl rfl q0 q1 rfl ?_
 refine RW.load_ro (v:=.int .u8 x) rfl hle (by rw [Nat.mul_one,Nat.zero_add];exact hm) rfl rfl ?_
 refine Jc ?_
 refine RW.sub rfl rfl (w64 (by omega) (by omega)) rfl ?_
 refine RW.shr rfl rfl (by omega) rfl rfl ?_
 refine RW.band rfl rfl rfl rfl ?_
 refine Ji ?_;refine Jd ?_;refine Jb ?_
 exact CW.ret1 rfl Tryz.results81 rfl rfl fun w hw=>⟨rfl,hw.kp⟩
section
variable {be n m np:Nat} {a:EAd} {z:ECs} {e:En} {q k:Int} {X:List HP}
theorem en_has {w0 w:World} {S:Nat→Prop} {sv:Value} (hw:St w0 S (enH be a z n m sv e++X) w) (hk:EnOk n m np e) (q0:0≤q) (q1:q < n) (h1:1≤k) (h2:k≤4):Ret Tryz.prog 81 [ptrV be,.int .i64 q,.int .i64 k] w (.bool (e.has q k)):=by
 refine ehas_ret (bm:=a.m) (blk_mem (fun h=>h) (St.blk (pre:=[]) hw) 4 _ rfl) ?_ q0 q1 h1 h2
 have h3:(e.marks.map markE)[q.toNat]?=some (markE (e.marks.getD q.toNat 0)):=by rw [List.getElem?_map,getD_some (d:=0) hk.marks q0 q1];rfl
 have:=own_mem (pre:=[_]) hw h3 (j:=0) rfl
 simpa using this
theorem tell_ret (hn:n≤4096) (hk:EnOk n m np e) (q0:0≤q) (q1:q < n) (k0:1≤k) (k1:k≤4) {sv:Value} (w:World) (F:Nat→Prop) (hH:Sep (enH be a z n m sv e) w F):
 RetC Tryz.prog 80 [ptrV be,.int .i64 q,.int .i64 k] w F (fun _:Value=>.tuple #[]) (fun sv2=>enH be a z n m sv2 (e.tell q k)):=by
 refine Calls.enter Tryz.func80 rfl _ rfl rfl (S:=F) (H:=enH be a z n m sv e++[]) hH ?_
 refine CW.seq ?_
 refine Ja ?_;refine Jc ?_;refine Jc ?_;refine Jc ?_
 refine RW.call Tryz.call81 rfl (fun w hw=>en_has hw hk q0 q1 k0 k1) rfl ?_
 refine Jb ?_
 refine CW.cond rfl (fun hb=>?_) (fun hb=>?_)
 ·have he:e.tell q k=e:=by unfold En.tell;rw [if_pos hb]
  rw [he]
  exact CW.rets (rs:=[]) (vs:=[]) rfl Tryz.results80 rfl ResOK.nil fun w hw=>⟨sv,rfl,hw⟩
 have he:e.tell q k={ e with marks:=e.marks.set q.toNat (bitsOr .u8 (e.marks.getD q.toNat 0) (shlI .u8 1 (k - 1))),told:=e.told++[(q,k)],qd:=En.w64 (e.qd + 1),up:=En.w64 (e.up + 2) }:=by unfold En.tell;rw [if_neg (by simp [hb])]
 rw [he]
 have hmost:=hk.most
 refine CW.skip ?_
 refine PW.code ?_
 refine CW.seqA (by kernel_rfl) rfl ?_
 refine AW.val rfl (fun _ _=>by refine Jc ?_;exact RW.done rfl) ?_;refine AW.val rfl (fun _ _=>by refine Jf ?_;exact RW.done rfl) ?_;refine AW.val rfl (fun _ _=>by refine Je ?_;exact RW.done rfl) ?_;refine AW.val rfl (fun _ _=>by refine EL.hdr rfl rfl rfl rfl ?_;exact RW.done rfl) ?_;refine AW.val rfl (fun _ _=>by refine Jc ?_;exact RW.done rfl) ?_;refine AW.val rfl (fun _ _=>by refine EL.idx rfl rfl (by assumption) (by assumption) rfl ?_;exact RW.done rfl) ?_;refine AW.val rfl (fun _ _=>by refine EL.marks (by assumption) rfl (by assumption) (by assumption) rfl ?_;exact RW.done rfl) ?_;refine AW.val rfl (fun _ _=>by refine Jc ?_;exact RW.done rfl) ?_
 (apply AW.val rfl;· intro Gx X;(first | refine RW.yes rfl ?_ | skip);refine RW.sub rfl rfl (w64 (by omega) (by omega)) rfl ?_;exact RW.done rfl)
 (apply AW.val rfl;· intro Gx X;(first | refine RW.yes rfl ?_ | skip);refine RW.shl rfl rfl (by omega) rfl rfl ?_;exact RW.done rfl)
 (apply AW.val rfl;· intro Gx X;(first | refine RW.yes rfl ?_ | skip);refine RW.bor rfl rfl rfl rfl ?_;exact RW.done rfl)
 refine AW.val rfl (fun _ _=>by refine EL.idx rfl rfl (by assumption) (by assumption) rfl ?_;exact RW.done rfl) ?_
 refine AW.stop (by kernel_rfl) (by kernel_rfl) fun bs=>?_
 refine ES.marks (X:=[]) hk rfl rfl q0 q1 ?_
 refine RW.nil (PW.code ?_)
 refine Ja ?_;refine Jc ?_;refine Jc ?_;refine Jf ?_;refine Je ?_;refine EL.hdr rfl rfl rfl rfl ?_;refine Jc ?_;refine Jc ?_
 refine RW.build (v:=.agg #[.int .i64 q,.int .i64 k]) rfl (fun w=>by kernel_rfl) rfl ?_
 refine RW.buildSlice (e:=111) (c:=toldE (q,k)) rfl (fun w=>by kernel_rfl) rfl fun b _=>?_
 refine RW.append [_,_,_] (e:=111) (sz:=2) (news:=[toldE (q,k)]) (zc:=[.int .i64 0,.int .i64 0]) rfl rfl rfl rfl rfl (by simp) (by simp [Value.oneCell']) (fun w hw hn=>?_) ?_ ?_ rfl fun u1=>?_
 ·exact ⟨b,0,rfl,CellsAt.of_blk (St.blk (pre:=[]) hw)⟩
 ·rw [List.length_map];show (e.told.length + 1) * 16≤_;omega
 ·rw [List.length_map];show e.told.length + 1≤_;unfold maxN;omega
 rw [show e.told.map toldE++[toldE (q,k)]=(e.told++[(q,k)]).map toldE by rw [List.map_append];rfl]
 refine RW.have_ (φ:=∃ A nn c,u1=.slice A nn c) (fun w hw=>by obtain ⟨A,c,h,_⟩:=own_shapeC (pre:=[_,_,_]) hw;exact ⟨A,_,c,h⟩) (fun ⟨A,nn,c,hu⟩=>?_)
 refine RW.sep (blk be (enC a z n m sv e.qd e.up) 73::enR a z n m u1 { e with marks:=e.marks.set q.toNat (bitsOr .u8 (e.marks.getD q.toNat 0) (shlI .u8 1 (k - 1))),told:=e.told++[(q,k)] }) (fun w A h=>Sep.tail h) ?_
 refine Jf ?_;refine Je ?_
 refine RW.store_blk [] rfl rfl rfl (by rw [hu];rfl) (by rw [hu];rfl) (Nat.lt_of_sub_eq_succ rfl) ?_
 refine RW.sep (enH be a z n m u1 { e with marks:=e.marks.set q.toNat (bitsOr .u8 (e.marks.getD q.toNat 0) (shlI .u8 1 (k - 1))),told:=e.told++[(q,k)] }) (fun w A h=>h) ?_
 refine Jb ?_;refine Ja ?_;refine Jc ?_;refine Jf ?_;refine Je ?_;refine Je ?_;refine EL.hdr rfl rfl rfl rfl ?_
 refine RW.add rfl rfl rfl rfl ?_
 refine Jf ?_;refine Je ?_;refine Je ?_
 refine ES.qd (X:=[]) rfl rfl ?_
 refine Jb ?_
 refine CW.region ?_
 refine Jc ?_;refine Jf ?_;refine Je ?_;refine Je ?_;refine EL.hdr rfl rfl rfl rfl ?_
 refine RW.add rfl rfl rfl rfl ?_
 refine Jf ?_;refine Je ?_;refine Je ?_
 refine ES.up (X:=[]) rfl rfl ?_
 refine RW.nil ?_
 exact PW.ret (rs:=[]) (vs:=[]) Tryz.results80 rfl ResOK.nil fun w hw=>⟨u1,rfl,hw⟩
end
end Go.Proofs.YtbcdgcodnkgdoaaGreat
namespace Go.Proofs.YtbcdgcodnkgdoaaGreat
open Go Go.RowKit
attribute [local irreducible] RW CW
section
variable {be n m np:Nat} {a:EAd} {z:ECs} {e:En} {q k:Int} {X:List HP}
set_option maxHeartbeats 8000000 in
theorem look_ret (hn:n≤4096) (hk:EnOk n m np e) (q0:0≤q) (q1:q < n) {sv:Value} (w:World) (F:Nat→Prop) (hH:Sep (enH be a z n m sv e) w F):
 RetC Tryz.prog 52 [ptrV be,.int .i64 q] w F (fun _:Value=>.tuple #[]) (fun sv2=>enH be a z n m sv2 (e.look q)):=by
 refine Calls.enter Tryz.func52 rfl _ rfl rfl (S:=F) (H:=enH be a z n m sv e++[]) hH ?_
 unfold En.look
 refine CW.cut (ι:=Value) (fun _=>[(0,ptrV be),(1,.int .i64 q)]) (fun sv2=>enH be a z n m sv2 (e.look1 q)++[]) ?_ (fun sv2=>?_)
 ·refine Ja ?_;refine Jc ?_;refine Jc ?_
  refine RW.call Tryz.call81 rfl (fun w hw=>en_has (k:=1) hw hk q0 q1 (by omega) (by omega)) rfl ?_
  refine Jc ?_
  refine RW.split 7 rfl (fun h1=>?_) (fun h1=>?_)
  ·refine Jz ?_;refine Jz ?_;refine Jz ?_;refine Jz ?_;refine Jz ?_;refine Jz ?_;refine Jz ?_;refine Jz ?_;refine Jz ?_;refine Jz ?_;refine Jz ?_;refine Jz ?_;refine Jz ?_;refine Jz ?_;refine Jz ?_;refine Jz ?_;refine Jz ?_;refine Jz ?_;refine Jz ?_;refine Jz ?_;refine Jz ?_;refine Jz ?_;refine Jz ?_;refine Jz ?_;refine Jz ?_;refine Jz ?_;refine Jz ?_;refine Jv ?_;refine Jb ?_
   refine CW.ct rfl ?_
   refine CW.region ?_
   refine Jc ?_;refine Jc ?_
   refine RW.callD (enH be a z n m sv e) Tryz.call80 rfl (fun w F _ hC _=>tell_ret (k:=3) hn hk q0 q1 (by omega) (by omega) w F hC) rfl fun sv2=>?_
   refine RW.nil ?_
   have e2:e.look1 q=e.tell q 3:=by unfold En.look1;rw [if_pos (by rw [h1];rfl)]
   rw [e2]
   exact PW.meet sv2 ⟨rfl,rfl,trivial⟩ (fun h=>h)
  refine Jy ?_;refine Jc ?_;refine Jy ?_;refine Jf ?_;refine Jy ?_;refine Je ?_;refine Jy ?_;refine EL.hdr rfl rfl rfl rfl ?_;refine Jy ?_;refine Jc ?_;refine Jy ?_;refine EL.idx rfl rfl (by assumption) (by assumption) rfl ?_;refine Jy ?_;refine EL.backed (by assumption) rfl (by assumption) (by assumption) rfl ?_;refine Jy ?_;refine Jc ?_
  refine RW.split 15 rfl (fun h2=>?_) (fun h2=>?_)
  rotate_left
  ·refine Jz ?_;refine Jz ?_;refine Jz ?_;refine Jz ?_;refine Jz ?_;refine Jz ?_;refine Jz ?_;refine Jz ?_;refine Jy ?_;refine Jw ?_;refine Jy ?_;refine Jc ?_;refine Jz ?_;refine Jz ?_;refine Jz ?_;refine Jz ?_;refine Jz ?_;refine Jz ?_;refine Jz ?_;refine Jz ?_;refine Jy ?_;refine Jw ?_;refine Jw ?_;refine Jb ?_
   refine CW.cf rfl ?_
   refine CW.skip ?_
   have e2:e.look1 q=e:=by unfold En.look1;rw [if_neg (by rw [h1,h2];simp)]
   rw [e2]
   exact PW.meet sv ⟨rfl,rfl,trivial⟩ (fun h=>h)
  refine Jy ?_;refine Jc ?_;refine Jy ?_;refine Jf ?_;refine Jy ?_;refine Je ?_;refine Jy ?_;refine EL.hdr rfl rfl rfl rfl ?_;refine Jy ?_;refine Jc ?_;refine Jy ?_;refine EL.idx rfl rfl (by assumption) (by assumption) rfl ?_;refine Jy ?_;refine EL.opn (by assumption) rfl (by assumption) (by assumption) rfl ?_;refine Jy ?_;refine Ji ?_;refine Jy ?_;refine Jv ?_;refine Jy ?_;refine Jc ?_
  refine RW.splitD 25 rfl (fun h3=>?_) (fun h3=>?_)
  rotate_left
  ·refine Jz ?_;refine Jz ?_;refine Jz ?_;refine Jz ?_;refine Jz ?_;refine Jz ?_;refine Jz ?_;refine Jz ?_;refine Jy ?_;refine Jw ?_;refine Jw ?_;refine Jb ?_
   refine CW.cf rfl ?_
   refine CW.skip ?_
   have e2:e.look1 q=e:=by unfold En.look1;rw [if_neg (by rw [h1,h2,show (e.opn.getD q.toNat 0 == 0)=false from beq_false_of_ne h3];simp)]
   rw [e2]
   exact PW.meet sv ⟨rfl,rfl,trivial⟩ (fun h=>h)
  refine Jy ?_;refine Jc ?_;refine Jy ?_;refine Jf ?_;refine Jy ?_;refine Je ?_;refine Jy ?_;refine EL.hdr rfl rfl rfl rfl ?_;refine Jy ?_;refine Jc ?_;refine Jy ?_;refine EL.idx rfl rfl (by assumption) (by assumption) rfl ?_;refine Jy ?_;refine EL.attacks (by assumption) rfl (by assumption) (by assumption) rfl ?_;refine Jy ?_;refine Ji ?_;refine Jy ?_;refine Jv ?_;refine Jw ?_;refine Jb ?_
  refine CW.ite rfl (fun h4=>?_) (fun h4=>?_)
  rotate_left
  ·refine CW.skip ?_
   have e2:e.look1 q=e:=by unfold En.look1;rw [if_neg (by rw [h1,h2,show (e.opn.getD q.toNat 0 == 0)=true from beq_iff_eq.2 h3,show (e.attacks.getD q.toNat 0 == 0)=false from beq_false_of_ne h4];simp)]
   rw [e2]
   exact PW.meet sv ⟨rfl,rfl,trivial⟩ (fun h=>h)
  refine CW.region ?_
  refine Jc ?_;refine Jc ?_
  refine RW.callD (enH be a z n m sv e) Tryz.call80 rfl (fun w F _ hC _=>tell_ret (k:=3) hn hk q0 q1 (by omega) (by omega) w F hC) rfl fun sv2=>?_
  refine RW.nil ?_
  have e2:e.look1 q=e.tell q 3:=by unfold En.look1;rw [if_pos (by rw [h1,h2,show (e.opn.getD q.toNat 0 == 0)=true from beq_iff_eq.2 h3,show (e.attacks.getD q.toNat 0 == 0)=true from beq_iff_eq.2 h4];rfl)]
  rw [e2]
  exact PW.meet sv2 ⟨rfl,rfl,trivial⟩ (fun h=>h)
 have hk1:=hk.look1 hn q0 q1
 generalize e.look1 q=e1 at *
 clear hk
 refine Ja ?_;refine Jc ?_;refine Jc ?_
 refine RW.call Tryz.call81 rfl (fun w hw=>en_has (k:=2) hw hk1 q0 q1 (by omega) (by omega)) rfl ?_
 refine Jc ?_
 refine RW.split 42 rfl (fun h1=>?_) (fun h1=>?_)
 rotate_left
 ·refine Jz ?_;refine Jz ?_;refine Jz ?_;refine Jz ?_;refine Jz ?_;refine Jz ?_;refine Jz ?_;refine Jz ?_;refine Jz ?_;refine Jz ?_;refine Jz ?_;refine Jz ?_;refine Jz ?_;refine Jz ?_;refine Jz ?_;refine Jz ?_;refine Jz ?_;refine Jz ?_;refine Jz ?_;refine Jz ?_;refine Jz ?_;refine Jz ?_;refine Jz ?_;refine Jz ?_;refine Jz ?_;refine Jz ?_;refine Jw ?_;refine Jb ?_
  refine CW.cf rfl ?_
  refine CW.skip ?_
  have e2:e1.look2 q=e1:=by unfold En.look2;rw [if_neg (by rw [h1];simp)]
  rw [e2]
  exact PW.ret (rs:=[]) (vs:=[]) Tryz.results52 rfl ResOK.nil fun w hw=>⟨sv2,rfl,hw⟩
 refine Jy ?_;refine Jc ?_;refine Jy ?_;refine Jf ?_;refine Jy ?_;refine Je ?_;refine Jy ?_;refine EL.hdr rfl rfl rfl rfl ?_;refine Jy ?_;refine Jc ?_;refine Jy ?_;refine EL.idx rfl rfl (by assumption) (by assumption) rfl ?_;refine Jy ?_;refine EL.backs (by assumption) rfl (by assumption) (by assumption) rfl ?_;refine Jy ?_;refine Ji ?_;refine Jy ?_;refine Jc ?_
 refine RW.splitD 51 rfl (fun h2=>?_) (fun h2=>?_)
 ·refine Jz ?_;refine Jz ?_;refine Jz ?_;refine Jz ?_;refine Jz ?_;refine Jz ?_;refine Jz ?_;refine Jy ?_;refine Jv ?_;refine Jy ?_;refine Jc ?_;refine Jz ?_;refine Jz ?_;refine Jz ?_;refine Jz ?_;refine Jz ?_;refine Jz ?_;refine Jz ?_;refine Jy ?_;refine Jv ?_;refine Jv ?_;refine Jb ?_
  refine CW.ct rfl ?_
  refine CW.region ?_
  refine Jc ?_;refine Jc ?_
  refine RW.callD (enH be a z n m sv2 e1) Tryz.call80 rfl (fun w F _ hC _=>tell_ret (k:=4) hn hk1 q0 q1 (by omega) (by omega) w F hC) rfl fun sv3=>?_
  refine RW.nil ?_
  have e2:e1.look2 q=e1.tell q 4:=by unfold En.look2;rw [if_pos (by rw [h1,show (e1.backs.getD q.toNat 0 == 0)=true from beq_iff_eq.2 h2];simp)]
  rw [e2]
  exact PW.ret (rs:=[]) (vs:=[]) Tryz.results52 rfl ResOK.nil fun w hw=>⟨sv3,rfl,hw⟩
 refine Jy ?_;refine Jc ?_;refine Jy ?_;refine Jf ?_;refine Jy ?_;refine Je ?_;refine Jy ?_;refine EL.hdr rfl rfl rfl rfl ?_;refine Jy ?_;refine Jc ?_;refine Jy ?_;refine EL.idx rfl rfl (by assumption) (by assumption) rfl ?_;refine Jy ?_;refine EL.clash (by assumption) rfl (by assumption) (by assumption) rfl ?_;refine Jy ?_;refine Jw ?_;refine Jy ?_;refine Jc ?_
 refine RW.split 60 rfl (fun h3=>?_) (fun h3=>?_)
 ·refine Jz ?_;refine Jz ?_;refine Jz ?_;refine Jz ?_;refine Jz ?_;refine Jz ?_;refine Jz ?_;refine Jy ?_;refine Jv ?_;refine Jv ?_;refine Jb ?_
  refine CW.ct rfl ?_
  refine CW.region ?_
  refine Jc ?_;refine Jc ?_
  refine RW.callD (enH be a z n m sv2 e1) Tryz.call80 rfl (fun w F _ hC _=>tell_ret (k:=4) hn hk1 q0 q1 (by omega) (by omega) w F hC) rfl fun sv3=>?_
  refine RW.nil ?_
  have e2:e1.look2 q=e1.tell q 4:=by unfold En.look2;rw [if_pos (by rw [h1,show (e1.backs.getD q.toNat 0 == 0)=false from beq_false_of_ne h2,h3];simp)]
  rw [e2]
  exact PW.ret (rs:=[]) (vs:=[]) Tryz.results52 rfl ResOK.nil fun w hw=>⟨sv3,rfl,hw⟩
 refine Jy ?_;refine Jc ?_;refine Jy ?_;refine Jf ?_;refine Jy ?_;refine Je ?_;refine Jy ?_;refine EL.hdr rfl rfl rfl rfl ?_;refine Jy ?_;refine Jc ?_;refine Jy ?_;refine EL.idx rfl rfl (by assumption) (by assumption) rfl ?_;refine Jy ?_;refine EL.standing (by assumption) rfl (by assumption) (by assumption) rfl ?_;refine Jy ?_;refine Jw ?_;refine Jv ?_;refine Jb ?_
 refine CW.cond rfl (fun h4=>?_) (fun h4=>?_)
 ·refine CW.region ?_
  refine Jc ?_;refine Jc ?_
  refine RW.callD (enH be a z n m sv2 e1) Tryz.call80 rfl (fun w F _ hC _=>tell_ret (k:=4) hn hk1 q0 q1 (by omega) (by omega) w F hC) rfl fun sv3=>?_
  refine RW.nil ?_
  have e2:e1.look2 q=e1.tell q 4:=by unfold En.look2;rw [if_pos (by rw [h1,show (e1.backs.getD q.toNat 0 == 0)=false from beq_false_of_ne h2,h3,h4];simp)]
  rw [e2]
  exact PW.ret (rs:=[]) (vs:=[]) Tryz.results52 rfl ResOK.nil fun w hw=>⟨sv3,rfl,hw⟩
 refine CW.skip ?_
 have e2:e1.look2 q=e1:=by unfold En.look2;rw [if_neg (by rw [h1,show (e1.backs.getD q.toNat 0 == 0)=false from beq_false_of_ne h2,h3,h4];simp)]
 rw [e2]
 exact PW.ret (rs:=[]) (vs:=[]) Tryz.results52 rfl ResOK.nil fun w hw=>⟨sv2,rfl,hw⟩
end
end Go.Proofs.YtbcdgcodnkgdoaaGreat
namespace Go.Proofs.YtbcdgcodnkgdoaaGreat
open Go Go.RowKit
section
variable {n m np:Nat} {e:En} {q k p r v:Int}
theorem EnOk.pair (h:EnOk n m np e) (p0:0≤p) (p1:p < np):(0≤(e.pair p).1∧(e.pair p).1 < n)∧(0≤(e.pair p).2.1∧(e.pair p).2.1 < m):=h.pr _ (getD_mem (d:=(0,0,false,0)) h.pairs p0 p1)
theorem EnOk.settle1 (h:EnOk n m np e) (p0:0≤p) (p1:p < np):EnOk n m np { e with pairs:=e.pairs.set p.toNat ((e.pair p).1,(e.pair p).2.1,true,(e.pair p).2.2.2) }:=
 ⟨h.marks,h.needD,h.need,h.deadD,h.dead,h.strict,h.backs,h.backed,h.opn,h.clash,h.attacks,h.standing,by simp [h.pairs],h.mks,fun x hx=>(List.mem_or_eq_of_mem_set hx).elim (h.pr x) (fun hx=>by subst hx;exact h.pair p0 p1),h.td,h.cnt,h.qd⟩
theorem EnOk.left1 (h:EnOk n m np e) (p0:0≤p) (p1:p < np):EnOk n m np { e with pairs:=e.pairs.set p.toNat ((e.pair p).1,(e.pair p).2.1,(e.pair p).2.2.1,v) }:=
 ⟨h.marks,h.needD,h.need,h.deadD,h.dead,h.strict,h.backs,h.backed,h.opn,h.clash,h.attacks,h.standing,by simp [h.pairs],h.mks,fun x hx=>(List.mem_or_eq_of_mem_set hx).elim (h.pr x) (fun hx=>by subst hx;exact h.pair p0 p1),h.td,h.cnt,h.qd⟩
theorem EnOk.needD1 (h:EnOk n m np e) (i:Nat) (u:Int):EnOk n m np { e with needD:=e.needD.set i u }:=⟨h.marks,by simp [h.needD],h.need,h.deadD,h.dead,h.strict,h.backs,h.backed,h.opn,h.clash,h.attacks,h.standing,h.pairs,h.mks,h.pr,h.td,h.cnt,h.qd⟩
theorem EnOk.need1 (h:EnOk n m np e) (i:Nat) (u:Int):EnOk n m np { e with need:=e.need.set i u }:=⟨h.marks,h.needD,by simp [h.need],h.deadD,h.dead,h.strict,h.backs,h.backed,h.opn,h.clash,h.attacks,h.standing,h.pairs,h.mks,h.pr,h.td,h.cnt,h.qd⟩
theorem EnOk.deadD1 (h:EnOk n m np e) (i:Nat) (u:Bool):EnOk n m np { e with deadD:=e.deadD.set i u }:=⟨h.marks,h.needD,h.need,by simp [h.deadD],h.dead,h.strict,h.backs,h.backed,h.opn,h.clash,h.attacks,h.standing,h.pairs,h.mks,h.pr,h.td,h.cnt,h.qd⟩
theorem EnOk.dead1 (h:EnOk n m np e) (i:Nat) (u:Bool):EnOk n m np { e with dead:=e.dead.set i u }:=⟨h.marks,h.needD,h.need,h.deadD,by simp [h.dead],h.strict,h.backs,h.backed,h.opn,h.clash,h.attacks,h.standing,h.pairs,h.mks,h.pr,h.td,h.cnt,h.qd⟩
theorem EnOk.strict1 (h:EnOk n m np e) (i:Nat) (u:Int):EnOk n m np { e with strict:=e.strict.set i u }:=⟨h.marks,h.needD,h.need,h.deadD,h.dead,by simp [h.strict],h.backs,h.backed,h.opn,h.clash,h.attacks,h.standing,h.pairs,h.mks,h.pr,h.td,h.cnt,h.qd⟩
theorem EnOk.backs1 (h:EnOk n m np e) (i:Nat) (u:Int):EnOk n m np { e with backs:=e.backs.set i u }:=⟨h.marks,h.needD,h.need,h.deadD,h.dead,h.strict,by simp [h.backs],h.backed,h.opn,h.clash,h.attacks,h.standing,h.pairs,h.mks,h.pr,h.td,h.cnt,h.qd⟩
theorem EnOk.backed1 (h:EnOk n m np e) (i:Nat) (u:Bool):EnOk n m np { e with backed:=e.backed.set i u }:=⟨h.marks,h.needD,h.need,h.deadD,h.dead,h.strict,h.backs,by simp [h.backed],h.opn,h.clash,h.attacks,h.standing,h.pairs,h.mks,h.pr,h.td,h.cnt,h.qd⟩
theorem EnOk.opn1 (h:EnOk n m np e) (i:Nat) (u:Int):EnOk n m np { e with opn:=e.opn.set i u }:=⟨h.marks,h.needD,h.need,h.deadD,h.dead,h.strict,h.backs,h.backed,by simp [h.opn],h.clash,h.attacks,h.standing,h.pairs,h.mks,h.pr,h.td,h.cnt,h.qd⟩
theorem EnOk.clash1 (h:EnOk n m np e) (i:Nat) (u:Bool):EnOk n m np { e with clash:=e.clash.set i u }:=⟨h.marks,h.needD,h.need,h.deadD,h.dead,h.strict,h.backs,h.backed,h.opn,by simp [h.clash],h.attacks,h.standing,h.pairs,h.mks,h.pr,h.td,h.cnt,h.qd⟩
theorem EnOk.attacks1 (h:EnOk n m np e) (i:Nat) (u:Int):EnOk n m np { e with attacks:=e.attacks.set i u }:=⟨h.marks,h.needD,h.need,h.deadD,h.dead,h.strict,h.backs,h.backed,h.opn,h.clash,by simp [h.attacks],h.standing,h.pairs,h.mks,h.pr,h.td,h.cnt,h.qd⟩
theorem EnOk.standing1 (h:EnOk n m np e) (i:Nat) (u:Bool):EnOk n m np { e with standing:=e.standing.set i u }:=⟨h.marks,h.needD,h.need,h.deadD,h.dead,h.strict,h.backs,h.backed,h.opn,h.clash,h.attacks,by simp [h.standing],h.pairs,h.mks,h.pr,h.td,h.cnt,h.qd⟩
theorem EnOk.settle (hn:n≤4096) (h:EnOk n m np e) (p0:0≤p) (p1:p < np):EnOk n m np (e.settle p):=by
 unfold En.settle
 split
 ·exact h
 ·exact EnOk.look hn (EnOk.ups ((h.settle1 p0 p1).attacks1 _ _)) (h.pair p0 p1).1.1 (h.pair p0 p1).1.2
theorem EnOk.stand (hn:n≤4096) (h:EnOk n m np e) (p0:0≤p) (p1:p < np):EnOk n m np (e.stand p):=by
 unfold En.stand
 split
 ·exact EnOk.look hn (EnOk.ups (h.standing1 _ _)) (h.pair p0 p1).1.1 (h.pair p0 p1).1.2
 ·exact h
end
attribute [local irreducible] RW CW
section
variable {be n m np:Nat} {a:EAd} {z:ECs} {e:En} {q k p:Int} {X:List HP}
set_option maxHeartbeats 8000000 in
theorem settle_ret (hn:n≤4096) (hk:EnOk n m np e) {B:Nat} (hB:z.pA=some ⟨B,0,none⟩) (hz:z.np=np) (p0:0≤p) (p1:p < np) {sv:Value} (w:World) (F:Nat→Prop) (hH:Sep (enH be a z n m sv e) w F):
 RetC Tryz.prog 86 [ptrV be,.int .i64 p] w F (fun _:Value=>.tuple #[]) (fun sv2=>enH be a z n m sv2 (e.settle p)):=by
 refine Calls.enter Tryz.func86 rfl _ rfl rfl (S:=F) (H:=enH be a z n m sv e++[]) hH ?_
 obtain ⟨⟨q0,q1⟩,s0,s1⟩:=hk.pair p0 p1
 refine Ja ?_;refine Jc ?_;refine Jf ?_;refine Je ?_;refine EL.hdr rfl rfl rfl rfl ?_;refine Jc ?_
 refine RW.indexAddrE hB rfl rfl p0 (by rw [hz];exact p1) rfl ?_
 refine Jd ?_;refine Jb ?_
 refine CW.seq ?_
 refine Ja ?_;refine Jc ?_;refine Jf ?_;refine Je ?_
 refine EL.pair (j:=2) hk hB rfl (by omega) p0 p1 rfl rfl rfl ?_
 refine Jb ?_
 refine CW.cond rfl (fun hb=>?_) (fun hb=>?_)
 ·have he:e.settle p=e:=by unfold En.settle;rw [if_pos hb]
  rw [he]
  exact CW.rets (rs:=[]) (vs:=[]) rfl Tryz.results86 rfl ResOK.nil fun w hw=>⟨sv,rfl,hw⟩
 have he:e.settle p=(({ e with pairs:=e.pairs.set p.toNat ((e.pair p).1,(e.pair p).2.1,true,(e.pair p).2.2.2),attacks:=En.dec e.attacks (e.pair p).1 }).ups 2).look (e.pair p).1:=by unfold En.settle;rw [if_neg (by simp [hb])]
 rw [he]
 refine CW.skip ?_
 refine PW.code ?_
 refine Ja ?_;refine Jc ?_;refine Jf ?_;refine Je ?_
 refine ES.settled (X:=[]) hk hB rfl (by omega) rfl p0 p1 ?_
 refine RW.nil (PW.code ?_)
 have hk2:=hk.settle1 p0 p1
 have hp2:({ e with pairs:=e.pairs.set p.toNat ((e.pair p).1,(e.pair p).2.1,true,(e.pair p).2.2.2) }:En).pair p=((e.pair p).1,(e.pair p).2.1,true,(e.pair p).2.2.2):=by
  show (e.pairs.set p.toNat _).getD p.toNat (0,0,false,0)=_
  rw [List.getD_eq_getElem?_getD,List.getElem?_set_self (by rw [hk.pairs];omega)]
  rfl
 have hu1:(pairE (({ e with pairs:=e.pairs.set p.toNat ((e.pair p).1,(e.pair p).2.1,true,(e.pair p).2.2.2) }:En).pair p))[0]?=some (.int .i64 (e.pair p).1):=by rw [hp2];rfl
 refine CW.seqA (by kernel_rfl) rfl ?_
 refine AW.val rfl (fun _ _=>by refine Jc ?_;exact RW.done rfl) ?_;refine AW.val rfl (fun _ _=>by refine Jf ?_;exact RW.done rfl) ?_;refine AW.val rfl (fun _ _=>by refine Je ?_;exact RW.done rfl) ?_;refine AW.val rfl (fun _ _=>by refine EL.hdr rfl rfl rfl rfl ?_;exact RW.done rfl) ?_;refine AW.val rfl (fun _ _=>by refine Jc ?_;exact RW.done rfl) ?_;refine AW.val rfl (fun _ _=>by refine Jf ?_;exact RW.done rfl) ?_;refine AW.val rfl (fun _ _=>by refine Je ?_;exact RW.done rfl) ?_
 (apply AW.val rfl;· intro Gx X;(first | refine RW.yes rfl ?_ | skip);refine EL.pair (j:=0) hk2 hB rfl (by omega) p0 p1 hu1 rfl rfl ?_;exact RW.done rfl)
 refine AW.val rfl (fun _ _=>by refine EL.idx rfl rfl (by assumption) (by assumption) rfl ?_;exact RW.done rfl) ?_;refine AW.val rfl (fun _ _=>by refine EL.attacks (by assumption) rfl (by assumption) (by assumption) rfl ?_;exact RW.done rfl) ?_
 (apply AW.val rfl;· intro Gx X;(first | refine RW.yes rfl ?_ | skip);refine RW.sub rfl rfl rfl rfl ?_;exact RW.done rfl)
 refine AW.val rfl (fun _ _=>by refine EL.idx rfl rfl (by assumption) (by assumption) rfl ?_;exact RW.done rfl) ?_
 refine AW.stop (by kernel_rfl) (by kernel_rfl) fun bs=>?_
 refine ES.attacks (X:=[]) hk2 rfl rfl q0 q1 ?_
 refine RW.nil (PW.code ?_)
 refine Ja ?_;refine Jc ?_;refine Jf ?_;refine Je ?_;refine Je ?_;refine EL.hdr rfl rfl rfl rfl ?_
 refine RW.add rfl rfl rfl rfl ?_
 refine Jf ?_;refine Je ?_;refine Je ?_
 refine ES.up (X:=[]) rfl rfl ?_
 refine Jb ?_
 refine CW.region ?_
 have hk3:=EnOk.ups (v:=2) (hk2.attacks1 (e.pair p).1.toNat (IntKind.i64.wrap (e.attacks.getD (e.pair p).1.toNat 0 - 1)))
 refine Jc ?_;refine Jc ?_;refine Jf ?_;refine Je ?_
 refine EL.pair (j:=0) hk3 hB rfl (by omega) p0 p1 hu1 rfl rfl ?_
 skip
 refine RW.callD (enH be a z n m sv _) Tryz.call52 rfl (fun w F _ hC _=>look_ret hn hk3 q0 q1 w F hC) rfl fun sv3=>?_
 refine RW.nil ?_
 exact PW.ret (rs:=[]) (vs:=[]) Tryz.results86 rfl ResOK.nil fun w hw=>⟨sv3,rfl,hw⟩
end
end Go.Proofs.YtbcdgcodnkgdoaaGreat
namespace Go.Proofs.YtbcdgcodnkgdoaaGreat
open Go Go.RowKit
attribute [local irreducible] RW CW
section
variable {be n m np:Nat} {a:EAd} {z:ECs} {e:En} {q k p r:Int} {X:List HP}
set_option maxHeartbeats 8000000 in
theorem stand_ret (hn:n≤4096) (hk:EnOk n m np e) {B:Nat} (hB:z.pA=some ⟨B,0,none⟩) (hz:z.np=np) (p0:0≤p) (p1:p < np) {sv:Value} (w:World) (F:Nat→Prop) (hH:Sep (enH be a z n m sv e) w F):
 RetC Tryz.prog 87 [ptrV be,.int .i64 p] w F (fun _:Value=>.tuple #[]) (fun sv2=>enH be a z n m sv2 (e.stand p)):=by
 refine Calls.enter Tryz.func87 rfl _ rfl rfl (S:=F) (H:=enH be a z n m sv e++[]) hH ?_
 obtain ⟨⟨q0,q1⟩,s0,s1⟩:=hk.pair p0 p1
 refine Ja ?_;refine Jc ?_;refine Jf ?_;refine Je ?_;refine EL.hdr rfl rfl rfl rfl ?_;refine Jc ?_
 refine RW.indexAddrE hB rfl rfl p0 (by rw [hz];exact p1) rfl ?_
 refine EL.pairW hk hB rfl (by omega) p0 p1 rfl ?_
 generalize hx:e.pair p=x at *
 obtain ⟨xq,xs,xb,xn⟩:=x
 dsimp only at q0 q1 s0 s1
 refine RW.alloc (c:=[.int .i64 0,.int .i64 0,.bool false,.int .i64 0]) rfl rfl fun b4 _=>?_
 refine RW.store_whole [] (vs:=pairE (xq,xs,xb,xn)) rfl rfl rfl rfl rfl (by simp [Value.oneCell']) ?_
 refine RW.sep (enH be a z n m sv e++[blk b4 (pairE (xq,xs,xb,xn)) 148]) (fun w A h=>Sep.perm List.perm_middle.symm (by simpa using h)) ?_
 refine RW.nil (PW.code ?_)
 have done:∀ {G0:List (Nat × Value)} {sv3:Value} {e3:En},e.stand p=e3→PW ⟨Tryz.f87.ntmps,[],w,F⟩ (RetP Tryz.prog Tryz.f87 (fun e' w'=>∃ x,e'=.returned (.tuple #[])∧St w F (enH be a z n m x (e.stand p)) w')) G0 (enH be a z n m sv3 e3++[blk b4 (pairE (xq,xs,xb,xn)) 148]):=fun {G0 sv3 e3} h=>by
  rw [h]
  exact PW.ret (rs:=[]) (vs:=[]) Tryz.results87 rfl ResOK.nil fun w hw=>⟨sv3,rfl,hw.sub (List.sublist_append_left _ _)⟩
 by_cases h1:e.need.getD xs.toNat 0=0
 rotate_left
 ·refine CW.seqA (by kernel_rfl) rfl ?_
  refine AW.val rfl (fun _ _=>by refine Jc ?_;exact RW.done rfl) ?_;refine AW.val rfl (fun _ _=>by refine Jf ?_;exact RW.done rfl) ?_;refine AW.val rfl (fun _ _=>by refine Je ?_;exact RW.done rfl) ?_;refine AW.val rfl (fun _ _=>by refine EL.hdr rfl rfl rfl rfl ?_;exact RW.done rfl) ?_;refine AW.val rfl (fun _ _=>by refine Je ?_;exact RW.done rfl) ?_
  (apply AW.val rfl;· intro Gx X;(first | refine RW.yes rfl ?_ | skip);refine EL.ex rfl rfl rfl rfl ?_;exact RW.done rfl)
  refine AW.val rfl (fun _ _=>by refine EL.idx rfl rfl (by assumption) (by assumption) rfl ?_;exact RW.done rfl) ?_;refine AW.val rfl (fun _ _=>by refine EL.need (by assumption) rfl (by assumption) (by assumption) rfl ?_;exact RW.done rfl) ?_;refine AW.val rfl (fun _ _=>by refine Ji ?_;exact RW.done rfl) ?_;refine AW.val rfl (fun _ _=>by refine Jc ?_;exact RW.done rfl) ?_
  rw [decide_eq_false h1]
  refine AW.val rfl (fun _ _=>by refine Jz ?_;exact RW.done rfl) ?_;refine AW.val rfl (fun _ _=>by refine Jz ?_;exact RW.done rfl) ?_;refine AW.val rfl (fun _ _=>by refine Jz ?_;exact RW.done rfl) ?_;refine AW.val rfl (fun _ _=>by refine Jw ?_;exact RW.done rfl) ?_;refine AW.val rfl (fun _ _=>by refine Jc ?_;exact RW.done rfl) ?_;refine AW.val rfl (fun _ _=>by refine Jz ?_;exact RW.done rfl) ?_;refine AW.val rfl (fun _ _=>by refine Jz ?_;exact RW.done rfl) ?_;refine AW.val rfl (fun _ _=>by refine Jz ?_;exact RW.done rfl) ?_;refine AW.val rfl (fun _ _=>by refine Jz ?_;exact RW.done rfl) ?_;refine AW.val rfl (fun _ _=>by refine Jz ?_;exact RW.done rfl) ?_;refine AW.val rfl (fun _ _=>by refine Jz ?_;exact RW.done rfl) ?_;refine AW.val rfl (fun _ _=>by refine Jz ?_;exact RW.done rfl) ?_;refine AW.val rfl (fun _ _=>by refine Jz ?_;exact RW.done rfl) ?_;refine AW.val rfl (fun _ _=>by refine Jz ?_;exact RW.done rfl) ?_;refine AW.val rfl (fun _ _=>by refine Jw ?_;exact RW.done rfl) ?_
  refine AW.stop (by kernel_rfl) (by kernel_rfl) fun bs=>?_
  refine RW.nil (PW.code ?_)
  refine CW.cf rfl ?_
  refine CW.skip ?_
  refine done ?_
  unfold En.stand
  rw [hx,if_neg (by simp only [beq_false_of_ne h1];simp)]
 by_cases h2:xn=0
 rotate_left
 ·refine CW.seqA (by kernel_rfl) rfl ?_
  refine AW.val rfl (fun _ _=>by refine Jc ?_;exact RW.done rfl) ?_;refine AW.val rfl (fun _ _=>by refine Jf ?_;exact RW.done rfl) ?_;refine AW.val rfl (fun _ _=>by refine Je ?_;exact RW.done rfl) ?_;refine AW.val rfl (fun _ _=>by refine EL.hdr rfl rfl rfl rfl ?_;exact RW.done rfl) ?_;refine AW.val rfl (fun _ _=>by refine Je ?_;exact RW.done rfl) ?_
  (apply AW.val rfl;· intro Gx X;(first | refine RW.yes rfl ?_ | skip);refine EL.ex rfl rfl rfl rfl ?_;exact RW.done rfl)
  refine AW.val rfl (fun _ _=>by refine EL.idx rfl rfl (by assumption) (by assumption) rfl ?_;exact RW.done rfl) ?_;refine AW.val rfl (fun _ _=>by refine EL.need (by assumption) rfl (by assumption) (by assumption) rfl ?_;exact RW.done rfl) ?_;refine AW.val rfl (fun _ _=>by refine Ji ?_;exact RW.done rfl) ?_;refine AW.val rfl (fun _ _=>by refine Jc ?_;exact RW.done rfl) ?_
  rw [decide_eq_true h1]
  refine AW.val rfl (fun _ _=>by refine RW.yes rfl ?_;refine Je ?_;exact RW.done rfl) ?_
  (apply AW.val rfl;· intro Gx X;(first | refine RW.yes rfl ?_ | skip);refine EL.ex rfl rfl rfl rfl ?_;exact RW.done rfl)
  refine AW.val rfl (fun _ _=>by refine RW.yes rfl ?_;refine Ji ?_;exact RW.done rfl) ?_;refine AW.val rfl (fun _ _=>by refine Jv ?_;exact RW.done rfl) ?_;refine AW.val rfl (fun _ _=>by refine Jc ?_;exact RW.done rfl) ?_
  rw [decide_eq_false h2]
  refine AW.val rfl (fun _ _=>by refine Jz ?_;exact RW.done rfl) ?_;refine AW.val rfl (fun _ _=>by refine Jz ?_;exact RW.done rfl) ?_;refine AW.val rfl (fun _ _=>by refine Jz ?_;exact RW.done rfl) ?_;refine AW.val rfl (fun _ _=>by refine Jz ?_;exact RW.done rfl) ?_;refine AW.val rfl (fun _ _=>by refine Jz ?_;exact RW.done rfl) ?_;refine AW.val rfl (fun _ _=>by refine Jz ?_;exact RW.done rfl) ?_;refine AW.val rfl (fun _ _=>by refine Jz ?_;exact RW.done rfl) ?_;refine AW.val rfl (fun _ _=>by refine Jz ?_;exact RW.done rfl) ?_;refine AW.val rfl (fun _ _=>by refine Jz ?_;exact RW.done rfl) ?_;refine AW.val rfl (fun _ _=>by refine Jw ?_;exact RW.done rfl) ?_
  refine AW.stop (by kernel_rfl) (by kernel_rfl) fun bs=>?_
  refine RW.nil (PW.code ?_)
  refine CW.cf rfl ?_
  refine CW.skip ?_
  refine done ?_
  unfold En.stand
  rw [hx,if_neg (by simp only [beq_false_of_ne h2];simp)]
 refine CW.seqA (by kernel_rfl) rfl ?_
 refine AW.val rfl (fun _ _=>by refine Jc ?_;exact RW.done rfl) ?_;refine AW.val rfl (fun _ _=>by refine Jf ?_;exact RW.done rfl) ?_;refine AW.val rfl (fun _ _=>by refine Je ?_;exact RW.done rfl) ?_;refine AW.val rfl (fun _ _=>by refine EL.hdr rfl rfl rfl rfl ?_;exact RW.done rfl) ?_;refine AW.val rfl (fun _ _=>by refine Je ?_;exact RW.done rfl) ?_
 (apply AW.val rfl;· intro Gx X;(first | refine RW.yes rfl ?_ | skip);refine EL.ex rfl rfl rfl rfl ?_;exact RW.done rfl)
 refine AW.val rfl (fun _ _=>by refine EL.idx rfl rfl (by assumption) (by assumption) rfl ?_;exact RW.done rfl) ?_;refine AW.val rfl (fun _ _=>by refine EL.need (by assumption) rfl (by assumption) (by assumption) rfl ?_;exact RW.done rfl) ?_;refine AW.val rfl (fun _ _=>by refine Ji ?_;exact RW.done rfl) ?_;refine AW.val rfl (fun _ _=>by refine Jc ?_;exact RW.done rfl) ?_
 rw [decide_eq_true h1]
 refine AW.val rfl (fun _ _=>by refine RW.yes rfl ?_;refine Je ?_;exact RW.done rfl) ?_
 (apply AW.val rfl;· intro Gx X;(first | refine RW.yes rfl ?_ | skip);refine EL.ex rfl rfl rfl rfl ?_;exact RW.done rfl)
 refine AW.val rfl (fun _ _=>by refine RW.yes rfl ?_;refine Ji ?_;exact RW.done rfl) ?_;refine AW.val rfl (fun _ _=>by refine Jv ?_;exact RW.done rfl) ?_;refine AW.val rfl (fun _ _=>by refine Jc ?_;exact RW.done rfl) ?_
 rw [decide_eq_true h2]
 refine AW.val rfl (fun _ _=>by refine RW.yes rfl ?_;refine Jc ?_;exact RW.done rfl) ?_;refine AW.val rfl (fun _ _=>by refine RW.yes rfl ?_;refine Jf ?_;exact RW.done rfl) ?_;refine AW.val rfl (fun _ _=>by refine RW.yes rfl ?_;refine Je ?_;exact RW.done rfl) ?_;refine AW.val rfl (fun _ _=>by refine RW.yes rfl ?_;refine EL.hdr rfl rfl rfl rfl ?_;exact RW.done rfl) ?_;refine AW.val rfl (fun _ _=>by refine RW.yes rfl ?_;refine Je ?_;exact RW.done rfl) ?_
 (apply AW.val rfl;· intro Gx X;(first | refine RW.yes rfl ?_ | skip);refine EL.ex rfl rfl rfl rfl ?_;exact RW.done rfl)
 refine AW.val rfl (fun _ _=>by refine RW.yes rfl ?_;refine EL.idx rfl rfl (by assumption) (by assumption) rfl ?_;exact RW.done rfl) ?_;refine AW.val rfl (fun _ _=>by refine RW.yes rfl ?_;refine EL.standing (by assumption) rfl (by assumption) (by assumption) rfl ?_;exact RW.done rfl) ?_;refine AW.val rfl (fun _ _=>by refine RW.yes rfl ?_;refine Js ?_;exact RW.done rfl) ?_;refine AW.val rfl (fun _ _=>by refine Jv ?_;exact RW.done rfl) ?_
 refine AW.stop (by kernel_rfl) (by kernel_rfl) fun bs=>?_
 refine RW.nil (PW.code ?_)
 refine CW.cond rfl (fun h3=>?_) (fun h3=>?_)
 rotate_left
 ·refine CW.skip ?_
  refine done ?_
  unfold En.stand
  rw [hx,if_neg (by simp only [Bool.not_eq_false'] at h3;rw [h3];simp)]
 rw [Bool.not_eq_true'] at h3
 refine CW.seqA (by kernel_rfl) rfl ?_
 refine AW.val rfl (fun _ _=>by refine Jc ?_;exact RW.done rfl) ?_;refine AW.val rfl (fun _ _=>by refine Jf ?_;exact RW.done rfl) ?_;refine AW.val rfl (fun _ _=>by refine Je ?_;exact RW.done rfl) ?_;refine AW.val rfl (fun _ _=>by refine EL.hdr rfl rfl rfl rfl ?_;exact RW.done rfl) ?_;refine AW.val rfl (fun _ _=>by refine Je ?_;exact RW.done rfl) ?_
 (apply AW.val rfl;· intro Gx X;(first | refine RW.yes rfl ?_ | skip);refine EL.ex rfl rfl rfl rfl ?_;exact RW.done rfl)
 refine AW.val rfl (fun _ _=>by refine EL.idx rfl rfl (by assumption) (by assumption) rfl ?_;exact RW.done rfl) ?_
 refine AW.stop (by kernel_rfl) (by kernel_rfl) fun bs2=>?_
 refine ES.standing (X:=[blk b4 (pairE (xq,xs,xb,xn)) 148]) hk rfl rfl q0 q1 ?_
 refine RW.nil (PW.code ?_)
 refine Ja ?_;refine Jc ?_;refine Jf ?_;refine Je ?_;refine Je ?_;refine EL.hdr rfl rfl rfl rfl ?_
 refine RW.add rfl rfl rfl rfl ?_
 refine Jf ?_;refine Je ?_;refine Je ?_
 refine ES.up (X:=[blk b4 (pairE (xq,xs,xb,xn)) 148]) rfl rfl ?_
 refine Jb ?_
 refine CW.region ?_
 refine Jc ?_;refine Je ?_
 refine EL.ex rfl rfl rfl rfl ?_
 have hk3:=EnOk.ups (v:=1) (hk.standing1 xq.toNat true)
 refine RW.callD (enH be a z n m sv _) Tryz.call52 rfl (fun w F _ hC _=>look_ret hn hk3 q0 q1 w F hC) rfl fun sv3=>?_
 refine RW.nil ?_
 refine done ?_
 unfold En.stand
 rw [hx,if_pos (by rw [h3];simp only [beq_iff_eq.2 h1,beq_iff_eq.2 h2];rfl)]
end
end Go.Proofs.YtbcdgcodnkgdoaaGreat
namespace Go.Proofs.YtbcdgcodnkgdoaaGreat
open Go Go.RowKit
attribute [local irreducible] RW CW
section
variable {be n m np:Nat} {a:EAd} {z:ECs} {e:En} {q k p r:Int} {X:List HP}
theorem support_ret {w0 w:World} {S:Nat→Prop} {sv:Value} (hw:St w0 S (enH be a z n m sv e++X) w) (hz:EsOn (mem w (fun b=>¬ No b)) n m z) (hs:EsOk n m np z.s) (r0:0≤r) (r1:r < m):
 Ret Tryz.prog 79 [ptrV be,.int .i64 r] w (.bool (supD z.s.t r)):=by
 have hle:Mem.le (mem w (fun b=>¬ No b)) (mem w (fun b=>¬ No b)):=Mem.le_refl _
 obtain ⟨B,O,A,c,hA,hm,_,_⟩:=rule_at hz.th r0 (by rw [hs.rules];exact r1)
 have hb:=blk_mem (ok:=fun b=>¬ No b) (fun h=>h) (St.blk (pre:=[]) hw) 2 _ rfl
 have hr:=hs.rules
 refine Calls.enter Tryz.func79 rfl _ rfl rfl (S:=No) (H:=[]) trivial ?_
 refine Ja ?_;refine Jd ?_;refine Jb ?_;refine Ja ?_;refine Jc ?_;refine Jf ?_;refine Je ?_;refine Je ?_
 refine RW.load_ro rfl hle hb rfl rfl ?_
 refine Jc ?_
 refine RW.indexAddrE hA rfl rfl r0 (by rw [hr];exact r1) rfl ?_
 refine Je ?_
 refine RW.load_ro rfl hle (hm 0 _ rfl) rfl rfl ?_
 refine Jj ?_;refine Jd ?_;refine Jb ?_
 refine CW.ret1 rfl Tryz.results79 rfl rfl fun w hw=>⟨congrArg (fun b=>Ending.returned (.bool b)) (by rw [Bool.eq_iff_iff];simp [supD]),hw.kp⟩
set_option maxHeartbeats 8000000 in
theorem lowerD_ret (hk:EnOk n m np e) (hs:EsOk n m np z.s) (r0:0≤r) (r1:r < m) {sv:Value} (w:World) (F:Nat→Prop) (hz:EsOn (mem w (fun b=>¬ F b)) n m z) (hH:Sep (enH be a z n m sv e) w F):
 RetC Tryz.prog 83 [ptrV be,slV a.nd m,.int .i64 r] w F (fun _:Unit=>.bool (decide ((En.lowerD z.s e r).needD.getD r.toNat 0=0))) (fun _=>enH be a z n m sv (En.lowerD z.s e r)):=by
 have hle:Mem.le (mem w (fun b=>¬ F b)) (mem w (fun b=>¬ F b)):=Mem.le_refl _
 obtain ⟨B,O,A,c,hA,hm,hl,_⟩:=rule_at hz.th r0 (by rw [hs.rules];exact r1)
 have hr:=hs.rules
 have hsm:=sl_small hl
 unfold reach at hsm
 refine Calls.enter Tryz.func83 rfl _ rfl rfl (S:=F) (H:=enH be a z n m sv e++[]) hH ?_
 refine Ja ?_;refine Jd ?_;refine Jb ?_;refine Ja ?_;refine Jc ?_;refine Jc ?_;refine EL.idx rfl rfl (by assumption) (by assumption) rfl ?_;refine EL.needD (by assumption) rfl (by assumption) (by assumption) rfl ?_
 refine RW.sub rfl rfl rfl rfl ?_
 refine EL.idx rfl rfl (by assumption) (by assumption) rfl ?_
 refine ES.needD (X:=[]) hk rfl rfl r0 r1 ?_
 refine RW.nil (PW.code ?_)
 have hk2:=hk.needD1 r.toNat (IntKind.i64.wrap (e.needD.getD r.toNat 0 - 1))
 have hk3:EnOk n m np (En.lowerD z.s e r):=by unfold En.lowerD En.upL;split <;> first | exact hk2.ups | exact hk2
 refine CW.cut (ι:=Unit) (fun _=>[(0,ptrV be),(1,slV a.nd m),(2,.int .i64 r)]) (fun _=>enH be a z n m sv (En.lowerD z.s e r)++[]) ?_ (fun _=>?_)
 ·refine Ja ?_;refine Jc ?_;refine Jf ?_;refine Je ?_;refine Je ?_;refine EL.hdr rfl rfl rfl rfl ?_;refine Jc ?_
  refine RW.indexAddrE hA rfl rfl r0 (by rw [hr];exact r1) rfl ?_
  refine Je ?_
  refine RW.load_ro rfl hle (hm 2 _ rfl) rfl rfl ?_
  refine Jg ?_;refine Jm ?_;refine Jb ?_
  refine CW.ite rfl (fun hlong=>?_) (fun hlong=>?_)
  ·have e2:En.lowerD z.s e r=({ e with needD:=En.dec e.needD r }:En).ups 1:=by unfold En.lowerD En.upL En.long;rw [if_pos (decide_eq_true (by omega))]
   refine CW.region ?_
   refine Jc ?_;refine Jf ?_;refine Je ?_;refine Je ?_;refine EL.hdr rfl rfl rfl rfl ?_
   refine RW.add rfl rfl rfl rfl ?_
   refine Jf ?_;refine Je ?_;refine Je ?_
   refine ES.up (X:=[]) rfl rfl ?_
   refine RW.nil ?_
   rw [e2]
   exact PW.meet () ⟨rfl,rfl,rfl,trivial⟩ (fun h=>h)
  ·have e2:En.lowerD z.s e r=({ e with needD:=En.dec e.needD r }:En):=by unfold En.lowerD En.upL En.long;rw [if_neg (by rw [decide_eq_true_iff];omega)]
   refine CW.skip ?_
   rw [e2]
   exact PW.meet () ⟨rfl,rfl,rfl,trivial⟩ (fun h=>h)
 generalize En.lowerD z.s e r=e2 at *
 refine Ja ?_;refine Jc ?_;refine Jc ?_;refine EL.idx rfl rfl (by assumption) (by assumption) rfl ?_;refine EL.needD (by assumption) rfl (by assumption) (by assumption) rfl ?_;refine Ji ?_;refine Jd ?_;refine Jb ?_
 exact CW.ret1 rfl Tryz.results83 rfl rfl fun w hw=>⟨(),rfl,hw⟩
set_option maxHeartbeats 8000000 in
theorem lower_ret (hk:EnOk n m np e) (hs:EsOk n m np z.s) (r0:0≤r) (r1:r < m) {sv:Value} (w:World) (F:Nat→Prop) (hz:EsOn (mem w (fun b=>¬ F b)) n m z) (hH:Sep (enH be a z n m sv e) w F):
 RetC Tryz.prog 83 [ptrV be,slV a.nn m,.int .i64 r] w F (fun _:Unit=>.bool (decide ((En.lower z.s e r).need.getD r.toNat 0=0))) (fun _=>enH be a z n m sv (En.lower z.s e r)):=by
 have hle:Mem.le (mem w (fun b=>¬ F b)) (mem w (fun b=>¬ F b)):=Mem.le_refl _
 obtain ⟨B,O,A,c,hA,hm,hl,_⟩:=rule_at hz.th r0 (by rw [hs.rules];exact r1)
 have hr:=hs.rules
 have hsm:=sl_small hl
 unfold reach at hsm
 refine Calls.enter Tryz.func83 rfl _ rfl rfl (S:=F) (H:=enH be a z n m sv e++[]) hH ?_
 refine Ja ?_;refine Jd ?_;refine Jb ?_;refine Ja ?_;refine Jc ?_;refine Jc ?_;refine EL.idx rfl rfl (by assumption) (by assumption) rfl ?_;refine EL.need (by assumption) rfl (by assumption) (by assumption) rfl ?_
 refine RW.sub rfl rfl rfl rfl ?_
 refine EL.idx rfl rfl (by assumption) (by assumption) rfl ?_
 refine ES.need (X:=[]) hk rfl rfl r0 r1 ?_
 refine RW.nil (PW.code ?_)
 have hk2:=hk.need1 r.toNat (IntKind.i64.wrap (e.need.getD r.toNat 0 - 1))
 have hk3:EnOk n m np (En.lower z.s e r):=by unfold En.lower En.upL;split <;> first | exact hk2.ups | exact hk2
 refine CW.cut (ι:=Unit) (fun _=>[(0,ptrV be),(1,slV a.nn m),(2,.int .i64 r)]) (fun _=>enH be a z n m sv (En.lower z.s e r)++[]) ?_ (fun _=>?_)
 ·refine Ja ?_;refine Jc ?_;refine Jf ?_;refine Je ?_;refine Je ?_;refine EL.hdr rfl rfl rfl rfl ?_;refine Jc ?_
  refine RW.indexAddrE hA rfl rfl r0 (by rw [hr];exact r1) rfl ?_
  refine Je ?_
  refine RW.load_ro rfl hle (hm 2 _ rfl) rfl rfl ?_
  refine Jg ?_;refine Jm ?_;refine Jb ?_
  refine CW.ite rfl (fun hlong=>?_) (fun hlong=>?_)
  ·have e2:En.lower z.s e r=({ e with need:=En.dec e.need r }:En).ups 1:=by unfold En.lower En.upL En.long;rw [if_pos (decide_eq_true (by omega))]
   refine CW.region ?_
   refine Jc ?_;refine Jf ?_;refine Je ?_;refine Je ?_;refine EL.hdr rfl rfl rfl rfl ?_
   refine RW.add rfl rfl rfl rfl ?_
   refine Jf ?_;refine Je ?_;refine Je ?_
   refine ES.up (X:=[]) rfl rfl ?_
   refine RW.nil ?_
   rw [e2]
   exact PW.meet () ⟨rfl,rfl,rfl,trivial⟩ (fun h=>h)
  ·have e2:En.lower z.s e r=({ e with need:=En.dec e.need r }:En):=by unfold En.lower En.upL En.long;rw [if_neg (by rw [decide_eq_true_iff];omega)]
   refine CW.skip ?_
   rw [e2]
   exact PW.meet () ⟨rfl,rfl,rfl,trivial⟩ (fun h=>h)
 generalize En.lower z.s e r=e2 at *
 refine Ja ?_;refine Jc ?_;refine Jc ?_;refine EL.idx rfl rfl (by assumption) (by assumption) rfl ?_;refine EL.need (by assumption) rfl (by assumption) (by assumption) rfl ?_;refine Ji ?_;refine Jd ?_;refine Jb ?_
 exact CW.ret1 rfl Tryz.results83 rfl rfl fun w hw=>⟨(),rfl,hw⟩
def En.killD (s:Es) (e:En) (r:Int):En:=({ e with deadD:=e.deadD.set r.toNat true }:En).upL s r
set_option maxHeartbeats 8000000 in
theorem killD_ret (hk:EnOk n m np e) (hs:EsOk n m np z.s) (r0:0≤r) (r1:r < m) {sv:Value} (w:World) (F:Nat→Prop) (hz:EsOn (mem w (fun b=>¬ F b)) n m z) (hH:Sep (enH be a z n m sv e) w F):
 RetC Tryz.prog 84 [ptrV be,slV a.dd m,.int .i64 r] w F (fun _:Unit=>.bool (!e.deadD.getD r.toNat false)) (fun _=>enH be a z n m sv (if e.deadD.getD r.toNat false then e else En.killD z.s e r)):=by
 have hle:Mem.le (mem w (fun b=>¬ F b)) (mem w (fun b=>¬ F b)):=Mem.le_refl _
 obtain ⟨B,O,A,c,hA,hm,hl,_⟩:=rule_at hz.th r0 (by rw [hs.rules];exact r1)
 have hr:=hs.rules
 have hsm:=sl_small hl
 unfold reach at hsm
 refine Calls.enter Tryz.func84 rfl _ rfl rfl (S:=F) (H:=enH be a z n m sv e++[]) hH ?_
 refine Ja ?_;refine Jd ?_;refine Jb ?_
 refine CW.seq ?_
 refine Ja ?_;refine Jc ?_;refine Jc ?_;refine EL.idx rfl rfl (by assumption) (by assumption) rfl ?_;refine EL.deadD (by assumption) rfl (by assumption) (by assumption) rfl ?_;refine Jb ?_
 refine CW.cond rfl (fun hb=>?_) (fun hb=>?_)
 ·rw [hb,if_pos rfl]
  refine Ja ?_;refine Jd ?_;refine Jb ?_
  exact CW.ret1 rfl Tryz.results84 rfl rfl fun w hw=>⟨(),rfl,hw⟩
 rw [hb,if_neg Bool.false_ne_true]
 refine CW.skip ?_
 refine PW.code ?_
 refine Ja ?_;refine Jc ?_;refine Jc ?_;refine EL.idx rfl rfl (by assumption) (by assumption) rfl ?_
 refine ES.deadD (X:=[]) hk rfl rfl r0 r1 ?_
 refine RW.nil (PW.code ?_)
 have hk2:=hk.deadD1 r.toNat true
 refine CW.cut (ι:=Unit) (fun _=>[(0,ptrV be),(1,slV a.dd m),(2,.int .i64 r)]) (fun _=>enH be a z n m sv (En.killD z.s e r)++[]) ?_ (fun _=>?_)
 ·refine Ja ?_;refine Jc ?_;refine Jf ?_;refine Je ?_;refine Je ?_;refine EL.hdr rfl rfl rfl rfl ?_;refine Jc ?_
  refine RW.indexAddrE hA rfl rfl r0 (by rw [hr];exact r1) rfl ?_
  refine Je ?_
  refine RW.load_ro rfl hle (hm 2 _ rfl) rfl rfl ?_
  refine Jg ?_;refine Jm ?_;refine Jb ?_
  refine CW.ite rfl (fun hlong=>?_) (fun hlong=>?_)
  ·have e2:En.killD z.s e r=({ e with deadD:=e.deadD.set r.toNat true }:En).ups 1:=by unfold En.killD En.upL En.long;rw [if_pos (decide_eq_true (by omega))]
   refine CW.region ?_
   refine Jc ?_;refine Jf ?_;refine Je ?_;refine Je ?_;refine EL.hdr rfl rfl rfl rfl ?_
   refine RW.add rfl rfl rfl rfl ?_
   refine Jf ?_;refine Je ?_;refine Je ?_
   refine ES.up (X:=[]) rfl rfl ?_
   refine RW.nil ?_
   rw [e2]
   exact PW.meet () ⟨rfl,rfl,rfl,trivial⟩ (fun h=>h)
  ·have e2:En.killD z.s e r=({ e with deadD:=e.deadD.set r.toNat true }:En):=by unfold En.killD En.upL En.long;rw [if_neg (by rw [decide_eq_true_iff];omega)]
   refine CW.skip ?_
   rw [e2]
   exact PW.meet () ⟨rfl,rfl,rfl,trivial⟩ (fun h=>h)
 refine Ja ?_;refine Jd ?_;refine Jb ?_
 exact CW.ret1 rfl Tryz.results84 rfl rfl fun w hw=>⟨(),rfl,hw⟩
def En.kill (s:Es) (e:En) (r:Int):En:=({ e with dead:=e.dead.set r.toNat true }:En).upL s r
set_option maxHeartbeats 8000000 in
theorem kill_ret (hk:EnOk n m np e) (hs:EsOk n m np z.s) (r0:0≤r) (r1:r < m) {sv:Value} (w:World) (F:Nat→Prop) (hz:EsOn (mem w (fun b=>¬ F b)) n m z) (hH:Sep (enH be a z n m sv e) w F):
 RetC Tryz.prog 84 [ptrV be,slV a.dx m,.int .i64 r] w F (fun _:Unit=>.bool (!e.dead.getD r.toNat false)) (fun _=>enH be a z n m sv (if e.dead.getD r.toNat false then e else En.kill z.s e r)):=by
 have hle:Mem.le (mem w (fun b=>¬ F b)) (mem w (fun b=>¬ F b)):=Mem.le_refl _
 obtain ⟨B,O,A,c,hA,hm,hl,_⟩:=rule_at hz.th r0 (by rw [hs.rules];exact r1)
 have hr:=hs.rules
 have hsm:=sl_small hl
 unfold reach at hsm
 refine Calls.enter Tryz.func84 rfl _ rfl rfl (S:=F) (H:=enH be a z n m sv e++[]) hH ?_
 refine Ja ?_;refine Jd ?_;refine Jb ?_
 refine CW.seq ?_
 refine Ja ?_;refine Jc ?_;refine Jc ?_;refine EL.idx rfl rfl (by assumption) (by assumption) rfl ?_;refine EL.dead (by assumption) rfl (by assumption) (by assumption) rfl ?_;refine Jb ?_
 refine CW.cond rfl (fun hb=>?_) (fun hb=>?_)
 ·rw [hb,if_pos rfl]
  refine Ja ?_;refine Jd ?_;refine Jb ?_
  exact CW.ret1 rfl Tryz.results84 rfl rfl fun w hw=>⟨(),rfl,hw⟩
 rw [hb,if_neg Bool.false_ne_true]
 refine CW.skip ?_
 refine PW.code ?_
 refine Ja ?_;refine Jc ?_;refine Jc ?_;refine EL.idx rfl rfl (by assumption) (by assumption) rfl ?_
 refine ES.dead (X:=[]) hk rfl rfl r0 r1 ?_
 refine RW.nil (PW.code ?_)
 have hk2:=hk.dead1 r.toNat true
 refine CW.cut (ι:=Unit) (fun _=>[(0,ptrV be),(1,slV a.dx m),(2,.int .i64 r)]) (fun _=>enH be a z n m sv (En.kill z.s e r)++[]) ?_ (fun _=>?_)
 ·refine Ja ?_;refine Jc ?_;refine Jf ?_;refine Je ?_;refine Je ?_;refine EL.hdr rfl rfl rfl rfl ?_;refine Jc ?_
  refine RW.indexAddrE hA rfl rfl r0 (by rw [hr];exact r1) rfl ?_
  refine Je ?_
  refine RW.load_ro rfl hle (hm 2 _ rfl) rfl rfl ?_
  refine Jg ?_;refine Jm ?_;refine Jb ?_
  refine CW.ite rfl (fun hlong=>?_) (fun hlong=>?_)
  ·have e2:En.kill z.s e r=({ e with dead:=e.dead.set r.toNat true }:En).ups 1:=by unfold En.kill En.upL En.long;rw [if_pos (decide_eq_true (by omega))]
   refine CW.region ?_
   refine Jc ?_;refine Jf ?_;refine Je ?_;refine Je ?_;refine EL.hdr rfl rfl rfl rfl ?_
   refine RW.add rfl rfl rfl rfl ?_
   refine Jf ?_;refine Je ?_;refine Je ?_
   refine ES.up (X:=[]) rfl rfl ?_
   refine RW.nil ?_
   rw [e2]
   exact PW.meet () ⟨rfl,rfl,rfl,trivial⟩ (fun h=>h)
  ·have e2:En.kill z.s e r=({ e with dead:=e.dead.set r.toNat true }:En):=by unfold En.kill En.upL En.long;rw [if_neg (by rw [decide_eq_true_iff];omega)]
   refine CW.skip ?_
   rw [e2]
   exact PW.meet () ⟨rfl,rfl,rfl,trivial⟩ (fun h=>h)
 refine Ja ?_;refine Jd ?_;refine Jb ?_
 exact CW.ret1 rfl Tryz.results84 rfl rfl fun w hw=>⟨(),rfl,hw⟩
end
end Go.Proofs.YtbcdgcodnkgdoaaGreat
namespace Go.Proofs.YtbcdgcodnkgdoaaGreat
open Go Go.RowKit
theorem row_get {M:Mem} {A:Option Addr} {n c:Nat} {l:List (List Int)} (h:Rd kLists M [.slice A n c] l) {r:Int} (r0:0≤r) (r1:r < (l.length:Int)):∃ B O A2 c2,A=some ⟨B,O,none⟩∧M B (O + r.toNat * 1) (.slice A2 (rowAt l r).length c2)∧Rd kInts M [.slice A2 (rowAt l r).length c2] (rowAt l r)∧rowAt l r∈l:=by
 obtain ⟨B,O,A2,c2,hA,hm,hl⟩:=lists_get h (getD_some (d:=[]) rfl r0 r1)
 exact ⟨B,O,A2,c2,hA,by rw [Nat.mul_one];exact hm,hl,getD_mem rfl r0 r1⟩
section
variable {n m np:Nat} {e:En} {s:Es} {q k p r v:Int}
theorem EnOk.fold {f:En→Int→En} {N:Nat} (hf:∀ (e:En) (u:Int),EnOk n m np e→0≤u→u < N→EnOk n m np (f e u)):∀ {l:List Int} {e:En},(∀ u∈l,0≤u∧u < N)→EnOk n m np e→EnOk n m np (l.foldl f e)
 | [],e,_,h=>h
 | u::l,e,hl,h=>EnOk.fold (l:=l) hf (fun v hv=>hl v (List.mem_cons_of_mem _ hv)) (hf e u h (hl u (List.mem_cons_self ..)).1 (hl u (List.mem_cons_self ..)).2)
theorem EsOk.headAt (h:EsOk n m np s) (r0:0≤r) (r1:r < m):0≤(ruleAt s.t r).2.1∧(ruleAt s.t r).2.1 < n:=h.head _ (getD_mem (d:=(0,0,[])) h.rules r0 r1)
theorem EsOk.ofAt (h:EsOk n m np s) (r0:0≤r) (r1:r < m):∀ p∈rowAt s.of r,0≤p∧p < np:=h.of2 _ (getD_mem h.of r0 r1)
theorem EsOk.beatsAt (h:EsOk n m np s) (r0:0≤r) (r1:r < m):∀ p∈rowAt s.beats r,0≤p∧p < np:=h.beats2 _ (getD_mem h.beats r0 r1)
theorem EsOk.inAt (h:EsOk n m np s) (r0:0≤q) (r1:q < n):∀ p∈rowAt s.inn q,0≤p∧p < m:=h.inn2 _ (getD_mem h.inn r0 r1)
theorem EsOk.foesAt (h:EsOk n m np s) (r0:0≤q) (r1:q < n):∀ p∈rowAt (tFoes s.t) q,0≤p∧p < n:=h.foes2 _ (getD_mem h.foes r0 r1)
theorem EnOk.fire1 (hs:EsOk n m np s) (h:EnOk n m np e) (r0:0≤r) (r1:r < m):EnOk n m np (En.fire1 s e r):=by
 have hn:=hs.small.1
 unfold En.fire1
 split
 ·refine EnOk.look hn (EnOk.fold (fun e u h u0 u1=>h.settle hn u0 u1) (hs.beatsAt r0 r1) ?_) (hs.headAt r0 r1).1 (hs.headAt r0 r1).2
  split
  ·exact h
  ·exact EnOk.ups (h.backed1 _ _)
 ·exact h
theorem EnOk.fire (hs:EsOk n m np s) (h:EnOk n m np e) (r0:0≤r) (r1:r < m):EnOk n m np (En.fire s e r):=
 EnOk.fold (fun e u h u0 u1=>h.stand hs.small.1 u0 u1) (hs.ofAt r0 r1) (h.fire1 hs r0 r1)
theorem EnOk.upL (h:EnOk n m np e):EnOk n m np (e.upL s r):=by unfold En.upL;split <;> first | exact h.ups | exact h
theorem EnOk.lower (h:EnOk n m np e):EnOk n m np (En.lower s e r):=EnOk.upL (h.need1 _ _)
theorem EnOk.lowerD (h:EnOk n m np e):EnOk n m np (En.lowerD s e r):=EnOk.upL (h.needD1 _ _)
theorem EnOk.kill (h:EnOk n m np e):EnOk n m np (En.kill s e r):=EnOk.upL (h.dead1 _ _)
theorem EnOk.killD (h:EnOk n m np e):EnOk n m np (En.killD s e r):=EnOk.upL (h.deadD1 _ _)
theorem EnOk.onPlus1 (hs:EsOk n m np s) (h:EnOk n m np e) (r0:0≤r) (r1:r < m):EnOk n m np (En.onPlus1 s e r):=by
 unfold En.onPlus1
 dsimp only
 split
 ·exact h.lower.fire hs r0 r1
 ·exact h.lower
end
attribute [local irreducible] RW CW
section
variable {be n m np:Nat} {a:EAd} {z:ECs} {e:En} {q k p r:Int} {X:List HP}
set_option maxHeartbeats 16000000 in
theorem fire_ret (hs:EsOk n m np z.s) (hP:PrAt z) (hzn:z.np=np) (hk:EnOk n m np e) (r0:0≤r) (r1:r < m) {sv:Value} (w:World) (F:Nat→Prop) (hz:EsOn (mem w (fun b=>¬ F b)) n m z) (hH:Sep (enH be a z n m sv e) w F):
 RetC Tryz.prog 85 [ptrV be,.int .i64 r] w F (fun _:Value=>.tuple #[]) (fun sv2=>enH be a z n m sv2 (En.fire z.s e r)):=by
 have hn:=hs.small.1
 have hle:Mem.le (mem w (fun b=>¬ F b)) (mem w (fun b=>¬ F b)):=Mem.le_refl _
 obtain ⟨B,O,A,c,hA,hm,_,_⟩:=rule_at hz.th r0 (by rw [hs.rules];exact r1)
 have hr:=hs.rules
 obtain ⟨q0,q1⟩:=hs.headAt r0 r1
 obtain ⟨bB,bO,ba,bc,bA,bm,bl,bi⟩:=row_get hz.beats r0 (by rw [hs.beats];exact r1)
 have bs:=sl_small bl
 unfold reach at bs
 obtain ⟨fB,fO,fa,fc,fA,fm,fl,fi⟩:=row_get hz.of r0 (by rw [hs.of];exact r1)
 have fs:=sl_small fl
 unfold reach at fs
 refine Calls.enter Tryz.func85 rfl _ rfl rfl (S:=F) (H:=enH be a z n m sv e++[]) hH ?_
 refine Ja ?_;refine Jc ?_;refine Jf ?_;refine Je ?_;refine Je ?_;refine EL.hdr rfl rfl rfl rfl ?_;refine Jc ?_
 refine RW.indexAddrE hA rfl rfl r0 (by rw [hr];exact r1) rfl ?_
 refine Je ?_
 refine RW.load_ro rfl hle (hm 1 _ rfl) rfl rfl ?_
 refine Jd ?_;refine Jb ?_
 have hk1:=hk.fire1 hs r0 r1
 refine CW.cut (ι:=Value) (fun _=>[(0,ptrV be),(1,.int .i64 r)]) (fun sv1=>enH be a z n m sv1 (En.fire1 z.s e r)++[]) ?_ (fun sv1=>?_)
 ·refine Ja ?_;refine Jc ?_;refine Jc ?_
  refine RW.call Tryz.call79 rfl (fun w hw=>support_ret hw (hz.mono (ro_call hw)) hs r0 r1) rfl ?_
  refine Jb ?_
  refine CW.cond rfl (fun hsup=>?_) (fun hsup=>?_)
  rotate_left
  ·have e1:En.fire1 z.s e r=e:=by unfold En.fire1;rw [if_neg (by simp [hsup])]
   rw [e1]
   refine CW.skip ?_
   exact PW.meet sv ⟨rfl,rfl,trivial⟩ (fun h=>h)
  have e1:En.fire1 z.s e r=((rowAt z.s.beats r).foldl En.settle (if e.backed.getD (ruleAt z.s.t r).2.1.toNat false then e else ({ e with backed:=e.backed.set (ruleAt z.s.t r).2.1.toNat true }:En).ups 1)).look (ruleAt z.s.t r).2.1:=by unfold En.fire1;rw [if_pos hsup]
  rw [e1]
  have hkb:EnOk n m np (if e.backed.getD (ruleAt z.s.t r).2.1.toNat false then e else ({ e with backed:=e.backed.set (ruleAt z.s.t r).2.1.toNat true }:En).ups 1):=by split <;> first | exact hk | exact EnOk.ups (hk.backed1 _ _)
  refine CW.cut (ι:=Unit) (fun _=>[(0,ptrV be),(1,.int .i64 r),(4,.int .i64 (ruleAt z.s.t r).2.1)]) (fun _=>enH be a z n m sv (if e.backed.getD (ruleAt z.s.t r).2.1.toNat false then e else ({ e with backed:=e.backed.set (ruleAt z.s.t r).2.1.toNat true }:En).ups 1)++[]) ?_ (fun _=>?_)
  ·refine Ja ?_;refine Jc ?_;refine Jf ?_;refine Je ?_;refine EL.hdr rfl rfl rfl rfl ?_;refine Jc ?_;refine EL.idx rfl rfl (by assumption) (by assumption) rfl ?_;refine EL.backed (by assumption) rfl (by assumption) (by assumption) rfl ?_;refine Js ?_;refine Jb ?_
   refine CW.cond rfl (fun hb=>?_) (fun hb=>?_)
   rotate_left
   ·rw [Bool.not_eq_false'] at hb
    rw [if_pos hb]
    refine CW.skip ?_
    exact PW.meet () ⟨rfl,rfl,rfl,trivial⟩ (fun h=>h)
   rw [Bool.not_eq_true'] at hb
   rw [hb,if_neg Bool.false_ne_true]
   refine Ja ?_;refine Jc ?_;refine Jf ?_;refine Je ?_;refine EL.hdr rfl rfl rfl rfl ?_;refine Jc ?_;refine EL.idx rfl rfl (by assumption) (by assumption) rfl ?_
   refine ES.backed (X:=[]) hk rfl rfl q0 q1 ?_
   refine RW.nil (PW.code ?_)
   refine CW.region ?_
   refine Jc ?_;refine Jf ?_;refine Je ?_;refine Je ?_;refine EL.hdr rfl rfl rfl rfl ?_
   refine RW.add rfl rfl rfl rfl ?_
   refine Jf ?_;refine Je ?_;refine Je ?_
   refine ES.up (X:=[]) rfl rfl ?_
   refine RW.nil ?_
   exact PW.meet () ⟨rfl,rfl,rfl,trivial⟩ (fun h=>h)
  generalize (if e.backed.getD (ruleAt z.s.t r).2.1.toNat false then e else ({ e with backed:=e.backed.set (ruleAt z.s.t r).2.1.toNat true }:En).ups 1)=eb at *
  refine CW.seq ?_
  refine Ja ?_;refine Jc ?_;refine Jf ?_;refine Je ?_;refine EL.hdr rfl rfl rfl rfl ?_;refine Jc ?_
  refine RW.indexAddrE bA rfl rfl r0 (by first | exact r1 | (rw [hs.beats];exact r1)) rfl ?_
  refine RW.load_ro rfl hle bm rfl rfl ?_
  refine Jg ?_;refine Jc ?_;refine Jb ?_
  have hnl:=hs.beatsAt r0 r1
  generalize rowAt z.s.beats r=LB at *
  refine CW.block ?_
  refine CW.loop (ι:={ qq:Nat × En × Value // qq.1≤LB.length∧EnOk n m np qq.2.1∧LB.foldl En.settle eb=(LB.drop qq.1).foldl En.settle qq.2.1 })
   (fun qq=>[(0,ptrV be),(1,.int .i64 r),(4,.int .i64 (ruleAt z.s.t r).2.1),(50,.slice ba LB.length bc),(51,.int .i64 LB.length),(52,.int .i64 qq.1.1)]) (fun qq=>enH be a z n m qq.1.2.2 qq.1.2.1++[]) (fun qq=>LB.length - qq.1.1) ⟨(0,eb,sv),Nat.zero_le _,hkb,rfl⟩ ⟨rfl,rfl,rfl,rfl,rfl,rfl,trivial⟩ (fun h=>h) ?_
  intro ⟨⟨i,e2,sv2⟩,hi,hk2,hS⟩
  dsimp only at hi hk2 hS ⊢
  refine Ja ?_;refine Jk ?_;refine Jb ?_
  refine CW.seq ?_
  refine CW.ite rfl (fun hlt=>?_) (fun hge=>?_)
  ·have hlt1:i < LB.length:=by omega
   rw [List.drop_eq_getElem_cons hlt1,List.foldl_cons] at hS
   obtain ⟨B4,O4,hA4,hm4,_⟩:=ints_get bl (List.getElem?_eq_getElem hlt1)
   obtain ⟨u0,u1⟩:=hnl _ (List.getElem_mem hlt1)
   generalize LB[i]=u at *
   refine CW.skip ?_
   refine PW.code ?_
   refine CW.cut (ι:=Value) (fun _=>[(0,ptrV be),(1,.int .i64 r),(4,.int .i64 (ruleAt z.s.t r).2.1),(50,.slice ba LB.length bc),(51,.int .i64 LB.length),(52,.int .i64 i)]) (fun sv3=>enH be a z n m sv3 (En.settle e2 u)++[]) ?_ (fun sv3=>?_)
   ·refine CW.block ?_
    refine Ja ?_
    refine RW.indexAddrE hA4 rfl rfl (by omega) hlt rfl ?_
    refine RW.load_ro rfl hle (ints_at hm4) rfl rfl ?_
    refine Jd ?_;refine Jb ?_
    refine CW.region ?_
    refine Jc ?_;refine Jc ?_
    obtain ⟨PB,hPB⟩:=hP (by omega)
    refine RW.callD (enH be a z n m sv2 e2) Tryz.call86 rfl (fun w3 F3 _ hC _=>settle_ret hn hk2 hPB hzn u0 u1 w3 F3 hC) rfl fun sv3=>?_
    refine RW.nil ?_
    exact PW.meet sv3 ⟨rfl,rfl,rfl,rfl,rfl,rfl,trivial⟩ (fun h=>h)
   refine CW.region ?_
   refine RW.add rfl rfl (w64 (by omega) (by omega)) rfl ?_
   refine Jc ?_
   refine RW.nil ?_
   exact PW.again ⟨(i + 1,En.settle e2 u,sv3),hlt1,hk2.settle hn u0 u1,hS⟩ ⟨rfl,rfl,rfl,rfl,rfl,rfl,trivial⟩ (fun h=>h) (by show LB.length - (i + 1) < LB.length - i;omega)
  rw [List.drop_eq_nil_of_le (by omega),List.foldl_nil] at hS
  refine CW.exit rfl ?_
  refine PW.code ?_
  rw [hS]
  refine CW.region ?_
  refine Jc ?_;refine Jc ?_
  refine RW.callD (enH be a z n m sv2 e2) Tryz.call52 rfl (fun w3 F3 _ hC _=>look_ret hn hk2 q0 q1 w3 F3 hC) rfl fun sv3=>?_
  refine RW.nil ?_
  exact PW.meet sv3 ⟨rfl,rfl,trivial⟩ (fun h=>h)
 show CW _ _ _ (fin _ _ fun e' w'=>∃ x,e'=.returned (.tuple #[])∧St w F (enH be a z n m x ((rowAt z.s.of r).foldl En.stand (En.fire1 z.s e r))) w') _ _
 generalize En.fire1 z.s e r=ef at *
 clear hk
 refine Ja ?_;refine Jc ?_;refine Jf ?_;refine Je ?_;refine JA ?_;refine Jc ?_
 skip
 refine RW.indexAddrE fA rfl rfl r0 (by first | exact r1 | (rw [hs.of];exact r1)) rfl ?_
 refine RW.load_ro rfl hle fm rfl rfl ?_
 refine Jg ?_;refine Jc ?_;refine Jb ?_
 have hnl:=hs.ofAt r0 r1
 generalize rowAt z.s.of r=LF at *
 refine CW.block ?_
 refine CW.loop (ι:={ qq:Nat × En × Value // qq.1≤LF.length∧EnOk n m np qq.2.1∧LF.foldl En.stand ef=(LF.drop qq.1).foldl En.stand qq.2.1 })
  (fun qq=>[(0,ptrV be),(1,.int .i64 r),(69,.slice fa LF.length fc),(70,.int .i64 LF.length),(71,.int .i64 qq.1.1)]) (fun qq=>enH be a z n m qq.1.2.2 qq.1.2.1++[]) (fun qq=>LF.length - qq.1.1) ⟨(0,ef,sv1),Nat.zero_le _,hk1,rfl⟩ ⟨rfl,rfl,rfl,rfl,rfl,trivial⟩ (fun h=>h) ?_
 intro ⟨⟨i,e2,sv2⟩,hi,hk2,hS⟩
 dsimp only at hi hk2 hS ⊢
 refine Ja ?_;refine Jk ?_;refine Jb ?_
 refine CW.seq ?_
 refine CW.ite rfl (fun hlt=>?_) (fun hge=>?_)
 ·have hlt1:i < LF.length:=by omega
  rw [List.drop_eq_getElem_cons hlt1,List.foldl_cons] at hS
  obtain ⟨B4,O4,hA4,hm4,_⟩:=ints_get fl (List.getElem?_eq_getElem hlt1)
  obtain ⟨u0,u1⟩:=hnl _ (List.getElem_mem hlt1)
  generalize LF[i]=u at *
  refine CW.skip ?_
  refine PW.code ?_
  refine CW.cut (ι:=Value) (fun _=>[(0,ptrV be),(1,.int .i64 r),(69,.slice fa LF.length fc),(70,.int .i64 LF.length),(71,.int .i64 i)]) (fun sv3=>enH be a z n m sv3 (En.stand e2 u)++[]) ?_ (fun sv3=>?_)
  ·refine CW.block ?_
   refine Ja ?_
   refine RW.indexAddrE hA4 rfl rfl (by omega) hlt rfl ?_
   refine RW.load_ro rfl hle (ints_at hm4) rfl rfl ?_
   refine Jd ?_;refine Jb ?_
   refine CW.region ?_
   refine Jc ?_;refine Jc ?_
   obtain ⟨PB,hPB⟩:=hP (by omega)
   refine RW.callD (enH be a z n m sv2 e2) Tryz.call87 rfl (fun w3 F3 _ hC _=>stand_ret hn hk2 hPB hzn u0 u1 w3 F3 hC) rfl fun sv3=>?_
   refine RW.nil ?_
   exact PW.meet sv3 ⟨rfl,rfl,rfl,rfl,rfl,trivial⟩ (fun h=>h)
  refine CW.region ?_
  refine RW.add rfl rfl (w64 (by omega) (by omega)) rfl ?_
  refine Jc ?_
  refine RW.nil ?_
  exact PW.again ⟨(i + 1,En.stand e2 u,sv3),hlt1,hk2.stand hn u0 u1,hS⟩ ⟨rfl,rfl,rfl,rfl,rfl,trivial⟩ (fun h=>h) (by show LF.length - (i + 1) < LF.length - i;omega)
 rw [List.drop_eq_nil_of_le (by omega),List.foldl_nil] at hS
 refine CW.exit rfl ?_
 rw [hS]
 exact PW.ret (rs:=[]) (vs:=[]) Tryz.results85 rfl ResOK.nil fun w hw=>⟨sv2,rfl,hw⟩
end
end Go.Proofs.YtbcdgcodnkgdoaaGreat
namespace Go.Proofs.YtbcdgcodnkgdoaaGreat
open Go Go.RowKit
section
variable {n m np:Nat} {e:En} {s:Es} {q k p r v:Int}
theorem EnOk.onPlusD1 (hs:EsOk n m np s) (h:EnOk n m np e) (r0:0≤r) (r1:r < m):EnOk n m np (En.onPlusD1 s e r):=by
 unfold En.onPlusD1
 split
 ·dsimp only
  split
  ·exact h.lowerD.tell hs.small.1 (hs.headAt r0 r1).1 (hs.headAt r0 r1).2 (by omega) (by omega)
  ·exact h.lowerD
 ·exact h
theorem EnOk.onPlusD2 (hn:n≤4096) (h:EnOk n m np e) (q0:0≤q) (q1:q < n):EnOk n m np (En.onPlusD2 e q):=by
 unfold En.onPlusD2
 split
 ·exact EnOk.look hn (EnOk.ups (h.clash1 _ _)) q0 q1
 ·exact h
theorem EnOk.onPlusD (hs:EsOk n m np s) (h:EnOk n m np e) (q0:0≤q) (q1:q < n):EnOk n m np (En.onPlusD s e q):=
 EnOk.look hs.small.1 (EnOk.fold (fun e u h u0 u1=>h.onPlusD2 hs.small.1 u0 u1) (hs.foesAt q0 q1) (EnOk.fold (fun e u h u0 u1=>h.onPlusD1 hs u0 u1) (hs.inAt q0 q1) h)) q0 q1
theorem EnOk.onNoD1 (hs:EsOk n m np s) (h:EnOk n m np e) (r0:0≤r) (r1:r < m):EnOk n m np (En.onNoD1 s e r):=by
 unfold En.onNoD1
 split
 ·dsimp only
  have hk:EnOk n m np (({ (({ e with deadD:=e.deadD.set r.toNat true }:En).upL s r) with strict:=En.dec (({ e with deadD:=e.deadD.set r.toNat true }:En).upL s r).strict (ruleAt s.t r).2.1 }:En).ups 1):=EnOk.ups (EnOk.strict1 (h.killD (s:=s)) _ _)
  split
  ·exact hk.tell hs.small.1 (hs.headAt r0 r1).1 (hs.headAt r0 r1).2 (by omega) (by omega)
  ·exact hk
 ·exact h
theorem EnOk.onNoD (hs:EsOk n m np s) (h:EnOk n m np e) (q0:0≤q) (q1:q < n):EnOk n m np (En.onNoD s e q):=
 EnOk.look hs.small.1 (EnOk.fold (fun e u h u0 u1=>h.onNoD1 hs u0 u1) (hs.inAt q0 q1) h) q0 q1
theorem EnOk.onLate1 (hn:n≤4096) (h:EnOk n m np e) (q0:0≤q) (q1:q < n):EnOk n m np (En.onLate1 e q):=by
 unfold En.onLate1
 split
 ·exact EnOk.look hn (EnOk.ups (h.opn1 _ _)) q0 q1
 ·exact h
theorem EnOk.onLate (hs:EsOk n m np s) (h:EnOk n m np e) (q0:0≤q) (q1:q < n):EnOk n m np (En.onLate s e q):=
 EnOk.onNoD hs (EnOk.fold (fun e u h u0 u1=>h.onLate1 hs.small.1 u0 u1) (hs.foesAt q0 q1) h) q0 q1
theorem EnOk.onPlus (hs:EsOk n m np s) (h:EnOk n m np e) (q0:0≤q) (q1:q < n):EnOk n m np (En.onPlus s e q):=EnOk.fold (fun e u h u0 u1=>h.onPlus1 hs u0 u1) (hs.inAt q0 q1) h
end
attribute [local irreducible] RW CW
section
variable {be n m np:Nat} {a:EAd} {z:ECs} {e:En} {q k p r:Int} {X:List HP}
set_option maxHeartbeats 16000000 in
theorem onPlus_ret (hs:EsOk n m np z.s) (hP:PrAt z) (hzn:z.np=np) (hk:EnOk n m np e) (q0:0≤q) (q1:q < n) {sv:Value} (w:World) (F:Nat→Prop) (hz:EsOn (mem w (fun b=>¬ F b)) n m z) (hH:Sep (enH be a z n m sv e) w F):
 RetC Tryz.prog 50 [ptrV be,.int .i64 q] w F (fun _:Value=>.tuple #[]) (fun sv2=>enH be a z n m sv2 (En.onPlus z.s e q)):=by
 have hn:=hs.small.1
 have hle:Mem.le (mem w (fun b=>¬ F b)) (mem w (fun b=>¬ F b)):=Mem.le_refl _
 have hr:=hs.rules
 obtain ⟨nB,nO,na,nc,nA,nm,nl,ni⟩:=row_get hz.inn q0 (by rw [hs.inn];exact q1)
 have ns:=sl_small nl
 unfold reach at ns
 refine Calls.enter Tryz.func50 rfl _ rfl rfl (S:=F) (H:=enH be a z n m sv e++[]) hH ?_
 refine Ja ?_;refine Jc ?_;refine Jf ?_;refine Je ?_;refine EL.hdr rfl rfl rfl rfl ?_;refine Jc ?_
 refine RW.indexAddrE nA rfl rfl q0 (by first | exact q1 | (rw [hs.inn];exact q1)) rfl ?_
 refine RW.load_ro rfl hle nm rfl rfl ?_
 refine Jg ?_;refine Jc ?_;refine Jb ?_
 have hnl:=hs.inAt q0 q1
 unfold En.onPlus
 generalize rowAt z.s.inn q=LN at *
 refine CW.block ?_
 refine CW.loop (ι:={ qq:Nat × En × Value // qq.1≤LN.length∧EnOk n m np qq.2.1∧LN.foldl (En.onPlus1 z.s) e=(LN.drop qq.1).foldl (En.onPlus1 z.s) qq.2.1 })
  (fun qq=>[(0,ptrV be),(1,.int .i64 q),(12,.slice na LN.length nc),(13,.int .i64 LN.length),(14,.int .i64 qq.1.1)]) (fun qq=>enH be a z n m qq.1.2.2 qq.1.2.1++[]) (fun qq=>LN.length - qq.1.1) ⟨(0,e,sv),Nat.zero_le _,hk,rfl⟩ ⟨rfl,rfl,rfl,rfl,rfl,trivial⟩ (fun h=>h) ?_
 intro ⟨⟨i,e2,sv2⟩,hi,hk2,hS⟩
 dsimp only at hi hk2 hS ⊢
 refine Ja ?_;refine Jk ?_;refine Jb ?_
 refine CW.seq ?_
 refine CW.ite rfl (fun hlt=>?_) (fun hge=>?_)
 ·have hlt1:i < LN.length:=by omega
  rw [List.drop_eq_getElem_cons hlt1,List.foldl_cons] at hS
  obtain ⟨B4,O4,hA4,hm4,_⟩:=ints_get nl (List.getElem?_eq_getElem hlt1)
  obtain ⟨u0,u1⟩:=hnl _ (List.getElem_mem hlt1)
  generalize LN[i]=u at *
  refine CW.skip ?_
  refine PW.code ?_
  refine CW.cut (ι:=Value) (fun _=>[(0,ptrV be),(1,.int .i64 q),(12,.slice na LN.length nc),(13,.int .i64 LN.length),(14,.int .i64 i)]) (fun sv3=>enH be a z n m sv3 ((En.onPlus1 z.s) e2 u)++[]) ?_ (fun sv3=>?_)
  ·refine CW.block ?_
   refine Ja ?_
   refine RW.indexAddrE hA4 rfl rfl (by omega) hlt rfl ?_
   refine RW.load_ro rfl hle (ints_at hm4) rfl rfl ?_
   refine Jd ?_;refine Jb ?_;refine Ja ?_;refine Jc ?_;refine Jc ?_;refine Jf ?_;refine Je ?_;refine EL.hdr rfl rfl rfl rfl ?_;refine Jc ?_
   refine RW.callD (enH be a z n m sv2 e2) Tryz.call83 rfl (fun w3 F3 hle3 hC _=>lower_ret hk2 hs u0 u1 w3 F3 (hz.mono hle3) hC) rfl fun _=>?_
   refine Jb ?_
   have hk3:=hk2.lower (s:=z.s) (r:=u)
   refine CW.ite rfl (fun h1=>?_) (fun h1=>?_)
   rotate_left
   ·have e3:En.onPlus1 z.s e2 u=En.lower z.s e2 u:=by unfold En.onPlus1;rw [if_neg (by simp only [beq_false_of_ne h1];simp)]
    rw [e3]
    refine CW.skip ?_
    exact PW.meet sv2 ⟨rfl,rfl,rfl,rfl,rfl,trivial⟩ (fun h=>h)
   have e3:En.onPlus1 z.s e2 u=En.fire z.s (En.lower z.s e2 u) u:=by unfold En.onPlus1;rw [if_pos (beq_iff_eq.2 h1)]
   rw [e3]
   refine CW.region ?_
   refine Jc ?_;refine Jc ?_
   refine RW.callD (enH be a z n m sv2 _) Tryz.call85 rfl (fun w3 F3 hle3 hC _=>fire_ret hs hP hzn hk3 u0 u1 w3 F3 (hz.mono hle3) hC) rfl fun sv3=>?_
   refine RW.nil ?_
   exact PW.meet sv3 ⟨rfl,rfl,rfl,rfl,rfl,trivial⟩ (fun h=>h)
  refine CW.region ?_
  refine RW.add rfl rfl (w64 (by omega) (by omega)) rfl ?_
  refine Jc ?_
  refine RW.nil ?_
  exact PW.again ⟨(i + 1,(En.onPlus1 z.s) e2 u,sv3),hlt1,hk2.onPlus1 hs u0 u1,hS⟩ ⟨rfl,rfl,rfl,rfl,rfl,trivial⟩ (fun h=>h) (by show LN.length - (i + 1) < LN.length - i;omega)
 rw [List.drop_eq_nil_of_le (by omega),List.foldl_nil] at hS
 refine CW.exit rfl ?_
 rw [hS]
 exact PW.ret (rs:=[]) (vs:=[]) Tryz.results50 rfl ResOK.nil fun w hw=>⟨sv2,rfl,hw⟩
set_option maxHeartbeats 16000000 in
theorem onPlusD_ret (hs:EsOk n m np z.s) (hP:PrAt z) (hzn:z.np=np) (hk:EnOk n m np e) (q0:0≤q) (q1:q < n) {sv:Value} (w:World) (F:Nat→Prop) (hz:EsOn (mem w (fun b=>¬ F b)) n m z) (hH:Sep (enH be a z n m sv e) w F):
 RetC Tryz.prog 48 [ptrV be,.int .i64 q] w F (fun _:Value=>.tuple #[]) (fun sv2=>enH be a z n m sv2 (En.onPlusD z.s e q)):=by
 have hn:=hs.small.1
 have hle:Mem.le (mem w (fun b=>¬ F b)) (mem w (fun b=>¬ F b)):=Mem.le_refl _
 have hr:=hs.rules
 obtain ⟨nB,nO,na,nc,nA,nm,nl,ni⟩:=row_get hz.inn q0 (by rw [hs.inn];exact q1)
 have ns:=sl_small nl
 unfold reach at ns
 obtain ⟨fB,fO,fa,fc,fA,fm,fl,fi⟩:=row_get hz.th.foes q0 (by rw [hs.foes];exact q1)
 have fs:=sl_small fl
 unfold reach at fs
 refine Calls.enter Tryz.func48 rfl _ rfl rfl (S:=F) (H:=enH be a z n m sv e++[]) hH ?_
 unfold En.onPlusD
 have hk1:EnOk n m np ((rowAt z.s.inn q).foldl (En.onPlusD1 z.s) e):=EnOk.fold (fun e u h u0 u1=>h.onPlusD1 hs u0 u1) (hs.inAt q0 q1) hk
 refine CW.cut (ι:=Value) (fun _=>[(0,ptrV be),(1,.int .i64 q)]) (fun sv1=>enH be a z n m sv1 ((rowAt z.s.inn q).foldl (En.onPlusD1 z.s) e)++[]) ?_ (fun sv1=>?_)
 ·refine Ja ?_;refine Jc ?_;refine Jf ?_;refine Je ?_;refine EL.hdr rfl rfl rfl rfl ?_;refine Jc ?_
  refine RW.indexAddrE nA rfl rfl q0 (by first | exact q1 | (rw [hs.inn];exact q1)) rfl ?_
  refine RW.load_ro rfl hle nm rfl rfl ?_
  refine Jg ?_;refine Jc ?_;refine Jb ?_
  have hnl:=hs.inAt q0 q1
  generalize rowAt z.s.inn q=LN at *
  refine CW.block ?_
  refine CW.loop (ι:={ qq:Nat × En × Value // qq.1≤LN.length∧EnOk n m np qq.2.1∧LN.foldl (En.onPlusD1 z.s) e=(LN.drop qq.1).foldl (En.onPlusD1 z.s) qq.2.1 })
   (fun qq=>[(0,ptrV be),(1,.int .i64 q),(14,.slice na LN.length nc),(15,.int .i64 LN.length),(16,.int .i64 qq.1.1)]) (fun qq=>enH be a z n m qq.1.2.2 qq.1.2.1++[]) (fun qq=>LN.length - qq.1.1) ⟨(0,e,sv),Nat.zero_le _,hk,rfl⟩ ⟨rfl,rfl,rfl,rfl,rfl,trivial⟩ (fun h=>h) ?_
  intro ⟨⟨i,e2,sv2⟩,hi,hk2,hS⟩
  dsimp only at hi hk2 hS ⊢
  refine Ja ?_;refine Jk ?_;refine Jb ?_
  refine CW.seq ?_
  refine CW.ite rfl (fun hlt=>?_) (fun hge=>?_)
  ·have hlt1:i < LN.length:=by omega
   rw [List.drop_eq_getElem_cons hlt1,List.foldl_cons] at hS
   obtain ⟨B4,O4,hA4,hm4,_⟩:=ints_get nl (List.getElem?_eq_getElem hlt1)
   obtain ⟨u0,u1⟩:=hnl _ (List.getElem_mem hlt1)
   generalize LN[i]=u at *
   refine CW.skip ?_
   refine PW.code ?_
   refine CW.cut (ι:=Value) (fun _=>[(0,ptrV be),(1,.int .i64 q),(14,.slice na LN.length nc),(15,.int .i64 LN.length),(16,.int .i64 i)]) (fun sv3=>enH be a z n m sv3 ((En.onPlusD1 z.s) e2 u)++[]) ?_ (fun sv3=>?_)
   ·refine CW.block ?_
    refine Ja ?_
    refine RW.indexAddrE hA4 rfl rfl (by omega) hlt rfl ?_
    refine RW.load_ro rfl hle (ints_at hm4) rfl rfl ?_
    refine Jd ?_;refine Jb ?_;refine Ja ?_;refine Jc ?_;refine Jf ?_;refine Je ?_;refine Je ?_;refine JA ?_;refine Jc ?_
    obtain ⟨rB,rO,ra,rc,rA,rm,rl,ri⟩:=rule_at hz.th u0 (by rw [hs.rules];exact u1)
    have rs:=sl_small rl
    unfold reach at rs
    skip
    refine RW.indexAddrE rA rfl rfl u0 (by rw [hr];exact u1) rfl ?_
    refine Je ?_
    refine RW.load_ro rfl hle (rm 0 _ rfl) rfl rfl ?_
    refine Ji ?_;refine Jc ?_
    refine RW.splitD 30 rfl (fun h1=>?_) (fun h1=>?_)
    rotate_left
    ·have e3:En.onPlusD1 z.s e2 u=e2:=by unfold En.onPlusD1;rw [if_neg (by simp only [beq_false_of_ne h1];simp)]
     refine Jz ?_;refine Jz ?_;refine Jz ?_;refine Jz ?_;refine Jz ?_;refine Jz ?_;refine Jz ?_;refine Jw ?_;refine Jb ?_
     refine CW.cf rfl ?_
     refine CW.skip ?_
     rw [e3]
     exact PW.meet sv2 ⟨rfl,rfl,rfl,rfl,rfl,trivial⟩ (fun h=>h)
    refine Jy ?_;refine Jc ?_;refine Jy ?_;refine Jc ?_;refine Jy ?_;refine Jf ?_;refine Jy ?_;refine Je ?_;refine Jy ?_;refine EL.hdr rfl rfl rfl rfl ?_;refine Jy ?_;refine Jc ?_;refine Jy ?_
    refine RW.callD (enH be a z n m sv2 e2) Tryz.call83 rfl (fun w3 F3 hle3 hC _=>lowerD_ret hk2 hs u0 u1 w3 F3 (hz.mono hle3) hC) rfl fun _=>?_
    refine Jv ?_;refine Jb ?_
    have hk3:=hk2.lowerD (s:=z.s) (r:=u)
    refine CW.ite rfl (fun h2=>?_) (fun h2=>?_)
    rotate_left
    ·have e3:En.onPlusD1 z.s e2 u=En.lowerD z.s e2 u:=by unfold En.onPlusD1;rw [if_pos (beq_iff_eq.2 h1)];dsimp only;rw [if_neg (by simp only [beq_false_of_ne h2];simp)]
     rw [e3]
     refine CW.skip ?_
     exact PW.meet sv2 ⟨rfl,rfl,rfl,rfl,rfl,trivial⟩ (fun h=>h)
    have e3:En.onPlusD1 z.s e2 u=(En.lowerD z.s e2 u).tell (ruleAt z.s.t u).2.1 1:=by unfold En.onPlusD1;rw [if_pos (beq_iff_eq.2 h1)];dsimp only;rw [if_pos (beq_iff_eq.2 h2)]
    rw [e3]
    obtain ⟨hd0,hd1⟩:=hs.headAt u0 u1
    refine CW.region ?_
    refine Jc ?_;refine Jc ?_;refine Jf ?_;refine Je ?_;refine Je ?_;refine EL.hdr rfl rfl rfl rfl ?_;refine Jc ?_
    refine RW.indexAddrE rA rfl rfl u0 (by rw [hr];exact u1) rfl ?_
    refine Je ?_
    refine RW.load_ro rfl hle (rm 1 _ rfl) rfl rfl ?_
    refine RW.callD (enH be a z n m sv2 _) Tryz.call80 rfl (fun w3 F3 hle3 hC _=>tell_ret (k:=1) hn hk3 hd0 hd1 (by omega) (by omega) w3 F3 hC) rfl fun sv3=>?_
    refine RW.nil ?_
    exact PW.meet sv3 ⟨rfl,rfl,rfl,rfl,rfl,trivial⟩ (fun h=>h)
   refine CW.region ?_
   refine RW.add rfl rfl (w64 (by omega) (by omega)) rfl ?_
   refine Jc ?_
   refine RW.nil ?_
   exact PW.again ⟨(i + 1,(En.onPlusD1 z.s) e2 u,sv3),hlt1,hk2.onPlusD1 hs u0 u1,hS⟩ ⟨rfl,rfl,rfl,rfl,rfl,trivial⟩ (fun h=>h) (by show LN.length - (i + 1) < LN.length - i;omega)
  rw [List.drop_eq_nil_of_le (by omega),List.foldl_nil] at hS
  refine CW.exit rfl ?_
  rw [hS]
  exact PW.meet sv2 ⟨rfl,rfl,trivial⟩ (fun h=>h)
 generalize (rowAt z.s.inn q).foldl (En.onPlusD1 z.s) e=e1 at *
 clear hk
 have hk4:EnOk n m np ((rowAt (tFoes z.s.t) q).foldl En.onPlusD2 e1):=EnOk.fold (fun e u h u0 u1=>h.onPlusD2 hn u0 u1) (hs.foesAt q0 q1) hk1
 refine CW.cut (ι:=Value) (fun _=>[(0,ptrV be),(1,.int .i64 q)]) (fun sv1=>enH be a z n m sv1 ((rowAt (tFoes z.s.t) q).foldl En.onPlusD2 e1)++[]) ?_ (fun sv1=>?_)
 ·refine Ja ?_;refine Jc ?_;refine Jf ?_;refine Je ?_;refine Je ?_;refine EL.hdr rfl rfl rfl rfl ?_;refine Jc ?_
  refine RW.indexAddrE fA rfl rfl q0 (by first | exact q1 | (rw [hs.foes];exact q1)) rfl ?_
  refine RW.load_ro rfl hle fm rfl rfl ?_
  refine Jg ?_;refine Jc ?_;refine Jb ?_
  have hnl:=hs.foesAt q0 q1
  generalize rowAt (tFoes z.s.t) q=LF at *
  refine CW.block ?_
  refine CW.loop (ι:={ qq:Nat × En × Value // qq.1≤LF.length∧EnOk n m np qq.2.1∧LF.foldl En.onPlusD2 e1=(LF.drop qq.1).foldl En.onPlusD2 qq.2.1 })
   (fun qq=>[(0,ptrV be),(1,.int .i64 q),(58,.slice fa LF.length fc),(59,.int .i64 LF.length),(60,.int .i64 qq.1.1)]) (fun qq=>enH be a z n m qq.1.2.2 qq.1.2.1++[]) (fun qq=>LF.length - qq.1.1) ⟨(0,e1,sv1),Nat.zero_le _,hk1,rfl⟩ ⟨rfl,rfl,rfl,rfl,rfl,trivial⟩ (fun h=>h) ?_
  intro ⟨⟨i,e2,sv2⟩,hi,hk2,hS⟩
  dsimp only at hi hk2 hS ⊢
  refine Ja ?_;refine Jk ?_;refine Jb ?_
  refine CW.seq ?_
  refine CW.ite rfl (fun hlt=>?_) (fun hge=>?_)
  ·have hlt1:i < LF.length:=by omega
   rw [List.drop_eq_getElem_cons hlt1,List.foldl_cons] at hS
   obtain ⟨B4,O4,hA4,hm4,_⟩:=ints_get fl (List.getElem?_eq_getElem hlt1)
   obtain ⟨u0,u1⟩:=hnl _ (List.getElem_mem hlt1)
   generalize LF[i]=u at *
   refine CW.skip ?_
   refine PW.code ?_
   refine CW.cut (ι:=Value) (fun _=>[(0,ptrV be),(1,.int .i64 q),(58,.slice fa LF.length fc),(59,.int .i64 LF.length),(60,.int .i64 i)]) (fun sv3=>enH be a z n m sv3 (En.onPlusD2 e2 u)++[]) ?_ (fun sv3=>?_)
   ·refine CW.block ?_
    refine Ja ?_
    refine RW.indexAddrE hA4 rfl rfl (by omega) hlt rfl ?_
    refine RW.load_ro rfl hle (ints_at hm4) rfl rfl ?_
    refine Jd ?_;refine Jb ?_;refine Ja ?_;refine Jc ?_;refine Jf ?_;refine Je ?_;refine EL.hdr rfl rfl rfl rfl ?_;refine Jc ?_;refine EL.idx rfl rfl (by assumption) (by assumption) rfl ?_;refine EL.backs (by assumption) rfl (by assumption) (by assumption) rfl ?_;refine Jm ?_;refine Jc ?_
    refine RW.splitD 72 rfl (fun h1=>?_) (fun h1=>?_)
    rotate_left
    ·refine Jz ?_;refine Jz ?_;refine Jz ?_;refine Jz ?_;refine Jz ?_;refine Jz ?_;refine Jz ?_;refine Jz ?_;refine Jw ?_;refine Jb ?_
     refine CW.cf rfl ?_
     refine CW.skip ?_
     have e3:En.onPlusD2 e2 u=e2:=by unfold En.onPlusD2;rw [if_neg (by rw [decide_eq_false h1];simp)]
     rw [e3]
     exact PW.meet sv2 ⟨rfl,rfl,rfl,rfl,rfl,trivial⟩ (fun h=>h)
    refine Jy ?_;refine Jc ?_;refine Jy ?_;refine Jf ?_;refine Jy ?_;refine Je ?_;refine Jy ?_;refine EL.hdr rfl rfl rfl rfl ?_;refine Jy ?_;refine Jc ?_;refine Jy ?_;refine EL.idx rfl rfl (by assumption) (by assumption) rfl ?_;refine Jy ?_;refine EL.clash (by assumption) rfl (by assumption) (by assumption) rfl ?_;refine Jy ?_;refine Js ?_;refine Jv ?_;refine Jb ?_
    refine CW.cond rfl (fun h2=>?_) (fun h2=>?_)
    rotate_left
    ·refine CW.skip ?_
     have e3:En.onPlusD2 e2 u=e2:=by unfold En.onPlusD2;rw [if_neg (by rw [Bool.not_eq_false'] at h2;rw [h2];simp)]
     rw [e3]
     exact PW.meet sv2 ⟨rfl,rfl,rfl,rfl,rfl,trivial⟩ (fun h=>h)
    rw [Bool.not_eq_true'] at h2
    have e3:En.onPlusD2 e2 u=(({ e2 with clash:=e2.clash.set u.toNat true }:En).ups 1).look u:=by unfold En.onPlusD2;rw [if_pos (by rw [decide_eq_true h1,h2];rfl)]
    rw [e3]
    refine Ja ?_;refine Jc ?_;refine Jf ?_;refine Je ?_;refine EL.hdr rfl rfl rfl rfl ?_;refine Jc ?_;refine EL.idx rfl rfl (by assumption) (by assumption) rfl ?_
    refine ES.clash (X:=[]) hk2 rfl rfl u0 u1 ?_
    refine RW.nil (PW.code ?_)
    refine Ja ?_;refine Jc ?_;refine Jf ?_;refine Je ?_;refine Je ?_;refine EL.hdr rfl rfl rfl rfl ?_
    refine RW.add rfl rfl rfl rfl ?_
    refine Jf ?_;refine Je ?_;refine Je ?_
    refine ES.up (X:=[]) rfl rfl ?_
    refine RW.nil (PW.code ?_)
    refine CW.region ?_
    refine Jc ?_;refine Jc ?_
    have hk3:=EnOk.ups (v:=1) (hk2.clash1 u.toNat true)
    refine RW.callD (enH be a z n m sv2 _) Tryz.call52 rfl (fun w3 F3 hle3 hC _=>look_ret hn hk3 u0 u1 w3 F3 hC) rfl fun sv3=>?_
    refine RW.nil ?_
    exact PW.meet sv3 ⟨rfl,rfl,rfl,rfl,rfl,trivial⟩ (fun h=>h)
   refine CW.region ?_
   refine RW.add rfl rfl (w64 (by omega) (by omega)) rfl ?_
   refine Jc ?_
   refine RW.nil ?_
   exact PW.again ⟨(i + 1,En.onPlusD2 e2 u,sv3),hlt1,hk2.onPlusD2 hn u0 u1,hS⟩ ⟨rfl,rfl,rfl,rfl,rfl,trivial⟩ (fun h=>h) (by show LF.length - (i + 1) < LF.length - i;omega)
  rw [List.drop_eq_nil_of_le (by omega),List.foldl_nil] at hS
  refine CW.exit rfl ?_
  rw [hS]
  exact PW.meet sv2 ⟨rfl,rfl,trivial⟩ (fun h=>h)
 refine CW.region ?_
 refine Jc ?_;refine Jc ?_
 refine RW.callD (enH be a z n m sv1 _) Tryz.call52 rfl (fun w3 F3 hle3 hC _=>look_ret hn hk4 q0 q1 w3 F3 hC) rfl fun sv3=>?_
 refine RW.nil ?_
 exact PW.ret (rs:=[]) (vs:=[]) Tryz.results48 rfl ResOK.nil fun w hw=>⟨sv3,rfl,hw⟩
set_option maxHeartbeats 16000000 in
theorem onNoD_ret (hs:EsOk n m np z.s) (hP:PrAt z) (hzn:z.np=np) (hk:EnOk n m np e) (q0:0≤q) (q1:q < n) {sv:Value} (w:World) (F:Nat→Prop) (hz:EsOn (mem w (fun b=>¬ F b)) n m z) (hH:Sep (enH be a z n m sv e) w F):
 RetC Tryz.prog 49 [ptrV be,.int .i64 q] w F (fun _:Value=>.tuple #[]) (fun sv2=>enH be a z n m sv2 (En.onNoD z.s e q)):=by
 have hn:=hs.small.1
 have hle:Mem.le (mem w (fun b=>¬ F b)) (mem w (fun b=>¬ F b)):=Mem.le_refl _
 have hr:=hs.rules
 obtain ⟨nB,nO,na,nc,nA,nm,nl,ni⟩:=row_get hz.inn q0 (by rw [hs.inn];exact q1)
 have ns:=sl_small nl
 unfold reach at ns
 refine Calls.enter Tryz.func49 rfl _ rfl rfl (S:=F) (H:=enH be a z n m sv e++[]) hH ?_
 unfold En.onNoD
 have hk1:EnOk n m np ((rowAt z.s.inn q).foldl (En.onNoD1 z.s) e):=EnOk.fold (fun e u h u0 u1=>h.onNoD1 hs u0 u1) (hs.inAt q0 q1) hk
 refine CW.cut (ι:=Value) (fun _=>[(0,ptrV be),(1,.int .i64 q)]) (fun sv1=>enH be a z n m sv1 ((rowAt z.s.inn q).foldl (En.onNoD1 z.s) e)++[]) ?_ (fun sv1=>?_)
 ·refine Ja ?_;refine Jc ?_;refine Jf ?_;refine Je ?_;refine EL.hdr rfl rfl rfl rfl ?_;refine Jc ?_
  refine RW.indexAddrE nA rfl rfl q0 (by first | exact q1 | (rw [hs.inn];exact q1)) rfl ?_
  refine RW.load_ro rfl hle nm rfl rfl ?_
  refine Jg ?_;refine Jc ?_;refine Jb ?_
  have hnl:=hs.inAt q0 q1
  generalize rowAt z.s.inn q=LN at *
  refine CW.block ?_
  refine CW.loop (ι:={ qq:Nat × En × Value // qq.1≤LN.length∧EnOk n m np qq.2.1∧LN.foldl (En.onNoD1 z.s) e=(LN.drop qq.1).foldl (En.onNoD1 z.s) qq.2.1 })
   (fun qq=>[(0,ptrV be),(1,.int .i64 q),(13,.slice na LN.length nc),(14,.int .i64 LN.length),(15,.int .i64 qq.1.1)]) (fun qq=>enH be a z n m qq.1.2.2 qq.1.2.1++[]) (fun qq=>LN.length - qq.1.1) ⟨(0,e,sv),Nat.zero_le _,hk,rfl⟩ ⟨rfl,rfl,rfl,rfl,rfl,trivial⟩ (fun h=>h) ?_
  intro ⟨⟨i,e2,sv2⟩,hi,hk2,hS⟩
  dsimp only at hi hk2 hS ⊢
  refine Ja ?_;refine Jk ?_;refine Jb ?_
  refine CW.seq ?_
  refine CW.ite rfl (fun hlt=>?_) (fun hge=>?_)
  ·have hlt1:i < LN.length:=by omega
   rw [List.drop_eq_getElem_cons hlt1,List.foldl_cons] at hS
   obtain ⟨B4,O4,hA4,hm4,_⟩:=ints_get nl (List.getElem?_eq_getElem hlt1)
   obtain ⟨u0,u1⟩:=hnl _ (List.getElem_mem hlt1)
   generalize LN[i]=u at *
   refine CW.skip ?_
   refine PW.code ?_
   refine CW.cut (ι:=Value) (fun _=>[(0,ptrV be),(1,.int .i64 q),(13,.slice na LN.length nc),(14,.int .i64 LN.length),(15,.int .i64 i)]) (fun sv3=>enH be a z n m sv3 ((En.onNoD1 z.s) e2 u)++[]) ?_ (fun sv3=>?_)
   ·refine CW.block ?_
    refine Ja ?_
    refine RW.indexAddrE hA4 rfl rfl (by omega) hlt rfl ?_
    refine RW.load_ro rfl hle (ints_at hm4) rfl rfl ?_
    refine Jd ?_;refine Jb ?_
    obtain ⟨rB,rO,ra,rc,rA,rm,rl,ri⟩:=rule_at hz.th u0 (by rw [hs.rules];exact u1)
    have rs:=sl_small rl
    unfold reach at rs
    refine CW.seq ?_
    refine Ja ?_;refine Jc ?_;refine Jf ?_;refine Je ?_;refine Je ?_;refine EL.hdr rfl rfl rfl rfl ?_;refine Jc ?_
    refine RW.indexAddrE rA rfl rfl u0 (by rw [hr];exact u1) rfl ?_
    refine Je ?_
    refine RW.load_ro rfl hle (rm 0 _ rfl) rfl rfl ?_
    refine Jj ?_;refine Jc ?_
    refine RW.splitD 29 rfl (fun h1=>?_) (fun h1=>?_)
    ·have e3:En.onNoD1 z.s e2 u=e2:=by unfold En.onNoD1;rw [if_neg (by simp only [beq_false_of_ne h1];simp)]
     refine Jz ?_;refine Jz ?_;refine Jz ?_;refine Jz ?_;refine Jz ?_;refine Jz ?_;refine Jz ?_;refine Jz ?_;refine Jv ?_;refine Jb ?_
     refine CW.ct rfl ?_
     refine CW.exit rfl ?_
     rw [e3]
     exact PW.meet sv2 ⟨rfl,rfl,rfl,rfl,rfl,trivial⟩ (fun h=>h)
    have h1':(ruleAt z.s.t u).1=1:=Decidable.of_not_not h1
    refine Jy ?_;refine Jc ?_;refine Jy ?_;refine Jc ?_;refine Jy ?_;refine Jf ?_;refine Jy ?_;refine Je ?_;refine Jy ?_;refine EL.hdr rfl rfl rfl rfl ?_;refine Jy ?_;refine Jc ?_;refine Jy ?_
    refine RW.callD (enH be a z n m sv2 e2) Tryz.call84 rfl (fun w3 F3 hle3 hC _=>killD_ret hk2 hs u0 u1 w3 F3 (hz.mono hle3) hC) rfl fun _=>?_
    refine Jy ?_;refine Js ?_;refine Jw ?_;refine Jb ?_
    refine CW.cond rfl (fun h2=>?_) (fun h2=>?_)
    ·rw [Bool.not_not] at h2
     have e3:En.onNoD1 z.s e2 u=e2:=by unfold En.onNoD1;rw [if_neg (by rw [h2];simp)]
     rw [if_pos h2]
     refine CW.exit rfl ?_
     rw [e3]
     exact PW.meet sv2 ⟨rfl,rfl,rfl,rfl,rfl,trivial⟩ (fun h=>h)
    rw [Bool.not_not] at h2
    rw [h2,if_neg Bool.false_ne_true]
    have hk3:=hk2.killD (s:=z.s) (r:=u)
    obtain ⟨hd0,hd1⟩:=hs.headAt u0 u1
    have hk5:EnOk n m np (({ (En.killD z.s e2 u) with strict:=En.dec (En.killD z.s e2 u).strict (ruleAt z.s.t u).2.1 }:En).ups 1):=EnOk.ups (EnOk.strict1 hk3 _ _)
    have e3:En.onNoD1 z.s e2 u=if (({ (En.killD z.s e2 u) with strict:=En.dec (En.killD z.s e2 u).strict (ruleAt z.s.t u).2.1 }:En).ups 1).strict.getD (ruleAt z.s.t u).2.1.toNat 0 == 0 then (({ (En.killD z.s e2 u) with strict:=En.dec (En.killD z.s e2 u).strict (ruleAt z.s.t u).2.1 }:En).ups 1).tell (ruleAt z.s.t u).2.1 2 else (({ (En.killD z.s e2 u) with strict:=En.dec (En.killD z.s e2 u).strict (ruleAt z.s.t u).2.1 }:En).ups 1):=by unfold En.onNoD1;rw [if_pos (by rw [h2,h1'];rfl)];rfl
    rw [e3]
    clear e3
    generalize En.killD z.s e2 u=e4 at *
    refine CW.skip ?_
    refine PW.code ?_
    refine Ja ?_;refine Jc ?_;refine Jf ?_;refine Je ?_;refine Je ?_;refine EL.hdr rfl rfl rfl rfl ?_;refine Jc ?_
    refine RW.indexAddrE rA rfl rfl u0 (by rw [hr];exact u1) rfl ?_
    refine Je ?_
    refine RW.load_ro rfl hle (rm 1 _ rfl) rfl rfl ?_
    refine Jd ?_;refine Jb ?_;refine Ja ?_;refine Jc ?_;refine Jf ?_;refine Je ?_;refine EL.hdr rfl rfl rfl rfl ?_;refine Jc ?_;refine EL.idx rfl rfl (by assumption) (by assumption) rfl ?_;refine EL.strict (by assumption) rfl (by assumption) (by assumption) rfl ?_
    refine RW.sub rfl rfl rfl rfl ?_
    refine EL.idx rfl rfl (by assumption) (by assumption) rfl ?_
    refine ES.strict (X:=[]) hk3 rfl rfl hd0 hd1 ?_
    refine RW.nil (PW.code ?_)
    refine Ja ?_;refine Jc ?_;refine Jf ?_;refine Je ?_;refine Je ?_;refine EL.hdr rfl rfl rfl rfl ?_
    refine RW.add rfl rfl rfl rfl ?_
    refine Jf ?_;refine Je ?_;refine Je ?_
    refine ES.up (X:=[]) rfl rfl ?_
    refine RW.nil (PW.code ?_)
    refine CW.sep (enH be a z n m sv2 (({ e4 with strict:=En.dec e4.strict (ruleAt z.s.t u).2.1 }:En).ups 1)++[]) (fun w A h=>h) ?_
    generalize ({ e4 with strict:=En.dec e4.strict (ruleAt z.s.t u).2.1 }:En).ups 1=e5 at *
    refine Ja ?_;refine Jc ?_;refine Jf ?_;refine Je ?_;refine EL.hdr rfl rfl rfl rfl ?_;refine Jc ?_;refine EL.idx rfl rfl (by assumption) (by assumption) rfl ?_;refine EL.strict (by assumption) rfl (by assumption) (by assumption) rfl ?_;refine Ji ?_;refine Jb ?_
    refine CW.ite rfl (fun h3=>?_) (fun h3=>?_)
    rotate_left
    ·rw [if_neg (by simp only [beq_false_of_ne h3];simp)]
     refine CW.skip ?_
     exact PW.meet sv2 ⟨rfl,rfl,rfl,rfl,rfl,trivial⟩ (fun h=>h)
    rw [if_pos (beq_iff_eq.2 h3)]
    refine CW.region ?_
    refine Jc ?_;refine Jc ?_
    refine RW.callD (enH be a z n m sv2 _) Tryz.call80 rfl (fun w3 F3 hle3 hC _=>tell_ret (k:=2) hn hk5 hd0 hd1 (by omega) (by omega) w3 F3 hC) rfl fun sv3=>?_
    refine RW.nil ?_
    exact PW.meet sv3 ⟨rfl,rfl,rfl,rfl,rfl,trivial⟩ (fun h=>h)
   refine CW.region ?_
   refine RW.add rfl rfl (w64 (by omega) (by omega)) rfl ?_
   refine Jc ?_
   refine RW.nil ?_
   exact PW.again ⟨(i + 1,(En.onNoD1 z.s) e2 u,sv3),hlt1,hk2.onNoD1 hs u0 u1,hS⟩ ⟨rfl,rfl,rfl,rfl,rfl,trivial⟩ (fun h=>h) (by show LN.length - (i + 1) < LN.length - i;omega)
  rw [List.drop_eq_nil_of_le (by omega),List.foldl_nil] at hS
  refine CW.exit rfl ?_
  rw [hS]
  exact PW.meet sv2 ⟨rfl,rfl,trivial⟩ (fun h=>h)
 refine CW.region ?_
 refine Jc ?_;refine Jc ?_
 refine RW.callD (enH be a z n m sv1 _) Tryz.call52 rfl (fun w3 F3 hle3 hC _=>look_ret hn hk1 q0 q1 w3 F3 hC) rfl fun sv3=>?_
 refine RW.nil ?_
 exact PW.ret (rs:=[]) (vs:=[]) Tryz.results49 rfl ResOK.nil fun w hw=>⟨sv3,rfl,hw⟩
set_option maxHeartbeats 16000000 in
theorem onLate_ret (hs:EsOk n m np z.s) (hP:PrAt z) (hzn:z.np=np) (hk:EnOk n m np e) (q0:0≤q) (q1:q < n) {sv:Value} (w:World) (F:Nat→Prop) (hz:EsOn (mem w (fun b=>¬ F b)) n m z) (hH:Sep (enH be a z n m sv e) w F):
 RetC Tryz.prog 54 [ptrV be,.int .i64 q] w F (fun _:Value=>.tuple #[]) (fun sv2=>enH be a z n m sv2 (En.onLate z.s e q)):=by
 have hn:=hs.small.1
 have hle:Mem.le (mem w (fun b=>¬ F b)) (mem w (fun b=>¬ F b)):=Mem.le_refl _
 have hr:=hs.rules
 obtain ⟨fB,fO,fa,fc,fA,fm,fl,fi⟩:=row_get hz.th.foes q0 (by rw [hs.foes];exact q1)
 have fs:=sl_small fl
 unfold reach at fs
 refine Calls.enter Tryz.func54 rfl _ rfl rfl (S:=F) (H:=enH be a z n m sv e++[]) hH ?_
 unfold En.onLate
 have hk1:EnOk n m np ((rowAt (tFoes z.s.t) q).foldl En.onLate1 e):=EnOk.fold (fun e u h u0 u1=>h.onLate1 hn u0 u1) (hs.foesAt q0 q1) hk
 refine CW.cut (ι:=Value) (fun _=>[(0,ptrV be),(1,.int .i64 q)]) (fun sv1=>enH be a z n m sv1 ((rowAt (tFoes z.s.t) q).foldl En.onLate1 e)++[]) ?_ (fun sv1=>?_)
 ·refine Ja ?_;refine Jc ?_;refine Jf ?_;refine Je ?_;refine Je ?_;refine EL.hdr rfl rfl rfl rfl ?_;refine Jc ?_
  refine RW.indexAddrE fA rfl rfl q0 (by first | exact q1 | (rw [hs.foes];exact q1)) rfl ?_
  refine RW.load_ro rfl hle fm rfl rfl ?_
  refine Jg ?_;refine Jc ?_;refine Jb ?_
  have hnl:=hs.foesAt q0 q1
  generalize rowAt (tFoes z.s.t) q=LF at *
  refine CW.block ?_
  refine CW.loop (ι:={ qq:Nat × En × Value // qq.1≤LF.length∧EnOk n m np qq.2.1∧LF.foldl En.onLate1 e=(LF.drop qq.1).foldl En.onLate1 qq.2.1 })
   (fun qq=>[(0,ptrV be),(1,.int .i64 q),(13,.slice fa LF.length fc),(14,.int .i64 LF.length),(15,.int .i64 qq.1.1)]) (fun qq=>enH be a z n m qq.1.2.2 qq.1.2.1++[]) (fun qq=>LF.length - qq.1.1) ⟨(0,e,sv),Nat.zero_le _,hk,rfl⟩ ⟨rfl,rfl,rfl,rfl,rfl,trivial⟩ (fun h=>h) ?_
  intro ⟨⟨i,e2,sv2⟩,hi,hk2,hS⟩
  dsimp only at hi hk2 hS ⊢
  refine Ja ?_;refine Jk ?_;refine Jb ?_
  refine CW.seq ?_
  refine CW.ite rfl (fun hlt=>?_) (fun hge=>?_)
  ·have hlt1:i < LF.length:=by omega
   rw [List.drop_eq_getElem_cons hlt1,List.foldl_cons] at hS
   obtain ⟨B4,O4,hA4,hm4,_⟩:=ints_get fl (List.getElem?_eq_getElem hlt1)
   obtain ⟨u0,u1⟩:=hnl _ (List.getElem_mem hlt1)
   generalize LF[i]=u at *
   refine CW.skip ?_
   refine PW.code ?_
   refine CW.cut (ι:=Value) (fun _=>[(0,ptrV be),(1,.int .i64 q),(13,.slice fa LF.length fc),(14,.int .i64 LF.length),(15,.int .i64 i)]) (fun sv3=>enH be a z n m sv3 (En.onLate1 e2 u)++[]) ?_ (fun sv3=>?_)
   ·refine CW.block ?_
    refine Ja ?_
    refine RW.indexAddrE hA4 rfl rfl (by omega) hlt rfl ?_
    refine RW.load_ro rfl hle (ints_at hm4) rfl rfl ?_
    refine Jd ?_;refine Jb ?_;refine Ja ?_;refine Jc ?_;refine Jf ?_;refine Je ?_;refine EL.hdr rfl rfl rfl rfl ?_;refine Jc ?_;refine EL.idx rfl rfl (by assumption) (by assumption) rfl ?_;refine EL.backs (by assumption) rfl (by assumption) (by assumption) rfl ?_;refine Jm ?_;refine Jc ?_
    refine RW.splitD 27 rfl (fun h1=>?_) (fun h1=>?_)
    ·refine Jz ?_;refine Jz ?_;refine Jz ?_;refine Jz ?_;refine Jz ?_;refine Jz ?_;refine Jz ?_;refine Jv ?_;refine Jb ?_
     refine CW.ct rfl ?_
     have e3:En.onLate1 e2 u=(({ e2 with opn:=En.dec e2.opn u }:En).ups 1).look u:=by unfold En.onLate1;rw [if_pos (by rw [decide_eq_true h1];rfl)]
     rw [e3]
     refine Ja ?_;refine Jc ?_;refine Jf ?_;refine Je ?_;refine EL.hdr rfl rfl rfl rfl ?_;refine Jc ?_;refine EL.idx rfl rfl (by assumption) (by assumption) rfl ?_;refine EL.opn (by assumption) rfl (by assumption) (by assumption) rfl ?_
     refine RW.sub rfl rfl rfl rfl ?_
     refine EL.idx rfl rfl (by assumption) (by assumption) rfl ?_
     refine ES.opn (X:=[]) hk2 rfl rfl u0 u1 ?_
     refine RW.nil (PW.code ?_)
     refine Ja ?_;refine Jc ?_;refine Jf ?_;refine Je ?_;refine Je ?_;refine EL.hdr rfl rfl rfl rfl ?_
     refine RW.add rfl rfl rfl rfl ?_
     refine Jf ?_;refine Je ?_;refine Je ?_
     refine ES.up (X:=[]) rfl rfl ?_
     refine RW.nil (PW.code ?_)
     refine CW.region ?_
     refine Jc ?_;refine Jc ?_
     have hk3:=EnOk.ups (v:=1) (hk2.opn1 u.toNat (IntKind.i64.wrap (e2.opn.getD u.toNat 0 - 1)))
     refine RW.callD (enH be a z n m sv2 _) Tryz.call52 rfl (fun w3 F3 hle3 hC _=>look_ret hn hk3 u0 u1 w3 F3 hC) rfl fun sv3=>?_
     refine RW.nil ?_
     exact PW.meet sv3 ⟨rfl,rfl,rfl,rfl,rfl,trivial⟩ (fun h=>h)
    refine Jy ?_;refine Jc ?_;refine Jy ?_;refine Jf ?_;refine Jy ?_;refine Je ?_;refine Jy ?_;refine EL.hdr rfl rfl rfl rfl ?_;refine Jy ?_;refine Jc ?_;refine Jy ?_;refine EL.idx rfl rfl (by assumption) (by assumption) rfl ?_;refine Jy ?_;refine EL.backed (by assumption) rfl (by assumption) (by assumption) rfl ?_;refine Jw ?_;refine Jb ?_
    refine CW.cond rfl (fun h2=>?_) (fun h2=>?_)
    ·have e3:En.onLate1 e2 u=(({ e2 with opn:=En.dec e2.opn u }:En).ups 1).look u:=by unfold En.onLate1;rw [if_pos (by rw [h2];simp)]
     rw [e3]
     refine Ja ?_;refine Jc ?_;refine Jf ?_;refine Je ?_;refine EL.hdr rfl rfl rfl rfl ?_;refine Jc ?_;refine EL.idx rfl rfl (by assumption) (by assumption) rfl ?_;refine EL.opn (by assumption) rfl (by assumption) (by assumption) rfl ?_
     refine RW.sub rfl rfl rfl rfl ?_
     refine EL.idx rfl rfl (by assumption) (by assumption) rfl ?_
     refine ES.opn (X:=[]) hk2 rfl rfl u0 u1 ?_
     refine RW.nil (PW.code ?_)
     refine Ja ?_;refine Jc ?_;refine Jf ?_;refine Je ?_;refine Je ?_;refine EL.hdr rfl rfl rfl rfl ?_
     refine RW.add rfl rfl rfl rfl ?_
     refine Jf ?_;refine Je ?_;refine Je ?_
     refine ES.up (X:=[]) rfl rfl ?_
     refine RW.nil (PW.code ?_)
     refine CW.region ?_
     refine Jc ?_;refine Jc ?_
     have hk3:=EnOk.ups (v:=1) (hk2.opn1 u.toNat (IntKind.i64.wrap (e2.opn.getD u.toNat 0 - 1)))
     refine RW.callD (enH be a z n m sv2 _) Tryz.call52 rfl (fun w3 F3 hle3 hC _=>look_ret hn hk3 u0 u1 w3 F3 hC) rfl fun sv3=>?_
     refine RW.nil ?_
     exact PW.meet sv3 ⟨rfl,rfl,rfl,rfl,rfl,trivial⟩ (fun h=>h)
    refine CW.skip ?_
    have e3:En.onLate1 e2 u=e2:=by unfold En.onLate1;rw [if_neg (by rw [decide_eq_false h1,h2];simp)]
    rw [e3]
    exact PW.meet sv2 ⟨rfl,rfl,rfl,rfl,rfl,trivial⟩ (fun h=>h)
   refine CW.region ?_
   refine RW.add rfl rfl (w64 (by omega) (by omega)) rfl ?_
   refine Jc ?_
   refine RW.nil ?_
   exact PW.again ⟨(i + 1,En.onLate1 e2 u,sv3),hlt1,hk2.onLate1 hn u0 u1,hS⟩ ⟨rfl,rfl,rfl,rfl,rfl,trivial⟩ (fun h=>h) (by show LF.length - (i + 1) < LF.length - i;omega)
  rw [List.drop_eq_nil_of_le (by omega),List.foldl_nil] at hS
  refine CW.exit rfl ?_
  rw [hS]
  exact PW.meet sv2 ⟨rfl,rfl,trivial⟩ (fun h=>h)
 refine CW.region ?_
 refine Jc ?_;refine Jc ?_
 refine RW.callD (enH be a z n m sv1 _) Tryz.call49 rfl (fun w3 F3 hle3 hC _=>onNoD_ret hs hP hzn hk1 q0 q1 w3 F3 (hz.mono hle3) hC) rfl fun sv3=>?_
 refine RW.nil ?_
 exact PW.ret (rs:=[]) (vs:=[]) Tryz.results54 rfl ResOK.nil fun w hw=>⟨sv3,rfl,hw⟩
end
end Go.Proofs.YtbcdgcodnkgdoaaGreat
namespace Go.Proofs.YtbcdgcodnkgdoaaGreat
open Go Go.RowKit
section
variable {n m np:Nat} {e:En} {s:Es} {q k p r v:Int}
theorem EnOk.onMinus2 (hn:n≤4096) (h:EnOk n m np e) (p0:0≤p) (p1:p < np):EnOk n m np (En.onMinus2 e p):=EnOk.stand hn (EnOk.ups (h.left1 p0 p1)) p0 p1
theorem EnOk.onMinus1 (hs:EsOk n m np s) (h:EnOk n m np e) (r0:0≤r) (r1:r < m):EnOk n m np (En.onMinus1 s e r):=by
 have hn:=hs.small.1
 unfold En.onMinus1
 split
 ·exact h
 dsimp only
 have h1:EnOk n m np ((rowAt s.of r).foldl En.settle (({ e with dead:=e.dead.set r.toNat true }:En).upL s r)):=EnOk.fold (fun e u h u0 u1=>h.settle hn u0 u1) (hs.ofAt r0 r1) (h.kill (s:=s))
 split
 ·exact EnOk.look hn (EnOk.fold (fun e u h u0 u1=>h.onMinus2 hn u0 u1) (hs.beatsAt r0 r1) (EnOk.ups (h1.backs1 _ _))) (hs.headAt r0 r1).1 (hs.headAt r0 r1).2
 ·exact h1
theorem EnOk.onMinus (hs:EsOk n m np s) (h:EnOk n m np e) (q0:0≤q) (q1:q < n):EnOk n m np (En.onMinus s e q):=EnOk.fold (fun e u h u0 u1=>h.onMinus1 hs u0 u1) (hs.inAt q0 q1) h
end
attribute [local irreducible] RW CW
section
variable {be n m np:Nat} {a:EAd} {z:ECs} {e:En} {q k p r:Int} {X:List HP}
set_option maxHeartbeats 16000000 in
theorem onMinus_ret (hs:EsOk n m np z.s) (hP:PrAt z) (hzn:z.np=np) (hk:EnOk n m np e) (q0:0≤q) (q1:q < n) {sv:Value} (w:World) (F:Nat→Prop) (hz:EsOn (mem w (fun b=>¬ F b)) n m z) (hH:Sep (enH be a z n m sv e) w F):
 RetC Tryz.prog 51 [ptrV be,.int .i64 q] w F (fun _:Value=>.tuple #[]) (fun sv2=>enH be a z n m sv2 (En.onMinus z.s e q)):=by
 have hn:=hs.small.1
 have hle:Mem.le (mem w (fun b=>¬ F b)) (mem w (fun b=>¬ F b)):=Mem.le_refl _
 have hr:=hs.rules
 obtain ⟨nB,nO,na,nc,nA,nm,nl,ni⟩:=row_get hz.inn q0 (by rw [hs.inn];exact q1)
 have ns:=sl_small nl
 unfold reach at ns
 refine Calls.enter Tryz.func51 rfl _ rfl rfl (S:=F) (H:=enH be a z n m sv e++[]) hH ?_
 refine Ja ?_;refine Jc ?_;refine Jf ?_;refine Je ?_;refine EL.hdr rfl rfl rfl rfl ?_;refine Jc ?_
 refine RW.indexAddrE nA rfl rfl q0 (by first | exact q1 | (rw [hs.inn];exact q1)) rfl ?_
 refine RW.load_ro rfl hle nm rfl rfl ?_
 refine Jg ?_;refine Jc ?_;refine Jb ?_
 have hnl:=hs.inAt q0 q1
 unfold En.onMinus
 generalize rowAt z.s.inn q=LN at *
 refine CW.block ?_
 refine CW.loop (ι:={ qq:Nat × En × Value // qq.1≤LN.length∧EnOk n m np qq.2.1∧LN.foldl (En.onMinus1 z.s) e=(LN.drop qq.1).foldl (En.onMinus1 z.s) qq.2.1 })
  (fun qq=>[(0,ptrV be),(1,.int .i64 q),(17,.slice na LN.length nc),(18,.int .i64 LN.length),(19,.int .i64 qq.1.1)]) (fun qq=>enH be a z n m qq.1.2.2 qq.1.2.1++[]) (fun qq=>LN.length - qq.1.1) ⟨(0,e,sv),Nat.zero_le _,hk,rfl⟩ ⟨rfl,rfl,rfl,rfl,rfl,trivial⟩ (fun h=>h) ?_
 intro ⟨⟨i,e2,sv2⟩,hi,hk2,hS⟩
 dsimp only at hi hk2 hS ⊢
 refine Ja ?_;refine Jk ?_;refine Jb ?_
 refine CW.seq ?_
 refine CW.ite rfl (fun hlt=>?_) (fun hge=>?_)
 ·have hlt1:i < LN.length:=by omega
  rw [List.drop_eq_getElem_cons hlt1,List.foldl_cons] at hS
  obtain ⟨B4,O4,hA4,hm4,_⟩:=ints_get nl (List.getElem?_eq_getElem hlt1)
  obtain ⟨u0,u1⟩:=hnl _ (List.getElem_mem hlt1)
  generalize LN[i]=u at *
  refine CW.skip ?_
  refine PW.code ?_
  refine CW.cut (ι:=Value) (fun _=>[(0,ptrV be),(1,.int .i64 q),(17,.slice na LN.length nc),(18,.int .i64 LN.length),(19,.int .i64 i)]) (fun sv3=>enH be a z n m sv3 ((En.onMinus1 z.s) e2 u)++[]) ?_ (fun sv3=>?_)
  ·refine CW.block ?_
   refine Ja ?_
   refine RW.indexAddrE hA4 rfl rfl (by omega) hlt rfl ?_
   refine RW.load_ro rfl hle (ints_at hm4) rfl rfl ?_
   refine Jd ?_;refine Jb ?_
   obtain ⟨rB,rO,ra,rc,rA,rm,rl,ri⟩:=rule_at hz.th u0 (by rw [hs.rules];exact u1)
   have rs:=sl_small rl
   unfold reach at rs
   obtain ⟨fB,fO,fa,fc,fA,fm,fl,fi⟩:=row_get hz.of u0 (by rw [hs.of];exact u1)
   have fs:=sl_small fl
   unfold reach at fs
   obtain ⟨bB,bO,ba,bc,bA,bm,bl,bi⟩:=row_get hz.beats u0 (by rw [hs.beats];exact u1)
   have bs:=sl_small bl
   unfold reach at bs
   refine CW.seq ?_
   refine Ja ?_;refine Jc ?_;refine Jc ?_;refine Jf ?_;refine Je ?_;refine EL.hdr rfl rfl rfl rfl ?_;refine Jc ?_
   refine RW.callD (enH be a z n m sv2 e2) Tryz.call84 rfl (fun w3 F3 hle3 hC _=>kill_ret hk2 hs u0 u1 w3 F3 (hz.mono hle3) hC) rfl fun _=>?_
   refine Js ?_;refine Jb ?_
   refine CW.cond rfl (fun h2=>?_) (fun h2=>?_)
   ·rw [Bool.not_not] at h2
    have e3:En.onMinus1 z.s e2 u=e2:=by unfold En.onMinus1;rw [if_pos h2]
    rw [if_pos h2]
    refine CW.exit rfl ?_
    rw [e3]
    exact PW.meet sv2 ⟨rfl,rfl,rfl,rfl,rfl,trivial⟩ (fun h=>h)
   rw [Bool.not_not] at h2
   rw [h2,if_neg Bool.false_ne_true]
   have hk3:=hk2.kill (s:=z.s) (r:=u)
   obtain ⟨hd0,hd1⟩:=hs.headAt u0 u1
   have e3:En.onMinus1 z.s e2 u=if supD z.s.t u then ((rowAt z.s.beats u).foldl En.onMinus2 (({ ((rowAt z.s.of u).foldl En.settle (En.kill z.s e2 u)) with backs:=En.dec ((rowAt z.s.of u).foldl En.settle (En.kill z.s e2 u)).backs (ruleAt z.s.t u).2.1 }:En).ups 1)).look (ruleAt z.s.t u).2.1 else (rowAt z.s.of u).foldl En.settle (En.kill z.s e2 u):=by unfold En.onMinus1;rw [if_neg (by rw [h2];simp)];rfl
   rw [e3]
   clear e3
   generalize En.kill z.s e2 u=e4 at *
   have hk5:EnOk n m np ((rowAt z.s.of u).foldl En.settle e4):=EnOk.fold (fun e u h u0 u1=>h.settle hn u0 u1) (hs.ofAt u0 u1) hk3
   have hofs:=hs.ofAt u0 u1
   have hbts:=hs.beatsAt u0 u1
   have hofl:=hs.of
   have hbtl:=hs.beats
   refine CW.skip ?_
   refine PW.code ?_
   refine CW.cut (ι:=Value) (fun _=>[(0,ptrV be),(1,.int .i64 q),(5,.int .i64 u),(17,.slice na LN.length nc),(18,.int .i64 LN.length),(19,.int .i64 i)]) (fun sv1=>enH be a z n m sv1 ((rowAt z.s.of u).foldl En.settle e4)++[]) ?_ (fun sv1=>?_)
   ·refine Ja ?_;refine Jc ?_;refine Jf ?_;refine Je ?_;refine EL.hdr rfl rfl rfl rfl ?_;refine Jc ?_
    refine RW.indexAddrE fA rfl rfl u0 (by first | exact u1 | (rw [hofl];exact u1)) rfl ?_
    refine RW.load_ro rfl hle fm rfl rfl ?_
    refine Jg ?_;refine Jc ?_;refine Jb ?_
    generalize rowAt z.s.of u=LF at *
    refine CW.block ?_
    refine CW.loop (ι:={ qq:Nat × En × Value // qq.1≤LF.length∧EnOk n m np qq.2.1∧LF.foldl En.settle e4=(LF.drop qq.1).foldl En.settle qq.2.1 })
     (fun qq=>[(0,ptrV be),(1,.int .i64 q),(5,.int .i64 u),(17,.slice na LN.length nc),(18,.int .i64 LN.length),(19,.int .i64 i),(37,.slice fa LF.length fc),(38,.int .i64 LF.length),(39,.int .i64 qq.1.1)]) (fun qq=>enH be a z n m qq.1.2.2 qq.1.2.1++[]) (fun qq=>LF.length - qq.1.1) ⟨(0,e4,sv2),Nat.zero_le _,hk3,rfl⟩ ⟨rfl,rfl,rfl,rfl,rfl,rfl,rfl,rfl,rfl,trivial⟩ (fun h=>h) ?_
    intro ⟨⟨ix,e2x,sv2x⟩,hix,hk2x,hSx⟩
    dsimp only at hix hk2x hSx ⊢
    refine Ja ?_;refine Jk ?_;refine Jb ?_
    refine CW.seq ?_
    refine CW.ite rfl (fun hltx=>?_) (fun hgex=>?_)
    ·have hlt1x:ix < LF.length:=by omega
     rw [List.drop_eq_getElem_cons hlt1x,List.foldl_cons] at hSx
     obtain ⟨B4x,O4x,hA4x,hm4x,_⟩:=ints_get fl (List.getElem?_eq_getElem hlt1x)
     obtain ⟨u0x,u1x⟩:=hofs _ (List.getElem_mem hlt1x)
     generalize LF[ix]=ux at *
     refine CW.skip ?_
     refine PW.code ?_
     refine CW.cut (ι:=Value) (fun _=>[(0,ptrV be),(1,.int .i64 q),(5,.int .i64 u),(17,.slice na LN.length nc),(18,.int .i64 LN.length),(19,.int .i64 i),(37,.slice fa LF.length fc),(38,.int .i64 LF.length),(39,.int .i64 ix)]) (fun sv3=>enH be a z n m sv3 (En.settle e2x ux)++[]) ?_ (fun sv3x=>?_)
     ·refine CW.block ?_
      refine Ja ?_
      refine RW.indexAddrE hA4x rfl rfl (by omega) hltx rfl ?_
      refine RW.load_ro rfl hle (ints_at hm4x) rfl rfl ?_
      refine Jd ?_;refine Jb ?_
      refine CW.region ?_
      refine Jc ?_;refine Jc ?_
      obtain ⟨PB,hPB⟩:=hP (by omega)
      refine RW.callD (enH be a z n m sv2x e2x) Tryz.call86 rfl (fun w3 F3 hle3 hC _=>settle_ret hn hk2x hPB hzn u0x u1x w3 F3 hC) rfl fun sv3=>?_
      refine RW.nil ?_
      exact PW.meet sv3 ⟨rfl,rfl,rfl,rfl,rfl,rfl,rfl,rfl,rfl,trivial⟩ (fun h=>h)
     refine CW.region ?_
     refine RW.add rfl rfl (w64 (by omega) (by omega)) rfl ?_
     refine Jc ?_
     refine RW.nil ?_
     exact PW.again ⟨(ix + 1,En.settle e2x ux,sv3x),hlt1x,hk2x.settle hn u0x u1x,hSx⟩ ⟨rfl,rfl,rfl,rfl,rfl,rfl,rfl,rfl,rfl,trivial⟩ (fun h=>h) (by show LF.length - (ix + 1) < LF.length - ix;omega)
    rw [List.drop_eq_nil_of_le (by omega),List.foldl_nil] at hSx
    refine CW.exit rfl ?_
    rw [hSx]
    exact PW.meet sv2x ⟨rfl,rfl,rfl,rfl,rfl,rfl,trivial⟩ (fun h=>h)
   generalize (rowAt z.s.of u).foldl En.settle e4=e5 at *
   refine CW.seq ?_
   refine Ja ?_;refine Jc ?_;refine Jc ?_
   refine RW.call Tryz.call79 rfl (fun w hw=>support_ret hw (hz.mono (ro_call hw)) hs u0 u1) rfl ?_
   refine Js ?_;refine Jb ?_
   refine CW.cond rfl (fun h3=>?_) (fun h3=>?_)
   ·rw [Bool.not_eq_true'] at h3
    rw [if_neg (by simp [h3])]
    refine CW.exit rfl ?_
    exact PW.meet sv1 ⟨rfl,rfl,rfl,rfl,rfl,trivial⟩ (fun h=>h)
   rw [Bool.not_eq_false'] at h3
   rw [if_pos h3]
   refine CW.skip ?_
   refine PW.code ?_
   refine Ja ?_;refine Jc ?_;refine Jf ?_;refine Je ?_;refine Je ?_;refine EL.hdr rfl rfl rfl rfl ?_;refine Jc ?_
   refine RW.indexAddrE rA rfl rfl u0 (by rw [hr];exact u1) rfl ?_
   refine Je ?_
   refine RW.load_ro rfl hle (rm 1 _ rfl) rfl rfl ?_
   refine Jd ?_;refine Jb ?_;refine Ja ?_;refine Jc ?_;refine Jf ?_;refine Je ?_;refine EL.hdr rfl rfl rfl rfl ?_;refine Jc ?_;refine EL.idx rfl rfl (by assumption) (by assumption) rfl ?_;refine EL.backs (by assumption) rfl (by assumption) (by assumption) rfl ?_
   refine RW.sub rfl rfl rfl rfl ?_
   refine EL.idx rfl rfl (by assumption) (by assumption) rfl ?_
   refine ES.backs (X:=[]) hk5 rfl rfl hd0 hd1 ?_
   refine RW.nil (PW.code ?_)
   refine Ja ?_;refine Jc ?_;refine Jf ?_;refine Je ?_;refine Je ?_;refine EL.hdr rfl rfl rfl rfl ?_
   refine RW.add rfl rfl rfl rfl ?_
   refine Jf ?_;refine Je ?_;refine Je ?_
   refine ES.up (X:=[]) rfl rfl ?_
   refine RW.nil (PW.code ?_)
   have hk6:=EnOk.ups (v:=1) (hk5.backs1 (ruleAt z.s.t u).2.1.toNat (IntKind.i64.wrap (e5.backs.getD (ruleAt z.s.t u).2.1.toNat 0 - 1)))
   refine CW.sep (enH be a z n m sv1 (({ e5 with backs:=En.dec e5.backs (ruleAt z.s.t u).2.1 }:En).ups 1)++[]) (fun w A h=>h) ?_
   have hk7:EnOk n m np (({ e5 with backs:=En.dec e5.backs (ruleAt z.s.t u).2.1 }:En).ups 1):=hk6
   clear hk6
   generalize ({ e5 with backs:=En.dec e5.backs (ruleAt z.s.t u).2.1 }:En).ups 1=e6 at *
   refine CW.seq ?_
   refine Ja ?_;refine Jc ?_;refine Jf ?_;refine Je ?_;refine EL.hdr rfl rfl rfl rfl ?_;refine Jc ?_
   refine RW.indexAddrE bA rfl rfl u0 (by first | exact u1 | (rw [hbtl];exact u1)) rfl ?_
   refine RW.load_ro rfl hle bm rfl rfl ?_
   refine Jg ?_;refine Jc ?_;refine Jb ?_
   generalize rowAt z.s.beats u=LB at *
   refine CW.block ?_
   refine CW.loop (ι:={ qq:Nat × En × Value // qq.1≤LB.length∧EnOk n m np qq.2.1∧LB.foldl En.onMinus2 e6=(LB.drop qq.1).foldl En.onMinus2 qq.2.1 })
    (fun qq=>[(0,ptrV be),(1,.int .i64 q),(5,.int .i64 u),(17,.slice na LN.length nc),(18,.int .i64 LN.length),(19,.int .i64 i),(8,.int .i64 (ruleAt z.s.t u).2.1),(84,.slice ba LB.length bc),(85,.int .i64 LB.length),(86,.int .i64 qq.1.1)]) (fun qq=>enH be a z n m qq.1.2.2 qq.1.2.1++[]) (fun qq=>LB.length - qq.1.1) ⟨(0,e6,sv1),Nat.zero_le _,hk7,rfl⟩ ⟨rfl,rfl,rfl,rfl,rfl,rfl,rfl,rfl,rfl,rfl,trivial⟩ (fun h=>h) ?_
   intro ⟨⟨iy,e2y,sv2y⟩,hiy,hk2y,hSy⟩
   dsimp only at hiy hk2y hSy ⊢
   refine Ja ?_;refine Jk ?_;refine Jb ?_
   refine CW.seq ?_
   refine CW.ite rfl (fun hlty=>?_) (fun hgey=>?_)
   ·have hlt1y:iy < LB.length:=by omega
    rw [List.drop_eq_getElem_cons hlt1y,List.foldl_cons] at hSy
    obtain ⟨B4y,O4y,hA4y,hm4y,_⟩:=ints_get bl (List.getElem?_eq_getElem hlt1y)
    obtain ⟨u0y,u1y⟩:=hbts _ (List.getElem_mem hlt1y)
    generalize LB[iy]=uy at *
    refine CW.skip ?_
    refine PW.code ?_
    refine CW.cut (ι:=Value) (fun _=>[(0,ptrV be),(1,.int .i64 q),(5,.int .i64 u),(17,.slice na LN.length nc),(18,.int .i64 LN.length),(19,.int .i64 i),(8,.int .i64 (ruleAt z.s.t u).2.1),(84,.slice ba LB.length bc),(85,.int .i64 LB.length),(86,.int .i64 iy)]) (fun sv3=>enH be a z n m sv3 (En.onMinus2 e2y uy)++[]) ?_ (fun sv3y=>?_)
    ·refine CW.block ?_
     refine Ja ?_
     refine RW.indexAddrE hA4y rfl rfl (by omega) hlty rfl ?_
     refine RW.load_ro rfl hle (ints_at hm4y) rfl rfl ?_
     refine Jd ?_;refine Jb ?_;refine Ja ?_;refine Jc ?_;refine Jf ?_;refine Je ?_;refine EL.hdr rfl rfl rfl rfl ?_;refine Jc ?_
     obtain ⟨PB,hPB⟩:=hP (by omega)
     have hx2:=pair_get hk2y u0y u1y
     refine RW.indexAddrE hPB rfl rfl u0y (by rw [hzn];exact u1y) rfl ?_
     refine Je ?_
     refine EL.pair (j:=3) hk2y hPB rfl (by omega) u0y u1y rfl rfl rfl ?_
     refine RW.sub rfl rfl rfl rfl ?_
     refine RW.indexAddrE hPB rfl rfl u0y (by rw [hzn];exact u1y) rfl ?_
     refine Je ?_
     refine ES.left (X:=[]) hk2y hPB rfl (by omega) rfl u0y u1y ?_
     refine RW.nil (PW.code ?_)
     refine Ja ?_;refine Jc ?_;refine Jf ?_;refine Je ?_;refine Je ?_;refine EL.hdr rfl rfl rfl rfl ?_
     refine RW.add rfl rfl rfl rfl ?_
     refine Jf ?_;refine Je ?_;refine Je ?_
     refine ES.up (X:=[]) rfl rfl ?_
     refine RW.nil (PW.code ?_)
     refine CW.region ?_
     refine Jc ?_;refine Jc ?_
     have hk3:=EnOk.ups (v:=1) (hk2y.left1 (v:=IntKind.i64.wrap ((e2y.pair uy).2.2.2 - 1)) u0y u1y)
     refine RW.callD (enH be a z n m sv2y _) Tryz.call87 rfl (fun w3 F3 hle3 hC _=>stand_ret hn hk3 hPB hzn u0y u1y w3 F3 hC) rfl fun sv3=>?_
     refine RW.nil ?_
     exact PW.meet sv3 ⟨rfl,rfl,rfl,rfl,rfl,rfl,rfl,rfl,rfl,rfl,trivial⟩ (fun h=>h)
    refine CW.region ?_
    refine RW.add rfl rfl (w64 (by omega) (by omega)) rfl ?_
    refine Jc ?_
    refine RW.nil ?_
    exact PW.again ⟨(iy + 1,En.onMinus2 e2y uy,sv3y),hlt1y,hk2y.onMinus2 hn u0y u1y,hSy⟩ ⟨rfl,rfl,rfl,rfl,rfl,rfl,rfl,rfl,rfl,rfl,trivial⟩ (fun h=>h) (by show LB.length - (iy + 1) < LB.length - iy;omega)
   rw [List.drop_eq_nil_of_le (by omega),List.foldl_nil] at hSy
   refine CW.exit rfl ?_
   refine PW.code ?_
   rw [hSy]
   refine CW.region ?_
   refine Jc ?_;refine Jc ?_
   refine RW.callD (enH be a z n m sv2y e2y) Tryz.call52 rfl (fun w3 F3 hle3 hC _=>look_ret hn hk2y hd0 hd1 w3 F3 hC) rfl fun sv4=>?_
   refine RW.nil ?_
   exact PW.meet sv4 ⟨rfl,rfl,rfl,rfl,rfl,trivial⟩ (fun h=>h)
  refine CW.region ?_
  refine RW.add rfl rfl (w64 (by omega) (by omega)) rfl ?_
  refine Jc ?_
  refine RW.nil ?_
  exact PW.again ⟨(i + 1,(En.onMinus1 z.s) e2 u,sv3),hlt1,hk2.onMinus1 hs u0 u1,hS⟩ ⟨rfl,rfl,rfl,rfl,rfl,trivial⟩ (fun h=>h) (by show LN.length - (i + 1) < LN.length - i;omega)
 rw [List.drop_eq_nil_of_le (by omega),List.foldl_nil] at hS
 refine CW.exit rfl ?_
 rw [hS]
 exact PW.ret (rs:=[]) (vs:=[]) Tryz.results51 rfl ResOK.nil fun w hw=>⟨sv2,rfl,hw⟩
end
end Go.Proofs.YtbcdgcodnkgdoaaGreat
namespace Go.Proofs.YtbcdgcodnkgdoaaGreat
open Go Go.RowKit
def inR64 (l:List Int):Prop:=∀ x∈l,inR .i64 x
def innerHP (sk:Option Nat) (e2:TypeId) (es:List (List Value)) (L:List (List Int)):HP where
 p w F:=es.length=L.length∧∃ G:Nat→Nat→Prop,(∀ i b,G i b→F b)∧(∀ i j b,i≠j→G i b→¬ G j b)∧∀ (i:Nat) (l:List Int),sk≠some i→L[i]?=some l→∃ u,es[i]?=some [u]∧(ownHP e2 1 u (l.map intE)).p w (G i)
 st:=fun h hs ⟨h1,G,h2,h3,h4⟩=>⟨h1,G,h2,h3,fun i l hk hl=>let ⟨u,h5,h6⟩:=h4 i l hk hl;⟨u,h5,(ownHP e2 1 u (l.map intE)).st (fun b hb=>h b (h2 i b hb)) hs h6⟩⟩
 up:=fun h ⟨h1,G,h2,h3,h4⟩=>⟨h1,G,fun i b hb=>h b (h2 i b hb),h3,h4⟩
def rowsHP (e e2:TypeId) (v:Value) (L:List (List Int)):HP:=exHP fun es=>starHP (ownHP e 1 v es) (innerHP none e2 es L)
section
variable {w:World} {A:Nat→Prop} {r:List HP} {l:List Int} {es:List (List Value)} {L:List (List Int)} {v v':Value} {i:Nat} {e e2:TypeId}
theorem rows_split (h:Sep (rowsHP e e2 v L::r) w A):∃ es,Sep (ownHP e 1 v es::innerHP none e2 es L::r) w A:=by
 obtain ⟨F,hF,⟨es,F0,h0,h1,h2⟩,hr⟩:=h
 exact ⟨es,F0,fun b hb=>hF b (h0 b hb),h1,fun b=>F b∧¬ F0 b,fun b hb=>⟨⟨(hF b hb.1).1,hb.2⟩,(hF b hb.1).2⟩,h2,Sep.up (fun b hb=>⟨⟨hb.1,fun h=>hb.2 (h0 b h)⟩,fun h=>hb.2 h.1⟩) hr⟩
theorem rows_join (h:Sep (ownHP e 1 v es::innerHP none e2 es L::r) w A):Sep (rowsHP e e2 v L::r) w A:=by
 obtain ⟨F0,hF0,h1,F1,hF1,h2,hr⟩:=h
 refine ⟨fun b=>F0 b∨F1 b,fun b hb=>hb.elim (hF0 b) (fun h=>⟨(hF1 b h).1.1,(hF1 b h).2⟩),⟨es,F0,fun b hb=>.inl hb,h1,(innerHP none e2 es L).up (fun b hb=>⟨.inr hb,(hF1 b hb).1.2⟩) h2⟩,Sep.up (fun b hb=>⟨hb.1.1,fun h=>h.elim hb.1.2 hb.2⟩) hr⟩
theorem inner_focus (hl:L[i]?=some l) (h:Sep (innerHP none e2 es L::r) w A):∃ u,(es[i]?=some [u]∧es.length=L.length)∧Sep (ownHP e2 1 u (l.map intE)::innerHP (some i) e2 es L::r) w A:=by
 obtain ⟨F,hF,⟨h1,G,h2,h3,h4⟩,hr⟩:=h
 obtain ⟨u,h5,h6⟩:=h4 i l (by simp) hl
 refine ⟨u,⟨h5,h1⟩,G i,fun b hb=>hF b (h2 i b hb),h6,fun b=>F b∧¬ G i b,fun b hb=>⟨⟨(hF b hb.1).1,hb.2⟩,(hF b hb.1).2⟩,⟨h1,fun j b=>G j b∧¬ G i b,fun j b hb=>⟨h2 j b hb.1,hb.2⟩,fun j k b hjk hb hb2=>h3 j k b hjk hb.1 hb2.1,fun j l2 hj hl2=>?_⟩,Sep.up (fun b hb=>⟨⟨hb.1,fun h=>hb.2 (h2 i b h)⟩,fun h=>hb.2 h.1⟩) hr⟩
 obtain ⟨u2,h7,h8⟩:=h4 j l2 (by simp) hl2
 exact ⟨u2,h7,(ownHP e2 1 u2 (l2.map intE)).up (fun b hb=>⟨hb,fun hg=>h3 i j b (by simpa using hj) hg hb⟩) h8⟩
theorem inner_put (hi:i < L.length) (h:Sep (ownHP e2 1 v' (l.map intE)::innerHP (some i) e2 es L::r) w A):Sep (innerHP none e2 (es.set i [v']) (L.set i l)::r) w A:=by
 obtain ⟨F0,hF0,h0,F,hF,⟨h1,G,h2,h3,h4⟩,hr⟩:=h
 refine ⟨fun b=>F0 b∨F b,fun b hb=>hb.elim (hF0 b) (fun h=>⟨(hF b h).1.1,(hF b h).2⟩),⟨by simpa using h1,fun j b=>if j=i then F0 b else G j b∧F b,fun j b hb=>?_,fun j k b hjk hb hb2=>?_,fun j l2 _ hl2=>?_⟩,Sep.up (fun b hb=>⟨hb.1.1,fun h=>h.elim hb.1.2 hb.2⟩) hr⟩
 ·dsimp only at hb
  split at hb
  ·exact .inl hb
  ·exact .inr hb.2
 ·dsimp only at hb hb2
  split at hb <;> split at hb2
  ·rename_i a b;exact hjk (a.trans b.symm)
  ·exact (hF b hb2.2).1.2 hb
  ·exact (hF b hb.2).1.2 hb2
  ·exact h3 j k b hjk hb.1 hb2.1
 ·by_cases hj:i=j
  ·subst hj
   rw [List.getElem?_set_self hi] at hl2
   simp only [Option.some.injEq] at hl2
   subst hl2
   refine ⟨v',by rw [List.getElem?_set_self (by omega)],?_⟩
   simpa using h0
  ·rw [List.getElem?_set_ne hj] at hl2
   obtain ⟨u2,h5,h6⟩:=h4 j l2 (by simpa using hj) hl2
   refine ⟨u2,by rw [List.getElem?_set_ne hj];exact h5,?_⟩
   refine (ownHP e2 1 u2 (l2.map intE)).up (fun b hb=>?_) h6
   dsimp only
   rw [if_neg (fun e=>hj (Eq.symm e))]
   exact ⟨hb,h2 j b hb⟩
theorem rows_focus (hl:L[i]?=some l) (h:Sep (rowsHP e e2 v L::r) w A):
 ∃ q:List (List Value) × Value,(q.1[i]?=some [q.2]∧q.1.length=L.length)∧Sep (ownHP e 1 v q.1::ownHP e2 1 q.2 (l.map intE)::innerHP (some i) e2 q.1 L::r) w A:=by
 obtain ⟨es,h1⟩:=rows_split h
 obtain ⟨F,hF,ho,h2⟩:=h1
 obtain ⟨u,h3,h4⟩:=inner_focus hl h2
 exact ⟨(es,u),h3,F,hF,ho,h4⟩
theorem rows_unfocus (hi:i < L.length) (h:Sep (ownHP e 1 v (es.set i [v'])::ownHP e2 1 v' (l.map intE)::innerHP (some i) e2 es L::r) w A):Sep (rowsHP e e2 v (L.set i l)::r) w A:=
 rows_join (Sep.cons_perm (fun A h=>inner_put hi h) h)
theorem rows_new {n:Nat} (h:Sep (ownHP e 1 v (List.replicate n [.slice none 0 0])::r) w A):Sep (rowsHP e e2 v (List.replicate n [])::r) w A:=by
 obtain ⟨F,hF,hc,hr⟩:=h
 refine rows_join ⟨F,hF,hc,fun _=>False,fun b h=>h.elim,⟨by simp,fun _ _=>False,fun i b h=>h.elim,fun i j b _ h=>h.elim,fun i l _ hl=>?_⟩,Sep.up (fun b hb=>⟨hb,fun h=>h⟩) hr⟩
 have e2:l=[]:=(List.mem_replicate.1 (List.mem_of_getElem? hl)).2
 have e3:=(List.getElem?_eq_some_iff.1 hl).1
 rw [List.length_replicate] at e3
 subst e2
 exact ⟨.slice none 0 0,by rw [List.getElem?_replicate,if_pos e3],.inl ⟨rfl,rfl⟩⟩
theorem ints_own {F:Nat→Prop} (hb:l.length * 8≤reach) (hi:inR64 l) (h:(ownHP e2 1 v (l.map intE)).p w F):OwnD kInts w F [v] l:=
 ⟨v,e2,l.map intE,F,fun _ _=>False,rfl,h,fun b hb=>hb,hb,by simp,fun i b h=>h.elim,fun i j b _ h=>h.elim,fun i cs y hc hy=>by
  rw [List.getElem?_map,hy] at hc
  simp only [Option.map_some,Option.some.injEq] at hc
  exact ⟨hc.symm,hi _ (List.mem_of_getElem? hy)⟩⟩
theorem rows_own (hL:L.length * 24≤reach) (hl:∀ l∈L,l.length * 8≤reach∧inR64 l) (h:Sep (rowsHP e e2 v L::r) w A):Sep (ownDHP kLists [v] L::r) w A:=by
 obtain ⟨es,h1⟩:=rows_split h
 obtain ⟨F0,hF0,ho,F,hF,⟨h2,G,h3,h4,h5⟩,hr⟩:=h1
 refine slice_close (t:=kInts) (e:=e) (es:=es) rfl hL ⟨F0,hF0,ho,F,hF,⟨h2,G,h3,h4,fun i cs y _ hc hy=>?_⟩,hr⟩
 obtain ⟨u,h6,h7⟩:=h5 i y (by simp) hy
 rw [h6] at hc
 simp only [Option.some.injEq] at hc
 subst hc
 obtain ⟨h8,h9⟩:=hl y (List.mem_of_getElem? hy)
 exact ints_own h8 h9 h7
end
end Go.Proofs.YtbcdgcodnkgdoaaGreat
namespace Go.Proofs.YtbcdgcodnkgdoaaGreat
open Go Go.RowKit
abbrev mpHP (b:Nat) (D:List (Int × Int)):HP:=mapHP (Value.int .i64) (Value.int .i64) (.int .i64) b D
abbrev mapE (o:Option Nat):List Value:=[.map o]
def mapsHP (sk:Option Nat) (bs:List (Option Nat)) (D:List (List (Int × Int))):HP where
 p w F:=(∀ (i b:Nat),sk≠some i→bs[i]?=some (some b)→F b∧MapAt w (Value.int .i64) (Value.int .i64) b (D.getD i []))∧(∀ (i j b:Nat),sk≠some i→sk≠some j→bs[i]?=some (some b)→bs[j]?=some (some b)→i=j)
 st:=fun h _ ⟨k1,k2⟩=>⟨fun i b hs hb=>by
  obtain ⟨h1,es,clock,h2,h3⟩:=k1 i b hs hb
  exact ⟨h1,es,clock,(h b h1 (Array.getElem?_eq_some_iff.1 h2).1).trans h2,h3⟩,k2⟩
 up:=fun h ⟨k1,k2⟩=>⟨fun i b hs hb=>⟨h b (k1 i b hs hb).1,(k1 i b hs hb).2⟩,k2⟩
section
variable {w:World} {A:Nat→Prop} {r:List HP} {bs:List (Option Nat)} {D:List (List (Int × Int))} {i b n:Nat} {D':List (Int × Int)}
theorem maps_focus (hb:bs[i]?=some (some b)) (h:Sep (mapsHP none bs D::r) w A):Sep (mpHP b (D.getD i [])::mapsHP (some i) bs D::r) w A:=by
 obtain ⟨F,hF,⟨k1,k2⟩,hr⟩:=h
 obtain ⟨f1,f2⟩:=k1 i b (by simp) hb
 refine ⟨fun x=>x=b,fun x hx=>hx ▸ hF b f1,⟨rfl,f2⟩,fun x=>F x∧x≠b,fun x hx=>⟨⟨(hF x hx.1).1,hx.2⟩,(hF x hx.1).2⟩,⟨fun j c hj hc=>?_,fun j1 j2 c h1 h2=>k2 j1 j2 c (by simp) (by simp)⟩,Sep.up (fun x hx=>⟨⟨hx.1,fun e=>hx.2 (e ▸ f1)⟩,fun hf=>hx.2 hf.1⟩) hr⟩
 obtain ⟨g1,g2⟩:=k1 j c (by simp) hc
 exact ⟨⟨g1,fun e=>hj (by rw [k2 i j c (by simp) (by simp) (e ▸ hb) hc])⟩,g2⟩
theorem maps_skip (h:Sep (mapsHP none bs D::r) w A):Sep (mapsHP (some i) bs D::r) w A:=by
 obtain ⟨F,hF,⟨k1,k2⟩,hr⟩:=h
 exact ⟨F,hF,⟨fun j c _ hc=>k1 j c (by simp) hc,fun j1 j2 c _ _=>k2 j1 j2 c (by simp) (by simp)⟩,hr⟩
theorem maps_put (h1:i < bs.length) (h2:i < D.length) (h:Sep (mpHP b D'::mapsHP (some i) bs D::r) w A):Sep (mapsHP none (bs.set i (some b)) (D.set i D')::r) w A:=by
 obtain ⟨F,hF,⟨hb,hm⟩,F2,hF2,⟨k1,k2⟩,hr⟩:=h
 refine ⟨fun x=>F x∨F2 x,fun x hx=>hx.elim (hF x) (fun h=>⟨(hF2 x h).1.1,(hF2 x h).2⟩),⟨fun j c _ hc=>?_,fun j1 j2 c _ _ hc1 hc2=>?_⟩,Sep.up (fun x hx=>⟨hx.1.1,fun e=>e.elim hx.1.2 hx.2⟩) hr⟩
 ·by_cases e:i=j
  ·subst e
   rw [List.getElem?_set_self h1] at hc
   simp only [Option.some.injEq] at hc
   subst hc
   refine ⟨.inl hb,?_⟩
   rw [List.getD_eq_getElem?_getD,List.getElem?_set_self h2]
   exact hm
  ·rw [List.getElem?_set_ne e] at hc
   obtain ⟨g1,g2⟩:=k1 j c (by simpa using e) hc
   refine ⟨.inr g1,?_⟩
   rw [List.getD_eq_getElem?_getD,List.getElem?_set_ne e,← List.getD_eq_getElem?_getD]
   exact g2
 ·have new:∀ j c,(bs.set i (some b))[j]?=some (some c)→(i=j∧c=b)∨(i≠j∧bs[j]?=some (some c)∧c≠b):=fun j c hc=>by
   by_cases e:i=j
   ·subst e
    rw [List.getElem?_set_self h1] at hc
    simp only [Option.some.injEq] at hc
    exact .inl ⟨rfl,hc.symm⟩
   ·rw [List.getElem?_set_ne e] at hc
    exact .inr ⟨e,hc,fun e2=>(hF2 c (k1 j c (by simpa using e) hc).1).1.2 (e2 ▸ hb)⟩
  rcases new j1 c hc1 with ⟨a1,a2⟩ | ⟨a1,a2,a3⟩ <;> rcases new j2 c hc2 with ⟨b1,b2⟩ | ⟨b1,b2,b3⟩
  ·exact a1.symm.trans b1
  ·exact absurd a2 b3
  ·exact absurd b2 a3
  ·exact k2 j1 j2 c (by simpa using a1) (by simpa using b1) a2 b2
theorem maps_new (h:Sep r w A):Sep (mapsHP none (List.replicate n none) D::r) w A:=by
 have key:∀ (i b:Nat),(List.replicate n (none:Option Nat))[i]?=some (some b)→False:=fun i b h=>by
  have:=(List.mem_replicate.1 (List.mem_of_getElem? h)).2
  cases this
 exact ⟨fun _=>False,fun b h=>h.elim,⟨fun i b _ h=>(key i b h).elim,fun i j b _ _ h=>(key i b h).elim⟩,Sep.up (fun b hb=>⟨hb,fun h=>h⟩) h⟩
end
section
variable {P:Program} {E:Env} {ops:Array Oper} {Q:Pst} {rest:List Oper} {G:List (Nat × Value)} {H:List HP}
variable {dst:Nat} {ty t kt et:TypeId} {pos:String} {af:Array Edge} {ty':TypeId} {z:Value} {sz by_:Nat} {x y:Operand} {o:Option Nat}
theorem run_equal_map_nil [T:Ty P t (.map kt et) z sz by_] (o:Option Nat) (w:World):(Op.equal t (.map o) (.map none)).run P w=.ok o.isNone w:=by
 have:∀ i,(Op.equalIn (i + 1) t (.map o) (.map none)).run P w=.ok o.isNone w:=fun i=>by cases o <;> simp [Op.equalIn,T.runUnd]
 exact this 9999
theorem RW.eqlMapNil [T:Ty P t (.map kt et) z sz by_] (hx:ev G x=some (.map o)) (hy:ev G y=some (.map none)) (hN:Nat.blt dst E.N=true) (kk:RW P E ops Q rest ((dst,.bool o.isNone)::G) H):
 RW P E ops Q (⟨some dst,.binOp .eql t x y ty',ty,pos,af,none⟩::rest) G H:=
 RW.val hN (fun f w hf _=>by
  have h1:∀ w,(eqGuard .eql t x y (.map o) (.map none)).run P w=.ok () w:=fun w=>by unfold eqGuard;split <;> rfl
  simp [execOp,hf.eval hx,hf.eval hy,h1,binOp,run_equal_map_nil (kt:=kt) (et:=et)]) kk
end
end Go.Proofs.YtbcdgcodnkgdoaaGreat
namespace Go.Proofs.YtbcdgcodnkgdoaaGreat
open Go Go.RowKit
def upto {α:Type} (f:α→Nat→α):Nat→Nat→α→α
 | 0,_,e=>e
 | k + 1,i,e=>upto f k (i + 1) (f e i)
def pushAt (l:List (List Int)) (b r:Int):List (List Int):=l.set b.toNat (rowAt l b++[r])
namespace En
def inc (l:List Int) (q:Int):List Int:=l.set q.toNat (w64 (l.getD q.toNat 0 + 1))
def lay0 (n m:Nat):En:=⟨List.replicate n 0,[],0,0,List.replicate m 0,List.replicate m 0,List.replicate m false,List.replicate m false,List.replicate n 0,List.replicate n 0,List.replicate n false,List.replicate n 0,List.replicate n false,List.replicate n 0,List.replicate n false,[]⟩
-- the bodies' lengths,who has what in its body,how many rules a literal has
def lay1I (t:ThV) (inn:List (List Int)) (r:Nat):List (List Int):=(ruleAt t r).2.2.foldl (fun l b=>pushAt l b r) inn
def lay1B (t:ThV) (e:En) (r:Nat):En:={ e with needD:=e.needD.set r ((ruleAt t r).2.2.length:Nat),need:=e.need.set r ((ruleAt t r).2.2.length:Nat) }
def lay1S (t:ThV) (e:En) (r:Nat):En:=if (ruleAt t r).1 == 1 then { e with strict:=inc e.strict (ruleAt t r).2.1 } else e
def lay1K (t:ThV) (e:En) (r:Nat):En:=if supD t r then { e with backs:=inc e.backs (ruleAt t r).2.1 } else e
def lay1 (t:ThV) (e:En) (r:Nat):En:=lay1K t (lay1S t (lay1B t e r) r) r
-- facts
def lay2F (l:List Bool) (q:Int):List Bool:=l.set q.toNat true
def lay2 (e:En) (q:Int):En:=e.tell q 1
-- strict rules without a body
def lay3 (t:ThV) (e:En) (r:Nat):En:=if (ruleAt t r).1 == 1&&((ruleAt t r).2.2.length == 0) then e.tell (ruleAt t r).2.1 1 else e
-- what has no strict rule
def lay4 (fact:List Bool) (e:En) (q:Nat):En:=if fact.getD q false then { e with strict:=e.strict.set q (-1) } else if e.strict.getD q 0 == 0 then e.tell q 2 else e
-- foes
def lay5f (q:Nat) (e:En) (f:Int):En:=
 let e:=if e.has f 2 then e else { e with opn:=inc e.opn q }
 { e with clash:=e.clash.set q (e.clash.getD q false || e.has f 1) }
def lay5 (t:ThV) (e:En) (q:Nat):En:=(rowAt (tFoes t) q).foldl (lay5f q) e
-- pairs
structure PS where
 d:List (List (Int × Int))
 of:List (List Int)
 e:En
def pairA (s:Nat) (x:PS) (q:Int):PS:=if x.e.backs.getD q.toNat 0 == 0 then x else
 ⟨x.d.set q.toNat (putM (x.d.getD q.toNat []) (s:Int) (x.e.pairs.length:Int)),pushAt x.of s x.e.pairs.length,{ x.e with pairs:=x.e.pairs++[(q,(s:Int),false,0)],attacks:=inc x.e.attacks q }⟩
def pairAs (t:ThV) (x:PS) (s:Nat):PS:=(rowAt (tFoes t) (ruleAt t s).2.1).foldl (pairA s) x
structure PT where
 bts:List (List Int)
 e:En
def pairP (d:List (List (Int × Int))) (h s:Int):Int:=(getM (d.getD h.toNat []) s).getD 0
def pairB (d:List (List (Int × Int))) (h:Int) (r:Nat) (x:PT) (s:Int):PT:=
 ⟨pushAt x.bts r (pairP d h s),{ x.e with pairs:=x.e.pairs.set (pairP d h s).toNat ((x.e.pair (pairP d h s)).1,(x.e.pair (pairP d h s)).2.1,(x.e.pair (pairP d h s)).2.2.1,w64 ((x.e.pair (pairP d h s)).2.2.2 + 1)) }⟩
def pairBs (t:ThV) (d:List (List (Int × Int))) (x:PT) (r:Nat):PT:=if supD t r then (rowAt (tBeats t) r).foldl (pairB d (ruleAt t r).2.1 r) x else x
def pair1 (t:ThV) (n m:Nat) (e:En):PS:=upto (pairAs t) m 0 ⟨List.replicate n [],List.replicate m [],e⟩
def pair2 (t:ThV) (n m:Nat) (e:En):PT:=upto (pairBs t (pair1 t n m e).d) m 0 ⟨List.replicate m [],(pair1 t n m e).e⟩
-- rules without a body
def lay6p (e:En) (p:Int):En:=if (e.pair p).2.2.1 then e else
 { e with pairs:=e.pairs.set p.toNat ((e.pair p).1,(e.pair p).2.1,true,(e.pair p).2.2.2),attacks:=dec e.attacks (e.pair p).1 }
def lay6q (e:En) (p:Int):En:=if (e.pair p).2.2.2 == 0 then { e with standing:=e.standing.set (e.pair p).1.toNat true } else e
def lay6 (t:ThV) (of bts:List (List Int)) (e:En) (r:Nat):En:=if decide (0 < (ruleAt t r).2.2.length) then e else
 (rowAt of r).foldl lay6q (if supD t r then (rowAt bts r).foldl lay6p { e with backed:=e.backed.set (ruleAt t r).2.1.toNat true } else e)
-- all of it
def layE (t:ThV) (n m:Nat) (facts:List Int):En:=
 upto (lay5 t) n 0 (upto (lay4 (facts.foldl lay2F (List.replicate n false))) n 0 (upto (lay3 t) m 0 (facts.foldl lay2 (upto (lay1 t) m 0 (lay0 n m)))))
def layIn (t:ThV) (n m:Nat):List (List Int):=upto (lay1I t) m 0 (List.replicate n [])
def layS (t:ThV) (n m:Nat) (facts:List Int):Es:=⟨t,layIn t n m,(pair1 t n m (layE t n m facts)).of,(pair2 t n m (layE t n m facts)).bts⟩
def layD (t:ThV) (n m:Nat) (facts:List Int):En:=
 { (upto (lay6 t (layS t n m facts).of (layS t n m facts).beats) m 0 (pair2 t n m (layE t n m facts)).e) with up:=0 }
def runD (t:ThV) (n m:Nat) (facts:List Int):En:=
 let e:=layD t n m facts
 work (layS t n m facts) e.told.length (4 * n) 0 (upto (fun e q=>e.look q) n 0 e)
end En
end Go.Proofs.YtbcdgcodnkgdoaaGreat
namespace Go.Proofs.YtbcdgcodnkgdoaaGreat
open Go Go.RowKit
structure TOk (n m:Nat) (t:ThV):Prop where
 lits:t.1=n
 foes:(tFoes t).length=n
 rules:(tRules t).length=m
 beats:(tBeats t).length=m
 small:n≤4096∧m≤4096
 foes2:∀ l∈tFoes t,l.length≤64∧∀ f∈l,0≤f∧f < n
 head:∀ r∈tRules t,(0≤r.2.1∧r.2.1 < n)∧(r.2.2.length≤16∧∀ b∈r.2.2,0≤b∧b < n)
 beats2:∀ l∈tBeats t,l.length≤m∧∀ s∈l,0≤s∧s < m
theorem i64_of {x:Int} (h0:-9223372036854775808≤x) (h1:x≤9223372036854775807):inR .i64 x:=by
 unfold inR Lit.wf
 rw [Bool.and_eq_true,decide_eq_true_iff,decide_eq_true_iff]
 have e1:IntKind.i64.min=-9223372036854775808:=by decide
 have e2:IntKind.i64.max=9223372036854775807:=by decide
 rw [e1,e2]
 exact ⟨h0,h1⟩
section
variable {n m:Nat} {t:ThV} {q r:Int} {e:En} {i:Nat}
theorem TOk.rule (h:TOk n m t) (r0:0≤r) (r1:r < m):(0≤(ruleAt t r).2.1∧(ruleAt t r).2.1 < n)∧((ruleAt t r).2.2.length≤16∧∀ b∈(ruleAt t r).2.2,0≤b∧b < n):=h.head _ (getD_mem (d:=(0,0,[])) h.rules r0 r1)
theorem TOk.foe (h:TOk n m t) (q0:0≤q) (q1:q < n):(rowAt (tFoes t) q).length≤64∧∀ f∈rowAt (tFoes t) q,0≤f∧f < n:=h.foes2 _ (getD_mem h.foes q0 q1)
theorem TOk.beat (h:TOk n m t) (r0:0≤r) (r1:r < m):(rowAt (tBeats t) r).length≤m∧∀ s∈rowAt (tBeats t) r,0≤s∧s < m:=h.beats2 _ (getD_mem h.beats r0 r1)
end
structure RowsOk (n N K:Nat) (L:List (List Int)):Prop where
 len:L.length=n
 row:∀ l∈L,l.length≤K∧∀ x∈l,0≤x∧x < N
theorem RowsOk.new (n N K:Nat):RowsOk n N K (List.replicate n []):=⟨by simp,fun l hl=>by rw [(List.mem_replicate.1 hl).2];exact ⟨Nat.zero_le _,fun x hx=>by cases hx⟩⟩
theorem RowsOk.at_ {n N K:Nat} {L:List (List Int)} {b:Int} (h:RowsOk n N K L) (b0:0≤b) (b1:b < n):(rowAt L b).length≤K∧∀ x∈rowAt L b,0≤x∧x < N:=h.row _ (getD_mem h.len b0 b1)
theorem RowsOk.push {n N N' K:Nat} {L:List (List Int)} {b x:Int} (h:RowsOk n N K L) (hN:N≤N') (b0:0≤b) (b1:b < n) (x0:0≤x) (x1:x < N'):RowsOk n N' (K + 1) (pushAt L b x):=
 ⟨by simp [pushAt,h.len],fun l hl=>by
  rcases List.mem_or_eq_of_mem_set hl with hl | rfl
  ·exact ⟨Nat.le_succ_of_le (h.row l hl).1,fun y hy=>⟨((h.row l hl).2 y hy).1,by have:=((h.row l hl).2 y hy).2;omega⟩⟩
  ·refine ⟨by rw [List.length_append,List.length_singleton];exact Nat.succ_le_succ (h.at_ b0 b1).1,fun y hy=>?_⟩
   rcases List.mem_append.1 hy with hy | hy
   ·exact ⟨((h.at_ b0 b1).2 y hy).1,by have:=((h.at_ b0 b1).2 y hy).2;omega⟩
   ·obtain rfl:=List.mem_singleton.1 hy
    exact ⟨x0,x1⟩⟩
theorem RowsOk.mono {n N N' K K':Nat} {L:List (List Int)} (h:RowsOk n N K L) (hN:N≤N') (hK:K≤K'):RowsOk n N' K' L:=
 ⟨h.len,fun l hl=>⟨Nat.le_trans (h.row l hl).1 hK,fun y hy=>⟨((h.row l hl).2 y hy).1,by have:=((h.row l hl).2 y hy).2;omega⟩⟩⟩
namespace En
structure PSOk (n m N:Nat) (x:PS):Prop where
 d:x.d.length=n
 of:RowsOk m x.e.pairs.length x.e.pairs.length x.of
 e:EnOk n m x.e.pairs.length x.e
 most:x.e.pairs.length≤N
structure PTOk (n m np K:Nat) (x:PT):Prop where
 bts:RowsOk m np K x.bts
 e:EnOk n m np x.e
end En
theorem EnOk.npUp {n m np:Nat} {e:En} {q s:Int} (h:EnOk n m np e) (q0:0≤q) (q1:q < n) (s0:0≤s) (s1:s < m) (i:Nat) (u:Int):EnOk n m (np + 1) { e with pairs:=e.pairs++[(q,s,false,0)],attacks:=e.attacks.set i u }:=
 ⟨h.marks,h.needD,h.need,h.deadD,h.dead,h.strict,h.backs,h.backed,h.opn,h.clash,by simp [h.attacks],h.standing,by simp [h.pairs],h.mks,fun p hp=>(List.mem_append.1 hp).elim (h.pr p) (fun hp=>by obtain rfl:=List.mem_singleton.1 hp;exact ⟨⟨q0,q1⟩,s0,s1⟩),h.td,h.cnt,h.qd⟩
namespace En
theorem PSOk.pairA {n m N s:Nat} {x:PS} {q:Int} (h:PSOk n m N x) (q0:0≤q) (q1:q < n) (s1:s < m):PSOk n m (N + 1) (pairA s x q):=by
 unfold En.pairA
 split
 ·exact ⟨h.d,h.of,h.e,Nat.le_succ_of_le h.most⟩
 ·refine ⟨by simp [h.d],?_,?_,?_⟩
  ·show RowsOk m (x.e.pairs++[_]).length (x.e.pairs++[_]).length _
   rw [List.length_append,List.length_singleton]
   exact h.of.push (by omega) (by omega) (by omega) (by omega) (by omega)
  ·show EnOk n m (x.e.pairs++[_]).length _
   rw [List.length_append,List.length_singleton]
   exact h.e.npUp q0 q1 (by omega) (by omega) _ _
  ·show (x.e.pairs++[_]).length≤_
   rw [List.length_append,List.length_singleton]
   exact Nat.succ_le_succ h.most
theorem PTOk.pairB {n m np K:Nat} {d:List (List (Int × Int))} {h s:Int} {r:Nat} {x:PT} (k:PTOk n m np K x) (r1:r < m) (p0:0≤pairP d h s) (p1:pairP d h s < np):PTOk n m np (K + 1) (pairB d h r x s):=
 ⟨k.bts.push (Nat.le_refl _) (by omega) (by omega) p0 p1,EnOk.left1 k.e p0 p1⟩
end En
attribute [local irreducible] RW CW
theorem support_th {be n m:Nat} {a:EAd} {z:ECs} {e:En} {r:Int} {X:List HP} {w0 w:World} {S:Nat→Prop} {sv:Value} (hw:St w0 S (enH be a z n m sv e++X) w) (hT:ThOn (mem w (fun b=>¬ No b)) z.s.t z.x) (hr:(tRules z.s.t).length=m) (r0:0≤r) (r1:r < m):
 Ret Tryz.prog 79 [ptrV be,.int .i64 r] w (.bool (supD z.s.t r)):=by
 have hle:Mem.le (mem w (fun b=>¬ No b)) (mem w (fun b=>¬ No b)):=Mem.le_refl _
 obtain ⟨B,O,A,c,hA,hm,_,_⟩:=rule_at hT r0 (by rw [hr];exact r1)
 have hb:=blk_mem (ok:=fun b=>¬ No b) (fun h=>h) (St.blk (pre:=[]) hw) 2 _ rfl
 refine Calls.enter Tryz.func79 rfl _ rfl rfl (S:=No) (H:=[]) trivial ?_
 refine Ja ?_;refine Jd ?_;refine Jb ?_;refine Ja ?_;refine Jc ?_;refine Jf ?_;refine Je ?_;refine Je ?_
 refine RW.load_ro rfl hle hb rfl rfl ?_
 refine Jc ?_
 refine RW.indexAddrE hA rfl rfl r0 (by rw [hr];exact r1) rfl ?_
 refine Je ?_
 refine RW.load_ro rfl hle (hm 0 _ rfl) rfl rfl ?_
 refine Jj ?_;refine Jd ?_;refine Jb ?_
 refine CW.ret1 rfl Tryz.results79 rfl rfl fun w hw=>⟨congrArg (fun b=>Ending.returned (.bool b)) (by rw [Bool.eq_iff_iff];simp [supD]),hw.kp⟩
end Go.Proofs.YtbcdgcodnkgdoaaGreat
