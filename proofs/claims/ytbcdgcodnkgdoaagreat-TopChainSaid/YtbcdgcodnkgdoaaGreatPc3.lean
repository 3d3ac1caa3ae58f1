/- Parts of the proof: slices.BinarySearch over numbers; theory.has. · theory.foes. · theory.rule, pairs. · theory.pairs. · theory.beats. · The calculus: bits and shifts of numbers. · The fast engine as plain functions over lists. · The calculus: a statement whose order is open and in which data of one's own grows: each operation in turn, the append among them. · The calculus: an append that has room, one that has none: where it comes to lie. · min; the state of a search for knots. · The calculus: in a statement whose order is open, a move that no other waits for may be taken first. · A slice of one's own as a number. · knots.visit. · The fast engine in memory. · The engine in memory: rules to load from and to store into its slices. · theory.knot. Conditions: none. -/
import Derived.Test.YtbcdgcodnkgdoaaGreatPc2
/- slices.BinarySearch over numbers; theory.has. Conditions: none. -/
set_option linter.unusedVariables false
set_option linter.unusedSimpArgs false
set_option maxRecDepth 10000
namespace Go.Proofs.YtbcdgcodnkgdoaaGreat
open Go Go.RowKit
theorem fdiv2 (n:Nat):Int.fdiv (n:Int) 2=((n / 2:Nat):Int):=by
 rw [Int.fdiv_eq_ediv_of_nonneg _ (by omega)]
 omega
def bsGo (p:Nat→Bool):Nat→Nat→Nat→Nat
 | 0,i,_=>i
 | f + 1,i,j=>if i < j then (if p ((i + j) / 2) then bsGo p f ((i + j) / 2 + 1) j else bsGo p f i ((i + j) / 2)) else i
def lessAt (l:List Int) (x:Int) (h:Nat):Bool:=match l[h]? with
 | some y=>decide (y < x)
 | none=>false
def bsD (l:List Int) (x:Int):Nat:=bsGo (lessAt l x) l.length 0 l.length
def hasD (l:List Int) (x:Int):Bool:=match l[bsD l x]? with
 | some y=>decide (y=x)
 | none=>false
attribute [local irreducible] RW CW
theorem bs_ret {A:Option Addr} {c:Nat} {l:List Int} {x:Int} {w:World} (h:Rd kInts (mem w (fun b=>¬ No b)) [.slice A l.length c] l):Ret Tryz.prog 125 [.slice A l.length c,.int .i64 x] w (.tuple #[.int .i64 (bsD l x),.bool (hasD l x)]):=by
 have hsm:=sl_small h
 unfold reach at hsm
 have hle:Mem.le (mem w (fun b=>¬ No b)) (mem w (fun b=>¬ No b)):=Mem.le_refl _
 refine Calls.enter Tryz.func125 rfl _ rfl rfl (S:=No) (H:=[]) trivial ?_
 refine Ja ?_;refine Jd ?_;refine Jd ?_;refine Jb ?_;refine Ja ?_;refine Jc ?_;refine Jg ?_;refine Jd ?_;refine Jb ?_;refine Ja ?_;refine Jc ?_;refine Jd ?_;refine Jd ?_;refine Jb ?_
 refine CW.seq ?_
 refine CW.block ?_
 refine CW.loop (ι:={ q:Nat × Nat × Nat // q.1≤q.2.1∧q.2.1≤l.length∧q.2.1 - q.1≤q.2.2∧bsD l x=bsGo (lessAt l x) q.2.2 q.1 q.2.1 })
  (fun q=>[(0,.slice A l.length c),(1,.int .i64 x),(6,.int .i64 l.length),(7,.int .i64 q.1.1),(8,.int .i64 q.1.2.1)])
  (fun _=>[]) (fun q=>q.1.2.1 - q.1.1) ⟨(0,l.length,l.length),Nat.zero_le _,Nat.le_refl _,Nat.le_refl _,rfl⟩ ⟨rfl,rfl,rfl,rfl,rfl,trivial⟩ (fun h=>h) ?_
 intro ⟨(i,j,f),hij,hjn,hf,ho⟩
 dsimp only at hij hjn hf ho ⊢
 refine CW.seq ?_
 refine Ja ?_;refine Jc ?_;refine Jc ?_;refine Jk ?_;refine Jb ?_
 refine CW.ite rfl (fun hlt=>?_) (fun hge=>?_)
 ·have hlt':i < j:=by omega
  have hsum:((i:Int) + (j:Int))=((i + j:Nat):Int):=by omega
  obtain ⟨f',rfl⟩:∃ f',f=f' + 1:=⟨f - 1,by omega⟩
  have hmid:(i + j) / 2 < l.length:=by omega
  obtain ⟨B,O,hA,hm,_⟩:=ints_get h (List.getElem?_eq_getElem hmid)
  have hless:lessAt l x ((i + j) / 2)=decide (l[(i + j) / 2] < x):=by rw [lessAt,List.getElem?_eq_getElem hmid]
  refine JM ?_
  refine CW.block ?_
  refine Ja ?_;refine Jc ?_;refine Jc ?_
  refine RW.add rfl rfl (w64 (by omega) (by omega)) rfl ?_
  refine RW.conv rfl (IntWalk.u64_in _ (by omega)) rfl ?_
  rw [hsum]
  refine RW.shr1 rfl rfl (fdiv2 _) rfl ?_
  refine RW.conv rfl (w64 (by omega) (by omega)) rfl ?_
  refine Jd ?_;refine Jb ?_;refine Ja ?_;refine Jc ?_;refine Jc ?_
  refine RW.indexAddrE hA rfl rfl (by omega) (by omega) rfl ?_
  refine RW.load_ro rfl hle (ints_at hm) rfl rfl ?_
  refine Jc ?_
  refine RW.call Tryz.call186 rfl (fun w _=>less_ret _ _ w) rfl ?_
  refine Jb ?_
  refine CW.ite rfl (fun hc=>?_) (fun hc=>?_)
  ·refine CW.region ?_
   refine Jc ?_
   refine RW.add (c:=(((i + j) / 2 + 1:Nat):Int)) rfl rfl (by rw [w64 (by omega) (by omega)];omega) rfl ?_
   refine Jd ?_
   refine RW.nil ?_
   refine PW.again ⟨((i + j) / 2 + 1,j,f'),by dsimp only;omega,hjn,by dsimp only;omega,?_⟩ ⟨rfl,rfl,rfl,rfl,rfl,trivial⟩ (fun h=>h) (by dsimp only;omega)
   rw [ho,bsGo,if_pos hlt',hless,if_pos (decide_eq_true hc)]
  ·refine CW.region ?_
   refine Jc ?_;refine Jd ?_
   refine RW.nil ?_
   refine PW.again ⟨(i,(i + j) / 2,f'),by dsimp only;omega,by dsimp only;omega,by dsimp only;omega,?_⟩ ⟨rfl,rfl,rfl,rfl,rfl,trivial⟩ (fun h=>h) (by dsimp only;omega)
   rw [ho,bsGo,if_pos hlt',hless,decide_eq_false hc]
   rfl
 ·refine CW.exit rfl ?_
  refine PW.code ?_
  have hij':i=j:=by omega
  have hbs:bsD l x=i:=by
   rw [ho]
   cases f with
   | zero=>rfl
   | succ f=>rw [bsGo,if_neg (by omega)]
  refine Ja ?_;refine Jc ?_;refine Jc ?_;refine Jc ?_;refine Jk ?_;refine Jc ?_
  refine RW.splitD 35 rfl (fun hin=>?_) (fun hin=>?_)
  ·have hin':i < l.length:=by omega
   obtain ⟨B,O,hA,hm,_⟩:=ints_get h (List.getElem?_eq_getElem hin')
   have hhas:hasD l x=decide (l[i]=x):=by rw [hasD,hbs,List.getElem?_eq_getElem hin']
   refine Jy ?_;refine Jc ?_;refine Jy ?_;refine Jc ?_;refine Jy ?_
   refine RW.indexAddrE hA rfl rfl (by omega) (by omega) rfl ?_
   refine Jy ?_
   refine RW.load_ro rfl hle (ints_at hm) rfl rfl ?_
   refine Jy ?_;refine Jc ?_;refine Jy ?_;refine Ji ?_;refine Jy ?_;refine Jc ?_
   refine RW.splitD 42 rfl (fun he=>?_) (fun he=>?_)
   ·refine Jz ?_;refine Jz ?_;refine Jz ?_;refine Jz ?_;refine Jz ?_;refine Jz ?_;refine Jz ?_;refine Jz ?_;refine Jz ?_;refine Jy ?_;refine Jv ?_;refine Jv ?_;refine Jd ?_;refine Jd ?_;refine Jb ?_
    exact CW.rets (rs:=[.tmp 4,.tmp 5]) (vs:=[_,_]) rfl Tryz.results125 rfl (ResOK.tmp rfl (ResOK.tmp rfl ResOK.nil)) fun w hw=>⟨by rw [hbs,hhas,decide_eq_true he];rfl,hw.kp⟩
   ·refine Jy ?_;refine Jc ?_;refine Jy ?_;refine Jc ?_;refine Jy ?_
    refine RW.indexAddrE hA rfl rfl (by omega) (by omega) rfl ?_
    refine Jy ?_
    refine RW.load_ro rfl hle (ints_at hm) rfl rfl ?_
    refine Jy ?_
    refine RW.call Tryz.call187 rfl (fun w _=>isNaNS_ret _ w) rfl ?_
    refine Jy ?_;refine Jc ?_;refine Jz ?_;refine Jz ?_;refine Jy ?_;refine Jw ?_;refine Jy ?_;refine Jw ?_;refine Jv ?_;refine Jd ?_;refine Jd ?_;refine Jb ?_
    exact CW.rets (rs:=[.tmp 4,.tmp 5]) (vs:=[_,_]) rfl Tryz.results125 rfl (ResOK.tmp rfl (ResOK.tmp rfl ResOK.nil)) fun w hw=>⟨by rw [hbs,hhas,decide_eq_false he];rfl,hw.kp⟩
  ·refine Jz ?_;refine Jz ?_;refine Jz ?_;refine Jz ?_;refine Jz ?_;refine Jz ?_;refine Jz ?_;refine Jz ?_;refine Jz ?_;refine Jz ?_;refine Jz ?_;refine Jz ?_;refine Jz ?_;refine Jz ?_;refine Jz ?_;refine Jz ?_;refine Jz ?_;refine Jw ?_;refine Jd ?_;refine Jd ?_;refine Jb ?_
   exact CW.rets (rs:=[.tmp 4,.tmp 5]) (vs:=[_,_]) rfl Tryz.results125 rfl (ResOK.tmp rfl (ResOK.tmp rfl ResOK.nil)) fun w hw=>⟨by rw [hbs,show hasD l x=false by rw [hasD,hbs,List.getElem?_eq_none (by omega)]];rfl,hw.kp⟩
theorem has_ret {A:Option Addr} {c:Nat} {l:List Int} {x:Int} {w:World} (h:Rd kInts (mem w (fun b=>¬ No b)) [.slice A l.length c] l):Ret Tryz.prog 115 [.slice A l.length c,.int .i64 x] w (.bool (hasD l x)):=by
 refine Calls.enter Tryz.func115 rfl _ rfl rfl (S:=No) (H:=[]) trivial ?_
 refine Ja ?_;refine Jd ?_;refine Jb ?_;refine Ja ?_;refine Jc ?_;refine Jc ?_
 refine RW.call Tryz.call125 rfl (fun w2 hw=>bs_ret (h.mono (ro_call hw))) rfl ?_
 refine Jc ?_;refine Jt ?_;refine Jt ?_;refine Jd ?_;refine Jd ?_;refine Jb ?_;refine Ja ?_;refine Jc ?_;refine Jd ?_;refine Jb ?_
 exact CW.ret1 rfl Tryz.results115 rfl rfl fun w hw=>⟨rfl,hw.kp⟩
end Go.Proofs.YtbcdgcodnkgdoaaGreat
namespace Go.Proofs.YtbcdgcodnkgdoaaGreat
open Go Go.RowKit
def foeAt (t:ThV) (f:Int):List Int:=((tFoes t)[f.toNat]?).getD []
def backGo (t:ThV) (q:Int):List Int→Bool
 | []=>true
 | f::r=>decide (q∈foeAt t f)&&backGo t q r
def badFoe (t:ThV) (q:Int) (l:List Int):Bool:=decide (64 < (l.length:Int)) || !risingD l t.1 || hasD l q || !backGo t q l
def foesGo (t:ThV):List (List Int)→Int→Int
 | [],_=>-1
 | l::r,q=>if badFoe t q l=true then q else foesGo t r (q + 1)
def foesD (t:ThV):Int:=foesGo t (tFoes t) 0
theorem risingGo_in {n:Int}:∀ {l:List Int} {p:Int},risingGo n p l=true→∀ x∈l,0≤x∧x < n
 | [],_,_,x,hx=>by cases hx
 | y::r,p,h,x,hx=>by
  unfold risingGo at h
  rw [Bool.and_eq_true,decide_eq_true_eq] at h
  rcases List.mem_cons.1 hx with rfl | hx
  ·exact ⟨h.1.1,h.1.2.1⟩
  ·exact risingGo_in h.2 x hx
theorem risingD_in {l:List Int} {n:Int} (h:risingD l n=true):∀ x∈l,0≤x∧x < n:=risingGo_in h
attribute [local irreducible] RW CW
set_option maxHeartbeats 4000000 in
theorem foes_ret {t:ThV} {x:TC} {w:World} (h:ThOn (mem w (fun b=>¬ No b)) t x) (hn:t.1=(tFoes t).length):Ret Tryz.prog 73 [.agg (x.th t).toArray] w (.int .i64 (foesD t)):=by
 have hsm:=sl_small h.foes
 unfold reach at hsm
 have hle:Mem.le (mem w (fun b=>¬ No b)) (mem w (fun b=>¬ No b)):=Mem.le_refl _
 refine Calls.enter Tryz.func73 rfl _ rfl rfl (S:=No) (H:=[]) trivial ?_
 refine CW.seqR ?_
 refine RW.box_agg (l:=x.th t) rfl rfl fun b1 _=>?_
 refine Jd ?_;refine Jb ?_
 refine CW.seq ?_
 refine Ja ?_;refine Je ?_;refine JA ?_;refine Jg ?_;refine Jc ?_;refine Jb ?_
 refine CW.block ?_
 refine CW.loop (ι:={ q:Nat // q≤(tFoes t).length∧foesD t=foesGo t ((tFoes t).drop q) q }) (fun q=>[(1,ptrV b1),(8,.slice x.A1 (tFoes t).length x.c1),(9,.int .i64 (tFoes t).length),(10,.int .i64 q.1)]) (fun _=>[blk b1 (x.th t) 25]) (fun q=>(tFoes t).length - q.1) ⟨0,Nat.zero_le _,rfl⟩ ⟨rfl,rfl,rfl,rfl,trivial⟩ (fun h=>h) ?_
 intro ⟨q,hq,hS⟩
 dsimp only at hq hS ⊢
 refine Ja ?_;refine Jk ?_;refine Jb ?_
 refine CW.seq ?_
 refine CW.ite rfl (fun hlt=>?_) (fun hge=>?_)
 rotate_left
 ·have hge':(tFoes t).length≤q:=by omega
  rw [List.drop_eq_nil_of_le hge'] at hS
  refine CW.exit rfl ?_
  refine PW.code ?_
  refine Ja ?_;refine Jd ?_;refine Jb ?_
  exact CW.ret1 rfl Tryz.results73 rfl rfl fun w hw=>⟨by rw [hS];rfl,hw.kp⟩
 have hlt':q < (tFoes t).length:=by omega
 rw [List.drop_eq_getElem_cons hlt',foesGo] at hS
 obtain ⟨B,O,A2,c2,hA,hm,hl⟩:=lists_get h.foes (List.getElem?_eq_getElem hlt')
 generalize (tFoes t)[q]=l at *
 have hsl:=sl_small hl
 unfold reach at hsl
 have bad:badFoe t q l=true→foesD t=q:=fun h=>by rw [hS,if_pos h]
 have good:badFoe t q l=false→foesD t=foesGo t ((tFoes t).drop (q + 1)) ((q + 1:Nat):Int):=fun h=>by rw [hS,if_neg (by simp [h])];rfl
 clear hS
 unfold badFoe at bad good
 refine CW.skip ?_
 refine PW.code ?_
 refine CW.seq ?_
 refine CW.block ?_
 refine Ja ?_;refine Jc ?_
 refine RW.indexAddrE hA rfl rfl (by omega) hlt rfl ?_
 refine RW.load_ro rfl hle (ints_at hm) rfl rfl ?_
 refine Jd ?_;refine Jd ?_;refine Jb ?_
 refine CW.seq ?_
 refine Ja ?_;refine Jc ?_;refine Jg ?_;refine Jm ?_;refine Jc ?_
 refine RW.splitD 18 rfl (fun h1=>?_) (fun h1=>?_)
 ·refine Jz ?_;refine Jz ?_;refine Jz ?_;refine Jz ?_;refine Jz ?_;refine Jv ?_;refine Jc ?_;refine Jz ?_;refine Jz ?_;refine Jz ?_;refine Jv ?_;refine Jb ?_
  refine CW.ct rfl ?_
  refine Ja ?_;refine Jc ?_;refine Jd ?_;refine Jb ?_
  exact CW.ret1 rfl Tryz.results73 rfl rfl fun w hw=>⟨by rw [bad (by rw [decide_eq_true h1];rfl)],hw.kp⟩
 rw [decide_eq_false h1,Bool.false_or] at bad good
 refine Jy ?_;refine Jc ?_;refine Jy ?_;refine Je ?_;refine Jy ?_;refine JA ?_;refine Jy ?_
 refine RW.call Tryz.call78 rfl (fun w2 hw=>rising_ret (hl.mono (ro_call hw))) rfl ?_
 cases h2:risingD l t.1 with
 | false=>
  rw [h2] at bad
  refine Jy ?_;refine Js ?_;refine Jw ?_;refine Jc ?_;refine Jz ?_;refine Jz ?_;refine Jz ?_;refine Jv ?_;refine Jb ?_
  refine CW.ct rfl ?_
  refine Ja ?_;refine Jc ?_;refine Jd ?_;refine Jb ?_
  exact CW.ret1 rfl Tryz.results73 rfl rfl fun w hw=>⟨by rw [bad rfl],hw.kp⟩
 | true=>
 rw [h2] at bad good
 refine Jy ?_;refine Js ?_;refine Jw ?_;refine Jc ?_;refine Jy ?_;refine Jc ?_;refine Jy ?_;refine Jc ?_;refine Jy ?_
 refine RW.call Tryz.call115 rfl (fun w2 hw=>has_ret (hl.mono (ro_call hw))) rfl ?_
 cases h3:hasD l q with
 | true=>
  rw [h3] at bad
  refine Jw ?_;refine Jb ?_
  refine CW.ct rfl ?_
  refine Ja ?_;refine Jc ?_;refine Jd ?_;refine Jb ?_
  exact CW.ret1 rfl Tryz.results73 rfl rfl fun w hw=>⟨by rw [bad rfl],hw.kp⟩
 | false=>
 rw [h3] at bad good
 refine Jw ?_;refine Jb ?_
 refine CW.cf rfl ?_
 refine JM ?_;refine Ja ?_;refine Jc ?_;refine Jg ?_;refine Jc ?_;refine Jb ?_
 refine CW.block ?_
 refine CW.loop (ι:={ k:Nat // k≤l.length∧backGo t q l=backGo t q (l.drop k) }) (fun k=>[(1,ptrV b1),(3,.int .i64 q),(8,.slice x.A1 (tFoes t).length x.c1),(9,.int .i64 (tFoes t).length),(10,.int .i64 q),(31,.slice A2 l.length c2),(32,.int .i64 l.length),(33,.int .i64 k.1)]) (fun _=>[blk b1 (x.th t) 25]) (fun k=>l.length - k.1) ⟨0,Nat.zero_le _,rfl⟩ ⟨rfl,rfl,rfl,rfl,rfl,rfl,rfl,rfl,trivial⟩ (fun h=>h) ?_
 intro ⟨k,hk,hT⟩
 dsimp only at hk hT ⊢
 refine Ja ?_;refine Jk ?_;refine Jb ?_
 refine CW.seq ?_
 refine CW.ite rfl (fun hkt=>?_) (fun hke=>?_)
 rotate_left
 ·have hke':l.length≤k:=by omega
  rw [List.drop_eq_nil_of_le hke'] at hT
  rw [hT] at good
  refine CW.exit rfl ?_
  refine PW.code ?_
  refine CW.region ?_
  refine RW.add rfl rfl (w64 (by omega) (by omega)) rfl ?_
  refine Jc ?_
  refine RW.nil ?_
  exact PW.again ⟨q + 1,hlt',good rfl⟩ ⟨rfl,rfl,rfl,rfl,trivial⟩ (fun h=>h) (by show (tFoes t).length - (q + 1) < (tFoes t).length - q;omega)
 have hkt':k < l.length:=by omega
 rw [List.drop_eq_getElem_cons hkt',backGo] at hT
 obtain ⟨B3,O3,hA3,hm3,_⟩:=ints_get hl (List.getElem?_eq_getElem hkt')
 obtain ⟨hf0,hf1⟩:=risingD_in h2 l[k] (List.getElem_mem hkt')
 generalize l[k]=f at *
 have hf2:f.toNat < (tFoes t).length:=by omega
 obtain ⟨B4,O4,A4,c4,hA4,hm4,hl4⟩:=lists_get h.foes (List.getElem?_eq_getElem hf2)
 have hfa:foeAt t f=(tFoes t)[f.toNat]:=by unfold foeAt;rw [List.getElem?_eq_getElem hf2];rfl
 rw [hfa] at hT
 generalize (tFoes t)[f.toNat]=l4 at *
 refine CW.skip ?_
 refine PW.code ?_
 refine CW.seq ?_
 refine CW.block ?_
 refine Ja ?_
 refine RW.indexAddrE hA3 rfl rfl (by omega) hkt rfl ?_
 refine RW.load_ro rfl hle (ints_at hm3) rfl rfl ?_
 refine Jd ?_;refine Jb ?_;refine Ja ?_;refine Je ?_;refine JA ?_;refine Jc ?_
 refine RW.indexAddrE hA4 rfl rfl hf0 (by omega) rfl ?_
 refine RW.load_ro (v:=.slice A4 l4.length c4) rfl hle (by rw [Nat.mul_one];exact hm4) rfl rfl ?_
 refine Jc ?_
 refine RW.call Tryz.call116 rfl (fun w2 hw=>contains_ret (hl4.mono (ro_call hw))) rfl ?_
 refine Js ?_;refine Jb ?_
 refine CW.iteN rfl (fun h5=>?_) (fun h5=>?_)
 ·rw [decide_eq_false h5] at hT
  refine Ja ?_;refine Jc ?_;refine Jd ?_;refine Jb ?_
  exact CW.ret1 rfl Tryz.results73 rfl rfl fun w hw=>⟨by rw [bad (by rw [hT];rfl)],hw.kp⟩
 rw [decide_eq_true h5,Bool.true_and] at hT
 refine CW.skip ?_
 refine PW.code ?_
 refine CW.region ?_
 refine RW.add rfl rfl (w64 (by omega) (by omega)) rfl ?_
 refine Jc ?_
 refine RW.nil ?_
 exact PW.again ⟨k + 1,hkt',hT⟩ ⟨rfl,rfl,rfl,rfl,rfl,rfl,rfl,rfl,trivial⟩ (fun h=>h) (by show l.length - (k + 1) < l.length - k;omega)
end Go.Proofs.YtbcdgcodnkgdoaaGreat
namespace Go.Proofs.YtbcdgcodnkgdoaaGreat
open Go Go.RowKit
def ruleOk (n:Int) (r:RuleV):Bool:=decide (1≤r.1)&&(decide (r.1≤3)&&(decide (0≤r.2.1)&&(decide (r.2.1 < n)&&(decide ((r.2.2.length:Int)≤16)&&risingD r.2.2 n))))
abbrev ruleC (r:RuleV) (A:Option Addr) (c:Nat):List Value:=[.int .i64 r.1,.int .i64 r.2.1,.slice A r.2.2.length c]
attribute [local irreducible] RW CW
theorem rule_ret {t:ThV} {x:TC} {r:RuleV} {A:Option Addr} {c:Nat} {w:World} (h:Rd kInts (mem w (fun b=>¬ No b)) [.slice A r.2.2.length c] r.2.2):Ret Tryz.prog 74 [.agg (x.th t).toArray,.agg (ruleC r A c).toArray] w (.bool (ruleOk t.1 r)):=by
 refine Calls.enter Tryz.func74 rfl _ rfl rfl (S:=No) (H:=[]) trivial ?_
 refine CW.seqR ?_
 refine RW.box_agg (l:=x.th t) rfl rfl fun b2 _=>?_
 refine RW.box_agg (l:=ruleC r A c) rfl rfl fun b3 _=>?_
 unfold ruleOk
 refine Jd ?_;refine Jb ?_;refine Ja ?_;refine Je ?_;refine JA ?_;refine Jn ?_;refine Jc ?_
 refine RW.splitD 8 rfl (fun h1=>?_) (fun h1=>?_)
 rotate_left
 ·rw [decide_eq_false h1]
  refine Jz ?_;refine Jz ?_;refine Jz ?_;refine Jw ?_;refine Jc ?_;refine Jz ?_;refine Jz ?_;refine Jz ?_;refine Jw ?_;refine Jc ?_;refine Jz ?_;refine Jz ?_;refine Jz ?_;refine Jz ?_;refine Jz ?_;refine Jw ?_;refine Jc ?_;refine Jz ?_;refine Jz ?_;refine Jz ?_;refine Jz ?_;refine Jw ?_;refine Jc ?_;refine Jz ?_;refine Jz ?_;refine Jz ?_;refine Jz ?_;refine Jz ?_;refine Jw ?_;refine Jd ?_;refine Jb ?_
  exact CW.ret1 rfl Tryz.results74 rfl rfl fun w hw=>⟨rfl,hw.kp⟩
 rw [decide_eq_true h1,Bool.true_and]
 refine Jy ?_;refine Je ?_;refine Jy ?_;refine JA ?_;refine Jy ?_;refine Jl ?_;refine Jv ?_;refine Jc ?_
 refine RW.splitD 13 rfl (fun h1=>?_) (fun h1=>?_)
 rotate_left
 ·rw [decide_eq_false h1]
  refine Jz ?_;refine Jz ?_;refine Jz ?_;refine Jw ?_;refine Jc ?_;refine Jz ?_;refine Jz ?_;refine Jz ?_;refine Jz ?_;refine Jz ?_;refine Jw ?_;refine Jc ?_;refine Jz ?_;refine Jz ?_;refine Jz ?_;refine Jz ?_;refine Jw ?_;refine Jc ?_;refine Jz ?_;refine Jz ?_;refine Jz ?_;refine Jz ?_;refine Jz ?_;refine Jw ?_;refine Jd ?_;refine Jb ?_
  exact CW.ret1 rfl Tryz.results74 rfl rfl fun w hw=>⟨rfl,hw.kp⟩
 rw [decide_eq_true h1,Bool.true_and]
 refine Jy ?_;refine Je ?_;refine Jy ?_;refine JA ?_;refine Jy ?_;refine Jn ?_;refine Jv ?_;refine Jc ?_
 refine RW.splitD 18 rfl (fun h1=>?_) (fun h1=>?_)
 rotate_left
 ·rw [decide_eq_false h1]
  refine Jz ?_;refine Jz ?_;refine Jz ?_;refine Jz ?_;refine Jz ?_;refine Jw ?_;refine Jc ?_;refine Jz ?_;refine Jz ?_;refine Jz ?_;refine Jz ?_;refine Jw ?_;refine Jc ?_;refine Jz ?_;refine Jz ?_;refine Jz ?_;refine Jz ?_;refine Jz ?_;refine Jw ?_;refine Jd ?_;refine Jb ?_
  exact CW.ret1 rfl Tryz.results74 rfl rfl fun w hw=>⟨rfl,hw.kp⟩
 rw [decide_eq_true h1,Bool.true_and]
 refine Jy ?_;refine Je ?_;refine Jy ?_;refine JA ?_;refine Jy ?_;refine Je ?_;refine Jy ?_;refine JB ?_;refine Jy ?_;refine Jk ?_;refine Jv ?_;refine Jc ?_
 refine RW.splitD 25 rfl (fun h1=>?_) (fun h1=>?_)
 rotate_left
 ·rw [decide_eq_false h1]
  refine Jz ?_;refine Jz ?_;refine Jz ?_;refine Jz ?_;refine Jw ?_;refine Jc ?_;refine Jz ?_;refine Jz ?_;refine Jz ?_;refine Jz ?_;refine Jz ?_;refine Jw ?_;refine Jd ?_;refine Jb ?_
  exact CW.ret1 rfl Tryz.results74 rfl rfl fun w hw=>⟨rfl,hw.kp⟩
 rw [decide_eq_true h1,Bool.true_and]
 refine Jy ?_;refine Je ?_;refine Jy ?_;refine JA ?_;refine Jy ?_;refine Jg ?_;refine Jy ?_;refine Jl ?_;refine Jv ?_;refine Jc ?_
 refine RW.splitD 31 rfl (fun h1=>?_) (fun h1=>?_)
 rotate_left
 ·rw [decide_eq_false h1]
  refine Jz ?_;refine Jz ?_;refine Jz ?_;refine Jz ?_;refine Jz ?_;refine Jw ?_;refine Jd ?_;refine Jb ?_
  exact CW.ret1 rfl Tryz.results74 rfl rfl fun w hw=>⟨rfl,hw.kp⟩
 rw [decide_eq_true h1,Bool.true_and]
 refine Jy ?_;refine Je ?_;refine Jy ?_;refine JA ?_;refine Jy ?_;refine Je ?_;refine Jy ?_;refine JB ?_;refine Jy ?_
 refine RW.call Tryz.call78 rfl (fun w2 hw=>rising_ret (h.mono (ro_call hw))) rfl ?_
 refine Jv ?_;refine Jd ?_;refine Jb ?_
 exact CW.ret1 rfl Tryz.results74 rfl rfl fun w hw=>⟨rfl,hw.kp⟩
end Go.Proofs.YtbcdgcodnkgdoaaGreat
namespace Go.Proofs.YtbcdgcodnkgdoaaGreat
open Go Go.RowKit
def hdAt (l:List Int) (h:Int):Int:=(l[h.toNat]?).getD 0
def incAt (l:List Int) (h:Int):List Int:=l.set h.toNat (hdAt l h + 1)
def headsGo:List RuleV→List Int→List Int
 | [],l=>l
 | r::rs,l=>headsGo rs (incAt l r.2.1)
def headsD (t:ThV):List Int:=headsGo (tRules t) (List.replicate t.1.toNat 0)
def pairsIn (hd:List Int) (a:Int):List Int→Int→Int
 | [],n=>n
 | f::r,n=>pairsIn hd a r (n + a * hdAt hd f)
def pairsGo (hd:List Int):List (List Int)→Int→Int→Int
 | [],_,n=>n
 | l::r,q,n=>pairsGo hd r (q + 1) (pairsIn hd (hdAt hd q) l n)
def pairsD (t:ThV):Int:=pairsGo (headsD t) (tFoes t) 0 0
structure ThOk (t:ThV):Prop where
 lits:t.1=(tFoes t).length
 most:t.1≤4096
 foes:∀ l∈tFoes t,l.length≤64∧risingD l t.1=true
 count:(tRules t).length≤4096
 rules:∀ r∈tRules t,ruleOk t.1 r=true
theorem ruleOk_head {n:Int} {r:RuleV} (h:ruleOk n r=true):0≤r.2.1∧r.2.1 < n:=by
 unfold ruleOk at h
 simp only [Bool.and_eq_true,decide_eq_true_eq] at h
 exact ⟨h.2.2.1,h.2.2.2.1⟩
def Counts (n:Nat) (i:Int) (l:List Int):Prop:=l.length=n∧∀ v∈l,0≤v∧v≤i
theorem Counts.at {n:Nat} {i:Int} {l:List Int} (h:Counts n i l) (hi:0≤i) (q:Int):0≤hdAt l q∧hdAt l q≤i:=by
 unfold hdAt
 cases hq:l[q.toNat]? with
 | none=>exact ⟨Int.le_refl _,hi⟩
 | some v=>exact h.2 v (List.mem_of_getElem? hq)
theorem Counts.inc {n:Nat} {i:Int} {l:List Int} (h:Counts n i l) (hi:0≤i) (q:Int):Counts n (i + 1) (incAt l q):=by
 refine ⟨by unfold incAt;rw [List.length_set];exact h.1,fun v hv=>?_⟩
 unfold incAt at hv
 rcases List.mem_or_eq_of_mem_set hv with hv | rfl
 ·have:=h.2 v hv;omega
 ·have:=h.at hi q;omega
theorem hd_get {n:Nat} {l:List Int} {q:Int} (hl:l.length=n) (h0:0≤q) (h1:q < n):l[q.toNat]?=some (hdAt l q):=by
 unfold hdAt
 rw [List.getElem?_eq_getElem (by omega)]
 rfl
theorem mapE_get {l:List Int} {i:Nat} {v:Int} (h:l[i]?=some v):(l.map intE)[i]?=some [.int .i64 v]:=by rw [List.getElem?_map,h];rfl
attribute [local irreducible] RW CW
set_option maxHeartbeats 16000000 in
theorem pairs_ret {t:ThV} {x:TC} {w:World} (h:ThOn (mem w (fun b=>¬ No b)) t x) (hk:ThOk t):Ret Tryz.prog 75 [.agg (x.th t).toArray] w (.int .i64 (pairsD t)):=by
 have hle:Mem.le (mem w (fun b=>¬ No b)) (mem w (fun b=>¬ No b)):=Mem.le_refl _
 obtain ⟨hL,hM,hF,hC,hR⟩:=hk
 refine Calls.enter Tryz.func75 rfl _ rfl rfl (S:=No) (H:=[]) trivial ?_
 refine CW.seqR ?_
 refine RW.box_agg (l:=x.th t) rfl rfl fun b1 _=>?_
 refine Jd ?_;refine Jb ?_;refine Ja ?_;refine Je ?_;refine JA ?_
 have hn:t.1=((tFoes t).length:Int):=hL
 generalize hnn:(tFoes t).length=n at *
 refine RW.make (n:=n) (zc:=[.int .i64 0]) rfl rfl hn rfl rfl (by unfold maxN;omega) (by omega) rfl fun B0=>?_
 refine Jd ?_;refine Jb ?_
 refine CW.seq ?_
 refine Ja ?_;refine Je ?_;refine JB ?_;refine Jg ?_;refine Jc ?_;refine Jb ?_
 refine CW.block ?_
 refine CW.loop (ι:={ q:Nat × List Int // q.1≤(tRules t).length∧Counts n q.1 q.2∧headsD t=headsGo ((tRules t).drop q.1) q.2 }) (fun q=>[(1,ptrV b1),(2,.int .i64 0),(3,.slice (some ⟨B0,0,none⟩) n n),(15,.slice x.A2 (tRules t).length x.c2),(16,.int .i64 (tRules t).length),(17,.int .i64 q.1.1)])
  (fun q=>[blk b1 (x.th t) 25,ownHP 3 1 (.slice (some ⟨B0,0,none⟩) n n) (q.1.2.map intE)]) (fun q=>(tRules t).length - q.1.1) ⟨(0,List.replicate n 0),Nat.zero_le _,⟨by simp,fun v hv=>by rw [List.eq_of_mem_replicate hv];exact ⟨Int.le_refl _,Int.le_refl _⟩⟩,by unfold headsD;rw [show t.1.toNat=n by omega];rfl⟩ ⟨rfl,rfl,rfl,rfl,rfl,rfl,trivial⟩ (fun h=>by rw [List.map_replicate];exact h.take [1,0]) ?_
 intro ⟨⟨i,hd⟩,hi,hCt,hS⟩
 dsimp only at hi hCt hS ⊢
 refine Ja ?_;refine Jk ?_;refine Jb ?_
 refine CW.seq ?_
 refine CW.ite rfl (fun hlt=>?_) (fun hge=>?_)
 ·have hlt':i < (tRules t).length:=by omega
  rw [List.drop_eq_getElem_cons hlt',headsGo] at hS
  obtain ⟨B,O,A2,c2,hA,hm,hl,_,_⟩:=rules_get h.rules (List.getElem?_eq_getElem hlt')
  have hr:=ruleOk_head (hR _ (List.getElem_mem hlt'))
  generalize (tRules t)[i]=r at *
  have hg:=hd_get hCt.1 hr.1 (by omega)
  have hb:=hCt.at (by omega) r.2.1
  refine CW.skip ?_
  refine PW.code ?_
  refine CW.seq ?_
  refine CW.block ?_
  refine Ja ?_
  refine RW.indexAddrE hA rfl rfl (by omega) hlt rfl ?_
  refine RW.load_ros (cs:=ruleC r A2 c2) rfl hle (fun j v hj=>by have:=hm j v hj;simpa using this) rfl rfl (Nat.zero_lt_succ _) rfl ?_
  refine RW.alloc (c:=ruleC (0,0,[]) none 0) rfl rfl fun b5 _=>?_
  refine RW.store_whole [] rfl rfl (vs:=ruleC r A2 c2) rfl rfl rfl (by simp [Value.oneCell']) ?_
  refine Jb ?_
  refine CW.region ?_
  refine Jc ?_;refine Je ?_;refine JA ?_
  refine RW.indexAddr rfl rfl hr.1 (by omega) rfl ?_
  refine RW.loadOwn1 [_,_] (i:=r.2.1.toNat) (j:=0) rfl (by simp) (mapE_get hg) rfl rfl rfl ?_
  refine RW.add rfl rfl (w64 (by omega) (by omega)) rfl ?_
  refine RW.indexAddr rfl rfl hr.1 (by omega) rfl ?_
  refine RW.storeOwn [_,_] (v:=.int .i64 (hdAt hd r.2.1 + 1)) (i:=r.2.1.toNat) (j:=0) rfl (by simp) rfl rfl rfl (mapE_get hg) (Nat.zero_lt_succ _) ?_
  refine RW.nil ?_
  refine PW.code ?_
  refine CW.region ?_
  refine RW.add rfl rfl (w64 (by omega) (by omega)) rfl ?_
  refine Jc ?_
  refine RW.nil ?_
  refine PW.again ⟨(i + 1,incAt hd r.2.1),hlt',hCt.inc (by omega) _,hS⟩ ⟨rfl,rfl,rfl,rfl,rfl,rfl,trivial⟩ (fun hw=>?_) (by show (tRules t).length - (i + 1) < (tRules t).length - i;omega)
  have h2:=hw.take [1,2]
  unfold incAt
  rw [List.map_set]
  exact h2
 have hge':(tRules t).length≤i:=by omega
 rw [List.drop_eq_nil_of_le hge',headsGo] at hS
 refine CW.exit rfl ?_
 refine PW.code ?_
 refine Ja ?_;refine Jd ?_;refine Jb ?_
 refine CW.seq ?_
 refine Ja ?_;refine Je ?_;refine JA ?_;refine Jg ?_;refine Jc ?_;refine Jb ?_
 refine CW.block ?_
 have hcn:Counts n 4096 hd:=⟨hCt.1,fun v hv=>by have:=hCt.2 v hv;omega⟩
 clear hCt
 refine CW.loop (ι:={ q:Nat × Int // q.1≤n∧0≤q.2∧q.2≤q.1 * (64 * 16777216)∧pairsD t=pairsGo hd ((tFoes t).drop q.1) q.1 q.2 }) (fun q=>[(1,ptrV b1),(3,.slice (some ⟨B0,0,none⟩) n n),(6,.int .i64 q.1.2),(30,.slice x.A1 n x.c1),(31,.int .i64 n),(32,.int .i64 q.1.1)])
  (fun q=>[blk b1 (x.th t) 25,ownHP 3 1 (.slice (some ⟨B0,0,none⟩) n n) (hd.map intE)]) (fun q=>n - q.1.1) ⟨(0,0),Nat.zero_le _,Int.le_refl _,by dsimp only;omega,by unfold pairsD;rw [hS];rfl⟩ ⟨rfl,rfl,rfl,by rw [← hnn];rfl,by rw [← hnn];rfl,rfl,trivial⟩ (fun h=>h) ?_
 clear hS
 intro ⟨⟨q,s⟩,hq,hs0,hs1,hS⟩
 dsimp only at hq hs0 hs1 hS ⊢
 refine Ja ?_;refine Jk ?_;refine Jb ?_
 refine CW.seq ?_
 refine CW.ite rfl (fun hlt=>?_) (fun hge=>?_)
 rotate_left
 ·have hge':(tFoes t).length≤q:=by omega
  rw [List.drop_eq_nil_of_le hge',pairsGo] at hS
  refine CW.exit rfl ?_
  refine PW.code ?_
  refine Ja ?_;refine Jc ?_;refine Jd ?_;refine Jb ?_
  exact CW.ret1 rfl Tryz.results75 rfl rfl fun w hw=>⟨by rw [hS],hw.kp⟩
 have hlt':q < (tFoes t).length:=by omega
 rw [List.drop_eq_getElem_cons hlt',pairsGo] at hS
 obtain ⟨B,O,A2,c2,hA,hm,hl⟩:=lists_get h.foes (List.getElem?_eq_getElem hlt')
 obtain ⟨hl64,hlr⟩:=hF _ (List.getElem_mem hlt')
 generalize (tFoes t)[q]=l at *
 have hgq:=hd_get (q:=(q:Int)) hcn.1 (by omega) (by omega)
 have hbq:=hcn.at (by omega) (q:Int)
 refine CW.skip ?_
 refine PW.code ?_
 refine CW.seq ?_
 refine CW.block ?_
 refine Ja ?_;refine Jc ?_
 refine RW.indexAddrE hA rfl rfl (by omega) hlt rfl ?_
 refine RW.load_ro rfl hle (ints_at hm) rfl rfl ?_
 refine Jd ?_;refine Jd ?_;refine Jb ?_;refine Ja ?_;refine Jc ?_;refine Jg ?_;refine Jc ?_;refine Jb ?_
 refine CW.block ?_
 refine CW.loop (ι:={ k:Nat × Int // k.1≤l.length∧0≤k.2∧k.2≤q * (64 * 16777216) + k.1 * 16777216∧pairsIn hd (hdAt hd q) l s=pairsIn hd (hdAt hd q) (l.drop k.1) k.2 }) (fun k=>[(1,ptrV b1),(3,.slice (some ⟨B0,0,none⟩) n n),(6,.int .i64 k.1.2),(7,.int .i64 q),(30,.slice x.A1 n x.c1),(31,.int .i64 n),(32,.int .i64 q),(37,.slice A2 l.length c2),(38,.int .i64 l.length),(39,.int .i64 k.1.1)])
  (fun _=>[blk b1 (x.th t) 25,ownHP 3 1 (.slice (some ⟨B0,0,none⟩) n n) (hd.map intE)]) (fun k=>l.length - k.1.1) ⟨(0,s),Nat.zero_le _,hs0,by dsimp only;omega,rfl⟩ ⟨rfl,rfl,rfl,rfl,rfl,rfl,rfl,rfl,rfl,rfl,trivial⟩ (fun h=>h) ?_
 intro ⟨⟨k,v⟩,hk,hv0,hv1,hT⟩
 dsimp only at hk hv0 hv1 hT ⊢
 refine Ja ?_;refine Jk ?_;refine Jb ?_
 refine CW.seq ?_
 refine CW.ite rfl (fun hkt=>?_) (fun hke=>?_)
 rotate_left
 ·have hke':l.length≤k:=by omega
  rw [List.drop_eq_nil_of_le hke',pairsIn] at hT
  rw [hT] at hS
  refine CW.exit rfl ?_
  refine PW.code ?_
  refine CW.region ?_
  refine RW.add rfl rfl (w64 (by omega) (by omega)) rfl ?_
  refine Jc ?_
  refine RW.nil ?_
  exact PW.again ⟨(q + 1,v),by dsimp only;omega,hv0,by dsimp only;omega,hS⟩ ⟨rfl,rfl,rfl,rfl,rfl,rfl,trivial⟩ (fun h=>h) (by show n - (q + 1) < n - q;omega)
 have hkt':k < l.length:=by omega
 rw [List.drop_eq_getElem_cons hkt',pairsIn] at hT
 obtain ⟨B3,O3,hA3,hm3,_⟩:=ints_get hl (List.getElem?_eq_getElem hkt')
 obtain ⟨hf0,hf1⟩:=risingD_in hlr l[k] (List.getElem_mem hkt')
 generalize l[k]=f at *
 have hgf:=hd_get (q:=f) hcn.1 hf0 (by omega)
 have hbf:=hcn.at (by omega) f
 have hm1:0≤hdAt hd q * hdAt hd f:=Int.mul_nonneg hbq.1 hbf.1
 have hm2:hdAt hd q * hdAt hd f≤16777216:=by
  have:=Int.mul_le_mul hbq.2 hbf.2 hbf.1 (by omega)
  omega
 refine CW.skip ?_
 refine PW.code ?_
 refine CW.seq ?_
 refine CW.block ?_
 refine Ja ?_
 refine RW.indexAddrE hA3 rfl rfl (by omega) hkt rfl ?_
 refine RW.load_ro rfl hle (ints_at hm3) rfl rfl ?_
 refine Jd ?_;refine Jb ?_
 refine CW.anyV (by kernel_rfl) rfl ?_
 refine AW.val rfl (fun _ _=>by refine Jc ?_;exact RW.done rfl) ?_;refine AW.val rfl (fun _ _=>by refine Jc ?_;exact RW.done rfl) ?_;refine AW.val rfl (fun _ _=>by refine Jc ?_;exact RW.done rfl) ?_
 (apply AW.val rfl;· intro Gx X;(first | refine RW.yes rfl ?_ | skip);refine RW.indexAddr rfl rfl (by omega) hlt rfl ?_;exact RW.done rfl)
 (apply AW.val rfl;· intro Gx X;(first | refine RW.yes rfl ?_ | skip);refine RW.loadOwn1 [_] (i:=q) (j:=0) rfl (by simp) (mapE_get hgq) rfl rfl rfl ?_;exact RW.done rfl)
 refine AW.val rfl (fun _ _=>by refine Jc ?_;exact RW.done rfl) ?_;refine AW.val rfl (fun _ _=>by refine Jc ?_;exact RW.done rfl) ?_
 (apply AW.val rfl;· intro Gx X;(first | refine RW.yes rfl ?_ | skip);refine RW.indexAddr rfl rfl hf0 (by omega) rfl ?_;exact RW.done rfl)
 (apply AW.val rfl;· intro Gx X;(first | refine RW.yes rfl ?_ | skip);refine RW.loadOwn1 [_] (i:=f.toNat) (j:=0) rfl (by simp) (mapE_get hgf) rfl rfl rfl ?_;exact RW.done rfl)
 skip
 (apply AW.val rfl;· intro Gx X;(first | refine RW.yes rfl ?_ | skip);refine RW.mul rfl rfl (w64 (by omega) (by omega)) rfl ?_;exact RW.done rfl)
 (apply AW.val rfl;· intro Gx X;(first | refine RW.yes rfl ?_ | skip);refine RW.add rfl rfl (w64 (by omega) (by omega)) rfl ?_;exact RW.done rfl)
 refine AW.stop (by kernel_rfl) (by kernel_rfl) fun bs=>?_
 refine RW.assign rfl rfl ?_
 refine RW.nil ?_
 refine PW.code ?_
 refine CW.region ?_
 refine RW.add rfl rfl (w64 (by omega) (by omega)) rfl ?_
 refine Jc ?_
 refine RW.nil ?_
 exact PW.again ⟨(k + 1,v + hdAt hd q * hdAt hd f),hkt',by dsimp only;omega,by dsimp only;omega,hT⟩ ⟨rfl,rfl,rfl,rfl,rfl,rfl,rfl,rfl,rfl,rfl,trivial⟩ (fun h=>h) (by show l.length - (k + 1) < l.length - k;omega)
end Go.Proofs.YtbcdgcodnkgdoaaGreat
namespace Go.Proofs.YtbcdgcodnkgdoaaGreat
open Go Go.RowKit
def ruleAt (t:ThV) (i:Int):RuleV:=((tRules t)[i.toNat]?).getD (0,0,[])
def hitsGo (t:ThV) (q:Int):List Int→Bool
 | []=>true
 | s::r=>hasD (foeAt t (ruleAt t q).2.1) (ruleAt t s).2.1&&hitsGo t q r
def badBeat (t:ThV) (q:Int) (l:List Int):Bool:=!risingD l (tRules t).length || !hitsGo t q l
def beatsGo (t:ThV):List (List Int)→Int→Int
 | [],_=>-1
 | l::r,q=>if badBeat t q l=true then q else beatsGo t r (q + 1)
def beatsD (t:ThV):Int:=beatsGo t (tBeats t) 0
theorem foe_get {M:Mem} {t:ThV} {x:TC} (h:ThOn M t x) {q:Int} (h0:0≤q) (h1:q < ((tFoes t).length:Int)):∃ B O A c,x.A1=some ⟨B,O,none⟩∧M B (O + q.toNat * 1) (.slice A (foeAt t q).length c)∧Rd kInts M [.slice A (foeAt t q).length c] (foeAt t q):=by
 have h2:q.toNat < (tFoes t).length:=by omega
 obtain ⟨B,O,A,c,hA,hm,hl⟩:=lists_get h.foes (List.getElem?_eq_getElem h2)
 have e:foeAt t q=(tFoes t)[q.toNat]:=by unfold foeAt;rw [List.getElem?_eq_getElem h2];rfl
 rw [e]
 exact ⟨B,O,A,c,hA,by rw [Nat.mul_one];exact hm,hl⟩
theorem rule_at {M:Mem} {t:ThV} {x:TC} (h:ThOn M t x) {i:Int} (h0:0≤i) (h1:i < ((tRules t).length:Int)):∃ B O A c,x.A2=some ⟨B,O,none⟩∧(∀ (j:Nat) (v:Value),(ruleC (ruleAt t i) A c)[j]?=some v→M B (O + i.toNat * 3 + j) v)∧Rd kInts M [.slice A (ruleAt t i).2.2.length c] (ruleAt t i).2.2∧ruleAt t i∈tRules t:=by
 have h2:i.toNat < (tRules t).length:=by omega
 obtain ⟨B,O,A,c,hA,hm,hl,_⟩:=rules_get h.rules (List.getElem?_eq_getElem h2)
 have e:ruleAt t i=(tRules t)[i.toNat]:=by unfold ruleAt;rw [List.getElem?_eq_getElem h2];rfl
 rw [e]
 exact ⟨B,O,A,c,hA,hm,hl,List.getElem_mem h2⟩
attribute [local irreducible] RW CW
set_option maxHeartbeats 8000000 in
theorem beats_ret {t:ThV} {x:TC} {w:World} (h:ThOn (mem w (fun b=>¬ No b)) t x) (hk:ThOk t) (hB:(tBeats t).length=(tRules t).length):Ret Tryz.prog 76 [.agg (x.th t).toArray] w (.int .i64 (beatsD t)):=by
 have hle:Mem.le (mem w (fun b=>¬ No b)) (mem w (fun b=>¬ No b)):=Mem.le_refl _
 obtain ⟨hL,hM,hF,hC,hR⟩:=hk
 refine Calls.enter Tryz.func76 rfl _ rfl rfl (S:=No) (H:=[]) trivial ?_
 refine CW.seqR ?_
 refine RW.box_agg (l:=x.th t) rfl rfl fun b1 _=>?_
 refine Jd ?_;refine Jb ?_
 refine CW.seq ?_
 refine Ja ?_;refine Je ?_;refine JA ?_;refine Jg ?_;refine Jc ?_;refine Jb ?_
 refine CW.block ?_
 refine CW.loop (ι:={ q:Nat // q≤(tBeats t).length∧beatsD t=beatsGo t ((tBeats t).drop q) q }) (fun q=>[(1,ptrV b1),(8,.slice x.A3 (tBeats t).length x.c3),(9,.int .i64 (tBeats t).length),(10,.int .i64 q.1)]) (fun _=>[blk b1 (x.th t) 25]) (fun q=>(tBeats t).length - q.1) ⟨0,Nat.zero_le _,rfl⟩ ⟨rfl,rfl,rfl,rfl,trivial⟩ (fun h=>h) ?_
 intro ⟨q,hq,hS⟩
 dsimp only at hq hS ⊢
 refine Ja ?_;refine Jk ?_;refine Jb ?_
 refine CW.seq ?_
 refine CW.ite rfl (fun hlt=>?_) (fun hge=>?_)
 rotate_left
 ·have hge':(tBeats t).length≤q:=by omega
  rw [List.drop_eq_nil_of_le hge'] at hS
  refine CW.exit rfl ?_
  refine PW.code ?_
  refine Ja ?_;refine Jd ?_;refine Jb ?_
  exact CW.ret1 rfl Tryz.results76 rfl rfl fun w hw=>⟨by rw [hS];rfl,hw.kp⟩
 have hlt':q < (tBeats t).length:=by omega
 rw [List.drop_eq_getElem_cons hlt',beatsGo] at hS
 obtain ⟨B,O,A2,c2,hA,hm,hl⟩:=lists_get h.beats (List.getElem?_eq_getElem hlt')
 generalize (tBeats t)[q]=l at *
 have hsl:=sl_small hl
 unfold reach at hsl
 have bad:badBeat t q l=true→beatsD t=q:=fun h=>by rw [hS,if_pos h]
 have good:badBeat t q l=false→beatsD t=beatsGo t ((tBeats t).drop (q + 1)) ((q + 1:Nat):Int):=fun h=>by rw [hS,if_neg (by simp [h])];rfl
 clear hS
 unfold badBeat at bad good
 refine CW.skip ?_
 refine PW.code ?_
 refine CW.seq ?_
 refine CW.block ?_
 refine Ja ?_;refine Jc ?_
 refine RW.indexAddrE hA rfl rfl (by omega) hlt rfl ?_
 refine RW.load_ro rfl hle (ints_at hm) rfl rfl ?_
 refine Jd ?_;refine Jd ?_;refine Jb ?_
 refine CW.seq ?_
 refine Ja ?_;refine Jc ?_;refine Je ?_;refine JA ?_;refine Jg ?_
 refine RW.call Tryz.call78 rfl (fun w2 hw=>rising_ret (hl.mono (ro_call hw))) rfl ?_
 cases h2:risingD l (tRules t).length with
 | false=>
  rw [h2] at bad
  refine Js ?_;refine Jb ?_
  refine CW.ct rfl ?_
  refine Ja ?_;refine Jc ?_;refine Jd ?_;refine Jb ?_
  exact CW.ret1 rfl Tryz.results76 rfl rfl fun w hw=>⟨by rw [bad rfl],hw.kp⟩
 | true=>
 rw [h2] at bad good
 refine Js ?_;refine Jb ?_
 refine CW.cf rfl ?_
 refine JM ?_;refine Ja ?_;refine Jc ?_;refine Jg ?_;refine Jc ?_;refine Jb ?_
 refine CW.block ?_
 refine CW.loop (ι:={ k:Nat // k≤l.length∧hitsGo t q l=hitsGo t q (l.drop k) }) (fun k=>[(1,ptrV b1),(3,.int .i64 q),(8,.slice x.A3 (tBeats t).length x.c3),(9,.int .i64 (tBeats t).length),(10,.int .i64 q),(22,.slice A2 l.length c2),(23,.int .i64 l.length),(24,.int .i64 k.1)]) (fun _=>[blk b1 (x.th t) 25]) (fun k=>l.length - k.1) ⟨0,Nat.zero_le _,rfl⟩ ⟨rfl,rfl,rfl,rfl,rfl,rfl,rfl,rfl,trivial⟩ (fun h=>h) ?_
 intro ⟨k,hk,hT⟩
 dsimp only at hk hT ⊢
 refine Ja ?_;refine Jk ?_;refine Jb ?_
 refine CW.seq ?_
 refine CW.ite rfl (fun hkt=>?_) (fun hke=>?_)
 rotate_left
 ·have hke':l.length≤k:=by omega
  rw [List.drop_eq_nil_of_le hke'] at hT
  rw [hT] at good
  refine CW.exit rfl ?_
  refine PW.code ?_
  refine CW.region ?_
  refine RW.add rfl rfl (w64 (by omega) (by omega)) rfl ?_
  refine Jc ?_
  refine RW.nil ?_
  exact PW.again ⟨q + 1,hlt',good rfl⟩ ⟨rfl,rfl,rfl,rfl,trivial⟩ (fun h=>h) (by show (tBeats t).length - (q + 1) < (tBeats t).length - q;omega)
 have hkt':k < l.length:=by omega
 rw [List.drop_eq_getElem_cons hkt',hitsGo] at hT
 obtain ⟨B3,O3,hA3,hm3,_⟩:=ints_get hl (List.getElem?_eq_getElem hkt')
 obtain ⟨hf0,hf1⟩:=risingD_in h2 l[k] (List.getElem_mem hkt')
 generalize l[k]=f at *
 obtain ⟨B4,O4,A4,c4,hA4,hm4,_,hin4⟩:=rule_at h (i:=(q:Int)) (by omega) (by omega)
 obtain ⟨B5,O5,A5,c5,hA5,hm5,_,hin5⟩:=rule_at h (i:=f) hf0 hf1
 have hr4:=ruleOk_head (hR _ hin4)
 have hr5:=ruleOk_head (hR _ hin5)
 obtain ⟨B6,O6,A6,c6,hA6,hm6,hl6⟩:=foe_get h hr4.1 (by omega)
 refine CW.skip ?_
 refine PW.code ?_
 refine CW.seq ?_
 refine CW.block ?_
 refine Ja ?_
 refine RW.indexAddrE hA3 rfl rfl (by omega) hkt rfl ?_
 refine RW.load_ro rfl hle (ints_at hm3) rfl rfl ?_
 refine Jd ?_;refine Jb ?_
 refine CW.seqA (by kernel_rfl) rfl ?_
 refine AW.val rfl (fun _ _=>by refine Je ?_;exact RW.done rfl) ?_;refine AW.val rfl (fun _ _=>by refine JA ?_;exact RW.done rfl) ?_;refine AW.val rfl (fun _ _=>by refine Je ?_;exact RW.done rfl) ?_;refine AW.val rfl (fun _ _=>by refine JA ?_;exact RW.done rfl) ?_;refine AW.val rfl (fun _ _=>by refine Jc ?_;exact RW.done rfl) ?_
 (apply AW.val rfl;· intro Gx X;(first | refine RW.yes rfl ?_ | skip);refine RW.indexAddrE hA4 rfl rfl (by omega) (by omega) rfl ?_;exact RW.done rfl)
 refine AW.val rfl (fun _ _=>by refine Je ?_;exact RW.done rfl) ?_
 (apply AW.val rfl;· intro Gx X;(first | refine RW.yes rfl ?_ | skip);refine RW.load_ro (v:=.int .i64 (ruleAt t q).2.1) rfl hle (hm4 1 _ rfl) rfl rfl ?_;exact RW.done rfl)
 skip
 (apply AW.val rfl;· intro Gx X;(first | refine RW.yes rfl ?_ | skip);refine RW.indexAddrE hA6 rfl rfl hr4.1 (by omega) rfl ?_;exact RW.done rfl)
 (apply AW.val rfl;· intro Gx X;(first | refine RW.yes rfl ?_ | skip);refine RW.load_ro rfl hle hm6 rfl rfl ?_;exact RW.done rfl)
 refine AW.val rfl (fun _ _=>by refine Je ?_;exact RW.done rfl) ?_;refine AW.val rfl (fun _ _=>by refine JA ?_;exact RW.done rfl) ?_;refine AW.val rfl (fun _ _=>by refine Jc ?_;exact RW.done rfl) ?_
 (apply AW.val rfl;· intro Gx X;(first | refine RW.yes rfl ?_ | skip);refine RW.indexAddrE hA5 rfl rfl hf0 hf1 rfl ?_;exact RW.done rfl)
 refine AW.val rfl (fun _ _=>by refine Je ?_;exact RW.done rfl) ?_
 (apply AW.val rfl;· intro Gx X;(first | refine RW.yes rfl ?_ | skip);refine RW.load_ro (v:=.int .i64 (ruleAt t f).2.1) rfl hle (hm5 1 _ rfl) rfl rfl ?_;exact RW.done rfl)
 skip
 (apply AW.val rfl;· intro Gx X;(first | refine RW.yes rfl ?_ | skip);refine RW.call Tryz.call115 rfl (fun w2 hw=>has_ret (hl6.mono (ro_call hw))) rfl ?_;exact RW.done rfl)
 refine AW.val rfl (fun _ _=>by refine Js ?_;exact RW.done rfl) ?_
 refine AW.stop (by kernel_rfl) (by kernel_rfl) fun bs=>?_
 refine Jb ?_
 cases h5:hasD (foeAt t (ruleAt t q).2.1) (ruleAt t f).2.1 with
 | false=>
  rw [h5,Bool.false_and] at hT
  refine CW.ct rfl ?_
  refine Ja ?_;refine Jc ?_;refine Jd ?_;refine Jb ?_
  exact CW.ret1 rfl Tryz.results76 rfl rfl fun w hw=>⟨by rw [bad (by rw [hT];rfl)],hw.kp⟩
 | true=>
 rw [h5,Bool.true_and] at hT
 refine CW.cf rfl ?_
 refine CW.skip ?_
 refine PW.code ?_
 refine CW.region ?_
 refine RW.add rfl rfl (w64 (by omega) (by omega)) rfl ?_
 refine Jc ?_
 refine RW.nil ?_
 exact PW.again ⟨k + 1,hkt',hT⟩ ⟨rfl,rfl,rfl,rfl,rfl,rfl,rfl,rfl,trivial⟩ (fun h=>h) (by show l.length - (k + 1) < l.length - k;omega)
end Go.Proofs.YtbcdgcodnkgdoaaGreat
namespace Go.Proofs.YtbcdgcodnkgdoaaGreat
open Go Go.RowKit
def bitsAnd (k:IntKind) (a b:Int):Int:=k.wrap (BitVec.ofInt k.bits a &&& BitVec.ofInt k.bits b).toNat
def bitsOr (k:IntKind) (a b:Int):Int:=k.wrap (BitVec.ofInt k.bits a ||| BitVec.ofInt k.bits b).toNat
def bitsXor (k:IntKind) (a b:Int):Int:=k.wrap (BitVec.ofInt k.bits a ^^^ BitVec.ofInt k.bits b).toNat
def shlI (k:IntKind) (a b:Int):Int:=k.wrap (a * 2 ^ (min b.toNat k.bits))
def shrI (k:IntKind) (a b:Int):Int:=a.fdiv (2 ^ (min b.toNat k.bits))
section
variable {P:Program} {E:Env} {ops:Array Oper} {Q:Pst} {rest:List Oper} {G:List (Nat × Value)} {H:List HP}
variable {dst:Nat} {ty t ty':TypeId} {pos:String} {af:Array Edge} {x y:Operand} {k k2:IntKind} {a b c:Int}
theorem RW.band (hx:ev G x=some (.int k a)) (hy:ev G y=some (.int k b)) (hw:bitsAnd k a b=c) (hN:Nat.blt dst E.N=true) (kk:RW P E ops Q rest ((dst,.int k c)::G) H):
 RW P E ops Q (⟨some dst,.binOp .and t x y ty',ty,pos,af,none⟩::rest) G H:=
 RW.val hN (fun f w hf _=>by subst hw;simp [execOp,hf.eval hx,hf.eval hy,run_eqGuard_int,binOp,Op.intBits,bitsAnd]) kk
theorem RW.bor (hx:ev G x=some (.int k a)) (hy:ev G y=some (.int k b)) (hw:bitsOr k a b=c) (hN:Nat.blt dst E.N=true) (kk:RW P E ops Q rest ((dst,.int k c)::G) H):
 RW P E ops Q (⟨some dst,.binOp .or t x y ty',ty,pos,af,none⟩::rest) G H:=
 RW.val hN (fun f w hf _=>by subst hw;simp [execOp,hf.eval hx,hf.eval hy,run_eqGuard_int,binOp,Op.intBits,bitsOr]) kk
theorem RW.shl (hx:ev G x=some (.int k a)) (hy:ev G y=some (.int k2 b)) (h0:0≤b) (hw:shlI k a b=c) (hN:Nat.blt dst E.N=true) (kk:RW P E ops Q rest ((dst,.int k c)::G) H):
 RW P E ops Q (⟨some dst,.binOp .shl t x y ty',ty,pos,af,none⟩::rest) G H:=
 RW.val hN (fun f w hf _=>by
  subst hw
  have h1:¬ b < 0:=by omega
  simp only [execOp,hf.eval hx,hf.eval hy,Sem.run_bind,run_eqGuard_int,Result.andThen,binOp,Op.shift,if_neg h1]
  rfl) kk
theorem RW.shr (hx:ev G x=some (.int k a)) (hy:ev G y=some (.int k2 b)) (h0:0≤b) (hw:shrI k a b=c) (hN:Nat.blt dst E.N=true) (kk:RW P E ops Q rest ((dst,.int k c)::G) H):
 RW P E ops Q (⟨some dst,.binOp .shr t x y ty',ty,pos,af,none⟩::rest) G H:=
 RW.val hN (fun f w hf _=>by
  subst hw
  have h1:¬ b < 0:=by omega
  simp only [execOp,hf.eval hx,hf.eval hy,Sem.run_bind,run_eqGuard_int,Result.andThen,binOp,Op.shift,if_neg h1]
  rfl) kk
end
end Go.Proofs.YtbcdgcodnkgdoaaGreat
namespace Go.Proofs.YtbcdgcodnkgdoaaGreat
open Go Go.RowKit
structure En where
 marks:List Int
 told:List (Int × Int)
 qd:Int
 up:Int
 needD:List Int
 need:List Int
 deadD:List Bool
 dead:List Bool
 strict:List Int
 backs:List Int
 backed:List Bool
 opn:List Int
 clash:List Bool
 attacks:List Int
 standing:List Bool
 pairs:List (Int × Int × Bool × Int)
structure Es where
 t:ThV
 inn:List (List Int)
 of:List (List Int)
 beats:List (List Int)
namespace En
abbrev w64 (x:Int):Int:=IntKind.i64.wrap x
def bit (m k:Int):Bool:=decide (bitsAnd .u8 (shrI .u8 m (k - 1)) 1=1)
def has (e:En) (q k:Int):Bool:=bit (e.marks.getD q.toNat 0) k
def ups (e:En) (k:Int):En:={ e with up:=w64 (e.up + k) }
def tell (e:En) (q k:Int):En:=if e.has q k then e else
 { e with marks:=e.marks.set q.toNat (bitsOr .u8 (e.marks.getD q.toNat 0) (shlI .u8 1 (k - 1))),told:=e.told++[(q,k)],qd:=w64 (e.qd + 1),up:=w64 (e.up + 2) }
def look1 (e:En) (q:Int):En:=if e.has q 1 || (e.backed.getD q.toNat false&&(e.opn.getD q.toNat 0 == 0)&&(e.attacks.getD q.toNat 0 == 0)) then e.tell q 3 else e
def look2 (e:En) (q:Int):En:=if e.has q 2&&((e.backs.getD q.toNat 0 == 0) || e.clash.getD q.toNat false || e.standing.getD q.toNat false) then e.tell q 4 else e
def look (e:En) (q:Int):En:=(e.look1 q).look2 q
def pair (e:En) (p:Int):Int × Int × Bool × Int:=e.pairs.getD p.toNat (0,0,false,0)
def dec (l:List Int) (q:Int):List Int:=l.set q.toNat (w64 (l.getD q.toNat 0 - 1))
def settle (e:En) (p:Int):En:=if (e.pair p).2.2.1 then e else
 (({ e with pairs:=e.pairs.set p.toNat ((e.pair p).1,(e.pair p).2.1,true,(e.pair p).2.2.2),attacks:=dec e.attacks (e.pair p).1 }).ups 2).look (e.pair p).1
def stand (e:En) (p:Int):En:=if (e.need.getD (e.pair p).2.1.toNat 0 == 0)&&((e.pair p).2.2.2 == 0)&&!e.standing.getD (e.pair p).1.toNat false then
 (({ e with standing:=e.standing.set (e.pair p).1.toNat true }).ups 1).look (e.pair p).1 else e
end En
def supD (t:ThV) (r:Int):Bool:=!((ruleAt t r).1 == 3)
abbrev rowAt (l:List (List Int)) (r:Int):List Int:=l.getD r.toNat []
namespace En
def fire1 (s:Es) (e:En) (r:Int):En:=if supD s.t r then
 let q:=(ruleAt s.t r).2.1
 let e:=if e.backed.getD q.toNat false then e else ({ e with backed:=e.backed.set q.toNat true }).ups 1
 ((rowAt s.beats r).foldl settle e).look q
 else e
def fire (s:Es) (e:En) (r:Int):En:=(rowAt s.of r).foldl stand (fire1 s e r)
def long (s:Es) (r:Int):Bool:=decide (1 < (ruleAt s.t r).2.2.length)
def upL (s:Es) (e:En) (r:Int):En:=if long s r then e.ups 1 else e
def lowerD (s:Es) (e:En) (r:Int):En:=({ e with needD:=dec e.needD r }).upL s r
def lower (s:Es) (e:En) (r:Int):En:=({ e with need:=dec e.need r }).upL s r
def onPlusD1 (s:Es) (e:En) (r:Int):En:=if (ruleAt s.t r).1 == 1 then
 let e:=lowerD s e r
 if e.needD.getD r.toNat 0 == 0 then e.tell (ruleAt s.t r).2.1 1 else e
 else e
def onPlusD2 (e:En) (f:Int):En:=if decide (0 < e.backs.getD f.toNat 0)&&!e.clash.getD f.toNat false then (({ e with clash:=e.clash.set f.toNat true }).ups 1).look f else e
def onPlusD (s:Es) (e:En) (q:Int):En:=(((rowAt (tFoes s.t) q).foldl onPlusD2 ((rowAt s.inn q).foldl (onPlusD1 s) e))).look q
def onNoD1 (s:Es) (e:En) (r:Int):En:=if (ruleAt s.t r).1 == 1&&!e.deadD.getD r.toNat false then
 let e:=({ e with deadD:=e.deadD.set r.toNat true }).upL s r
 let h:=(ruleAt s.t r).2.1
 let e:=({ e with strict:=dec e.strict h }).ups 1
 if e.strict.getD h.toNat 0 == 0 then e.tell h 2 else e
 else e
def onNoD (s:Es) (e:En) (q:Int):En:=((rowAt s.inn q).foldl (onNoD1 s) e).look q
def onLate1 (e:En) (f:Int):En:=if decide (0 < e.backs.getD f.toNat 0) || e.backed.getD f.toNat false then (({ e with opn:=dec e.opn f }).ups 1).look f else e
def onLate (s:Es) (e:En) (q:Int):En:=onNoD s ((rowAt (tFoes s.t) q).foldl onLate1 e) q
def onPlus1 (s:Es) (e:En) (r:Int):En:=
 let e:=lower s e r
 if e.need.getD r.toNat 0 == 0 then fire s e r else e
def onPlus (s:Es) (e:En) (q:Int):En:=(rowAt s.inn q).foldl (onPlus1 s) e
def onMinus2 (e:En) (p:Int):En:=(({ e with pairs:=e.pairs.set p.toNat ((e.pair p).1,(e.pair p).2.1,(e.pair p).2.2.1,w64 ((e.pair p).2.2.2 - 1)) }).ups 1).stand p
def onMinus1 (s:Es) (e:En) (r:Int):En:=if e.dead.getD r.toNat false then e else
 let e:=({ e with dead:=e.dead.set r.toNat true }).upL s r
 let e:=(rowAt s.of r).foldl settle e
 if supD s.t r then
  let h:=(ruleAt s.t r).2.1
  let e:=({ e with backs:=dec e.backs h }).ups 1
  ((rowAt s.beats r).foldl onMinus2 e).look h
 else e
def onMinus (s:Es) (e:En) (q:Int):En:=(rowAt s.inn q).foldl (onMinus1 s) e
def does (s:Es) (first:Nat) (i:Nat) (e:En) (p:Int × Int):En:=
 if p.2 == 2 then (if first≤i then onLate s e p.1 else onNoD s e p.1)
 else if p.2 == 1 then onPlusD s e p.1
 else if p.2 == 3 then onPlus s e p.1
 else onMinus s e p.1
def work (s:Es) (first:Nat):Nat→Nat→En→En
 | 0,_,e=>e
 | k + 1,i,e=>match e.told[i]? with
  | none=>e
  | some p=>work s first k (i + 1) (does s first i (e.ups 1) p)
end En
end Go.Proofs.YtbcdgcodnkgdoaaGreat
namespace Go.Proofs.YtbcdgcodnkgdoaaGreat
open Go Go.RowKit
section
variable {P:Program} {E:Env} {Q:Pst} {G:List (Nat × Value)} {H:List HP} {l:List Oper} {own:HP} {q j2:Nat}
theorem wpList1_mono {ops:Array Oper} {o:Oper} {a:Act} {w:World} {K1 K2:Act→World→Prop} (hk:∀ a w,K1 a w→K2 a w) (h:wpList P ops (Pst.then K1 Q).fn [o] a w):wpList P ops (Pst.then K2 Q).fn [o] a w:=by
 have hl:LetsOut (Pst.then K1 Q).fn→LetsOut (Pst.then K2 Q).fn:=fun h=>h
 unfold wpList at h ⊢
 split
 ·rename_i hw
  rw [if_pos hw] at h
  rcases h with h | ⟨h1,h2⟩
  ·refine .inl ?_
   unfold Oper.wp at h ⊢
   generalize (execOp a.eval o).run P w=r at *
   cases r with
   | ok n w'=>
    cases n <;> simp only [Oper.upon] at h ⊢ <;>
     first
      | exact hk _ _ h
      | exact Calls.mono h (fun e w'' he=>by cases e <;> first | exact hk _ _ he | exact he)
      | exact Rows.mono h (fun _ _ he=>hk _ _ he)
   | halt x w'=>cases x <;> simp only [Oper.upon] at h ⊢ <;> exact h
  ·exact .inr ⟨h1,hl h2⟩
 ·rename_i hw
  rw [if_neg hw] at h
  exact hk _ _ h
theorem perm_own {A:List HP} {X:List HP}:((own::A)++X).Perm (A++own::X):=(List.perm_middle (a:=own) (l₁:=A) (l₂:=X)).symm
theorem Prem.with {ops:Array Oper} {Gd:List (Nat × Value)} {o:Oper} {k:PK} (h:Prem P E ops Q Gd G H o k):Prem P E ops Q Gd G (own::H) o k:=by
 cases k with
 | val v=>
  intro Gx X a w hf hw
  refine wpList1_mono (fun a' w' ⟨d,h1,h2,h3⟩=>⟨d,h1,h2,h3.perm perm_own.symm⟩) (h Gx (own::X) a w hf (hw.perm perm_own))
 | new c t p c2=>
  intro Gx X a w hf hw
  refine wpList1_mono (fun a' w' ⟨b,d,h1,h2,h3⟩=>⟨b,d,h1,h2,h3.perm (List.Perm.cons _ perm_own.symm)⟩) (h Gx (own::X) a w hf (hw.perm perm_own))
 | put dj c t c2=>
  intro b Gx X a w hf hw
  refine wpList1_mono (fun a' w' ⟨h2,h3⟩=>⟨h2,h3.perm (List.Perm.cons _ perm_own.symm)⟩) (h b Gx (own::X) a w hf (hw.perm (List.Perm.cons _ perm_own)))
def PrA (P:Program) (E:Env) (Q:Pst) (l:List Oper) (G:List (Nat × Value)) (own:HP) (H:List HP) (q j2:Nat) (ks:List PK) (m:Nat) (o:Oper) (k:PK):Prop:=
 (m≠q→Prem P E l.toArray Q (depG l ks o) G H o k∨∃ (e:Edge) (oj:Oper) (dj:Nat) (v:Value) (cj:Nat→HP) (tj:Nat→Value) (pj:Nat),e∈o.after.toList∧Region.binds .any e=true∧l[e.on]?=some oj∧oj.dst=some dj∧k=.val v∧ks[e.on]?=some (.new cj tj pj cj)∧∀ (b:Nat) (Gx:List (Nat × Value)) (X:List HP),RW P E l.toArray (Pst.then (fun a w=>∃ d,o.dst=some d∧Fr E.N E.ds a ((d,v)::(dj,tj b)::(depG l ks o++G++Gx))∧St E.w0 E.S (cj b::(H++X)) w) Q) [o] ((dj,tj b)::(depG l ks o++G++Gx)) (cj b::(H++X))) ∧
 (m=q→∃ (e:Edge) (oj:Oper) (dj:Nat) (c:Nat→HP) (t:Nat→Value) (p:Nat) (c2 cj:Nat→HP) (tj:Nat→Value) (pj:Nat),e∈o.after.toList∧Region.binds .any e=true∧e.on=j2∧l[j2]?=some oj∧oj.dst=some dj∧k=.new c t p c2∧ks[j2]?=some (.new cj tj pj cj) ∧
  ∀ (b:Nat) (Gx:List (Nat × Value)) (X:List HP),RW P E l.toArray (Pst.then (fun a w=>∃ b' d,o.dst=some d∧Fr E.N E.ds a ((d,t b')::(dj,tj b)::(depG l ks o++G++Gx))∧St E.w0 E.S (c b'::cj b::(H++X)) w) Q) [o] ((dj,tj b)::(depG l ks o++G++Gx)) (cj b::((own::H)++X)))
structure AB (P:Program) (E:Env) (Q:Pst) (l:List Oper) (G:List (Nat × Value)) (own:HP) (H:List HP) (q j2:Nat) (D:List (Nat × PK)) (os:List Oper):Prop where
 out:∀ acc:List PK,D.reverse=zp l acc→acc.length≤l.length→(∀ (i:Nat) (o:Oper),l[i]?=some o→∀ e∈o.after.toList,Region.binds .any e=true→e.on < i)→l.drop acc.length=os→∃ ks:List PK,
  (Dist l (acc++ks).length→∀ (m:Nat) (o:Oper) (k:PK),acc.length≤m→l[m]?=some o→(acc++ks)[m]?=some k→PrA P E Q l G own H q j2 (acc++ks) m o k) ∧
  (Nat.ble (acc++ks).length l.length=true∧forcedB l (acc++ks).length=true∧dstB l [] (acc++ks).length G=true∧(Dist l (acc++ks).length→∀ bs,RW P E l.toArray Q (l.drop (acc++ks).length) (outG l (acc++ks) bs++G) (H++newH l (acc++ks) bs))) ∧
  (∀ k∈ks,k.plain)∧q < (acc++ks).length
theorem AB.stop {D:List (Nat × PK)} {os:List Oper} (hq:Nat.blt q D.length=true) (h2:forcedB l D.length=true) (h3:dstB l [] D.length G=true) (tail:∀ bs,RW P E l.toArray Q os (outD D bs++G) (H++newD D bs)):AB P E Q l G own H q j2 D os:=by
 refine ⟨fun acc hD hle hb hos=>⟨[],fun _ m o k h1 h2 h3=>?_,by rw [List.append_nil];exact stop_out h2 h3 tail hD hle hos,by simp,?_⟩⟩
 ·rw [List.append_nil,List.getElem?_eq_none h1] at h3;cases h3
 ·have:D.length=acc.length:=by rw [← List.length_reverse,hD,zp,List.length_zipWith,Nat.min_eq_right hle]
  rw [List.append_nil,← this]
  rwa [Nat.blt_eq] at hq
theorem AB.of {D:List (Nat × PK)} {o:Oper} {os:List Oper} {d:Nat} {k:PK} (hkp:k.plain) (hd:o.dst=some d)
 (hp:∀ (acc ks:List PK),D.reverse=zp l acc→acc.length≤l.length→l[acc.length]?=some o→Dist l (acc++k::ks).length→depG l (acc++k::ks) o=depD l D o.after.toList→PrA P E Q l G own H q j2 (acc++k::ks) acc.length o k) (h:AB P E Q l G own H q j2 ((d,k)::D) os):AB P E Q l G own H q j2 D (o::os):=by
 refine ⟨fun acc hD hle hb hos=>?_⟩
 obtain ⟨hlt,ho,hos',hD'⟩:=step_acc (k:=k) hd hD hle hos
 obtain ⟨ks,h1,h2,h6,h7⟩:=h.out (acc++[k]) hD' (by simp;omega) hb hos'
 have hass:acc++[k]++ks=acc++k::ks:=by simp
 rw [hass] at h1 h2 h7
 refine ⟨k::ks,fun hdist m o' k' hm ho' hk'=>?_,h2,fun k' hk'=>(List.mem_cons.1 hk').elim (fun e=>e ▸ hkp) (h6 k'),h7⟩
 rcases Nat.eq_or_lt_of_le hm with e | hlt'
 ·subst e
  rw [ho] at ho'
  cases ho'
  rw [List.getElem?_append_right (Nat.le_refl _),Nat.sub_self] at hk'
  cases hk'
  exact hp acc ks hD hle ho hdist (depD_eq hdist (by simp) hD (fun e he hbe=>hb _ _ ho e he hbe))
 ·exact h1 hdist m o' k' (by simp;omega) ho' hk'
theorem AB.step {D:List (Nat × PK)} {o:Oper} {os:List Oper} {d:Nat} {k:PK} (hkp:k.plain) (hd:o.dst=some d) (hq:Nat.beq D.length q=false) (hp:Prem P E l.toArray Q (depD l D o.after.toList) G H o k) (h:AB P E Q l G own H q j2 ((d,k)::D) os):AB P E Q l G own H q j2 D (o::os):=
 AB.of hkp hd (fun acc ks hD hle ho hdist hdep=>by
  have:D.length=acc.length:=by rw [← List.length_reverse,hD,zp,List.length_zipWith,Nat.min_eq_right hle]
  refine ⟨fun _=>.inl (by rw [hdep];exact hp),fun e=>?_⟩
  rw [this,e] at hq
  simp at hq) h
theorem AB.val {D:List (Nat × PK)} {o:Oper} {os:List Oper} {d:Nat} {v:Value} (hd:o.dst=some d) (hq:Nat.beq D.length q=false)
 (hp:∀ (Gx:List (Nat × Value)) (X:List HP),RW P E l.toArray (Pst.then (fun a w=>∃ d,o.dst=some d∧Fr E.N E.ds a ((d,v)::(depD l D o.after.toList++G++Gx))∧St E.w0 E.S (H++X) w) Q) [o] (depD l D o.after.toList++G++Gx) (H++X))
 (h:AB P E Q l G own H q j2 ((d,.val v)::D) os):AB P E Q l G own H q j2 D (o::os):=AB.step (k:=.val v) trivial hd hq hp h
theorem AB.gen {D:List (Nat × PK)} {o:Oper} {os:List Oper} {d:Nat} (V:Nat→Value) (c:Nat→HP) (hd:o.dst=some d) (hq:Nat.beq D.length q=false)
 (hp:∀ (Gx:List (Nat × Value)) (X:List HP),RW P E l.toArray (Pst.then (fun a w=>∃ b d,o.dst=some d∧Fr E.N E.ds a ((d,V b)::(depD l D o.after.toList++G++Gx))∧St E.w0 E.S (c b::(H++X)) w) Q) [o] (depD l D o.after.toList++G++Gx) (H++X))
 (h:AB P E Q l G own H q j2 ((d,.new c V 0 c)::D) os):AB P E Q l G own H q j2 D (o::os):=AB.step (k:=.new c V 0 c) rfl hd hq hp h
theorem AB.app {D:List (Nat × PK)} {o oj:Oper} {os:List Oper} {d dj:Nat} (V:Nat→Value) (c:Nat→HP) {cj:Nat→HP} {tj:Nat→Value} {pj:Nat} (hd:o.dst=some d) (hq:Nat.beq D.length q=true)
 (he:(o.after.toList.any fun e=>Region.binds .any e&&Nat.beq e.on j2)=true) (hoj:l[j2]?=some oj) (hdj:oj.dst=some dj) (hkj:D.reverse[j2]?=some (dj,.new cj tj pj cj))
 (hp:∀ (b:Nat) (Gx:List (Nat × Value)) (X:List HP),RW P E l.toArray (Pst.then (fun a w=>∃ b' d,o.dst=some d∧Fr E.N E.ds a ((d,V b')::(dj,tj b)::(depD l D o.after.toList++G++Gx))∧St E.w0 E.S (c b'::cj b::(H++X)) w) Q) [o] ((dj,tj b)::(depD l D o.after.toList++G++Gx)) (cj b::((own::H)++X)))
 (h:AB P E Q l G own H q j2 ((d,.new c V 0 c)::D) os):AB P E Q l G own H q j2 D (o::os):=
 AB.of (k:=.new c V 0 c) rfl hd (fun acc ks hD hle ho hdist hdep=>by
  have hlen:D.length=acc.length:=by rw [← List.length_reverse,hD,zp,List.length_zipWith,Nat.min_eq_right hle]
  refine ⟨fun hn=>absurd (hlen.symm.trans (Nat.eq_of_beq_eq_true hq)) hn,fun _=>?_⟩
  rw [List.any_eq_true] at he
  obtain ⟨e,he1,he2⟩:=he
  rw [Bool.and_eq_true] at he2
  rw [hdep]
  refine ⟨e,oj,dj,c,V,0,c,cj,tj,pj,he1,he2.1,Nat.eq_of_beq_eq_true he2.2,hoj,hdj,rfl,?_,hp⟩
  rw [hD] at hkj
  have hj:j2 < acc.length:=by
   have:=(List.getElem?_eq_some_iff.1 hkj).1
   rw [zp,List.length_zipWith] at this
   omega
  rw [List.getElem?_append_left hj,List.getElem?_eq_getElem hj]
  rw [zp_at (k:=acc[j2]) hoj hdj (List.getElem?_eq_getElem hj)] at hkj
  have:=Option.some.inj hkj
  rw [Prod.mk.injEq] at this
  rw [this.2]) h
theorem WA.app (hb:backB l=true) (h:AB P E Q l G own H q j2 [] l):WA P E l Q G (own::H):=by
 have hback:∀ (i:Nat) (o:Oper),l[i]?=some o→∀ e∈o.after.toList,Region.binds .any e=true→e.on < i:=by
  intro i o ho e he hbe
  have hi:i < l.length:=(List.getElem?_eq_some_iff.1 ho).1
  have:=(List.all_eq_true.1 hb) i (List.mem_range.2 hi)
  rw [ho] at this
  have h9:=(List.all_eq_true.1 this) e he
  simpa [hbe] using h9
 obtain ⟨ks,h1,⟨h2,h3,h4,h5⟩,hpl,hqn⟩:=h.out [] (by cases l <;> rfl) (by simp) hback rfl
 rw [List.nil_append] at h1 h2 h3 h4 h5 hqn
 have hdist:Dist l ks.length:=by
  intro i hi
  have h6:=(List.all_eq_true.1 h4) i (List.mem_range.2 hi)
  have hi':i < l.length:=by rw [Nat.ble_eq] at h2;omega
  rw [List.getElem?_eq_getElem hi'] at h6
  simp only at h6
  cases hdd:l[i].dst with
  | none=>rw [hdd] at h6;cases h6
  | some d=>
   rw [hdd] at h6
   simp only [Bool.and_eq_true] at h6
   refine ⟨l[i],d,List.getElem?_eq_getElem hi',hdd,fun j o' hj ho' hd'=>?_⟩
   have h7:=(List.all_eq_true.1 h6.2) j (List.mem_range.2 hj)
   rw [ho'] at h7
   simp only [hd'] at h7
   simpa using h7
 have hnoput:∀ i:Nat,PK.isPut ks[i]?=false:=fun i=>by
  cases hk:ks[i]? with
  | none=>rfl
  | some k=>
   have:=hpl k (List.mem_of_getElem? hk)
   cases k with
   | put _ _ _ _=>exact this.elim
   | val v=>rfl
   | new _ _ _ _=>rfl
 have h4':dstB l ks ks.length G=true:=by
  unfold dstB at h4 ⊢
  rw [List.all_eq_true] at h4 ⊢
  intro i hi
  have:=h4 i hi
  rw [hnoput i]
  exact this
 have h1:=h1 hdist
 refine WA.anyA q j2 (fun b=>if b=true then H else own::H) ks.length ks rfl h2 hb h3 h4' (PutOK.plain (fun dj c t c2 hm=>hpl _ hm) (fun c t p c2 hm=>hpl _ hm)) (fun i o d _ _ _ hp=>by rw [hnoput i] at hp;cases hp)
  (fun i o k hi ho hk=>?_) (fun o hq ho=>?_) (fun bs=>?_)
 ·rcases (h1 i o k (Nat.zero_le _) ho hk).1 hi with this | ⟨e,oj,dj,v,cj,tj,pj,g1,g2,g3,g4,g5,g6,g7⟩
  ·refine .inl fun b=>?_
   cases b with
   | true=>exact this
   | false=>exact Prem.with this
  ·refine .inr ⟨e,oj,dj,v,cj,tj,pj,g1,g2,g3,g4,g5,g6,fun b0 b Gx X=>?_⟩
   cases b0 with
   | true=>exact g7 b Gx X
   | false=>
    intro a w hf hw
    exact wpList1_mono (fun a' w' ⟨d,h1,h2,h3⟩=>⟨d,h1,h2,h3.perm (List.Perm.cons _ perm_own.symm)⟩) (g7 b Gx (own::X) a w hf (hw.perm (List.Perm.cons _ perm_own)))
 ·have hk:ks[q]?=some ks[q]:=List.getElem?_eq_getElem hq
  obtain ⟨e,oj,dj,c,t,p,c2,cj,tj,pj,g1,g2,g3,g4,g5,g6,g7,g8⟩:=(h1 q o ks[q] (Nat.zero_le _) ho hk).2 rfl
  exact ⟨e,oj,dj,c,t,p,c2,cj,tj,pj,g1,g2,g3,g4,g5,by rw [hk,g6],g7,fun b Gx X=>g8 b Gx X⟩
 ·rw [decide_eq_true hqn]
  exact h5 hdist bs
theorem RW.done_app {ops:Array Oper} {o:Oper} {n d:Nat} {V:Nat→Value} {c:Nat→HP} {cj:HP} {G':List (Nat × Value)} {H':List HP} (hd:o.dst=some d):
 RW P E ops (Pst.then (fun a w=>∃ b d,o.dst=some d∧Fr E.N E.ds a ((d,V b)::G')∧St E.w0 E.S (c b::cj::H') w) Q) [] ((d,V n)::G') (cj::c n::H'):=fun a w hf hw=>⟨n,d,hd,hf,hw.perm (List.Perm.swap _ _ _)⟩
theorem CW.seqB {id:Nat} {y:Code} (q j2:Nat) (own:HP) {H:List HP} (hm:P.follows .mixedOrders=true) (hb:backB l=true) (h:AB P E (Pst.then (y.wp P Q.fn) Q) l G own H q j2 [] l):CW P E (.seq (.region id l.toArray true) y) Q G (own::H):=CW.seq (CW.of hm (WA.app hb h))
theorem CW.regB {id:Nat} (q j2:Nat) (own:HP) {H:List HP} (hm:P.follows .mixedOrders=true) (hb:backB l=true) (h:AB P E Q l G own H q j2 [] l):CW P E (.region id l.toArray true) Q G (own::H):=CW.of hm (WA.app hb h)
/-! ### few orders: each of them -/
def readyL (l:List Oper) (L:List Bool):List Nat:=(List.range l.length).filter fun i=>!L.getD i true&&((l[i]?).map fun o=>o.after.toList.all fun e=>!Region.binds .any e || L.getD e.on false).getD false
def WT (P:Program) (E:Env) (l:List Oper) (Q:Pst) (L:List Bool) (G:List (Nat × Value)) (H:List HP):Prop:=∀ (a:Act) (w:World),Fr E.N E.ds a G→St E.w0 E.S H w→wpAny P .any l.toArray Q.fn (L.count false) L.toArray a w
def AllR (P:Program) (E:Env) (l:List Oper) (Q:Pst) (L:List Bool) (G:List (Nat × Value)) (H:List HP):List Nat→Prop
 | []=>True
 | i::r=>(∃ o,l[i]?=some o∧RW P E l.toArray (Pst.then (fun a w=>wpAny P .any l.toArray Q.fn ((L.set i true).count false) (L.set i true).toArray a w) Q) [o] G H)∧AllR P E l Q L G H r
theorem AllR.at_ {L:List Bool} {is:List Nat} (h:AllR P E l Q L G H is):∀ i∈is,∃ o,l[i]?=some o∧RW P E l.toArray (Pst.then (fun a w=>wpAny P .any l.toArray Q.fn ((L.set i true).count false) (L.set i true).toArray a w) Q) [o] G H:=by
 induction is with
 | nil=>intro i hi;cases hi
 | cons j is ih=>
  intro i hi
  rcases List.mem_cons.1 hi with rfl | hi
  ·exact h.1
  ·exact ih h.2 i hi
theorem readyL_eq {L:List Bool} (hL:L.length=l.length):Region.ready .any l.toArray L.toArray=readyL l L:=by
 unfold Region.ready readyL
 simp only [List.size_toArray]
 refine List.filter_congr fun i hi=>?_
 simp only [List.getElem?_toArray,Array.getD_eq_getD_getElem?,List.getD_eq_getElem?_getD]
 congr 2
 congr 1
 funext o
 rw [← Array.all_toList]
theorem set_count {L:List Bool}:∀ {i:Nat},L[i]?=some false→(L.set i true).count false + 1=L.count false:=by
 induction L with
 | nil=>intro i h;simp at h
 | cons b L ih=>
  intro i h
  cases i with
  | zero=>simp at h;subst h;simp
  | succ i=>
   have:=ih (i:=i) (by simpa using h)
   cases b <;> simp [List.count_cons] <;> omega
theorem WT.step {L:List Bool} {is:List Nat} (hl:Nat.beq L.length l.length=true) (hr:readyL l L=is) (hne:is.isEmpty=false) (h:AllR P E l Q L G H is):WT P E l Q L G H:=by
 have hL:=Nat.eq_of_beq_eq_true hl
 subst hr
 intro a w hf hw
 obtain ⟨i0,hi0⟩:∃ i,i∈readyL l L:=by
  cases hh:readyL l L with
  | nil=>rw [hh] at hne;cases hne
  | cons i r=>exact ⟨i,by simp⟩
 have hfalse:∀ i∈readyL l L,L[i]?=some false:=fun i hi=>by
  unfold readyL at hi
  rw [List.mem_filter] at hi
  have h1:=List.mem_range.1 hi.1
  have h2:=hi.2
  rw [Bool.and_eq_true] at h2
  have h3:i < L.length:=by omega
  rw [List.getD_eq_getElem?_getD,List.getElem?_eq_getElem h3] at h2
  rw [List.getElem?_eq_getElem h3]
  have:=h2.1
  simp at this
  rw [this]
 have hc:=set_count (hfalse i0 hi0)
 rw [← hc]
 refine ⟨fun hn=>?_,fun i hi=>?_⟩
 ·rw [readyL_eq hL] at hn
  rw [hn] at hi0
  cases hi0
 ·rw [readyL_eq hL] at hi
  obtain ⟨o,ho,h1⟩:=h.at_ i hi
  have h2:=h1 a w hf hw
  have hset:L.toArray.setIfInBounds i true=(L.set i true).toArray:=by simp
  have hcnt:(L.set i true).count false=(L.set i0 true).count false:=by
   have:=set_count (hfalse i hi)
   omega
  rw [hset,← hcnt]
  exact wpOp_then (wpOp_of_list ho h2)
theorem WT.done {L:List Bool} (hl:Nat.beq L.length l.length=true) (hc:L.all id=true) (h:RW P E l.toArray Q [] G H):WT P E l Q L G H:=by
 have hL:=Nat.eq_of_beq_eq_true hl
 intro a w hf hw
 have h0:L.count false=0:=by
  rw [List.count_eq_zero]
  intro hm
  have:=List.all_eq_true.1 hc false hm
  cases this
 rw [h0]
 refine ⟨?_,h a w hf hw⟩
 rw [readyL_eq hL]
 unfold readyL
 refine List.eq_nil_iff_forall_not_mem.2 fun i hi=>?_
 rw [List.mem_filter] at hi
 have h1:=List.mem_range.1 hi.1
 have h3:i < L.length:=by omega
 have h2:=hi.2
 rw [Bool.and_eq_true,List.getD_eq_getElem?_getD,List.getElem?_eq_getElem h3] at h2
 have h4:=List.all_eq_true.1 hc L[i] (List.getElem_mem h3)
 simp at h4
 rw [h4] at h2
 simp at h2
theorem WA.tree (h:WT P E l Q (List.replicate l.length false) G H):WA P E l Q G H:=fun a w hf hw=>by
 have:=h a w.drew hf hw.drew
 have e:(List.replicate l.length false).count false=l.toArray.size:=by simp
 rw [e] at this
 have e2:(List.replicate l.length false).toArray=Array.replicate l.toArray.size false:=by simp
 rw [e2] at this
 exact this
theorem RW.tree {ops:Array Oper} {L:List Bool} (h:WT P E l Q L G H):RW P E ops (Pst.then (fun a w=>wpAny P .any l.toArray Q.fn (L.count false) L.toArray a w) Q) [] G H:=h
end
end Go.Proofs.YtbcdgcodnkgdoaaGreat
namespace Go.Proofs.YtbcdgcodnkgdoaaGreat
open Go Go.RowKit
section
variable {P:Program} {E:Env} {ops:Array Oper} {Q:Pst} {rest:List Oper} {G:List (Nat × Value)} {H:List HP}
variable {dst:Nat} {ty:TypeId} {pos:String} {af:Array Edge} {t e:TypeId} {d:TypeDesc} {z z':Value} {sz by_ sz' by':Nat} {x y:Operand}
end
end Go.Proofs.YtbcdgcodnkgdoaaGreat
namespace Go.Proofs.YtbcdgcodnkgdoaaGreat
open Go Go.RowKit
section
variable {P:Program} {E:Env} {ops:Array Oper} {Q:Pst} {rest:List Oper} {G:List (Nat × Value)} {H:List HP}
variable {dst:Nat} {ty t t2:TypeId} {pos:String} {af:Array Edge} {x y:Operand} {k:IntKind} {a b:Int}
theorem RW.min2 (hx:ev G x=some (.int k a)) (hy:ev G y=some (.int k b)) (hN:Nat.blt dst E.N=true) (kk:RW P E ops Q rest ((dst,.int k (if b < a then b else a))::G) H):
 RW P E ops Q (⟨some dst,.call ⟨.builtin .min,#[x,y],#[t,t2]⟩,ty,pos,af,none⟩::rest) G H:=
 RW.val hN (fun f w hf _=>by
  simp [execOp,resolve,invoke,builtin,Builtin.min_,Builtin.min2,hf.eval hx,hf.eval hy]) kk
end
structure KN where
 (ix lo:List Int)
 (on:List Bool)
 (st of:List Int)
 (ct kn:Int)
def onAt (l:List Bool) (v:Int):Bool:=(l[v.toNat]?).getD false
def minI (a b:Int):Int:=if b < a then b else a
def KN.meet (k:KN) (v:Int):KN:={ k with ix:=k.ix.set v.toNat (k.ct + 1),lo:=k.lo.set v.toNat (k.ct + 1),on:=k.on.set v.toNat true,st:=k.st++[v],ct:=k.ct + 1 }
def KN.lower (k:KN) (v a:Int):KN:={ k with lo:=k.lo.set v.toNat (minI (hdAt k.lo v) a) }
def KN.pop (k:KN):KN:={ k with st:=k.st.dropLast,on:=k.on.set (k.st.getLastD (-1)).toNat false,of:=k.of.set (k.st.getLastD (-1)).toNat k.kn }
def popGo (v:Int):Nat→KN→KN
 | 0,k=>k
 | f + 1,k=>if k.st.getLastD (-1)=v then k.pop else popGo v f k.pop
def KN.close (k:KN) (v:Int):KN:=if hdAt k.lo v=hdAt k.ix v then { popGo v k.st.length k with kn:=k.kn + 1 } else k
def kidsGo (vis:KN→Int→KN) (v:Int):List Int→KN→KN
 | [],k=>k
 | w::r,k=>kidsGo vis v r (if hdAt k.ix w=0 then (vis k w).lower v (hdAt (vis k w).lo w) else if onAt k.on w=true then k.lower v (hdAt k.ix w) else k)
def visitD (nx:Int→List Int):Nat→KN→Int→KN
 | 0,k,_=>k
 | f + 1,k,v=>(kidsGo (visitD nx f) v (nx v) (k.meet v)).close v
def zeros (l:List Int):Nat:=l.countP (· == 0)
structure KOk (n d:Nat) (k:KN):Prop where
 ix:k.ix.length=n
 lo:k.lo.length=n
 on:k.on.length=n
 of:k.of.length=n
 st:∀ w∈k.st,0≤w∧w < n
 ct:k.ct + (zeros k.ix:Nat)=n
 ct0:0≤k.ct
 kn0:0≤k.kn
 kn:k.kn + d≤k.ct
 sl:k.st.length + zeros k.ix≤n
theorem zeros_le (l:List Int):zeros l≤l.length:=List.countP_le_length
theorem zeros_set:∀ {l:List Int} {i:Nat} {x:Int},l[i]?=some 0→x≠0→zeros (l.set i x) + 1=zeros l
 | [],i,x,h,_=>by simp at h
 | y::l,0,x,h,hx=>by
  simp only [List.getElem?_cons_zero,Option.some.injEq] at h
  subst h
  simp [zeros,hx]
 | y::l,i + 1,x,h,hx=>by
  have:=zeros_set (l:=l) (i:=i) (by simpa using h) hx
  unfold zeros at *
  rw [List.set_cons_succ,List.countP_cons,List.countP_cons]
  omega
theorem zero_at {n:Nat} {l:List Int} {v:Int} (hl:l.length=n) (h0:0≤v) (h1:v < n) (h:hdAt l v=0):l[v.toNat]?=some 0:=by rw [← h];exact hd_get hl h0 h1
theorem KOk.meet {n d:Nat} {k:KN} {v:Int} (h:KOk n d k) (h0:0≤v) (h1:v < n) (hz:hdAt k.ix v=0):KOk n (d + 1) (k.meet v):=by
 have hc:=h.ct0
 have:=zeros_set (x:=k.ct + 1) (zero_at h.ix h0 h1 hz) (by omega)
 have hct:=h.ct
 have hkn:=h.kn
 refine ⟨by simp [KN.meet,h.ix],by simp [KN.meet,h.lo],by simp [KN.meet,h.on],h.of,fun w hw=>?_,?_,?_,h.kn0,?_,?_⟩
 ·rcases List.mem_append.1 hw with hw | hw
  ·exact h.st w hw
  ·obtain rfl:=List.mem_singleton.1 hw;exact ⟨h0,h1⟩
 ·show k.ct + 1 + (zeros (k.ix.set v.toNat (k.ct + 1)):Nat)=n
  omega
 ·show 0≤k.ct + 1
  omega
 ·show k.kn + ((d + 1:Nat):Int)≤k.ct + 1
  omega
 ·show (k.st++[v]).length + zeros (k.ix.set v.toNat (k.ct + 1))≤n
  have:=h.sl
  rw [List.length_append,List.length_singleton]
  omega
theorem KOk.lower {n d:Nat} {k:KN} {v a:Int} (h:KOk n d k):KOk n d (k.lower v a):=⟨h.ix,by simp [KN.lower,h.lo],h.on,h.of,h.st,h.ct,h.ct0,h.kn0,h.kn,h.sl⟩
theorem KOk.pop {n d:Nat} {k:KN} (h:KOk n d k):KOk n d k.pop:=
 ⟨h.ix,h.lo,by simp [KN.pop,h.on],by simp [KN.pop,h.of],fun w hw=>h.st w ((List.dropLast_sublist _).subset hw),h.ct,h.ct0,h.kn0,h.kn,by have:=h.sl;have e:k.pop.st.length≤k.st.length:=(List.dropLast_sublist _).length_le;show k.pop.st.length + zeros k.ix≤n;omega⟩
theorem popGo_ix (v:Int):∀ (f:Nat) (k:KN),(popGo v f k).ix=k.ix∧(popGo v f k).lo=k.lo∧(popGo v f k).ct=k.ct∧(popGo v f k).kn=k.kn
 | 0,k=>⟨rfl,rfl,rfl,rfl⟩
 | f + 1,k=>by
  unfold popGo
  split
  ·exact ⟨rfl,rfl,rfl,rfl⟩
  ·exact popGo_ix v f k.pop
theorem KOk.popGo {n d:Nat} {v:Int}:∀ (f:Nat) {k:KN},KOk n d k→KOk n d (popGo v f k)
 | 0,k,h=>h
 | f + 1,k,h=>by
  unfold Go.Proofs.YtbcdgcodnkgdoaaGreat.popGo
  split
  ·exact h.pop
  ·exact KOk.popGo f h.pop
theorem KOk.close {n d:Nat} {k:KN} {v:Int} (h:KOk n (d + 1) k):KOk n d (k.close v):=by
 have hk:=h.kn
 unfold KN.close
 split
 ·have h2:=KOk.popGo (v:=v) k.st.length h
  have e:=popGo_ix v k.st.length k
  refine ⟨h2.ix,h2.lo,h2.on,h2.of,h2.st,h2.ct,h2.ct0,by show 0≤k.kn + 1;have:=h.kn0;omega,?_,h2.sl⟩
  show k.kn + 1 + (d:Int)≤(Go.Proofs.YtbcdgcodnkgdoaaGreat.popGo v k.st.length k).ct
  rw [e.2.2.1]
  omega
 ·exact ⟨h.ix,h.lo,h.on,h.of,h.st,h.ct,h.ct0,h.kn0,by omega,h.sl⟩
structure KLater (k k2:KN):Prop where
 st:∃ e,k2.st=k.st++e
 ze:zeros k2.ix≤zeros k.ix
theorem KLater.refl (k:KN):KLater k k:=⟨⟨[],(List.append_nil _).symm⟩,Nat.le_refl _⟩
theorem KLater.trans {k k2 k3:KN} (h:KLater k k2) (h2:KLater k2 k3):KLater k k3:=by
 obtain ⟨⟨e,he⟩,hz⟩:=h
 obtain ⟨⟨e2,he2⟩,hz2⟩:=h2
 exact ⟨⟨e++e2,by rw [he2,he,List.append_assoc]⟩,Nat.le_trans hz2 hz⟩
theorem popGo_st (v:Int) (s:List Int):∀ (f:Nat) (k:KN) (e:List Int),k.st=s++[v]++e→e.length < f→∃ e2,(popGo v f k).st=s++e2
 | 0,k,e,_,hf=>absurd hf (Nat.not_lt_zero _)
 | f + 1,k,e,he,hf=>by
  unfold popGo
  rcases List.eq_nil_or_concat e with rfl | ⟨e',w,rfl⟩
  ·rw [List.append_nil] at he
   rw [if_pos (by rw [he];simp)]
   exact ⟨[],by show k.st.dropLast=_;rw [he];simp⟩
  ·rw [List.concat_eq_append] at he hf
   rw [List.length_append,List.length_singleton] at hf
   have hd:k.pop.st=s++[v]++e':=by show k.st.dropLast=_;rw [he,← List.append_assoc,List.dropLast_concat]
   split
   ·exact ⟨[v]++e',by rw [hd,List.append_assoc]⟩
   ·exact popGo_st v s f k.pop e' hd (by omega)
theorem close_later {n d:Nat} {k k2:KN} {v:Int} (h:KLater (k.meet v) k2) (hz:zeros (k.meet v).ix≤zeros k.ix):KLater k (k2.close v):=by
 obtain ⟨⟨e,he⟩,hz2⟩:=h
 have he2:k2.st=k.st++[v]++e:=he
 unfold KN.close
 split
 ·refine ⟨popGo_st v k.st k2.st.length k2 e he2 (by rw [he2];simp;omega),?_⟩
  show zeros (popGo v k2.st.length k2).ix≤_
  rw [(popGo_ix v _ k2).1]
  omega
 ·exact ⟨⟨[v]++e,by rw [he2,List.append_assoc]⟩,by omega⟩
theorem meet_zeros {n d:Nat} {k:KN} {v:Int} (h:KOk n d k) (h0:0≤v) (h1:v < n) (hz:hdAt k.ix v=0):zeros (k.meet v).ix + 1=zeros k.ix:=
 zeros_set (x:=k.ct + 1) (zero_at h.ix h0 h1 hz) (by have:=h.ct0;omega)
theorem kids_ok {n d:Nat} {vis:KN→Int→KN} {v:Int} {z:Nat} (hv:∀ (k:KN) (w:Int),KOk n d k→0≤w→w < n→hdAt k.ix w=0→zeros k.ix≤z→KOk n d (vis k w)∧KLater k (vis k w)):∀ (l:List Int) (k:KN),(∀ w∈l,0≤w∧w < n)→KOk n d k→zeros k.ix≤z→KOk n d (kidsGo vis v l k)∧KLater k (kidsGo vis v l k)
 | [],k,_,h,_=>⟨h,KLater.refl k⟩
 | w::r,k,hl,h,hz=>by
  obtain ⟨w0,w1⟩:=hl w (List.mem_cons_self ..)
  unfold kidsGo
  split
  ·rename_i h0
   obtain ⟨a1,a2⟩:=hv k w h w0 w1 h0 hz
   have a3:KOk n d ((vis k w).lower v (hdAt (vis k w).lo w)):=a1.lower
   obtain ⟨b1,b2⟩:=kids_ok hv r _ (fun u hu=>hl u (List.mem_cons_of_mem _ hu)) a3 (Nat.le_trans a2.ze hz)
   exact ⟨b1,KLater.trans a2 ⟨b2.st,b2.ze⟩⟩
  ·split
   ·have a3:KOk n d (k.lower v (hdAt k.ix w)):=h.lower
    obtain ⟨b1,b2⟩:=kids_ok hv r _ (fun u hu=>hl u (List.mem_cons_of_mem _ hu)) a3 hz
    exact ⟨b1,⟨b2.st,b2.ze⟩⟩
   ·exact kids_ok hv r k (fun u hu=>hl u (List.mem_cons_of_mem _ hu)) h hz
theorem visit_ok {n:Nat} {nx:Int→List Int} (hnx:∀ v:Int,0≤v→v < n→∀ w∈nx v,0≤w∧w < n):∀ (f d:Nat) (k:KN) (v:Int),KOk n d k→0≤v→v < n→hdAt k.ix v=0→zeros k.ix≤f→KOk n d (visitD nx f k v)∧KLater k (visitD nx f k v)
 | 0,d,k,v,h,v0,v1,hz,hf=>by
  have:=meet_zeros h v0 v1 hz
  omega
 | f + 1,d,k,v,h,v0,v1,hz,hf=>by
  have e:=meet_zeros h v0 v1 hz
  obtain ⟨a1,a2⟩:=kids_ok (v:=v) (z:=f) (fun k w hk w0 w1 h0 hz=>visit_ok hnx f (d + 1) k w hk w0 w1 h0 hz) (nx v) (k.meet v) (hnx v v0 v1) (h.meet v0 v1 hz) (by omega)
  unfold visitD
  exact ⟨a1.close,close_later (n:=n) (d:=d) a2 (by omega)⟩
theorem pop_lem {k:KN} {s e:List Int} {v:Int} (h:k.st=s++[v]++e):k.st=k.pop.st++[k.st.getLastD (-1)]∧(k.st.getLastD (-1)≠v→∃ e',k.pop.st=s++[v]++e'):=by
 rcases List.eq_nil_or_concat e with rfl | ⟨e',w,rfl⟩
 ·rw [List.append_nil] at h
  have hp:k.pop.st=s:=by show k.st.dropLast=_;rw [h,List.dropLast_concat]
  have hl:k.st.getLastD (-1)=v:=by rw [h];simp
  exact ⟨by rw [hp,hl,h],fun hn=>absurd hl hn⟩
 ·rw [List.concat_eq_append,← List.append_assoc] at h
  have hp:k.pop.st=s++[v]++e':=by show k.st.dropLast=_;rw [h,List.dropLast_concat]
  have hl:k.st.getLastD (-1)=w:=by rw [h,List.getLastD_concat]
  exact ⟨by rw [hp,hl,h],fun _=>⟨e',hp⟩⟩
theorem own_drop {ty:TypeId} {B m c:Nat} {l:List Int} {x:Int} {w:World} {F:Nat→Prop} (hm:l.length=m) (h:(ownHP ty 1 (.slice (some ⟨B,0,none⟩) (m + 1) c) ((l++[x]).map intE)).p w F):(ownHP ty 1 (.slice (some ⟨B,0,none⟩) m c) (l.map intE)).p w F:=by
 rcases h with ⟨h,_⟩ | ⟨B',c',tl,h1,h2,h3,h4,h5,h6,h7⟩
 ·cases h
 ·simp only [Value.slice.injEq,Option.some.injEq,Addr.mk.injEq] at h1
  obtain ⟨⟨rfl,_⟩,_,rfl⟩:=h1
  rw [List.map_append,List.flatten_append] at h3 h5
  rw [List.length_map,List.length_append] at h6
  refine .inr ⟨B,c,[intE x].flatten++tl,by rw [List.length_map,hm],h2,by rw [h3,List.append_assoc];rfl,fun y hy=>h4 y (by rw [List.map_append];exact List.mem_append_left _ hy),?_,by rw [List.length_map];omega,h7⟩
  rw [← h5]
  simp only [List.length_append,List.map_cons,List.map_nil]
  omega
end Go.Proofs.YtbcdgcodnkgdoaaGreat
namespace Go.Proofs.YtbcdgcodnkgdoaaGreat
open Go Go.RowKit
def lateO (i:Nat) (o:Oper):Oper:={ o with after:=o.after.push ⟨i,.data⟩ }
def lateGo (i:Nat):Nat→List Oper→List Oper
 | _,[]=>[]
 | j,o::r=>cond (Nat.blt i j) (lateO i o) o::lateGo i (j + 1) r
abbrev lateL (i:Nat) (l:List Oper):List Oper:=lateGo i 0 l
theorem lateGo_get {i:Nat}:∀ {l:List Oper} {k j:Nat},(lateGo i k l)[j]?=(l[j]?).map fun o=>if i < k + j then lateO i o else o
 | [],k,j=>rfl
 | o::r,k,0=>by
  unfold lateGo
  simp only [List.getElem?_cons_zero,Option.map_some,Nat.add_zero]
  cases h:Nat.blt i k with
  | true=>rw [if_pos (by rwa [Nat.blt_eq] at h)];rfl
  | false=>rw [if_neg (fun k=>by rw [← Nat.blt_eq] at k;rw [k] at h;cases h)];rfl
 | o::r,k,j + 1=>by
  unfold lateGo
  rw [List.getElem?_cons_succ,List.getElem?_cons_succ,lateGo_get,show k + 1 + j=k + (j + 1) by omega]
theorem lateGo_len {i:Nat}:∀ {l:List Oper} {k:Nat},(lateGo i k l).length=l.length
 | [],_=>rfl
 | o::r,k=>by
  unfold lateGo
  rw [List.length_cons,List.length_cons,lateGo_len]
section
variable {P:Program} {E:Env} {Q:Pst} {G:List (Nat × Value)} {H:List HP} {l:List Oper} {i:Nat}
theorem lateL_get (j:Nat):(lateL i l).toArray[j]?=(l.toArray[j]?).map fun o=>if i < j then lateO i o else o:=by
 simp [lateL,lateGo_get]
theorem late_yield (tmps:Array Value):yielded (lateL i l).toArray tmps=yielded l.toArray tmps:=by
 funext g
 unfold yielded
 rw [lateL_get]
 cases l.toArray[g]? with
 | none=>rfl
 | some o=>
  have e:(if i < g then lateO i o else o).dst=o.dst:=by split <;> rfl
  simp only [Option.map_some,Option.bind_some,e]
theorem late_ready {listed:Array Bool} (hi:listed.getD i false=true):Region.ready .any (lateL i l).toArray listed=Region.ready .any l.toArray listed:=by
 unfold Region.ready
 rw [show (lateL i l).toArray.size=l.toArray.size by simp [lateL,lateGo_len]]
 refine List.filter_congr fun j hj=>?_
 rw [lateL_get]
 cases l.toArray[j]? with
 | none=>rfl
 | some o=>
  simp only [Option.map_some,Option.getD_some]
  split
  ·have hi2:listed[i]?.getD false=true:=by simpa using hi
   unfold lateO
   simp [hi2]
  ·rfl
theorem late_op {Qf:Exit→Act→World→Prop} {j:Nat} {K:Act→World→Prop} {a:Act} {w:World}:wpOp P (lateL i l).toArray Qf j K a w↔wpOp P l.toArray Qf j K a w:=by
 unfold wpOp
 rw [lateL_get,late_yield]
 cases l.toArray[j]? with
 | none=>exact Iff.rfl
 | some o=>
  simp only [Option.map_some]
  split <;> exact Iff.rfl
theorem late_any {Qf:Exit→Act→World→Prop}:∀ (fuel:Nat) (listed:Array Bool) (a:Act) (w:World),listed.getD i false=true→wpAny P .any (lateL i l).toArray Qf fuel listed a w→wpAny P .any l.toArray Qf fuel listed a w
 | 0,listed,a,w,hi,h=>by
  unfold wpAny at h ⊢
  rw [late_ready hi] at h
  exact h
 | fuel + 1,listed,a,w,hi,h=>by
  unfold wpAny at h ⊢
  rw [late_ready hi] at h
  refine ⟨h.1,fun j hj=>?_⟩
  exact late_op.1 (wpOp_mono (fun a' w' h'=>late_any fuel _ a' w' (getD_set_true hi) h') (h.2 j hj))
theorem WA.late (i:Nat) {o:Oper} {s d:Nat} {v:Value} {fn:Func} {R:Ending→World→Prop} (ho:l[i]?=some o) (hop:o.op=.move (.tmp s)) (hd:o.dst=some d) (hg:o.guard=none) (hv:look G s=some v) (hs:Region.noSelect l.toArray=true)
 (hf:Region.free .any l.toArray (Array.replicate l.toArray.size false) i=true) (hr:(Region.ready .any l.toArray (Array.replicate l.toArray.size false)).contains i=true) (hQ:Q.pan=PanP P fn R) (h:WA P E (lateL i l) Q G H):WA P E l Q G H:=fun a w hfr hw=>by
 have h1:=h a w hfr hw
 have hsz:(lateL i l).toArray.size=l.toArray.size:=by simp [lateL,lateGo_len]
 rw [hsz] at h1
 have hlt:i < l.toArray.size:=by simpa using (List.getElem?_eq_some_iff.1 ho).1
 obtain ⟨n,hn⟩:∃ n,l.toArray.size=n + 1:=⟨l.toArray.size - 1,by omega⟩
 have hla:l.toArray[i]?=some o:=by simpa using ho
 have ha:a.eval (.tmp s)=v:=hfr.eval (show ev G (.tmp s)=some v from hv)
 have hrun:∀ w,(execOp a.eval o).run P w=.ok (.value v) w:=fun w=>by simp [execOp,hop,ha]
 have hwan:Region.wanted o (yielded l.toArray a.tmps)=true:=by simp [Region.wanted,hg]
 have hy:Yields P l.toArray o v a:=.inl ⟨hwan,hrun⟩
 have hr0:i∈Region.ready .any l.toArray (Array.replicate l.toArray.size false):=by simpa using hr
 have hr2:i∈Region.ready .any (lateL i l).toArray (Array.replicate l.toArray.size false):=by
  rw [mem_ready] at hr0 ⊢
  obtain ⟨k0,o2,k1,k2⟩:=hr0
  refine ⟨k0,o2,?_,k2⟩
  rw [lateL_get,k1]
  simp
 rw [hn] at h1 hr2
 have h2:=late_op.1 (h1.2 i hr2)
 unfold wpOp at h2
 rw [hla] at h2
 simp only [hwan,if_true] at h2
 have h3:wpAny P .any (lateL i l).toArray Q.fn n ((Array.replicate (n + 1) false).setIfInBounds i true) (a.put o.dst v) w.drew:=by
  rcases h2 with h2 | ⟨h2,_⟩
  ·unfold Oper.wp at h2
   rw [hrun] at h2
   exact h2
  ·unfold Oper.asks at h2
   have h4:=h2.1
   have e:execOp a.eval o=.pure (.value v):=by
    unfold execOp
    rw [hop]
    simp only [ha]
    rfl
   rw [e] at h4
   exact absurd h4 (by simp [Sem.runT])
 rw [hn]
 rw [hn] at hr0
 refine wpAny_first hla (Region.noSelect_spec hs) (fun c a w hp=>?_) n _ a w.drew ?_ hr0 hy (late_any n _ _ _ ?_ h3)
 ·show Q.pan c a w
  have hp:Q.pan c (a.put o.dst v) w:=hp
  rw [hQ] at hp ⊢
  refine ⟨?_⟩
  have:=hp.out
  rw [hd] at this
  exact this
 ·rw [hn] at hf
  exact Region.free_spec hla hf
 ·rw [Array.getD_eq_getD_getElem?,Array.getElem?_setIfInBounds_self_of_lt (by simp;omega)]
  rfl
theorem CW.seqL {id:Nat} {y:Code} (i:Nat) {o:Oper} {s d:Nat} {v:Value} {fn:Func} {R:Ending→World→Prop} (hm:P.follows .mixedOrders=true) (ho:l[i]?=some o) (hop:o.op=.move (.tmp s)) (hd:o.dst=some d) (hg:o.guard=none) (hv:look G s=some v) (hs:Region.noSelect l.toArray=true)
 (hf:Region.free .any l.toArray (Array.replicate l.toArray.size false) i=true) (hr:(Region.ready .any l.toArray (Array.replicate l.toArray.size false)).contains i=true) (hQ:Q.pan=PanP P fn R) (h:WA P E (lateL i l) (Pst.then (y.wp P Q.fn) Q) G H):CW P E (.seq (.region id l.toArray true) y) Q G H:=
 CW.seq (CW.of hm (WA.late i ho hop hd hg hv hs hf hr hQ h))
end
end Go.Proofs.YtbcdgcodnkgdoaaGreat
namespace Go.Proofs.YtbcdgcodnkgdoaaGreat
open Go Go.RowKit
def encU (L n:Nat):Value:=if n=0 then .slice none 0 0 else .slice (some ⟨(n - 1) / 9223372036854775808,0,none⟩) L ((n - 1) % 9223372036854775808)
theorem enc_ownU {w0 w:World} {S:Nat→Prop} {pre r:List HP} {e:TypeId} {sz:Nat} {v:Value} {es:List (List Value)} (h:St w0 S (pre++ownHP e sz v es::r) w):∃ n,v=encU es.length n:=by
 rcases own_form h with ⟨h1,h2⟩ | ⟨B,c,h1,_,h3,_⟩
 ·exact ⟨0,by rw [h1];unfold encU;rw [if_pos rfl]⟩
 ·obtain ⟨n,e1,e2⟩:=enc B c h3
  refine ⟨n + 1,?_⟩
  unfold encU
  rw [if_neg (by omega),Nat.add_sub_cancel,h1,e1,e2]
end Go.Proofs.YtbcdgcodnkgdoaaGreat
namespace Go.Proofs.YtbcdgcodnkgdoaaGreat
open Go Go.RowKit
abbrev nextV (b1:Nat):Value:=.func (.func 118) #[] #[ptrV b1]
structure KAd where
 (B1 B2 B3 B5:Nat)
abbrev knC (b1:Nat) (a:KAd) (n:Nat) (sv:Value) (ct kn:Int):List Value:=[nextV b1,.slice (some ⟨a.B1,0,none⟩) n n,.slice (some ⟨a.B2,0,none⟩) n n,.slice (some ⟨a.B3,0,none⟩) n n,sv,.slice (some ⟨a.B5,0,none⟩) n n,.int .i64 ct,.int .i64 kn]
abbrev boolE (b:Bool):List Value:=[.bool b]
abbrev knR (a:KAd) (n:Nat) (sv:Value) (k:KN):List HP:=[ownHP 3 1 (.slice (some ⟨a.B1,0,none⟩) n n) (k.ix.map intE),ownHP 3 1 (.slice (some ⟨a.B2,0,none⟩) n n) (k.lo.map intE),ownHP 4 1 (.slice (some ⟨a.B3,0,none⟩) n n) (k.on.map boolE),ownHP 3 1 sv (k.st.map intE),ownHP 3 1 (.slice (some ⟨a.B5,0,none⟩) n n) (k.of.map intE)]
abbrev knH (bk b1:Nat) (a:KAd) (n:Nat) (sv:Value) (k:KN):List HP:=blk bk (knC b1 a n sv k.ct k.kn) 190::knR a n sv k
def beatAt (t:ThV) (v:Int):List Int:=((tBeats t)[v.toNat]?).getD []
theorem beat_get {M:Mem} {t:ThV} {x:TC} (h:ThOn M t x) {q:Int} (h0:0≤q) (h1:q < ((tBeats t).length:Int)):∃ B O A c,x.A3=some ⟨B,O,none⟩∧M B (O + q.toNat * 1) (.slice A (beatAt t q).length c)∧Rd kInts M [.slice A (beatAt t q).length c] (beatAt t q):=by
 have h2:q.toNat < (tBeats t).length:=by omega
 obtain ⟨B,O,A,c,hA,hm,hl⟩:=lists_get h.beats (List.getElem?_eq_getElem h2)
 have e:beatAt t q=(tBeats t)[q.toNat]:=by unfold beatAt;rw [List.getElem?_eq_getElem h2];rfl
 rw [e]
 exact ⟨B,O,A,c,hA,by rw [Nat.mul_one];exact hm,hl⟩
theorem own_shapeM {w0 w:World} {S:Nat→Prop} {pre r:List HP} {e:TypeId} {sz:Nat} {v:Value} {es:List (List Value)} (h:St w0 S (pre++ownHP e sz v es::r) w):∃ A c,v=.slice A es.length c∧(es≠[]→∃ B,A=some ⟨B,0,none⟩):=by
 rcases own_form h with ⟨h1,h2⟩ | ⟨B,c,h1,_⟩
 ·exact ⟨none,0,by rw [h1,h2];rfl,fun h=>absurd h2 h⟩
 ·exact ⟨_,c,h1,fun _=>⟨B,rfl⟩⟩
theorem own_shapeC {w0 w:World} {S:Nat→Prop} {pre r:List HP} {e:TypeId} {sz:Nat} {v:Value} {es:List (List Value)} (h:St w0 S (pre++ownHP e sz v es::r) w):∃ A c,v=.slice A es.length c∧(es≠[]→∃ B,A=some ⟨B,0,none⟩)∧es.length≤c:=by
 rcases own_form h with ⟨h1,h2⟩ | ⟨B,c,h1,h3,_⟩
 ·exact ⟨none,0,by rw [h1,h2];rfl,fun h=>absurd h2 h,by rw [h2];exact Nat.le_refl _⟩
 ·exact ⟨_,c,h1,fun _=>⟨B,rfl⟩,h3⟩
theorem encU_cells (L n:Nat):(encU L n).cells=#[encU L n]∧(encU L n).oneCell'=true:=by unfold encU;split <;> exact ⟨rfl,rfl⟩
attribute [local irreducible] RW CW
theorem next_ret {t:ThV} {x:TC} {b1 B O n c:Nat} {v:Int} {A:Option Addr} {w:World} (hb:∀ (j:Nat) (u:Value),(x.th t)[j]?=some u→mem w (fun b=>¬ No b) b1 j u) (h0:0≤v) (h1:v < ((tBeats t).length:Int)) (hA:x.A3=some ⟨B,O,none⟩) (hm:mem w (fun b=>¬ No b) B (O + v.toNat * 1) (.slice A n c)):
 Ret Tryz.prog 118 [.int .i64 v,ptrV b1] w (.slice A n c):=by
 have hle:Mem.le (mem w (fun b=>¬ No b)) (mem w (fun b=>¬ No b)):=Mem.le_refl _
 refine Calls.enter Tryz.func118 rfl _ rfl rfl (S:=No) (H:=[]) trivial ?_
 refine Ja ?_;refine Jd ?_;refine Jb ?_;refine Ja ?_;refine Je ?_
 refine RW.load_ro rfl hle (hb 3 _ rfl) rfl rfl ?_
 refine Jc ?_
 refine RW.indexAddrE hA rfl rfl h0 h1 rfl ?_
 refine RW.load_ro rfl hle hm rfl rfl ?_
 refine Jd ?_;refine Jb ?_
 exact CW.ret1 rfl Tryz.results118 rfl rfl fun w hw=>⟨rfl,hw.kp⟩
theorem mapB_get {l:List Bool} {i:Nat} {v:Bool} (h:l[i]?=some v):(l.map boolE)[i]?=some [.bool v]:=by rw [List.getElem?_map,h];rfl
theorem on_get {n:Nat} {l:List Bool} {q:Int} (hl:l.length=n) (h0:0≤q) (h1:q < n):l[q.toNat]?=some (onAt l q):=by
 unfold onAt
 rw [List.getElem?_eq_getElem (by omega)]
 rfl
set_option maxHeartbeats 32000000 in
theorem visit_ret {t:ThV} {x:TC} {bk b1 n:Nat} {a:KAd} (hnB:(tBeats t).length=n) (hn:n≤4096) (hnx:∀ v:Int,0≤v→v < n→∀ w∈beatAt t v,0≤w∧w < n):∀ (f d:Nat) (k:KN) (v:Int) (sv:Value) (w:World) (F:Nat→Prop),KOk n d k→0≤v→v < n→hdAt k.ix v=0→zeros k.ix≤f→
 (∀ (j:Nat) (u:Value),(x.th t)[j]?=some u→mem w (fun b=>¬ F b) b1 j u)→ThOn (mem w (fun b=>¬ F b)) t x→Sep (knH bk b1 a n sv k) w F→
 RetC Tryz.prog 166 [ptrV bk,.int .i64 v] w F (fun _:Value=>.tuple #[]) (fun sv2=>knH bk b1 a n sv2 (visitD (beatAt t) f k v))
 | 0,d,k,v,sv,w,F,hk,v0,v1,hz,hf,_,_,_=>by
  have:=meet_zeros hk v0 v1 hz
  omega
 | f + 1,d,k,v,sv,w,F,hk,v0,v1,hz,hf,hb,h,hH=>by
  have hle:Mem.le (mem w (fun b=>¬ F b)) (mem w (fun b=>¬ F b)):=Mem.le_refl _
  have hct:=hk.ct
  have hct0:=hk.ct0
  have hg1:=hd_get hk.ix v0 v1
  have hg2:=hd_get hk.lo v0 v1
  have hg3:=on_get hk.on v0 v1
  refine Calls.enter Tryz.func166 rfl _ rfl rfl (S:=F) (H:=knH bk b1 a n sv k) hH ?_
  refine Ja ?_;refine Jc ?_;refine Jf ?_;refine Je ?_;refine JA ?_
  refine RW.add rfl rfl (w64 (by omega) (by omega)) rfl ?_
  refine Jf ?_;refine Je ?_
  refine RW.store_blk [] rfl rfl rfl rfl rfl (Nat.lt_of_sub_eq_succ rfl) ?_
  refine Jb ?_
  refine CW.sep (blk bk (knC b1 a n sv (k.ct + 1) k.kn) 190::knR a n sv k) (fun w A h=>h) ?_
  refine CW.seqL 9 (by kernel_rfl) rfl rfl rfl rfl rfl (by kernel_rfl) (by kernel_rfl) (by kernel_rfl) rfl ?_
  refine WA.anyV (by kernel_rfl) ?_
  refine AW.val rfl (fun _ _=>by refine Jc ?_;exact RW.done rfl) ?_;refine AW.val rfl (fun _ _=>by refine Jf ?_;exact RW.done rfl) ?_;refine AW.val rfl (fun _ _=>by refine Je ?_;exact RW.done rfl) ?_;refine AW.val rfl (fun _ _=>by refine JA ?_;exact RW.done rfl) ?_;refine AW.val rfl (fun _ _=>by refine Jc ?_;exact RW.done rfl) ?_;refine AW.val rfl (fun _ _=>by refine Jc ?_;exact RW.done rfl) ?_;refine AW.val rfl (fun _ _=>by refine Jf ?_;exact RW.done rfl) ?_;refine AW.val rfl (fun _ _=>by refine Je ?_;exact RW.done rfl) ?_;refine AW.val rfl (fun _ _=>by refine JA ?_;exact RW.done rfl) ?_;refine AW.val rfl (fun _ _=>by refine Jc ?_;exact RW.done rfl) ?_;refine AW.val rfl (fun _ _=>by refine Jc ?_;exact RW.done rfl) ?_;refine AW.val rfl (fun _ _=>by refine Jf ?_;exact RW.done rfl) ?_;refine AW.val rfl (fun _ _=>by refine Je ?_;exact RW.done rfl) ?_;refine AW.val rfl (fun _ _=>by refine JA ?_;exact RW.done rfl) ?_;refine AW.val rfl (fun _ _=>by refine Jc ?_;exact RW.done rfl) ?_;refine AW.val rfl (fun _ _=>by refine Jf ?_;exact RW.done rfl) ?_;refine AW.val rfl (fun _ _=>by refine Je ?_;exact RW.done rfl) ?_;refine AW.val rfl (fun _ _=>by refine JA ?_;exact RW.done rfl) ?_
  refine AW.stop (by kernel_rfl) (by kernel_rfl) fun bs=>?_
  refine RW.indexAddr rfl rfl v0 v1 rfl ?_
  refine RW.storeOwn [_] (v:=.int .i64 (k.ct + 1)) (i:=v.toNat) (j:=0) rfl (by simp) rfl rfl rfl (mapE_get hg1) (Nat.zero_lt_succ _) ?_
  refine RW.indexAddr rfl rfl v0 v1 rfl ?_
  refine RW.storeOwn [_,_] (v:=.int .i64 (k.ct + 1)) (i:=v.toNat) (j:=0) rfl (by simp) rfl rfl rfl (mapE_get hg2) (Nat.zero_lt_succ _) ?_
  rw [show (k.ix.map intE).set v.toNat ([Value.int .i64 (hdAt k.ix v)].set 0 (.int .i64 (k.ct + 1)))=(k.ix.set v.toNat (k.ct + 1)).map intE from List.map_set.symm,show (k.lo.map intE).set v.toNat ([Value.int .i64 (hdAt k.lo v)].set 0 (.int .i64 (k.ct + 1)))=(k.lo.set v.toNat (k.ct + 1)).map intE from List.map_set.symm]
  refine RW.nil (PW.code ?_)
  refine CW.sep [ownHP 3 1 sv (k.st.map intE),blk bk (knC b1 a n sv (k.ct + 1) k.kn) 190,ownHP 3 1 (.slice (some ⟨a.B1,0,none⟩) n n) ((k.ix.set v.toNat (k.ct + 1)).map intE),ownHP 3 1 (.slice (some ⟨a.B2,0,none⟩) n n) ((k.lo.set v.toNat (k.ct + 1)).map intE),ownHP 4 1 (.slice (some ⟨a.B3,0,none⟩) n n) (k.on.map boolE),ownHP 3 1 (.slice (some ⟨a.B5,0,none⟩) n n) (k.of.map intE)] (fun w A h=>Sep.take [4,0,1,2,3,5] h) ?_
  refine CW.seqL 5 (by kernel_rfl) rfl rfl rfl rfl rfl (by kernel_rfl) (by kernel_rfl) (by kernel_rfl) rfl ?_
  refine WA.app (q:=12) (j2:=11) (by kernel_rfl) ?_
  refine AB.val rfl rfl (fun _ _=>by refine Jc ?_;exact RW.done rfl) ?_;refine AB.val rfl rfl (fun _ _=>by refine Jc ?_;exact RW.done rfl) ?_;refine AB.val rfl rfl (fun _ _=>by refine Jf ?_;exact RW.done rfl) ?_;refine AB.val rfl rfl (fun _ _=>by refine Je ?_;exact RW.done rfl) ?_;refine AB.val rfl rfl (fun _ _=>by refine JA ?_;exact RW.done rfl) ?_;refine AB.val rfl rfl (fun _ _=>by refine Jc ?_;exact RW.done rfl) ?_;refine AB.val rfl rfl (fun _ _=>by refine Jc ?_;exact RW.done rfl) ?_;refine AB.val rfl rfl (fun _ _=>by refine Jf ?_;exact RW.done rfl) ?_;refine AB.val rfl rfl (fun _ _=>by refine Je ?_;exact RW.done rfl) ?_;refine AB.val rfl rfl (fun _ _=>by refine JA ?_;exact RW.done rfl) ?_;refine AB.val rfl rfl (fun _ _=>by refine Jc ?_;exact RW.done rfl) ?_
  (apply AB.gen (fun b=>.slice (some ⟨b,0,none⟩) 1 1) (fun b=>blk b [.int .i64 v] 3) rfl rfl;· intro Gx X;refine RW.buildSlice (e:=3) (c:=[.int .i64 v]) rfl (fun w=>by kernel_rfl) rfl fun b _=>?_;exact RW.done_gen rfl)
  refine AB.app (fun m=>encU (k.st.length + 1) m) (fun m=>ownHP 3 1 (encU (k.st.length + 1) m) ((k.st++[v]).map intE)) rfl rfl rfl rfl rfl rfl (fun b Gx X=>?_) ?_
  ·refine RW.append [_] (e:=3) (sz:=1) (news:=[[.int .i64 v]]) (zc:=[.int .i64 0]) rfl rfl rfl rfl rfl (by simp) (by simp [Value.oneCell']) (fun w hw hn=>?_) ?_ ?_ rfl fun u1=>?_
   ·exact ⟨b,0,rfl,CellsAt.of_blk (St.blk (pre:=[]) hw)⟩
   ·rw [List.length_map];have:=hk.sl;omega
   ·rw [List.length_map];unfold maxN;have:=hk.sl;omega
   rw [show k.st.map intE++[[.int .i64 v]]=(k.st++[v]).map intE by rw [List.map_append];rfl]
   refine RW.have_ (φ:=∃ m,u1=encU (k.st.length + 1) m) (fun w hw=>by have:=enc_ownU (pre:=[_]) hw;rwa [List.length_map,List.length_append,List.length_singleton] at this) (fun ⟨m,hm⟩=>?_)
   subst hm
   exact RW.done_app rfl
  refine AB.stop rfl (by kernel_rfl) (by kernel_rfl) fun bs2=>?_
  have hv1:=encU_cells (k.st.length + 1) (bs2 46)
  refine RW.nilCheck rfl rfl ?_
  refine RW.fieldAddr rfl rfl ?_
  refine RW.store_blk [] rfl rfl rfl hv1.1 hv1.2 (Nat.lt_of_sub_eq_succ rfl) ?_
  refine RW.indexAddr rfl rfl v0 v1 rfl ?_
  refine RW.storeOwn [_,_,_] (v:=.bool true) (i:=v.toNat) (j:=0) rfl (by simp) rfl rfl rfl (mapB_get hg3) (Nat.zero_lt_succ _) ?_
  rw [show (k.on.map boolE).set v.toNat ([Value.bool (onAt k.on v)].set 0 (.bool true))=(k.on.set v.toNat true).map boolE from List.map_set.symm]
  refine RW.nil (PW.code ?_)
  refine CW.sep (knH bk b1 a n (encU (k.st.length + 1) (bs2 46)) (k.meet v)) (fun w A h=>Sep.take [0,1,2,3,5,4] h) ?_
  have hk1:=hk.meet v0 v1 hz
  have hz1:=meet_zeros hk v0 v1 hz
  have hvd:visitD (beatAt t) (f + 1) k v=(kidsGo (visitD (beatAt t) f) v (beatAt t v) (k.meet v)).close v:=rfl
  rw [hvd]
  obtain ⟨B3,O3,A3,c3,hA3,hm3,hl3⟩:=beat_get h v0 (by omega)
  have hsl:=sl_small hl3
  unfold reach at hsl
  have hst1:(k.meet v).st=k.st++[v]:=rfl
  generalize k.meet v=k1 at *
  generalize encU (k.st.length + 1) (bs2 46)=sv1 at *
  have hnl:=hnx v v0 v1
  generalize beatAt t v=l at *
  refine CW.seq ?_
  refine Ja ?_;refine Jc ?_;refine Jf ?_;refine Je ?_;refine JA ?_;refine Jc ?_
  refine RW.callv Tryz.call118 rfl rfl (fun w2 hw=>next_ret (fun j u hj=>ro_call hw _ _ _ (hb j u hj)) v0 (by omega) hA3 (ro_call hw _ _ _ hm3)) rfl ?_
  refine Jg ?_;refine Jc ?_;refine Jb ?_
  clear hvd
  refine CW.block ?_
  refine CW.loop (ι:={ q:Nat × KN × Value // q.1≤l.length∧KOk n (d + 1) q.2.1∧zeros q.2.1.ix≤f∧KLater k1 q.2.1∧kidsGo (visitD (beatAt t) f) v l k1=kidsGo (visitD (beatAt t) f) v (l.drop q.1) q.2.1 })
   (fun q=>[(0,ptrV bk),(1,.int .i64 v),(55,.slice A3 l.length c3),(56,.int .i64 l.length),(57,.int .i64 q.1.1)]) (fun q=>knH bk b1 a n q.1.2.2 q.1.2.1) (fun q=>l.length - q.1.1) ⟨(0,k1,sv1),Nat.zero_le _,hk1,by dsimp only;omega,KLater.refl _,rfl⟩ ⟨rfl,rfl,rfl,rfl,rfl,trivial⟩ (fun h=>h) ?_
  intro ⟨⟨i,k2,sv2⟩,hi,hk2,hz2,hL2,hS⟩
  dsimp only at hi hk2 hz2 hL2 hS ⊢
  refine Ja ?_;refine Jk ?_;refine Jb ?_
  refine CW.seq ?_
  refine CW.ite rfl (fun hlt=>?_) (fun hge=>?_)
  ·have hlt':i < l.length:=by omega
   rw [List.drop_eq_getElem_cons hlt',kidsGo] at hS
   obtain ⟨B4,O4,hA4,hm4,_⟩:=ints_get hl3 (List.getElem?_eq_getElem hlt')
   obtain ⟨u0,u1⟩:=hnl _ (List.getElem_mem hlt')
   generalize l[i]=u at *
   have gi:=hd_get hk2.ix u0 u1
   refine CW.skip ?_
   refine PW.code ?_
   refine CW.seq ?_
   refine CW.block ?_
   refine Ja ?_
   refine RW.indexAddrE hA4 rfl rfl (by omega) hlt rfl ?_
   refine RW.load_ro rfl hle (ints_at hm4) rfl rfl ?_
   refine Jd ?_;refine Jb ?_;refine Ja ?_;refine Jc ?_;refine Jf ?_;refine Je ?_;refine JA ?_;refine Jc ?_
   refine RW.indexAddr rfl rfl u0 u1 rfl ?_
   refine RW.loadOwn1 [_] (i:=u.toNat) (j:=0) rfl (by simp) (mapE_get gi) rfl rfl rfl ?_
   refine Ji ?_;refine Jb ?_
   refine CW.ite rfl (fun h0=>?_) (fun h0=>?_)
   ·rw [if_pos h0] at hS
    obtain ⟨hk3,hL3⟩:=visit_ok hnx f (d + 1) k2 u hk2 u0 u1 h0 hz2
    refine Ja ?_;refine Jc ?_;refine Jc ?_
    refine RW.callT [0,1,2,3,4,5] (knH bk b1 a n sv2 k2) (r:=[]) rfl rfl rfl Tryz.call166 (fun w3 F3 hle3 hC hr=>visit_ret hnB hn hnx f (d + 1) k2 u sv2 w3 F3 hk2 u0 u1 h0 hz2 (fun j v hj=>hle3 _ _ _ (hb j v hj)) (h.mono hle3) hC) fun sv3=>?_
    generalize visitD (beatAt t) f k2 u=k3 at *
    refine Jb ?_
    have g1:=hd_get hk3.lo v0 v1
    have g2:=hd_get hk3.lo u0 u1
    have hL13:=hL2.trans hL3
    refine CW.anyV (by kernel_rfl) rfl ?_
    refine AW.val rfl (fun _ _=>by refine Jc ?_;exact RW.done rfl) ?_;refine AW.val rfl (fun _ _=>by refine Jf ?_;exact RW.done rfl) ?_;refine AW.val rfl (fun _ _=>by refine Je ?_;exact RW.done rfl) ?_;refine AW.val rfl (fun _ _=>by refine JA ?_;exact RW.done rfl) ?_;refine AW.val rfl (fun _ _=>by refine Jc ?_;exact RW.done rfl) ?_;refine AW.val rfl (fun _ _=>by refine Jc ?_;exact RW.done rfl) ?_;refine AW.val rfl (fun _ _=>by refine Jf ?_;exact RW.done rfl) ?_;refine AW.val rfl (fun _ _=>by refine Je ?_;exact RW.done rfl) ?_;refine AW.val rfl (fun _ _=>by refine JA ?_;exact RW.done rfl) ?_;refine AW.val rfl (fun _ _=>by refine Jc ?_;exact RW.done rfl) ?_
    (apply AW.val rfl;· intro Gx X;(first | refine RW.yes rfl ?_ | skip);refine RW.indexAddr rfl rfl v0 v1 rfl ?_;exact RW.done rfl)
    (apply AW.val rfl;· intro Gx X;(first | refine RW.yes rfl ?_ | skip);refine RW.loadOwn1 [_,_] (i:=v.toNat) (j:=0) rfl (by simp) (mapE_get g1) rfl rfl rfl ?_;exact RW.done rfl)
    refine AW.val rfl (fun _ _=>by refine Jc ?_;exact RW.done rfl) ?_;refine AW.val rfl (fun _ _=>by refine Jf ?_;exact RW.done rfl) ?_;refine AW.val rfl (fun _ _=>by refine Je ?_;exact RW.done rfl) ?_;refine AW.val rfl (fun _ _=>by refine JA ?_;exact RW.done rfl) ?_;refine AW.val rfl (fun _ _=>by refine Jc ?_;exact RW.done rfl) ?_
    (apply AW.val rfl;· intro Gx X;(first | refine RW.yes rfl ?_ | skip);refine RW.indexAddr rfl rfl u0 u1 rfl ?_;exact RW.done rfl)
    (apply AW.val rfl;· intro Gx X;(first | refine RW.yes rfl ?_ | skip);refine RW.loadOwn1 [_,_] (i:=u.toNat) (j:=0) rfl (by simp) (mapE_get g2) rfl rfl rfl ?_;exact RW.done rfl)
    (apply AW.val rfl;· intro Gx X;(first | refine RW.yes rfl ?_ | skip);refine RW.min2 rfl rfl rfl ?_;exact RW.done rfl)
    refine AW.stop (by kernel_rfl) (by kernel_rfl) fun bs=>?_
    refine RW.indexAddr rfl rfl v0 v1 rfl ?_
    refine RW.storeOwn [_,_] (v:=.int .i64 (minI (hdAt k3.lo v) (hdAt k3.lo u))) (i:=v.toNat) (j:=0) rfl (by simp) rfl rfl rfl (mapE_get g1) (Nat.zero_lt_succ _) ?_
    rw [show (k3.lo.map intE).set v.toNat ([Value.int .i64 (hdAt k3.lo v)].set 0 (.int .i64 (minI (hdAt k3.lo v) (hdAt k3.lo u))))=(k3.lower v (hdAt k3.lo u)).lo.map intE from List.map_set.symm]
    refine RW.nil (PW.code ?_)
    refine CW.region ?_
    refine RW.add rfl rfl (w64 (by omega) (by omega)) rfl ?_
    refine Jc ?_
    refine RW.nil ?_
    exact PW.again ⟨(i + 1,k3.lower v (hdAt k3.lo u),sv3),hlt',hk3.lower,by show zeros k3.ix≤f;have:=hL3.ze;omega,⟨hL13.st,hL13.ze⟩,hS⟩ ⟨rfl,rfl,rfl,rfl,rfl,trivial⟩ (fun h=>h) (by show l.length - (i + 1) < l.length - i;omega)
   ·rw [if_neg h0] at hS
    have go:=on_get hk2.on u0 u1
    refine Ja ?_;refine Jc ?_;refine Jf ?_;refine Je ?_;refine JA ?_;refine Jc ?_
    refine RW.indexAddr rfl rfl u0 u1 rfl ?_
    refine RW.loadOwn1 [_,_,_] (i:=u.toNat) (j:=0) rfl (by simp) (mapB_get go) rfl rfl rfl ?_
    refine Jb ?_
    refine CW.cond rfl (fun ho=>?_) (fun ho=>?_)
    ·rw [if_pos ho] at hS
     have g1:=hd_get hk2.lo v0 v1
     have g2:=hd_get hk2.ix u0 u1
     refine CW.anyV (by kernel_rfl) rfl ?_
     refine AW.val rfl (fun _ _=>by refine Jc ?_;exact RW.done rfl) ?_;refine AW.val rfl (fun _ _=>by refine Jf ?_;exact RW.done rfl) ?_;refine AW.val rfl (fun _ _=>by refine Je ?_;exact RW.done rfl) ?_;refine AW.val rfl (fun _ _=>by refine JA ?_;exact RW.done rfl) ?_;refine AW.val rfl (fun _ _=>by refine Jc ?_;exact RW.done rfl) ?_;refine AW.val rfl (fun _ _=>by refine Jc ?_;exact RW.done rfl) ?_;refine AW.val rfl (fun _ _=>by refine Jf ?_;exact RW.done rfl) ?_;refine AW.val rfl (fun _ _=>by refine Je ?_;exact RW.done rfl) ?_;refine AW.val rfl (fun _ _=>by refine JA ?_;exact RW.done rfl) ?_;refine AW.val rfl (fun _ _=>by refine Jc ?_;exact RW.done rfl) ?_
     (apply AW.val rfl;· intro Gx X;(first | refine RW.yes rfl ?_ | skip);refine RW.indexAddr rfl rfl v0 v1 rfl ?_;exact RW.done rfl)
     (apply AW.val rfl;· intro Gx X;(first | refine RW.yes rfl ?_ | skip);refine RW.loadOwn1 [_,_] (i:=v.toNat) (j:=0) rfl (by simp) (mapE_get g1) rfl rfl rfl ?_;exact RW.done rfl)
     refine AW.val rfl (fun _ _=>by refine Jc ?_;exact RW.done rfl) ?_;refine AW.val rfl (fun _ _=>by refine Jf ?_;exact RW.done rfl) ?_;refine AW.val rfl (fun _ _=>by refine Je ?_;exact RW.done rfl) ?_;refine AW.val rfl (fun _ _=>by refine JA ?_;exact RW.done rfl) ?_;refine AW.val rfl (fun _ _=>by refine Jc ?_;exact RW.done rfl) ?_
     (apply AW.val rfl;· intro Gx X;(first | refine RW.yes rfl ?_ | skip);refine RW.indexAddr rfl rfl u0 u1 rfl ?_;exact RW.done rfl)
     (apply AW.val rfl;· intro Gx X;(first | refine RW.yes rfl ?_ | skip);refine RW.loadOwn1 [_] (i:=u.toNat) (j:=0) rfl (by simp) (mapE_get g2) rfl rfl rfl ?_;exact RW.done rfl)
     (apply AW.val rfl;· intro Gx X;(first | refine RW.yes rfl ?_ | skip);refine RW.min2 rfl rfl rfl ?_;exact RW.done rfl)
     refine AW.stop (by kernel_rfl) (by kernel_rfl) fun bs=>?_
     refine RW.indexAddr rfl rfl v0 v1 rfl ?_
     refine RW.storeOwn [_,_] (v:=.int .i64 (minI (hdAt k2.lo v) (hdAt k2.ix u))) (i:=v.toNat) (j:=0) rfl (by simp) rfl rfl rfl (mapE_get g1) (Nat.zero_lt_succ _) ?_
     rw [show (k2.lo.map intE).set v.toNat ([Value.int .i64 (hdAt k2.lo v)].set 0 (.int .i64 (minI (hdAt k2.lo v) (hdAt k2.ix u))))=(k2.lower v (hdAt k2.ix u)).lo.map intE from List.map_set.symm]
     refine RW.nil (PW.code ?_)
     refine CW.region ?_
     refine RW.add rfl rfl (w64 (by omega) (by omega)) rfl ?_
     refine Jc ?_
     refine RW.nil ?_
     exact PW.again ⟨(i + 1,k2.lower v (hdAt k2.ix u),sv2),hlt',hk2.lower,by show zeros k2.ix≤f;omega,⟨hL2.st,hL2.ze⟩,hS⟩ ⟨rfl,rfl,rfl,rfl,rfl,trivial⟩ (fun h=>h) (by show l.length - (i + 1) < l.length - i;omega)
    ·rw [if_neg (by simp [ho])] at hS
     refine CW.skip ?_
     refine PW.code ?_
     refine CW.region ?_
     refine RW.add rfl rfl (w64 (by omega) (by omega)) rfl ?_
     refine Jc ?_
     refine RW.nil ?_
     exact PW.again ⟨(i + 1,k2,sv2),hlt',hk2,hz2,hL2,hS⟩ ⟨rfl,rfl,rfl,rfl,rfl,trivial⟩ (fun h=>h) (by show l.length - (i + 1) < l.length - i;omega)
  have hge':l.length≤i:=by omega
  rw [List.drop_eq_nil_of_le hge',kidsGo] at hS
  rw [hS]
  refine CW.exit rfl ?_
  refine PW.code ?_
  have g1:=hd_get hk2.ix v0 v1
  have g2:=hd_get hk2.lo v0 v1
  have hkc:=hk2.close (v:=v)
  refine CW.seq ?_
  refine CW.seqA (by kernel_rfl) rfl ?_
  refine AW.val rfl (fun _ _=>by refine Jc ?_;exact RW.done rfl) ?_;refine AW.val rfl (fun _ _=>by refine Jf ?_;exact RW.done rfl) ?_;refine AW.val rfl (fun _ _=>by refine Je ?_;exact RW.done rfl) ?_;refine AW.val rfl (fun _ _=>by refine JA ?_;exact RW.done rfl) ?_;refine AW.val rfl (fun _ _=>by refine Jc ?_;exact RW.done rfl) ?_
  (apply AW.val rfl;· intro Gx X;(first | refine RW.yes rfl ?_ | skip);refine RW.indexAddr rfl rfl v0 v1 rfl ?_;exact RW.done rfl)
  (apply AW.val rfl;· intro Gx X;(first | refine RW.yes rfl ?_ | skip);refine RW.loadOwn1 [_,_] (i:=v.toNat) (j:=0) rfl (by simp) (mapE_get g2) rfl rfl rfl ?_;exact RW.done rfl)
  refine AW.val rfl (fun _ _=>by refine Jc ?_;exact RW.done rfl) ?_;refine AW.val rfl (fun _ _=>by refine Jf ?_;exact RW.done rfl) ?_;refine AW.val rfl (fun _ _=>by refine Je ?_;exact RW.done rfl) ?_;refine AW.val rfl (fun _ _=>by refine JA ?_;exact RW.done rfl) ?_;refine AW.val rfl (fun _ _=>by refine Jc ?_;exact RW.done rfl) ?_
  (apply AW.val rfl;· intro Gx X;(first | refine RW.yes rfl ?_ | skip);refine RW.indexAddr rfl rfl v0 v1 rfl ?_;exact RW.done rfl)
  (apply AW.val rfl;· intro Gx X;(first | refine RW.yes rfl ?_ | skip);refine RW.loadOwn1 [_] (i:=v.toNat) (j:=0) rfl (by simp) (mapE_get g1) rfl rfl rfl ?_;exact RW.done rfl)
  refine AW.val rfl (fun _ _=>by refine Jj ?_;exact RW.done rfl) ?_
  refine AW.stop (by kernel_rfl) (by kernel_rfl) fun bs=>?_
  refine RW.nil (PW.code ?_)
  refine CW.ite rfl (fun hne=>?_) (fun heq=>?_)
  ·have e:k2.close v=k2:=by unfold KN.close;rw [if_neg hne]
   rw [e]
   exact CW.rets (rs:=[]) (vs:=[]) rfl Tryz.results166 rfl ResOK.nil fun w hw=>⟨sv2,rfl,hw⟩
  have heq':hdAt k2.lo v=hdAt k2.ix v:=Decidable.of_not_not heq
  have e:k2.close v={ popGo v k2.st.length k2 with kn:=k2.kn + 1 }:=by unfold KN.close;rw [if_pos heq']
  rw [e]
  clear e hkc
  refine CW.skip ?_
  refine PW.code ?_
  refine CW.seq ?_
  refine Ja ?_;refine Jd ?_;refine Jb ?_
  refine CW.block ?_
  refine CW.loop (ι:={ q:Int × KN × Value // KOk n (d + 1) q.2.1∧(q.1=v∧popGo v k2.st.length k2=q.2.1∨q.1≠v∧popGo v k2.st.length k2=popGo v q.2.1.st.length q.2.1∧∃ e,q.2.1.st=k.st++[v]++e) })
   (fun q=>[(0,ptrV bk),(1,.int .i64 v),(6,.int .i64 q.1.1)]) (fun q=>knH bk b1 a n q.1.2.2 q.1.2.1) (fun q=>q.1.2.1.st.length) ⟨(-1,k2,sv2),hk2,.inr ⟨by dsimp only;omega,rfl,by obtain ⟨⟨e,he⟩,_⟩:=hL2;exact ⟨e,by rw [he,hst1]⟩⟩⟩ ⟨rfl,rfl,rfl,trivial⟩ (fun h=>h) ?_
  intro ⟨⟨wv,k4,sv4⟩,hk4,hP⟩
  dsimp only at hk4 hP ⊢
  refine CW.seq ?_
  refine Ja ?_;refine Jc ?_;refine Jc ?_;refine Jj ?_;refine Jb ?_
  refine CW.ite rfl (fun hne=>?_) (fun heq=>?_)
  rotate_left
  ·have hwv:wv=v:=Decidable.of_not_not heq
   obtain ⟨_,hP⟩ | ⟨h1,_⟩:=hP
   rotate_left
   ·exact absurd hwv h1
   have hkn:k4.kn=k2.kn:=by rw [← hP];exact (popGo_ix v _ k2).2.2.2
   have hkk:=hk4.kn
   have hkc:=hk4.ct
   have hk0:=hk4.kn0
   rw [hP,← hkn]
   refine CW.exit rfl ?_
   refine PW.code ?_
   refine CW.region ?_
   refine Jc ?_;refine Jf ?_;refine Je ?_;refine JA ?_
   refine RW.add rfl rfl (w64 (by omega) (by omega)) rfl ?_
   refine Jf ?_;refine Je ?_
   refine RW.store_blk [] rfl rfl rfl rfl rfl (Nat.lt_of_sub_eq_succ rfl) ?_
   refine RW.nil ?_
   exact PW.ret (rs:=[]) (vs:=[]) Tryz.results166 rfl ResOK.nil fun w hw=>⟨sv4,rfl,hw⟩
  obtain ⟨h1,_⟩ | ⟨_,hP,e,hst⟩:=hP
  ·exact absurd h1 hne
  obtain ⟨hpop,hmore⟩:=pop_lem hst
  have hkp:=hk4.pop
  have hwl:=hk4.st (k4.st.getLastD (-1)) (by rw [hpop];exact List.mem_append_right _ (List.mem_singleton.2 (by rw [← hpop])))
  have hlen:k4.st.length=k4.pop.st.length + 1:=by have:=congrArg List.length hpop;rwa [List.length_append,List.length_singleton] at this
  have hpg:popGo v k4.st.length k4=if k4.st.getLastD (-1)=v then k4.pop else popGo v k4.pop.st.length k4.pop:=by rw [hlen,popGo]
  rw [hpg] at hP
  clear hpg
  have hof:k4.pop.of=k4.of.set (k4.st.getLastD (-1)).toNat k4.kn:=rfl
  have hon:k4.pop.on=k4.on.set (k4.st.getLastD (-1)).toNat false:=rfl
  have hpx:k4.pop.ix=k4.ix∧k4.pop.lo=k4.lo∧k4.pop.ct=k4.ct∧k4.pop.kn=k4.kn:=⟨rfl,rfl,rfl,rfl⟩
  generalize k4.st.getLastD (-1)=wl at *
  generalize k4.pop=k5 at *
  have hss:=hk4.sl
  refine CW.have_ (φ:=∃ A c,sv4=.slice A k4.st.length c∧(k4.st≠[]→∃ B,A=some ⟨B,0,none⟩)∧k4.st.length≤c) (fun w hw=>?_) (fun ⟨A,sc,hsv,hAs,hcs⟩=>?_)
  ·obtain ⟨A,c,h1,h2,h3⟩:=own_shapeC (pre:=[_,_,_,_]) hw
   rw [List.length_map] at h1 h3
   exact ⟨A,c,h1,fun h=>h2 (by simpa using h),h3⟩
  obtain ⟨SB,rfl⟩:=hAs (by rw [hpop];simp)
  subst hsv
  have gw:(k4.st.map intE)[k5.st.length]?=some [.int .i64 wl]:=by rw [hpop,List.map_append,List.getElem?_append_right (by simp)];simp
  have gof:=hd_get hk4.of hwl.1 hwl.2
  have gon:=on_get hk4.on hwl.1 hwl.2
  refine CW.skip ?_
  refine PW.code ?_
  refine CW.block ?_
  refine CW.seqA (by kernel_rfl) rfl ?_
  refine AW.val rfl (fun _ _=>by refine Jc ?_;exact RW.done rfl) ?_;refine AW.val rfl (fun _ _=>by refine Jf ?_;exact RW.done rfl) ?_;refine AW.val rfl (fun _ _=>by refine Je ?_;exact RW.done rfl) ?_;refine AW.val rfl (fun _ _=>by refine JA ?_;exact RW.done rfl) ?_;refine AW.val rfl (fun _ _=>by refine Jc ?_;exact RW.done rfl) ?_;refine AW.val rfl (fun _ _=>by refine Jf ?_;exact RW.done rfl) ?_;refine AW.val rfl (fun _ _=>by refine Je ?_;exact RW.done rfl) ?_;refine AW.val rfl (fun _ _=>by refine JA ?_;exact RW.done rfl) ?_;refine AW.val rfl (fun _ _=>by refine Jg ?_;exact RW.done rfl) ?_
  (apply AW.val rfl;· intro Gx X;(first | refine RW.yes rfl ?_ | skip);refine RW.sub rfl rfl (w64 (by omega) (by omega)) rfl ?_;exact RW.done rfl)
  (apply AW.val rfl;· intro Gx X;(first | refine RW.yes rfl ?_ | skip);refine RW.indexAddr rfl rfl (by omega) (by omega) rfl ?_;exact RW.done rfl)
  (apply AW.val rfl;· intro Gx X;(first | refine RW.yes rfl ?_ | skip);refine RW.loadOwn1 [_,_,_,_] (i:=k5.st.length) (j:=0) rfl (by omega) gw rfl rfl rfl ?_;exact RW.done rfl)
  refine AW.stop (by kernel_rfl) (by kernel_rfl) fun bs=>?_
  refine Jd ?_;refine Jb ?_
  refine CW.seqL 5 (by kernel_rfl) rfl rfl rfl rfl rfl (by kernel_rfl) (by kernel_rfl) (by kernel_rfl) rfl ?_
  refine WA.anyV (by kernel_rfl) ?_
  refine AW.val rfl (fun _ _=>by refine Jc ?_;exact RW.done rfl) ?_;refine AW.val rfl (fun _ _=>by refine Jc ?_;exact RW.done rfl) ?_;refine AW.val rfl (fun _ _=>by refine Jf ?_;exact RW.done rfl) ?_;refine AW.val rfl (fun _ _=>by refine Je ?_;exact RW.done rfl) ?_;refine AW.val rfl (fun _ _=>by refine JA ?_;exact RW.done rfl) ?_;refine AW.val rfl (fun _ _=>by refine Jc ?_;exact RW.done rfl) ?_;refine AW.val rfl (fun _ _=>by refine Jc ?_;exact RW.done rfl) ?_;refine AW.val rfl (fun _ _=>by refine Jf ?_;exact RW.done rfl) ?_;refine AW.val rfl (fun _ _=>by refine Je ?_;exact RW.done rfl) ?_;refine AW.val rfl (fun _ _=>by refine JA ?_;exact RW.done rfl) ?_;refine AW.val rfl (fun _ _=>by refine Jc ?_;exact RW.done rfl) ?_;refine AW.val rfl (fun _ _=>by refine Jf ?_;exact RW.done rfl) ?_;refine AW.val rfl (fun _ _=>by refine Je ?_;exact RW.done rfl) ?_;refine AW.val rfl (fun _ _=>by refine JA ?_;exact RW.done rfl) ?_;refine AW.val rfl (fun _ _=>by refine Jg ?_;exact RW.done rfl) ?_
  (apply AW.val rfl;· intro Gx X;(first | refine RW.yes rfl ?_ | skip);refine RW.sub (c:=(k5.st.length:Int)) rfl rfl (by rw [w64 (by omega) (by omega)];omega) rfl ?_;exact RW.done rfl)
  (apply AW.val rfl;· intro Gx X;(first | refine RW.yes rfl ?_ | skip);refine RW.slice_h rfl rfl (by omega) (by omega) rfl ?_;exact RW.done rfl)
  refine AW.stop (by kernel_rfl) (by kernel_rfl) fun bs2=>?_
  refine RW.nilCheck rfl rfl ?_
  refine RW.fieldAddr rfl rfl ?_
  refine RW.store_blk [] (v:=.slice (some ⟨SB,0,none⟩) k5.st.length sc) rfl rfl rfl rfl rfl (Nat.lt_of_sub_eq_succ rfl) ?_
  refine RW.indexAddr rfl rfl hwl.1 hwl.2 rfl ?_
  refine RW.storeOwn [_,_,_] (v:=.bool false) (i:=wl.toNat) (j:=0) rfl (by simp) rfl rfl rfl (mapB_get gon) (Nat.zero_lt_succ _) ?_
  rw [show (k4.on.map boolE).set wl.toNat ([Value.bool (onAt k4.on wl)].set 0 (.bool false))=k5.on.map boolE by rw [hon];exact List.map_set.symm]
  refine RW.change [_,_,_,_] (ownHP 3 1 (.slice (some ⟨SB,0,none⟩) k5.st.length sc) (k5.st.map intE)) (fun w F hp=>by rw [hlen,hpop] at hp;exact own_drop rfl hp) ?_
  refine RW.nil (PW.code ?_)
  obtain ⟨px1,px2,px3,px4⟩:=hpx
  refine CW.sep [blk bk (knC b1 a n (.slice (some ⟨SB,0,none⟩) k5.st.length sc) k4.ct k4.kn) 190,ownHP 3 1 (.slice (some ⟨a.B1,0,none⟩) n n) (k4.ix.map intE),ownHP 3 1 (.slice (some ⟨a.B2,0,none⟩) n n) (k4.lo.map intE),ownHP 4 1 (.slice (some ⟨a.B3,0,none⟩) n n) (k5.on.map boolE),ownHP 3 1 (.slice (some ⟨SB,0,none⟩) k5.st.length sc) (k5.st.map intE),ownHP 3 1 (.slice (some ⟨a.B5,0,none⟩) n n) (k4.of.map intE)] (fun w A h=>h) ?_
  refine CW.anyV (by kernel_rfl) rfl ?_
  refine AW.val rfl (fun _ _=>by refine Jc ?_;exact RW.done rfl) ?_;refine AW.val rfl (fun _ _=>by refine Jf ?_;exact RW.done rfl) ?_;refine AW.val rfl (fun _ _=>by refine Je ?_;exact RW.done rfl) ?_;refine AW.val rfl (fun _ _=>by refine JA ?_;exact RW.done rfl) ?_;refine AW.val rfl (fun _ _=>by refine Jc ?_;exact RW.done rfl) ?_;refine AW.val rfl (fun _ _=>by refine Jc ?_;exact RW.done rfl) ?_;refine AW.val rfl (fun _ _=>by refine Jf ?_;exact RW.done rfl) ?_;refine AW.val rfl (fun _ _=>by refine Je ?_;exact RW.done rfl) ?_;refine AW.val rfl (fun _ _=>by refine JA ?_;exact RW.done rfl) ?_
  refine AW.stop (by kernel_rfl) (by kernel_rfl) fun bs3=>?_
  refine RW.indexAddr rfl rfl hwl.1 hwl.2 rfl ?_
  refine RW.storeOwn [_,_,_,_,_] (v:=.int .i64 k4.kn) (i:=wl.toNat) (j:=0) rfl (by simp) rfl rfl rfl (mapE_get gof) (Nat.zero_lt_succ _) ?_
  rw [show (k4.of.map intE).set wl.toNat ([Value.int .i64 (hdAt k4.of wl)].set 0 (.int .i64 k4.kn))=k5.of.map intE by rw [hof];exact List.map_set.symm]
  refine RW.nil ?_
  refine PW.again ⟨(wl,k5,.slice (some ⟨SB,0,none⟩) k5.st.length sc),hkp,?_⟩ ⟨rfl,rfl,rfl,trivial⟩ (fun h=>?_) (by show k5.st.length < k4.st.length;omega)
  ·by_cases hv:wl=v
   ·rw [if_pos hv] at hP
    exact .inl ⟨hv,hP⟩
   ·rw [if_neg hv] at hP
    exact .inr ⟨hv,hP,hmore hv⟩
  ·dsimp only
   unfold knH knR
   rw [px1,px2,px3,px4]
   exact h
end Go.Proofs.YtbcdgcodnkgdoaaGreat
namespace Go.Proofs.YtbcdgcodnkgdoaaGreat
open Go Go.RowKit
structure EAd where
 (m nd nn dd dx st bk bd op cl at_ sd:Nat)
structure ECs where
 s:Es
 x:TC
 first:Int
 (iA oA bA pA:Option Addr)
 (ic oc bc pc np:Nat)
abbrev slV (b n:Nat):Value:=.slice (some ⟨b,0,none⟩) n n
abbrev enC (a:EAd) (z:ECs) (n m:Nat) (sv:Value) (qd up:Int):List Value:=
 [.int .i64 z.s.t.1,.slice z.x.A1 (tFoes z.s.t).length z.x.c1,.slice z.x.A2 (tRules z.s.t).length z.x.c2,.slice z.x.A3 (tBeats z.s.t).length z.x.c3,
  slV a.m n,sv,.int .i64 z.first,.int .i64 qd,.int .i64 up,.slice z.iA n z.ic,slV a.nd m,slV a.nn m,slV a.dd m,slV a.dx m,slV a.st n,slV a.bk n,slV a.bd n,slV a.op n,slV a.cl n,slV a.at_ n,slV a.sd n,.slice z.pA z.np z.pc,.slice z.oA m z.oc,.slice z.bA m z.bc]
abbrev markE (x:Int):List Value:=[.int .u8 x]
abbrev toldE (p:Int × Int):List Value:=[.int .i64 p.1,.int .i64 p.2]
abbrev pairE (p:Int × Int × Bool × Int):List Value:=[.int .i64 p.1,.int .i64 p.2.1,.bool p.2.2.1,.int .i64 p.2.2.2]
abbrev enR (a:EAd) (z:ECs) (n m:Nat) (sv:Value) (e:En):List HP:=
 [ownHP 45 1 (slV a.m n) (e.marks.map markE),ownHP 111 2 sv (e.told.map toldE),ownHP 3 1 (slV a.nd m) (e.needD.map intE),ownHP 3 1 (slV a.nn m) (e.need.map intE),ownHP 4 1 (slV a.dd m) (e.deadD.map boolE),ownHP 4 1 (slV a.dx m) (e.dead.map boolE),
  ownHP 3 1 (slV a.st n) (e.strict.map intE),ownHP 3 1 (slV a.bk n) (e.backs.map intE),ownHP 4 1 (slV a.bd n) (e.backed.map boolE),ownHP 3 1 (slV a.op n) (e.opn.map intE),ownHP 4 1 (slV a.cl n) (e.clash.map boolE),ownHP 3 1 (slV a.at_ n) (e.attacks.map intE),ownHP 4 1 (slV a.sd n) (e.standing.map boolE),ownHP 148 4 (.slice z.pA z.np z.pc) (e.pairs.map pairE)]
abbrev enH (be:Nat) (a:EAd) (z:ECs) (n m:Nat) (sv:Value) (e:En):List HP:=blk be (enC a z n m sv e.qd e.up) 73::enR a z n m sv e
def pop4 (x:Int):Nat:=(cond (En.bit x 1) 1 0) + (cond (En.bit x 2) 1 0) + (cond (En.bit x 3) 1 0) + (cond (En.bit x 4) 1 0)
def pops:List Int→Nat
 | []=>0
 | x::r=>pop4 x + pops r
structure EnOk (n m np:Nat) (e:En):Prop where
 marks:e.marks.length=n
 needD:e.needD.length=m
 need:e.need.length=m
 deadD:e.deadD.length=m
 dead:e.dead.length=m
 strict:e.strict.length=n
 backs:e.backs.length=n
 backed:e.backed.length=n
 opn:e.opn.length=n
 clash:e.clash.length=n
 attacks:e.attacks.length=n
 standing:e.standing.length=n
 pairs:e.pairs.length=np
 mks:∀ x∈e.marks,0≤x∧x < 16
 pr:∀ p∈e.pairs,(0≤p.1∧p.1 < n)∧(0≤p.2.1∧p.2.1 < m)
 td:∀ p∈e.told,(0≤p.1∧p.1 < n)∧(1≤p.2∧p.2≤4)
 cnt:e.told.length=pops e.marks
 qd:e.qd=e.told.length
structure EsOk (n m np:Nat) (s:Es):Prop where
 lits:s.t.1=n
 foes:(tFoes s.t).length=n
 rules:(tRules s.t).length=m
 inn:s.inn.length=n
 of:s.of.length=m
 beats:s.beats.length=m
 small:n≤4096∧m≤4096
 inn2:∀ l∈s.inn,∀ r∈l,0≤r∧r < m
 of2:∀ l∈s.of,∀ p∈l,0≤p∧p < np
 beats2:∀ l∈s.beats,∀ p∈l,0≤p∧p < np
 foes2:∀ l∈tFoes s.t,∀ f∈l,0≤f∧f < n
 head:∀ r∈tRules s.t,0≤r.2.1∧r.2.1 < n
structure EsOn (M:Mem) (n m:Nat) (z:ECs):Prop where
 th:ThOn M z.s.t z.x
 inn:Rd kLists M [.slice z.iA n z.ic] z.s.inn
 of:Rd kLists M [.slice z.oA m z.oc] z.s.of
 beats:Rd kLists M [.slice z.bA m z.bc] z.s.beats
theorem EsOn.mono {M M':Mem} {n m:Nat} {z:ECs} (h:EsOn M n m z) (hM:Mem.le M M'):EsOn M' n m z:=⟨h.th.mono hM,h.inn.mono hM,h.of.mono hM,h.beats.mono hM⟩
def PrAt (z:ECs):Prop:=z.np≠0→∃ B,z.pA=some ⟨B,0,none⟩
theorem pop4_le (x:Int):pop4 x≤4:=by
 unfold pop4
 cases En.bit x 1 <;> cases En.bit x 2 <;> cases En.bit x 3 <;> cases En.bit x 4 <;> decide
theorem pops_le:∀ (l:List Int),pops l≤4 * l.length
 | []=>Nat.le_refl _
 | x::r=>by
  have:=pops_le r
  have:=pop4_le x
  simp only [pops,List.length_cons]
  omega
theorem pops_set:∀ {l:List Int} {i:Nat} {x y:Int},l[i]?=some x→pop4 y=pop4 x + 1→pops (l.set i y)=pops l + 1
 | [],i,x,y,h,_=>by simp at h
 | u::l,0,x,y,h,hp=>by
  simp only [List.getElem?_cons_zero,Option.some.injEq] at h
  subst h
  simp only [List.set_cons_zero,pops]
  omega
 | u::l,i + 1,x,y,h,hp=>by
  have:=pops_set (l:=l) (i:=i) (by simpa using h) hp
  simp only [List.set_cons_succ,pops]
  omega
def Or16 (x k:Nat):Bool:=(List.range 4).all fun j=>En.bit (bitsOr .u8 (x:Int) (shlI .u8 1 ((k:Int) + 1 - 1))) ((j:Int) + 1) == (Nat.beq j k || En.bit (x:Int) ((j:Int) + 1))
def Or16b (x k:Nat):Bool:=decide (0≤bitsOr .u8 (x:Int) (shlI .u8 1 ((k:Int) + 1 - 1)))&&decide (bitsOr .u8 (x:Int) (shlI .u8 1 ((k:Int) + 1 - 1)) < 16)
set_option maxRecDepth 100000 in
theorem or16:((List.range 16).all fun x=>(List.range 4).all fun k=>Or16 x k&&Or16b x k)=true:=by decide +kernel
theorem bit_or {x k j:Int} (x0:0≤x) (x1:x < 16) (k0:1≤k) (k1:k≤4) (j0:1≤j) (j1:j≤4):En.bit (bitsOr .u8 x (shlI .u8 1 (k - 1))) j=(decide (j=k) || En.bit x j):=by
 have h:=List.all_eq_true.1 (List.all_eq_true.1 or16 x.toNat (List.mem_range.2 (by omega))) (k - 1).toNat (List.mem_range.2 (by omega))
 rw [Bool.and_eq_true] at h
 have h2:=List.all_eq_true.1 h.1 (j - 1).toNat (List.mem_range.2 (by omega))
 have e1:((x.toNat:Nat):Int)=x:=by omega
 have e2:(((k - 1).toNat:Nat):Int) + 1 - 1=k - 1:=by omega
 have e3:(((j - 1).toNat:Nat):Int) + 1=j:=by omega
 rw [e1,e2,e3] at h2
 rw [eq_of_beq h2]
 congr 1
 rw [Bool.eq_iff_iff,Nat.beq_eq,decide_eq_true_iff]
 omega
theorem or_in {x k:Int} (x0:0≤x) (x1:x < 16) (k0:1≤k) (k1:k≤4):0≤bitsOr .u8 x (shlI .u8 1 (k - 1))∧bitsOr .u8 x (shlI .u8 1 (k - 1)) < 16:=by
 have h:=List.all_eq_true.1 (List.all_eq_true.1 or16 x.toNat (List.mem_range.2 (by omega))) (k - 1).toNat (List.mem_range.2 (by omega))
 rw [Bool.and_eq_true] at h
 have h2:=h.2
 unfold Or16b at h2
 have e1:((x.toNat:Nat):Int)=x:=by omega
 have e2:(((k - 1).toNat:Nat):Int) + 1 - 1=k - 1:=by omega
 rw [e1,e2] at h2
 simpa using h2
theorem pop_or {x k:Int} (x0:0≤x) (x1:x < 16) (k0:1≤k) (k1:k≤4) (hb:En.bit x k=false):pop4 (bitsOr .u8 x (shlI .u8 1 (k - 1)))=pop4 x + 1:=by
 unfold pop4
 rw [bit_or x0 x1 k0 k1 (by omega) (by omega),bit_or x0 x1 k0 k1 (by omega) (by omega),bit_or x0 x1 k0 k1 (by omega) (by omega),bit_or x0 x1 k0 k1 (by omega) (by omega)]
 have hk:k=1∨k=2∨k=3∨k=4:=by omega
 rcases hk with rfl | rfl | rfl | rfl <;> rw [hb] <;> simp <;> omega
theorem getD_some {α:Type} {l:List α} {d:α} {n:Nat} {q:Int} (hl:l.length=n) (h0:0≤q) (h1:q < n):l[q.toNat]?=some (l.getD q.toNat d):=by
 rw [List.getD_eq_getElem?_getD,List.getElem?_eq_getElem (by omega)];rfl
theorem getD_mem {α:Type} {l:List α} {d:α} {n:Nat} {q:Int} (hl:l.length=n) (h0:0≤q) (h1:q < n):l.getD q.toNat d∈l:=List.mem_of_getElem? (getD_some hl h0 h1)
section
variable {n m np:Nat} {e:En} {q k p r v:Int}
theorem EnOk.most (h:EnOk n m np e):e.told.length≤4 * n:=by
 rw [h.cnt,← h.marks]
 exact pops_le _
theorem EnOk.ups (h:EnOk n m np e):EnOk n m np (e.ups v):=⟨h.marks,h.needD,h.need,h.deadD,h.dead,h.strict,h.backs,h.backed,h.opn,h.clash,h.attacks,h.standing,h.pairs,h.mks,h.pr,h.td,h.cnt,h.qd⟩
theorem EnOk.tell (hn:n≤4096) (h:EnOk n m np e) (q0:0≤q) (q1:q < n) (k0:1≤k) (k1:k≤4):EnOk n m np (e.tell q k):=by
 unfold En.tell
 split
 ·exact h
 ·rename_i hb
  have hx:=h.mks _ (getD_mem (d:=0) h.marks q0 q1)
  have hmost:=h.most
  refine ⟨by simp [h.marks],h.needD,h.need,h.deadD,h.dead,h.strict,h.backs,h.backed,h.opn,h.clash,h.attacks,h.standing,h.pairs,fun x hx2=>?_,h.pr,fun p hp=>?_,?_,?_⟩
  ·rcases List.mem_or_eq_of_mem_set hx2 with hx2 | rfl
   ·exact h.mks _ hx2
   ·exact or_in hx.1 hx.2 k0 k1
  ·rcases List.mem_append.1 hp with hp | hp
   ·exact h.td p hp
   ·obtain rfl:=List.mem_singleton.1 hp
    exact ⟨⟨q0,q1⟩,k0,k1⟩
  ·rw [List.length_append,List.length_singleton,h.cnt]
   exact (pops_set (getD_some (d:=0) h.marks q0 q1) (pop_or hx.1 hx.2 k0 k1 (by simpa [En.has] using hb))).symm
  ·show En.w64 (e.qd + 1)=_
   rw [h.qd,List.length_append,List.length_singleton]
   exact w64 (by omega) (by omega)
theorem EnOk.look1 (hn:n≤4096) (h:EnOk n m np e) (q0:0≤q) (q1:q < n):EnOk n m np (e.look1 q):=by
 unfold En.look1
 split
 ·exact h.tell hn q0 q1 (by omega) (by omega)
 ·exact h
theorem EnOk.look2 (hn:n≤4096) (h:EnOk n m np e) (q0:0≤q) (q1:q < n):EnOk n m np (e.look2 q):=by
 unfold En.look2
 split
 ·exact h.tell hn q0 q1 (by omega) (by omega)
 ·exact h
theorem EnOk.look (hn:n≤4096) (h:EnOk n m np e) (q0:0≤q) (q1:q < n):EnOk n m np (e.look q):=(h.look1 hn q0 q1).look2 hn q0 q1
end
end Go.Proofs.YtbcdgcodnkgdoaaGreat
namespace Go.Proofs.YtbcdgcodnkgdoaaGreat
open Go Go.RowKit
attribute [local irreducible] RW CW
section
variable {E:Env} {ops:Array Oper} {Q:Pst} {rest:List Oper} {G:List (Nat × Value)} {X:List HP} {dst be n m np:Nat} {ty:TypeId} {pos:String} {af:Array Edge} {x y:Operand} {a:EAd} {z:ECs} {sv:Value} {e:En} {q v:Int} {bv:Bool}
theorem EL.marks (hk:EnOk n m np e) (hx:ev G x=some (.pointer (some ⟨a.m,0 + q.toNat * 1,none⟩))) (h0:0≤q) (h1:q < n) (hN:Nat.blt dst E.N=true) (k:RW Tryz.prog E ops Q rest ((dst,.int .u8 (e.marks.getD q.toNat 0))::G) (enH be a z n m sv e++X)):
 RW Tryz.prog E ops Q (⟨some dst,.load 45 x,ty,pos,af,none⟩::rest) G (enH be a z n m sv e++X):=
 RW.loadOwn1 [_] (i:=q.toNat) (j:=0) hx (by simp) (by rw [List.getElem?_map,getD_some (d:=0) hk.marks h0 h1];rfl) rfl rfl hN k
theorem ES.marks (hk:EnOk n m np e) (hx:ev G x=some (.pointer (some ⟨a.m,0 + q.toNat * 1,none⟩))) (hy:ev G y=some (.int .u8 v)) (h0:0≤q) (h1:q < n) (k:RW Tryz.prog E ops Q rest G (enH be a z n m sv { e with marks:=e.marks.set q.toNat v }++X)):
 RW Tryz.prog E ops Q (⟨none,.store 45 x y,ty,pos,af,none⟩::rest) G (enH be a z n m sv e++X):=
 RW.storeOwn [_] (i:=q.toNat) (j:=0) (cs:=[.int .u8 (e.marks.getD q.toNat 0)]) hx (by simp) hy rfl rfl (by rw [List.getElem?_map,getD_some (d:=0) hk.marks h0 h1];rfl) (Nat.zero_lt_succ _) (by
  rw [show (e.marks.map markE).set q.toNat ([Value.int .u8 (e.marks.getD q.toNat 0)].set 0 (.int .u8 v))=(e.marks.set q.toNat v).map markE from List.map_set.symm];exact k)
theorem EL.needD (hk:EnOk n m np e) (hx:ev G x=some (.pointer (some ⟨a.nd,0 + q.toNat * 1,none⟩))) (h0:0≤q) (h1:q < m) (hN:Nat.blt dst E.N=true) (k:RW Tryz.prog E ops Q rest ((dst,.int .i64 (e.needD.getD q.toNat 0))::G) (enH be a z n m sv e++X)):
 RW Tryz.prog E ops Q (⟨some dst,.load 3 x,ty,pos,af,none⟩::rest) G (enH be a z n m sv e++X):=
 RW.loadOwn1 [_,_,_] (i:=q.toNat) (j:=0) hx (by simp) (by rw [List.getElem?_map,getD_some (d:=0) hk.needD h0 h1];rfl) rfl rfl hN k
theorem ES.needD (hk:EnOk n m np e) (hx:ev G x=some (.pointer (some ⟨a.nd,0 + q.toNat * 1,none⟩))) (hy:ev G y=some (.int .i64 v)) (h0:0≤q) (h1:q < m) (k:RW Tryz.prog E ops Q rest G (enH be a z n m sv { e with needD:=e.needD.set q.toNat v }++X)):
 RW Tryz.prog E ops Q (⟨none,.store 3 x y,ty,pos,af,none⟩::rest) G (enH be a z n m sv e++X):=
 RW.storeOwn [_,_,_] (i:=q.toNat) (j:=0) (cs:=[.int .i64 (e.needD.getD q.toNat 0)]) hx (by simp) hy rfl rfl (by rw [List.getElem?_map,getD_some (d:=0) hk.needD h0 h1];rfl) (Nat.zero_lt_succ _) (by
  rw [show (e.needD.map intE).set q.toNat ([Value.int .i64 (e.needD.getD q.toNat 0)].set 0 (.int .i64 v))=(e.needD.set q.toNat v).map intE from List.map_set.symm];exact k)
theorem EL.need (hk:EnOk n m np e) (hx:ev G x=some (.pointer (some ⟨a.nn,0 + q.toNat * 1,none⟩))) (h0:0≤q) (h1:q < m) (hN:Nat.blt dst E.N=true) (k:RW Tryz.prog E ops Q rest ((dst,.int .i64 (e.need.getD q.toNat 0))::G) (enH be a z n m sv e++X)):
 RW Tryz.prog E ops Q (⟨some dst,.load 3 x,ty,pos,af,none⟩::rest) G (enH be a z n m sv e++X):=
 RW.loadOwn1 [_,_,_,_] (i:=q.toNat) (j:=0) hx (by simp) (by rw [List.getElem?_map,getD_some (d:=0) hk.need h0 h1];rfl) rfl rfl hN k
theorem ES.need (hk:EnOk n m np e) (hx:ev G x=some (.pointer (some ⟨a.nn,0 + q.toNat * 1,none⟩))) (hy:ev G y=some (.int .i64 v)) (h0:0≤q) (h1:q < m) (k:RW Tryz.prog E ops Q rest G (enH be a z n m sv { e with need:=e.need.set q.toNat v }++X)):
 RW Tryz.prog E ops Q (⟨none,.store 3 x y,ty,pos,af,none⟩::rest) G (enH be a z n m sv e++X):=
 RW.storeOwn [_,_,_,_] (i:=q.toNat) (j:=0) (cs:=[.int .i64 (e.need.getD q.toNat 0)]) hx (by simp) hy rfl rfl (by rw [List.getElem?_map,getD_some (d:=0) hk.need h0 h1];rfl) (Nat.zero_lt_succ _) (by
  rw [show (e.need.map intE).set q.toNat ([Value.int .i64 (e.need.getD q.toNat 0)].set 0 (.int .i64 v))=(e.need.set q.toNat v).map intE from List.map_set.symm];exact k)
theorem EL.deadD (hk:EnOk n m np e) (hx:ev G x=some (.pointer (some ⟨a.dd,0 + q.toNat * 1,none⟩))) (h0:0≤q) (h1:q < m) (hN:Nat.blt dst E.N=true) (k:RW Tryz.prog E ops Q rest ((dst,.bool (e.deadD.getD q.toNat false))::G) (enH be a z n m sv e++X)):
 RW Tryz.prog E ops Q (⟨some dst,.load 4 x,ty,pos,af,none⟩::rest) G (enH be a z n m sv e++X):=
 RW.loadOwn1 [_,_,_,_,_] (i:=q.toNat) (j:=0) hx (by simp) (by rw [List.getElem?_map,getD_some (d:=false) hk.deadD h0 h1];rfl) rfl rfl hN k
theorem ES.deadD (hk:EnOk n m np e) (hx:ev G x=some (.pointer (some ⟨a.dd,0 + q.toNat * 1,none⟩))) (hy:ev G y=some (.bool bv)) (h0:0≤q) (h1:q < m) (k:RW Tryz.prog E ops Q rest G (enH be a z n m sv { e with deadD:=e.deadD.set q.toNat bv }++X)):
 RW Tryz.prog E ops Q (⟨none,.store 4 x y,ty,pos,af,none⟩::rest) G (enH be a z n m sv e++X):=
 RW.storeOwn [_,_,_,_,_] (i:=q.toNat) (j:=0) (cs:=[.bool (e.deadD.getD q.toNat false)]) hx (by simp) hy rfl rfl (by rw [List.getElem?_map,getD_some (d:=false) hk.deadD h0 h1];rfl) (Nat.zero_lt_succ _) (by
  rw [show (e.deadD.map boolE).set q.toNat ([Value.bool (e.deadD.getD q.toNat false)].set 0 (.bool bv))=(e.deadD.set q.toNat bv).map boolE from List.map_set.symm];exact k)
theorem EL.dead (hk:EnOk n m np e) (hx:ev G x=some (.pointer (some ⟨a.dx,0 + q.toNat * 1,none⟩))) (h0:0≤q) (h1:q < m) (hN:Nat.blt dst E.N=true) (k:RW Tryz.prog E ops Q rest ((dst,.bool (e.dead.getD q.toNat false))::G) (enH be a z n m sv e++X)):
 RW Tryz.prog E ops Q (⟨some dst,.load 4 x,ty,pos,af,none⟩::rest) G (enH be a z n m sv e++X):=
 RW.loadOwn1 [_,_,_,_,_,_] (i:=q.toNat) (j:=0) hx (by simp) (by rw [List.getElem?_map,getD_some (d:=false) hk.dead h0 h1];rfl) rfl rfl hN k
theorem ES.dead (hk:EnOk n m np e) (hx:ev G x=some (.pointer (some ⟨a.dx,0 + q.toNat * 1,none⟩))) (hy:ev G y=some (.bool bv)) (h0:0≤q) (h1:q < m) (k:RW Tryz.prog E ops Q rest G (enH be a z n m sv { e with dead:=e.dead.set q.toNat bv }++X)):
 RW Tryz.prog E ops Q (⟨none,.store 4 x y,ty,pos,af,none⟩::rest) G (enH be a z n m sv e++X):=
 RW.storeOwn [_,_,_,_,_,_] (i:=q.toNat) (j:=0) (cs:=[.bool (e.dead.getD q.toNat false)]) hx (by simp) hy rfl rfl (by rw [List.getElem?_map,getD_some (d:=false) hk.dead h0 h1];rfl) (Nat.zero_lt_succ _) (by
  rw [show (e.dead.map boolE).set q.toNat ([Value.bool (e.dead.getD q.toNat false)].set 0 (.bool bv))=(e.dead.set q.toNat bv).map boolE from List.map_set.symm];exact k)
theorem EL.strict (hk:EnOk n m np e) (hx:ev G x=some (.pointer (some ⟨a.st,0 + q.toNat * 1,none⟩))) (h0:0≤q) (h1:q < n) (hN:Nat.blt dst E.N=true) (k:RW Tryz.prog E ops Q rest ((dst,.int .i64 (e.strict.getD q.toNat 0))::G) (enH be a z n m sv e++X)):
 RW Tryz.prog E ops Q (⟨some dst,.load 3 x,ty,pos,af,none⟩::rest) G (enH be a z n m sv e++X):=
 RW.loadOwn1 [_,_,_,_,_,_,_] (i:=q.toNat) (j:=0) hx (by simp) (by rw [List.getElem?_map,getD_some (d:=0) hk.strict h0 h1];rfl) rfl rfl hN k
theorem ES.strict (hk:EnOk n m np e) (hx:ev G x=some (.pointer (some ⟨a.st,0 + q.toNat * 1,none⟩))) (hy:ev G y=some (.int .i64 v)) (h0:0≤q) (h1:q < n) (k:RW Tryz.prog E ops Q rest G (enH be a z n m sv { e with strict:=e.strict.set q.toNat v }++X)):
 RW Tryz.prog E ops Q (⟨none,.store 3 x y,ty,pos,af,none⟩::rest) G (enH be a z n m sv e++X):=
 RW.storeOwn [_,_,_,_,_,_,_] (i:=q.toNat) (j:=0) (cs:=[.int .i64 (e.strict.getD q.toNat 0)]) hx (by simp) hy rfl rfl (by rw [List.getElem?_map,getD_some (d:=0) hk.strict h0 h1];rfl) (Nat.zero_lt_succ _) (by
  rw [show (e.strict.map intE).set q.toNat ([Value.int .i64 (e.strict.getD q.toNat 0)].set 0 (.int .i64 v))=(e.strict.set q.toNat v).map intE from List.map_set.symm];exact k)
theorem EL.backs (hk:EnOk n m np e) (hx:ev G x=some (.pointer (some ⟨a.bk,0 + q.toNat * 1,none⟩))) (h0:0≤q) (h1:q < n) (hN:Nat.blt dst E.N=true) (k:RW Tryz.prog E ops Q rest ((dst,.int .i64 (e.backs.getD q.toNat 0))::G) (enH be a z n m sv e++X)):
 RW Tryz.prog E ops Q (⟨some dst,.load 3 x,ty,pos,af,none⟩::rest) G (enH be a z n m sv e++X):=
 RW.loadOwn1 [_,_,_,_,_,_,_,_] (i:=q.toNat) (j:=0) hx (by simp) (by rw [List.getElem?_map,getD_some (d:=0) hk.backs h0 h1];rfl) rfl rfl hN k
theorem ES.backs (hk:EnOk n m np e) (hx:ev G x=some (.pointer (some ⟨a.bk,0 + q.toNat * 1,none⟩))) (hy:ev G y=some (.int .i64 v)) (h0:0≤q) (h1:q < n) (k:RW Tryz.prog E ops Q rest G (enH be a z n m sv { e with backs:=e.backs.set q.toNat v }++X)):
 RW Tryz.prog E ops Q (⟨none,.store 3 x y,ty,pos,af,none⟩::rest) G (enH be a z n m sv e++X):=
 RW.storeOwn [_,_,_,_,_,_,_,_] (i:=q.toNat) (j:=0) (cs:=[.int .i64 (e.backs.getD q.toNat 0)]) hx (by simp) hy rfl rfl (by rw [List.getElem?_map,getD_some (d:=0) hk.backs h0 h1];rfl) (Nat.zero_lt_succ _) (by
  rw [show (e.backs.map intE).set q.toNat ([Value.int .i64 (e.backs.getD q.toNat 0)].set 0 (.int .i64 v))=(e.backs.set q.toNat v).map intE from List.map_set.symm];exact k)
theorem EL.backed (hk:EnOk n m np e) (hx:ev G x=some (.pointer (some ⟨a.bd,0 + q.toNat * 1,none⟩))) (h0:0≤q) (h1:q < n) (hN:Nat.blt dst E.N=true) (k:RW Tryz.prog E ops Q rest ((dst,.bool (e.backed.getD q.toNat false))::G) (enH be a z n m sv e++X)):
 RW Tryz.prog E ops Q (⟨some dst,.load 4 x,ty,pos,af,none⟩::rest) G (enH be a z n m sv e++X):=
 RW.loadOwn1 [_,_,_,_,_,_,_,_,_] (i:=q.toNat) (j:=0) hx (by simp) (by rw [List.getElem?_map,getD_some (d:=false) hk.backed h0 h1];rfl) rfl rfl hN k
theorem ES.backed (hk:EnOk n m np e) (hx:ev G x=some (.pointer (some ⟨a.bd,0 + q.toNat * 1,none⟩))) (hy:ev G y=some (.bool bv)) (h0:0≤q) (h1:q < n) (k:RW Tryz.prog E ops Q rest G (enH be a z n m sv { e with backed:=e.backed.set q.toNat bv }++X)):
 RW Tryz.prog E ops Q (⟨none,.store 4 x y,ty,pos,af,none⟩::rest) G (enH be a z n m sv e++X):=
 RW.storeOwn [_,_,_,_,_,_,_,_,_] (i:=q.toNat) (j:=0) (cs:=[.bool (e.backed.getD q.toNat false)]) hx (by simp) hy rfl rfl (by rw [List.getElem?_map,getD_some (d:=false) hk.backed h0 h1];rfl) (Nat.zero_lt_succ _) (by
  rw [show (e.backed.map boolE).set q.toNat ([Value.bool (e.backed.getD q.toNat false)].set 0 (.bool bv))=(e.backed.set q.toNat bv).map boolE from List.map_set.symm];exact k)
theorem EL.opn (hk:EnOk n m np e) (hx:ev G x=some (.pointer (some ⟨a.op,0 + q.toNat * 1,none⟩))) (h0:0≤q) (h1:q < n) (hN:Nat.blt dst E.N=true) (k:RW Tryz.prog E ops Q rest ((dst,.int .i64 (e.opn.getD q.toNat 0))::G) (enH be a z n m sv e++X)):
 RW Tryz.prog E ops Q (⟨some dst,.load 3 x,ty,pos,af,none⟩::rest) G (enH be a z n m sv e++X):=
 RW.loadOwn1 [_,_,_,_,_,_,_,_,_,_] (i:=q.toNat) (j:=0) hx (by simp) (by rw [List.getElem?_map,getD_some (d:=0) hk.opn h0 h1];rfl) rfl rfl hN k
theorem ES.opn (hk:EnOk n m np e) (hx:ev G x=some (.pointer (some ⟨a.op,0 + q.toNat * 1,none⟩))) (hy:ev G y=some (.int .i64 v)) (h0:0≤q) (h1:q < n) (k:RW Tryz.prog E ops Q rest G (enH be a z n m sv { e with opn:=e.opn.set q.toNat v }++X)):
 RW Tryz.prog E ops Q (⟨none,.store 3 x y,ty,pos,af,none⟩::rest) G (enH be a z n m sv e++X):=
 RW.storeOwn [_,_,_,_,_,_,_,_,_,_] (i:=q.toNat) (j:=0) (cs:=[.int .i64 (e.opn.getD q.toNat 0)]) hx (by simp) hy rfl rfl (by rw [List.getElem?_map,getD_some (d:=0) hk.opn h0 h1];rfl) (Nat.zero_lt_succ _) (by
  rw [show (e.opn.map intE).set q.toNat ([Value.int .i64 (e.opn.getD q.toNat 0)].set 0 (.int .i64 v))=(e.opn.set q.toNat v).map intE from List.map_set.symm];exact k)
theorem EL.clash (hk:EnOk n m np e) (hx:ev G x=some (.pointer (some ⟨a.cl,0 + q.toNat * 1,none⟩))) (h0:0≤q) (h1:q < n) (hN:Nat.blt dst E.N=true) (k:RW Tryz.prog E ops Q rest ((dst,.bool (e.clash.getD q.toNat false))::G) (enH be a z n m sv e++X)):
 RW Tryz.prog E ops Q (⟨some dst,.load 4 x,ty,pos,af,none⟩::rest) G (enH be a z n m sv e++X):=
 RW.loadOwn1 [_,_,_,_,_,_,_,_,_,_,_] (i:=q.toNat) (j:=0) hx (by simp) (by rw [List.getElem?_map,getD_some (d:=false) hk.clash h0 h1];rfl) rfl rfl hN k
theorem ES.clash (hk:EnOk n m np e) (hx:ev G x=some (.pointer (some ⟨a.cl,0 + q.toNat * 1,none⟩))) (hy:ev G y=some (.bool bv)) (h0:0≤q) (h1:q < n) (k:RW Tryz.prog E ops Q rest G (enH be a z n m sv { e with clash:=e.clash.set q.toNat bv }++X)):
 RW Tryz.prog E ops Q (⟨none,.store 4 x y,ty,pos,af,none⟩::rest) G (enH be a z n m sv e++X):=
 RW.storeOwn [_,_,_,_,_,_,_,_,_,_,_] (i:=q.toNat) (j:=0) (cs:=[.bool (e.clash.getD q.toNat false)]) hx (by simp) hy rfl rfl (by rw [List.getElem?_map,getD_some (d:=false) hk.clash h0 h1];rfl) (Nat.zero_lt_succ _) (by
  rw [show (e.clash.map boolE).set q.toNat ([Value.bool (e.clash.getD q.toNat false)].set 0 (.bool bv))=(e.clash.set q.toNat bv).map boolE from List.map_set.symm];exact k)
theorem EL.attacks (hk:EnOk n m np e) (hx:ev G x=some (.pointer (some ⟨a.at_,0 + q.toNat * 1,none⟩))) (h0:0≤q) (h1:q < n) (hN:Nat.blt dst E.N=true) (k:RW Tryz.prog E ops Q rest ((dst,.int .i64 (e.attacks.getD q.toNat 0))::G) (enH be a z n m sv e++X)):
 RW Tryz.prog E ops Q (⟨some dst,.load 3 x,ty,pos,af,none⟩::rest) G (enH be a z n m sv e++X):=
 RW.loadOwn1 [_,_,_,_,_,_,_,_,_,_,_,_] (i:=q.toNat) (j:=0) hx (by simp) (by rw [List.getElem?_map,getD_some (d:=0) hk.attacks h0 h1];rfl) rfl rfl hN k
theorem ES.attacks (hk:EnOk n m np e) (hx:ev G x=some (.pointer (some ⟨a.at_,0 + q.toNat * 1,none⟩))) (hy:ev G y=some (.int .i64 v)) (h0:0≤q) (h1:q < n) (k:RW Tryz.prog E ops Q rest G (enH be a z n m sv { e with attacks:=e.attacks.set q.toNat v }++X)):
 RW Tryz.prog E ops Q (⟨none,.store 3 x y,ty,pos,af,none⟩::rest) G (enH be a z n m sv e++X):=
 RW.storeOwn [_,_,_,_,_,_,_,_,_,_,_,_] (i:=q.toNat) (j:=0) (cs:=[.int .i64 (e.attacks.getD q.toNat 0)]) hx (by simp) hy rfl rfl (by rw [List.getElem?_map,getD_some (d:=0) hk.attacks h0 h1];rfl) (Nat.zero_lt_succ _) (by
  rw [show (e.attacks.map intE).set q.toNat ([Value.int .i64 (e.attacks.getD q.toNat 0)].set 0 (.int .i64 v))=(e.attacks.set q.toNat v).map intE from List.map_set.symm];exact k)
theorem EL.standing (hk:EnOk n m np e) (hx:ev G x=some (.pointer (some ⟨a.sd,0 + q.toNat * 1,none⟩))) (h0:0≤q) (h1:q < n) (hN:Nat.blt dst E.N=true) (k:RW Tryz.prog E ops Q rest ((dst,.bool (e.standing.getD q.toNat false))::G) (enH be a z n m sv e++X)):
 RW Tryz.prog E ops Q (⟨some dst,.load 4 x,ty,pos,af,none⟩::rest) G (enH be a z n m sv e++X):=
 RW.loadOwn1 [_,_,_,_,_,_,_,_,_,_,_,_,_] (i:=q.toNat) (j:=0) hx (by simp) (by rw [List.getElem?_map,getD_some (d:=false) hk.standing h0 h1];rfl) rfl rfl hN k
theorem ES.standing (hk:EnOk n m np e) (hx:ev G x=some (.pointer (some ⟨a.sd,0 + q.toNat * 1,none⟩))) (hy:ev G y=some (.bool bv)) (h0:0≤q) (h1:q < n) (k:RW Tryz.prog E ops Q rest G (enH be a z n m sv { e with standing:=e.standing.set q.toNat bv }++X)):
 RW Tryz.prog E ops Q (⟨none,.store 4 x y,ty,pos,af,none⟩::rest) G (enH be a z n m sv e++X):=
 RW.storeOwn [_,_,_,_,_,_,_,_,_,_,_,_,_] (i:=q.toNat) (j:=0) (cs:=[.bool (e.standing.getD q.toNat false)]) hx (by simp) hy rfl rfl (by rw [List.getElem?_map,getD_some (d:=false) hk.standing h0 h1];rfl) (Nat.zero_lt_succ _) (by
  rw [show (e.standing.map boolE).set q.toNat ([Value.bool (e.standing.getD q.toNat false)].set 0 (.bool bv))=(e.standing.set q.toNat bv).map boolE from List.map_set.symm];exact k)
theorem EL.hdr {O:Nat} {t:TypeId} {d:TypeDesc} {zz v:Value} {sz by_:Nat} [T:Ty Tryz.prog t d zz sz by_] (hx:ev G x=some (.pointer (some ⟨be,O,none⟩))) (hv:(enC a z n m sv e.qd e.up)[O]?=some v) (hd:isAggD d=false) (hN:Nat.blt dst E.N=true) (k:RW Tryz.prog E ops Q rest ((dst,v)::G) (enH be a z n m sv e++X)):
 RW Tryz.prog E ops Q (⟨some dst,.load t x,ty,pos,af,none⟩::rest) G (enH be a z n m sv e++X):=
 RW.load_blk [] hx hv hd hN k
theorem EL.idx {t ee:TypeId} {B nn sz by_ sz' by':Nat} {zz z':Value} {d:TypeDesc} {kk:IntKind} {q:Int} [T:Ty Tryz.prog t (.slice ee) zz sz by_] [T2:Ty Tryz.prog ee d z' sz' by'] (hx:ev G x=some (slV B nn)) (hy:ev G y=some (.int kk q)) (h0:0≤q) (h1:q < nn) (hN:Nat.blt dst E.N=true)
 (k:RW Tryz.prog E ops Q rest ((dst,.pointer (some ⟨B,0 + q.toNat * sz',none⟩))::G) X):RW Tryz.prog E ops Q (⟨some dst,.indexAddr t x y,ty,pos,af,none⟩::rest) G X:=
 RW.indexAddr hx hy h0 h1 hN k
theorem ES.qd {u:Int} (hx:ev G x=some (.pointer (some ⟨be,7,none⟩))) (hy:ev G y=some (.int .i64 u)) (k:RW Tryz.prog E ops Q rest G (enH be a z n m sv { e with qd:=u }++X)):
 RW Tryz.prog E ops Q (⟨none,.store 3 x y,ty,pos,af,none⟩::rest) G (enH be a z n m sv e++X):=
 RW.store_blk [] rfl hx hy rfl rfl (Nat.lt_of_sub_eq_succ rfl) k
theorem ES.up {u:Int} (hx:ev G x=some (.pointer (some ⟨be,8,none⟩))) (hy:ev G y=some (.int .i64 u)) (k:RW Tryz.prog E ops Q rest G (enH be a z n m sv { e with up:=u }++X)):
 RW Tryz.prog E ops Q (⟨none,.store 3 x y,ty,pos,af,none⟩::rest) G (enH be a z n m sv e++X):=
 RW.store_blk [] rfl hx hy rfl rfl (Nat.lt_of_sub_eq_succ rfl) k
theorem EL.ex {O b:Nat} {c:List Value} {te t:TypeId} {d:TypeDesc} {zz v:Value} {sz by_:Nat} [T:Ty Tryz.prog t d zz sz by_] (hx:ev G x=some (.pointer (some ⟨b,O,none⟩))) (hv:c[O]?=some v) (hd:isAggD d=false) (hN:Nat.blt dst E.N=true) (k:RW Tryz.prog E ops Q rest ((dst,v)::G) (enH be a z n m sv e++blk b c te::X)):
 RW Tryz.prog E ops Q (⟨some dst,.load t x,ty,pos,af,none⟩::rest) G (enH be a z n m sv e++blk b c te::X):=RW.load_blk (enH be a z n m sv e) hx hv hd hN k
theorem pair_get (hk:EnOk n m np e) {p:Int} (p0:0≤p) (p1:p < np):(e.pairs.map pairE)[p.toNat]?=some (pairE (e.pair p)):=by
 rw [List.getElem?_map,getD_some (d:=(0,0,false,0)) hk.pairs p0 p1];rfl
theorem EL.pair {B O j:Nat} {p:Int} {u:Value} {t:TypeId} {d:TypeDesc} {zz:Value} {sz by_:Nat} [T:Ty Tryz.prog t d zz sz by_] (hk:EnOk n m np e) (hB:z.pA=some ⟨B,0,none⟩) (hx:ev G x=some (.pointer (some ⟨B,O,none⟩))) (hO:O=p.toNat * 4 + j) (p0:0≤p) (p1:p < np) (hu:(pairE (e.pair p))[j]?=some u) (hd:isAggD d=false) (hN:Nat.blt dst E.N=true)
 (k:RW Tryz.prog E ops Q rest ((dst,u)::G) (enH be a z n m sv e++X)):RW Tryz.prog E ops Q (⟨some dst,.load t x,ty,pos,af,none⟩::rest) G (enH be a z n m sv e++X):=by
 obtain ⟨s,tx,first,iA,oA,bA,pA,ic,oc,bc,pc,np2⟩:=z
 dsimp only at hB
 subst hB
 exact RW.loadOwn1 [_,_,_,_,_,_,_,_,_,_,_,_,_,_] (i:=p.toNat) (j:=j) hx hO (pair_get hk p0 p1) hu hd hN k
theorem EL.pairW {B O:Nat} {p:Int} (hk:EnOk n m np e) (hB:z.pA=some ⟨B,0,none⟩) (hx:ev G x=some (.pointer (some ⟨B,O,none⟩))) (hO:O=p.toNat * 4) (p0:0≤p) (p1:p < np) (hN:Nat.blt dst E.N=true)
 (k:RW Tryz.prog E ops Q rest ((dst,.agg (pairE (e.pair p)).toArray)::G) (enH be a z n m sv e++X)):RW Tryz.prog E ops Q (⟨some dst,.load 148 x,ty,pos,af,none⟩::rest) G (enH be a z n m sv e++X):=by
 obtain ⟨s,tx,first,iA,oA,bA,pA,ic,oc,bc,pc,np2⟩:=z
 dsimp only at hB
 subst hB
 exact RW.loadOwn [_,_,_,_,_,_,_,_,_,_,_,_,_,_] (i:=p.toNat) hx hO (pair_get hk p0 p1) rfl rfl hN k
theorem ES.settled {B O:Nat} {p:Int} (hk:EnOk n m np e) (hB:z.pA=some ⟨B,0,none⟩) (hx:ev G x=some (.pointer (some ⟨B,O,none⟩))) (hO:O=p.toNat * 4 + 2) (hy:ev G y=some (.bool true)) (p0:0≤p) (p1:p < np)
 (k:RW Tryz.prog E ops Q rest G (enH be a z n m sv { e with pairs:=e.pairs.set p.toNat ((e.pair p).1,(e.pair p).2.1,true,(e.pair p).2.2.2) }++X)):RW Tryz.prog E ops Q (⟨none,.store 4 x y,ty,pos,af,none⟩::rest) G (enH be a z n m sv e++X):=by
 obtain ⟨s,tx,first,iA,oA,bA,pA,ic,oc,bc,pc,np2⟩:=z
 dsimp only at hB
 subst hB
 exact RW.storeOwn [_,_,_,_,_,_,_,_,_,_,_,_,_,_] (i:=p.toNat) (j:=2) hx hO hy rfl rfl (pair_get hk p0 p1) (Nat.lt_of_sub_eq_succ rfl) (by
  rw [show (e.pairs.map pairE).set p.toNat ((pairE (e.pair p)).set 2 (.bool true))=(e.pairs.set p.toNat ((e.pair p).1,(e.pair p).2.1,true,(e.pair p).2.2.2)).map pairE by rw [List.map_set];rfl];exact k)
theorem ES.left {B O:Nat} {p u:Int} (hk:EnOk n m np e) (hB:z.pA=some ⟨B,0,none⟩) (hx:ev G x=some (.pointer (some ⟨B,O,none⟩))) (hO:O=p.toNat * 4 + 3) (hy:ev G y=some (.int .i64 u)) (p0:0≤p) (p1:p < np)
 (k:RW Tryz.prog E ops Q rest G (enH be a z n m sv { e with pairs:=e.pairs.set p.toNat ((e.pair p).1,(e.pair p).2.1,(e.pair p).2.2.1,u) }++X)):RW Tryz.prog E ops Q (⟨none,.store 3 x y,ty,pos,af,none⟩::rest) G (enH be a z n m sv e++X):=by
 obtain ⟨s,tx,first,iA,oA,bA,pA,ic,oc,bc,pc,np2⟩:=z
 dsimp only at hB
 subst hB
 exact RW.storeOwn [_,_,_,_,_,_,_,_,_,_,_,_,_,_] (i:=p.toNat) (j:=3) hx hO hy rfl rfl (pair_get hk p0 p1) (Nat.lt_of_sub_eq_succ rfl) (by
  rw [show (e.pairs.map pairE).set p.toNat ((pairE (e.pair p)).set 3 (.int .i64 u))=(e.pairs.set p.toNat ((e.pair p).1,(e.pair p).2.1,(e.pair p).2.2.1,u)).map pairE by rw [List.map_set];rfl];exact k)
end
end Go.Proofs.YtbcdgcodnkgdoaaGreat
namespace Go.Proofs.YtbcdgcodnkgdoaaGreat
open Go Go.RowKit
def KN.new (n:Nat):KN:=⟨List.replicate n 0,List.replicate n 0,List.replicate n false,[],List.replicate n 0,0,0⟩
def knotGo (nx:Int→List Int) (f:Nat):Nat→Nat→KN→KN
 | 0,_,k=>k
 | r + 1,i,k=>knotGo nx f r (i + 1) (if hdAt k.ix i=0 then visitD nx f k i else k)
def knotD (nx:Int→List Int) (n:Nat):KN:=knotGo nx n n 0 (KN.new n)
theorem zeros_rep (n:Nat):zeros (List.replicate n 0)=n:=by simp [zeros,List.countP_replicate]
theorem KOk.new (n:Nat):KOk n 0 (KN.new n):=
 ⟨by simp [KN.new],by simp [KN.new],by simp [KN.new],by simp [KN.new],fun w hw=>(List.not_mem_nil hw).elim,by show (0:Int) + (zeros (List.replicate n 0):Nat)=n;rw [zeros_rep];omega,Int.le_refl _,Int.le_refl _,Int.le_refl _,by show 0 + zeros (List.replicate n 0)≤n;rw [zeros_rep];omega⟩
theorem Sep.addp {c:HP} {r:List HP} {w:World} {A:Nat→Prop} (hc:c.p w No) (h:Sep r w A):Sep (c::r) w A:=⟨No,fun b hb=>hb.elim,hc,Sep.up (fun b hb=>⟨hb,fun k=>k.elim⟩) h⟩
theorem knot_start {w:World} {A:Nat→Prop} {bk b1 n:Nat} {a:KAd} {r:List HP} (h:Sep (blk bk (knC b1 a n (.slice none 0 0) 0 0) 190::ownHP 3 1 (.slice (some ⟨a.B1,0,none⟩) n n) (List.replicate n [.int .i64 0])::ownHP 3 1 (.slice (some ⟨a.B2,0,none⟩) n n) (List.replicate n [.int .i64 0])::ownHP 4 1 (.slice (some ⟨a.B3,0,none⟩) n n) (List.replicate n [.bool false])::ownHP 3 1 (.slice (some ⟨a.B5,0,none⟩) n n) (List.replicate n [.int .i64 0])::r) w A):Sep (knH bk b1 a n (.slice none 0 0) (KN.new n)++r) w A:=by
 unfold knH knR KN.new
 rw [List.map_replicate,List.map_replicate]
 exact Sep.cons_perm (fun _=>Sep.cons_perm (fun _=>Sep.cons_perm (fun _=>Sep.cons_perm (fun _ h=>Sep.addp (.inl ⟨rfl,rfl⟩) h)))) h
theorem knot_ok {n:Nat} {nx:Int→List Int} (hnx:∀ v:Int,0≤v→v < n→∀ w∈nx v,0≤w∧w < n) {k:KN} {i:Nat} (h:KOk n 0 k) (hi:i < n):KOk n 0 (if hdAt k.ix i=0 then visitD nx n k i else k):=by
 split
 ·rename_i h0
  exact (visit_ok hnx n 0 k i h (by omega) (by omega) h0 (by have:=zeros_le k.ix;have:=h.ix;omega)).1
 ·exact h
attribute [local irreducible] RW CW
set_option maxHeartbeats 8000000 in
theorem knot_ret {t:ThV} {x:TC} {b1 n:Nat} {w:World} (hnB:(tBeats t).length=n) (hn:n≤4096) (hnx:∀ v:Int,0≤v→v < n→∀ w∈beatAt t v,0≤w∧w < n)
 (hb:∀ (j:Nat) (u:Value),(x.th t)[j]?=some u→mem w (fun b=>¬ No b) b1 j u) (h:ThOn (mem w (fun b=>¬ No b)) t x):
 RetC Tryz.prog 117 [.int .i64 n,nextV b1] w No (fun q:Nat × KAd × Value=>ptrV q.1) (fun q=>knH q.1 b1 q.2.1 n q.2.2 (knotD (beatAt t) n)):=by
 have hle:Mem.le (mem w (fun b=>¬ No b)) (mem w (fun b=>¬ No b)):=Mem.le_refl _
 refine Calls.enter Tryz.func117 rfl _ rfl rfl (S:=No) (H:=[]) trivial ?_
 refine Ja ?_;refine Jd ?_;refine Jb ?_
 refine CW.seqA (by kernel_rfl) rfl ?_
 refine AW.val rfl (fun _ _=>by refine Jc ?_;exact RW.done rfl) ?_;refine AW.val rfl (fun _ _=>by refine Jc ?_;exact RW.done rfl) ?_
 (apply AW.gen (fun b=>.slice (some ⟨b,0,none⟩) n n) (fun b=>ownHP 3 1 (.slice (some ⟨b,0,none⟩) n n) (List.replicate n [.int .i64 0])) rfl;· intro Gx X;refine RW.make (n:=n) (zc:=[.int .i64 0]) rfl rfl rfl rfl rfl (by unfold maxN;omega) (by omega) rfl fun B0=>?_;exact RW.done_gen rfl)
 refine AW.val rfl (fun _ _=>by refine Jc ?_;exact RW.done rfl) ?_
 (apply AW.gen (fun b=>.slice (some ⟨b,0,none⟩) n n) (fun b=>ownHP 3 1 (.slice (some ⟨b,0,none⟩) n n) (List.replicate n [.int .i64 0])) rfl;· intro Gx X;refine RW.make (n:=n) (zc:=[.int .i64 0]) rfl rfl rfl rfl rfl (by unfold maxN;omega) (by omega) rfl fun B0=>?_;exact RW.done_gen rfl)
 refine AW.val rfl (fun _ _=>by refine Jc ?_;exact RW.done rfl) ?_
 (apply AW.gen (fun b=>.slice (some ⟨b,0,none⟩) n n) (fun b=>ownHP 4 1 (.slice (some ⟨b,0,none⟩) n n) (List.replicate n [.bool false])) rfl;· intro Gx X;refine RW.make (n:=n) (zc:=[.bool false]) rfl rfl rfl rfl rfl (by unfold maxN;omega) (by omega) rfl fun B0=>?_;exact RW.done_gen rfl)
 refine AW.val rfl (fun _ _=>by refine Jc ?_;exact RW.done rfl) ?_
 (apply AW.gen (fun b=>.slice (some ⟨b,0,none⟩) n n) (fun b=>ownHP 3 1 (.slice (some ⟨b,0,none⟩) n n) (List.replicate n [.int .i64 0])) rfl;· intro Gx X;refine RW.make (n:=n) (zc:=[.int .i64 0]) rfl rfl rfl rfl rfl (by unfold maxN;omega) (by omega) rfl fun B0=>?_;exact RW.done_gen rfl)
 refine AW.stop (by kernel_rfl) (by kernel_rfl) fun bs=>?_
 refine RW.build (v:=.agg (knC b1 ⟨bs 9,bs 11,bs 13,bs 15⟩ n (.slice none 0 0) 0 0).toArray) rfl (fun w=>by kernel_rfl) rfl ?_
 refine RW.box_agg (l:=knC b1 ⟨bs 9,bs 11,bs 13,bs 15⟩ n (.slice none 0 0) 0 0) rfl rfl fun bk _=>?_
 refine Jd ?_;refine Jb ?_
 generalize ha:(⟨bs 9,bs 11,bs 13,bs 15⟩:KAd)=a
 refine CW.sep (knH bk b1 a n (.slice none 0 0) (KN.new n)) (fun w A h=>?_) ?_
 ·subst ha
  exact knot_start (a:=⟨bs 9,bs 11,bs 13,bs 15⟩) (r:=[]) (Sep.take [0,4,3,2,1] h)
 clear ha
 refine CW.seq ?_
 refine Ja ?_;refine Jc ?_;refine Jc ?_;refine Jb ?_
 refine CW.block ?_
 refine CW.loop (ι:={ q:Nat × KN × Value // q.1≤n∧KOk n 0 q.2.1∧knotD (beatAt t) n=knotGo (beatAt t) n (n - q.1) q.1 q.2.1 }) (fun q=>[(5,ptrV bk),(18,.int .i64 n),(19,.int .i64 q.1.1)]) (fun q=>knH bk b1 a n q.1.2.2 q.1.2.1) (fun q=>n - q.1.1) ⟨(0,KN.new n,.slice none 0 0),Nat.zero_le _,KOk.new n,rfl⟩ ⟨rfl,rfl,rfl,trivial⟩ (fun h=>h) ?_
 intro ⟨⟨i,k,sv⟩,hi,hk,hS⟩
 dsimp only at hi hk hS ⊢
 refine Ja ?_;refine Jk ?_;refine Jb ?_
 refine CW.seq ?_
 refine CW.ite rfl (fun hlt=>?_) (fun hge=>?_)
 rotate_left
 ·have hge':n - i=0:=by omega
  rw [hge',knotGo] at hS
  rw [hS]
  refine CW.exit rfl ?_
  refine PW.code ?_
  refine Ja ?_;refine Jc ?_;refine Jd ?_;refine Jb ?_
  exact CW.ret1 rfl Tryz.results117 rfl rfl fun w hw=>⟨(bk,a,sv),rfl,hw⟩
 have hlt':i < n:=by omega
 have hi0:(0:Int)≤i:=by omega
 rw [show n - i=(n - (i + 1)) + 1 by omega,knotGo] at hS
 have hk2:=knot_ok hnx hk hlt'
 have gi:=hd_get (q:=(i:Int)) hk.ix hi0 hlt
 refine CW.skip ?_
 refine PW.code ?_
 refine CW.seq ?_
 refine CW.block ?_
 refine Ja ?_;refine Jc ?_;refine Jd ?_;refine Jb ?_;refine Ja ?_;refine Jc ?_;refine Jf ?_;refine Je ?_;refine JA ?_;refine Jc ?_
 refine RW.indexAddr rfl rfl hi0 hlt rfl ?_
 refine RW.loadOwn1 [_] (i:=i) (j:=0) rfl (by simp) (mapE_get gi) rfl rfl rfl ?_
 refine Ji ?_;refine Jb ?_
 refine CW.ite rfl (fun h0=>?_) (fun h0=>?_)
 ·rw [if_pos h0] at hS hk2
  refine CW.region ?_
  refine Jc ?_;refine Jc ?_
  refine RW.callT [0,1,2,3,4,5] (knH bk b1 a n sv k) (r:=[]) rfl rfl rfl Tryz.call166 (fun w3 F3 hle3 hC hr=>visit_ret hnB hn hnx n 0 k i sv w3 F3 hk hi0 hlt h0 (by have:=zeros_le k.ix;have:=hk.ix;omega) (fun j v hj=>hle3 _ _ _ (hb j v hj)) (h.mono hle3) hC) fun sv3=>?_
  refine RW.nil (PW.code ?_)
  refine CW.region ?_
  refine RW.add rfl rfl (w64 (by omega) (by omega)) rfl ?_
  refine Jc ?_
  refine RW.nil ?_
  exact PW.again ⟨(i + 1,visitD (beatAt t) n k i,sv3),hlt',hk2,hS⟩ ⟨rfl,rfl,rfl,trivial⟩ (fun h=>h) (by show n - (i + 1) < n - i;omega)
 ·rw [if_neg h0] at hS hk2
  refine CW.skip ?_
  refine PW.code ?_
  refine CW.region ?_
  refine RW.add rfl rfl (w64 (by omega) (by omega)) rfl ?_
  refine Jc ?_
  refine RW.nil ?_
  exact PW.again ⟨(i + 1,k,sv),hlt',hk2,hS⟩ ⟨rfl,rfl,rfl,trivial⟩ (fun h=>h) (by show n - (i + 1) < n - i;omega)
end Go.Proofs.YtbcdgcodnkgdoaaGreat
