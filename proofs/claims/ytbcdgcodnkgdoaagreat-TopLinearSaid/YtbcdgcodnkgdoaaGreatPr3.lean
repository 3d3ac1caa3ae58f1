/- Parts of the proof: theory.foes. · theory.rule, pairs. · theory.pairs. · theory.beats. · The calculus: a statement whose order is open and in which data of one's own grows: each operation in turn, the append among them. · The calculus: an append that has room, one that has none: where it comes to lie. · min; the state of a search for knots. · The calculus: in a statement whose order is open, a move that no other waits for may be taken first. · A slice of one's own as a number. · knots.visit. · theory.knot. · slices.IndexFunc over numbers; theory.circle. · theory.circle. · The plain law of knots: each node's number is one of the knots'. · theory.Check, CheckFacts. · lexpriorref12.In, lexpriorref15.In; lexpriorref12.Rising. · The calculus: bits and shifts of numbers. · The fast engine as plain functions over lists. · The fast engine in memory. · lexpriorref12.foes, count, pairs. Conditions: none. -/
import Derived.Test.YtbcdgcodnkgdoaaGreatPr2
/- theory.foes. Conditions: none. -/
set_option linter.unusedVariables false
set_option linter.unusedSimpArgs false
set_option maxRecDepth 10000
namespace Go.Proofs.YtbcdgcodnkgdoaaGreat
open Go Go.RowKit
section
def cq (t:ThV) (f:Int):List Int:=((aH t)[f.toNat]?).getD []
def gJ (t:ThV) (q:Int):List Int→Bool
 | []=>true
 | f::r=>decide (q∈cq t f)&&gJ t q r
def iF (t:ThV) (q:Int) (l:List Int):Bool:=decide (64 < (l.length:Int)) || !bg l t.1 || vK l q || !gJ t q l
def i9 (t:ThV):List (List Int)→Int→Int
 | [],_=>-1
 | l::r,q=>if iF t q l=true then q else i9 t r (q + 1)
def jN (t:ThV):Int:=i9 t (aH t) 0
theorem l6 {n:Int}:∀ {l:List Int} {p:Int},du n p l=true→∀ x∈l,0≤x∧x < n
 | [],_,_,x,hx=>by cases hx
 | y::r,p,h,x,hx=>by
  unfold du at h;rw [Bool.and_eq_true,decide_eq_true_eq] at h;rcases List.mem_cons.1 hx with rfl | hx
  ·exact ⟨h.1.1,h.1.2.1⟩
  ·exact l6 h.2 x hx
theorem bU {l:List Int} {n:Int} (h:bg l n=true):∀ x∈l,0≤x∧x < n:=l6 h
attribute [local irreducible] RW CW
set_option maxHeartbeats 4000000 in
theorem Av {t:ThV} {x:TC} {w:World} (h:gp (mem w (fun b=>¬ No b)) t x) (hn:t.1=(aH t).length):Ret Tryz.prog 73 [.agg (x.th t).toArray] w (.int .i64 (jN t)):=by
 have hsm:=aP h.foes;unfold br at hsm;have hle:=hq0 w;refine Calls.enter Tryz.func73 rfl _ rfl rfl (S:=No) (H:=[]) trivial ?_;refine bZ ?_;refine aS (l:=x.th t) rfl rfl fun b1 _=>?_;refine Jd (Jb ?_);refine ar ?_;refine Ja (Je ?_);refine JA ?_;refine Jg (Jc (Jb ?_));refine ak ?_;refine aI (ι:={ q:Nat // q≤(aH t).length∧jN t=i9 t ((aH t).drop q) q }) (fun q=>[(1,aK b1),(8,.slice x.A1 (aH t).length x.c1),(9,.int .i64 (aH t).length),(10,.int .i64 q.1)]) (fun _=>[blk b1 (x.th t) 25]) (fun q=>(aH t).length - q.1) ⟨0,Nat.zero_le _,rfl⟩ ⟨rfl,rfl,rfl,rfl,trivial⟩ (fun h=>h) ?_;intro ⟨q,hq,hS⟩;dsimp only at hq hS ⊢;refine Ja (Jk (Jb ?_));refine ar ?_;refine ay rfl (fun hlt=>?_) (fun hge=>?_);rotate_left
 ·have hge':(aH t).length≤q:=by omega
  rw [List.drop_eq_nil_of_le hge'] at hS;refine aG rfl (ah ?_);refine Ja (Jd (Jb ?_));exact aw rfl Tryz.results73 rfl rfl fun w hw=>⟨by rw [hS];rfl,hw.kp⟩
 have hlt':q < (aH t).length:=by omega
 rw [List.drop_eq_getElem_cons hlt',i9] at hS;obtain ⟨B,O,A2,c2,hA,hm,hl⟩:=dQ h.foes (List.getElem?_eq_getElem hlt');generalize (aH t)[q]=l at *;have hsl:=aP hl;unfold br at hsl;have bad:iF t q l=true→jN t=q:=fun h=>by rw [hS,if_pos h]
 have good:iF t q l=false→jN t=i9 t ((aH t).drop (q + 1)) ((q + 1:Nat):Int):=fun h=>by rw [hS,if_neg (by simp [h])];rfl
 clear hS;unfold iF at bad good;refine al (ah ?_);refine ar ?_;refine ak ?_;refine Ja (Jc ?_);refine aa hA rfl rfl (by omega) hlt rfl ?_;refine ac rfl hle (aT hm) rfl rfl ?_;refine Jd (Jd (Jb ?_));refine ar ?_;refine Ja (Jc (Jg (Jm (Jc ?_))));refine aY 18 rfl (fun h1=>?_) (fun h1=>?_)
 ·(iterate 5 refine Jz ?_);refine Jv (Jc ?_);(iterate 3 refine Jz ?_);refine Jv (Jb ?_)
  refine cn rfl ?_;refine Ja (Jc (Jd (Jb ?_)));exact aw rfl Tryz.results73 rfl rfl fun w hw=>⟨by rw [bad (by rw [decide_eq_true h1];rfl)],hw.kp⟩
 rw [decide_eq_false h1,Bool.false_or] at bad good;refine Jy (Jc ?_);refine Jy (Je ?_);refine Jy ?_;refine JA ?_;refine Jy ?_;refine aD Tryz.call78 rfl (fun w2 hw=>iK (hl.mono (au hw))) rfl ?_;cases h2:bg l t.1 with
 | false=>
  rw [h2] at bad;refine Jy (Js (Jw (Jc ?_)));(iterate 3 refine Jz ?_);refine Jv (Jb ?_);refine cn rfl ?_;refine Ja (Jc (Jd (Jb ?_)));exact aw rfl Tryz.results73 rfl rfl fun w hw=>⟨by rw [bad rfl],hw.kp⟩
 | true=>
 rw [h2] at bad good;refine Jy (Js (Jw (Jc ?_)));refine Jy (Jc ?_);refine Jy (Jc ?_);refine Jy ?_;refine aD Tryz.call115 rfl (fun w2 hw=>xR (hl.mono (au hw))) rfl ?_;cases h3:vK l q with
 | true=>
  rw [h3] at bad;refine Jw (Jb ?_);refine cn rfl ?_;refine Ja (Jc (Jd (Jb ?_)));exact aw rfl Tryz.results73 rfl rfl fun w hw=>⟨by rw [bad rfl],hw.kp⟩
 | false=>
 rw [h3] at bad good;refine Jw (Jb ?_);refine ch rfl ?_;refine JM ?_;refine Ja (Jc (Jg (Jc (Jb ?_))));refine ak ?_;refine aI (ι:={ k:Nat // k≤l.length∧gJ t q l=gJ t q (l.drop k) }) (fun k=>[(1,aK b1),(3,.int .i64 q),(8,.slice x.A1 (aH t).length x.c1),(9,.int .i64 (aH t).length),(10,.int .i64 q),(31,.slice A2 l.length c2),(32,.int .i64 l.length),(33,.int .i64 k.1)]) (fun _=>[blk b1 (x.th t) 25]) (fun k=>l.length - k.1) ⟨0,Nat.zero_le _,rfl⟩ ⟨rfl,rfl,rfl,rfl,rfl,rfl,rfl,rfl,trivial⟩ (fun h=>h) ?_;intro ⟨k,hk,hT⟩;dsimp only at hk hT ⊢;refine Ja (Jk (Jb ?_));refine ar ?_;refine ay rfl (fun hkt=>?_) (fun hke=>?_);rotate_left
 ·have hke':l.length≤k:=by omega
  rw [List.drop_eq_nil_of_le hke'] at hT;rw [hT] at good;refine aG rfl (ah ?_);refine aj ?_;refine Ka ?_;refine Jc ?_;refine aq ?_;exact Pa ⟨q + 1,hlt',good rfl⟩
 have hkt':k < l.length:=by omega
 rw [List.drop_eq_getElem_cons hkt',gJ] at hT;obtain ⟨B3,O3,hA3,hm3,_⟩:=aR hl (List.getElem?_eq_getElem hkt');obtain ⟨hf0,hf1⟩:=bU h2 l[k] (List.getElem_mem hkt');generalize l[k]=f at *;have hf2:f.toNat < (aH t).length:=by omega
 obtain ⟨B4,O4,A4,c4,hA4,hm4,hl4⟩:=dQ h.foes (List.getElem?_eq_getElem hf2);have hfa:cq t f=(aH t)[f.toNat]:=by unfold cq;rw [List.getElem?_eq_getElem hf2];rfl
 rw [hfa] at hT;generalize (aH t)[f.toNat]=l4 at *;refine al (ah ?_);refine ar ?_;refine ak ?_;refine Ja ?_;refine aa hA3 rfl rfl (by omega) hkt rfl ?_;refine ac rfl hle (aT hm3) rfl rfl ?_;refine Jd (Jb (Ja (Je ?_)));refine JA ?_;refine Jc ?_;refine aa hA4 rfl rfl hf0 (by omega) rfl ?_;refine ac (v:=.slice A4 l4.length c4) rfl hle (by rw [Nat.mul_one];exact hm4) rfl rfl ?_;refine Jc ?_;refine aD Tryz.call116 rfl (fun w2 hw=>q5 (hl4.mono (au hw))) rfl ?_;refine Js (Jb ?_);refine DK rfl (fun h5=>?_) (fun h5=>?_)
 ·rw [decide_eq_false h5] at hT
  refine Ja (Jc (Jd (Jb ?_)));exact aw rfl Tryz.results73 rfl rfl fun w hw=>⟨by rw [bad (by rw [hT];rfl)],hw.kp⟩
 rw [decide_eq_true h5,Bool.true_and] at hT;refine al (ah ?_);refine aj ?_;refine Ka ?_;refine Jc ?_;refine aq ?_;exact Pa ⟨k + 1,hkt',hT⟩
end
section
def eX (n:Int) (r:i3):Bool:=decide (1≤r.1)&&(decide (r.1≤3)&&(decide (0≤r.2.1)&&(decide (r.2.1 < n)&&(decide ((r.2.2.length:Int)≤16)&&bg r.2.2 n))))
abbrev bJ (r:i3) (A:Option Addr) (c:Nat):List Value:=[.int .i64 r.1,.int .i64 r.2.1,.slice A r.2.2.length c]
attribute [local irreducible] RW CW
theorem zy {t:ThV} {x:TC} {r:i3} {A:Option Addr} {c:Nat} {w:World} (h:Rd cO (mem w (fun b=>¬ No b)) [.slice A r.2.2.length c] r.2.2):Ret Tryz.prog 74 [.agg (x.th t).toArray,.agg (bJ r A c).toArray] w (.bool (eX t.1 r)):=by
 refine Calls.enter Tryz.func74 rfl _ rfl rfl (S:=No) (H:=[]) trivial ?_;refine bZ ?_;refine aS (l:=x.th t) rfl rfl fun b2 _=>?_;refine aS (l:=bJ r A c) rfl rfl fun b3 _=>?_;unfold eX;refine Jd (Jb (Ja (Je ?_)));refine JA ?_;refine Jn (Jc ?_);refine aY 8 rfl (fun h1=>?_) (fun h1=>?_);rotate_left
 ·rw [decide_eq_false h1]
  (iterate 3 refine Jz ?_);refine Jw (Jc ?_);(iterate 3 refine Jz ?_);refine Jw (Jc ?_);(iterate 5 refine Jz ?_);refine Jw (Jc ?_);(iterate 4 refine Jz ?_);refine Jw (Jc ?_);(iterate 5 refine Jz ?_);refine Jw (Jd (Jb ?_))
  exact aw rfl Tryz.results74 rfl rfl fun w hw=>⟨rfl,hw.kp⟩
 rw [decide_eq_true h1,Bool.true_and];refine Jy (Je ?_);refine Jy ?_;refine JA ?_;refine Jy (Jl (Jv (Jc ?_)));refine aY 13 rfl (fun h1=>?_) (fun h1=>?_);rotate_left
 ·rw [decide_eq_false h1]
  (iterate 3 refine Jz ?_);refine Jw (Jc ?_);(iterate 5 refine Jz ?_);refine Jw (Jc ?_);(iterate 4 refine Jz ?_);refine Jw (Jc ?_);(iterate 5 refine Jz ?_);refine Jw (Jd (Jb ?_))
  exact aw rfl Tryz.results74 rfl rfl fun w hw=>⟨rfl,hw.kp⟩
 rw [decide_eq_true h1,Bool.true_and];refine Jy (Je ?_);refine Jy ?_;refine JA ?_;refine Jy (Jn (Jv (Jc ?_)));refine aY 18 rfl (fun h1=>?_) (fun h1=>?_);rotate_left
 ·rw [decide_eq_false h1]
  (iterate 5 refine Jz ?_);refine Jw (Jc ?_);(iterate 4 refine Jz ?_);refine Jw (Jc ?_);(iterate 5 refine Jz ?_);refine Jw (Jd (Jb ?_))
  exact aw rfl Tryz.results74 rfl rfl fun w hw=>⟨rfl,hw.kp⟩
 rw [decide_eq_true h1,Bool.true_and];refine Jy (Je ?_);refine Jy ?_;refine JA ?_;refine Jy (Je ?_);refine Jy ?_;refine JB ?_;refine Jy (Jk (Jv (Jc ?_)));refine aY 25 rfl (fun h1=>?_) (fun h1=>?_);rotate_left
 ·rw [decide_eq_false h1]
  (iterate 4 refine Jz ?_);refine Jw (Jc ?_);(iterate 5 refine Jz ?_);refine Jw (Jd (Jb ?_))
  exact aw rfl Tryz.results74 rfl rfl fun w hw=>⟨rfl,hw.kp⟩
 rw [decide_eq_true h1,Bool.true_and];refine Jy (Je ?_);refine Jy ?_;refine JA ?_;refine Jy (Jg ?_);refine Jy (Jl (Jv (Jc ?_)));refine aY 31 rfl (fun h1=>?_) (fun h1=>?_);rotate_left
 ·rw [decide_eq_false h1]
  (iterate 5 refine Jz ?_);refine Jw (Jd (Jb ?_))
  exact aw rfl Tryz.results74 rfl rfl fun w hw=>⟨rfl,hw.kp⟩
 rw [decide_eq_true h1,Bool.true_and];refine Jy (Je ?_);refine Jy ?_;refine JA ?_;refine Jy (Je ?_);refine Jy ?_;refine JB ?_;refine Jy ?_;refine aD Tryz.call78 rfl (fun w2 hw=>iK (h.mono (au hw))) rfl ?_;refine Jv (Jd (Jb ?_));exact aw rfl Tryz.results74 rfl rfl fun w hw=>⟨rfl,hw.kp⟩
end
section
def aF (l:List Int) (h:Int):Int:=(l[h.toNat]?).getD 0
def gH (l:List Int) (h:Int):List Int:=l.set h.toNat (aF l h + 1)
def ep:List i3→List Int→List Int
 | [],l=>l
 | r::rs,l=>ep rs (gH l r.2.1)
def fR (t:ThV):List Int:=ep (ao t) (List.replicate t.1.toNat 0)
def dz (hd:List Int) (a:Int):List Int→Int→Int
 | [],n=>n
 | f::r,n=>dz hd a r (n + a * aF hd f)
def c7 (hd:List Int):List (List Int)→Int→Int→Int
 | [],_,n=>n
 | l::r,q,n=>c7 hd r (q + 1) (dz hd (aF hd q) l n)
def gy (t:ThV):Int:=c7 (fR t) (aH t) 0 0
structure j6 (t:ThV):Prop where
 lits:t.1=(aH t).length
 most:t.1≤4096
 foes:∀ l∈aH t,l.length≤64∧bg l t.1=true
 count:(ao t).length≤4096
 rules:∀ r∈ao t,eX t.1 r=true
theorem cJ {n:Int} {r:i3} (h:eX n r=true):0≤r.2.1∧r.2.1 < n:=by
 unfold eX at h;simp only [Bool.and_eq_true,decide_eq_true_eq] at h;exact ⟨h.2.2.1,h.2.2.2.1⟩
def ii (n:Nat) (i:Int) (l:List Int):Prop:=l.length=n∧∀ v∈l,0≤v∧v≤i
theorem ii.at {n:Nat} {i:Int} {l:List Int} (h:ii n i l) (hi:0≤i) (q:Int):0≤aF l q∧aF l q≤i:=by
 unfold aF;cases hq:l[q.toNat]? with
 | none=>exact ⟨Int.le_refl _,hi⟩
 | some v=>exact h.2 v (List.mem_of_getElem? hq)
theorem ii.inc {n:Nat} {i:Int} {l:List Int} (h:ii n i l) (hi:0≤i) (q:Int):ii n (i + 1) (gH l q):=by
 refine ⟨by unfold gH;rw [List.length_set];exact h.1,fun v hv=>?_⟩;unfold gH at hv;rcases List.mem_or_eq_of_mem_set hv with hv | rfl
 ·have:=h.2 v hv;omega
 ·have:=h.at hi q;omega
theorem cM {n:Nat} {l:List Int} {q:Int} (hl:l.length=n) (h0:0≤q) (h1:q < n):l[q.toNat]?=some (aF l q):=by
 unfold aF;rw [List.getElem?_eq_getElem (by omega)]
 rfl
theorem bI {l:List Int} {i:Nat} {v:Int} (h:l[i]?=some v):(l.map bY)[i]?=some [.int .i64 v]:=by rw [List.getElem?_map,h];rfl
attribute [local irreducible] RW CW
set_option maxHeartbeats 16000000 in
theorem wN {t:ThV} {x:TC} {w:World} (h:gp (mem w (fun b=>¬ No b)) t x) (hk:j6 t):Ret Tryz.prog 75 [.agg (x.th t).toArray] w (.int .i64 (gy t)):=by
 have hle:=hq0 w;obtain ⟨hL,hM,hF,hC,hR⟩:=hk;refine Calls.enter Tryz.func75 rfl _ rfl rfl (S:=No) (H:=[]) trivial ?_;refine bZ ?_;refine aS (l:=x.th t) rfl rfl fun b1 _=>?_;refine Jd (Jb (Ja (Je ?_)));refine JA ?_;have hn:t.1=((aH t).length:Int):=hL;generalize hnn:(aH t).length=n at *;refine bF (n:=n) (zc:=[.int .i64 0]) rfl rfl hn rfl rfl (by unfold dK;omega) (by omega) rfl fun B0=>?_;refine Jd (Jb ?_);refine ar ?_;refine Ja (Je ?_);refine JB ?_;refine Jg (Jc (Jb ?_));refine ak ?_
 refine aI (ι:={ q:Nat × List Int // q.1≤(ao t).length∧ii n q.1 q.2∧fR t=ep ((ao t).drop q.1) q.2 }) (fun q=>[(1,aK b1),(2,.int .i64 0),(3,.slice (some ⟨B0,0,none⟩) n n),(15,.slice x.A2 (ao t).length x.c2),(16,.int .i64 (ao t).length),(17,.int .i64 q.1.1)])
  (fun q=>[blk b1 (x.th t) 25,ax 3 1 (.slice (some ⟨B0,0,none⟩) n n) (q.1.2.map bY)]) (fun q=>(ao t).length - q.1.1) ⟨(0,List.replicate n 0),Nat.zero_le _,⟨by simp,fun v hv=>by rw [List.eq_of_mem_replicate hv];exact ⟨Int.le_refl _,Int.le_refl _⟩⟩,by unfold fR;rw [show t.1.toNat=n by omega];rfl⟩ ⟨rfl,rfl,rfl,rfl,rfl,rfl,trivial⟩ (fun h=>by rw [List.map_replicate];exact h.take [1,0]) ?_
 intro ⟨⟨i,hd⟩,hi,hCt,hS⟩;dsimp only at hi hCt hS ⊢;refine Ja (Jk (Jb ?_));refine ar ?_;refine ay rfl (fun hlt=>?_) (fun hge=>?_)
 ·have hlt':i < (ao t).length:=by omega
  rw [List.drop_eq_getElem_cons hlt',ep] at hS;obtain ⟨B,O,A2,c2,hA,hm,hl,_,_⟩:=iu h.rules (List.getElem?_eq_getElem hlt');have hr:=cJ (hR _ (List.getElem_mem hlt'));generalize (ao t)[i]=r at *;have hg:=cM hCt.1 hr.1 (by omega);have hb:=hCt.at (by omega) r.2.1;refine al (ah ?_);refine ar ?_;refine ak ?_;refine Ja ?_;refine aa hA rfl rfl (by omega) hlt rfl ?_;refine dF (cs:=bJ r A2 c2) rfl hle (fun j v hj=>by have:=hm j v hj;simpa using this) rfl rfl (Nat.zero_lt_succ _) rfl ?_;refine cH (c:=bJ (0,0,[]) none 0) rfl rfl fun b5 _=>?_;refine aX [] rfl rfl (vs:=bJ r A2 c2) rfl rfl rfl (by simp [Value.oneCell']) ?_;refine Jb ?_;refine aj ?_;refine Jc (Je ?_);refine JA ?_;refine av rfl rfl hr.1 (by omega) rfl ?_;refine az [_,_] (i:=r.2.1.toNat) (j:=0) rfl (by simp) (bI hg) rfl rfl rfl ?_;refine Ka ?_;refine av rfl rfl hr.1 (by omega) rfl ?_;refine aM [_,_] (v:=.int .i64 (aF hd r.2.1 + 1)) (i:=r.2.1.toNat) (j:=0) rfl (by simp) rfl rfl rfl (bI hg) (Nat.zero_lt_succ _) ?_;refine aq (ah ?_);refine aj ?_;refine Ka ?_;refine Jc ?_;refine aq ?_;refine bp ⟨(i + 1,gH hd r.2.1),hlt',hCt.inc (by omega) _,hS⟩ ⟨rfl,rfl,rfl,rfl,rfl,rfl,trivial⟩ (fun hw=>?_) (by show (ao t).length - (i + 1) < (ao t).length - i;omega);have h2:=hw.take [1,2];unfold gH;rw [List.map_set];exact h2
 have hge':(ao t).length≤i:=by omega
 rw [List.drop_eq_nil_of_le hge',ep] at hS;refine aG rfl (ah ?_);refine Ja (Jd (Jb ?_));refine ar ?_;refine Ja (Je ?_);refine JA ?_;refine Jg (Jc (Jb ?_));refine ak ?_;have hcn:ii n 4096 hd:=⟨hCt.1,fun v hv=>by have:=hCt.2 v hv;omega⟩;clear hCt
 refine aI (ι:={ q:Nat × Int // q.1≤n∧0≤q.2∧q.2≤q.1 * (64 * 16777216)∧gy t=c7 hd ((aH t).drop q.1) q.1 q.2 }) (fun q=>[(1,aK b1),(3,.slice (some ⟨B0,0,none⟩) n n),(6,.int .i64 q.1.2),(30,.slice x.A1 n x.c1),(31,.int .i64 n),(32,.int .i64 q.1.1)])
  (fun q=>[blk b1 (x.th t) 25,ax 3 1 (.slice (some ⟨B0,0,none⟩) n n) (hd.map bY)]) (fun q=>n - q.1.1) ⟨(0,0),Nat.zero_le _,Int.le_refl _,by dsimp only;omega,by unfold gy;rw [hS];rfl⟩ ⟨rfl,rfl,rfl,by rw [← hnn];rfl,by rw [← hnn];rfl,rfl,trivial⟩ (fun h=>h) ?_
 clear hS;intro ⟨⟨q,s⟩,hq,hs0,hs1,hS⟩;dsimp only at hq hs0 hs1 hS ⊢;refine Ja (Jk (Jb ?_));refine ar ?_;refine ay rfl (fun hlt=>?_) (fun hge=>?_);rotate_left
 ·have hge':(aH t).length≤q:=by omega
  rw [List.drop_eq_nil_of_le hge',c7] at hS;refine aG rfl (ah ?_);refine Ja (Jc (Jd (Jb ?_)));exact aw rfl Tryz.results75 rfl rfl fun w hw=>⟨by rw [hS],hw.kp⟩
 have hlt':q < (aH t).length:=by omega
 rw [List.drop_eq_getElem_cons hlt',c7] at hS;obtain ⟨B,O,A2,c2,hA,hm,hl⟩:=dQ h.foes (List.getElem?_eq_getElem hlt');obtain ⟨hl64,hlr⟩:=hF _ (List.getElem_mem hlt');generalize (aH t)[q]=l at *;have hgq:=cM (q:=(q:Int)) hcn.1 (by omega) (by omega);have hbq:=hcn.at (by omega) (q:Int);refine al (ah ?_);refine ar ?_;refine ak ?_;refine Ja (Jc ?_);refine aa hA rfl rfl (by omega) hlt rfl ?_;refine ac rfl hle (aT hm) rfl rfl ?_;refine Jd (Jd (Jb (Ja (Jc (Jg (Jc (Jb ?_)))))));refine ak ?_
 refine aI (ι:={ k:Nat × Int // k.1≤l.length∧0≤k.2∧k.2≤q * (64 * 16777216) + k.1 * 16777216∧dz hd (aF hd q) l s=dz hd (aF hd q) (l.drop k.1) k.2 }) (fun k=>[(1,aK b1),(3,.slice (some ⟨B0,0,none⟩) n n),(6,.int .i64 k.1.2),(7,.int .i64 q),(30,.slice x.A1 n x.c1),(31,.int .i64 n),(32,.int .i64 q),(37,.slice A2 l.length c2),(38,.int .i64 l.length),(39,.int .i64 k.1.1)])
  (fun _=>[blk b1 (x.th t) 25,ax 3 1 (.slice (some ⟨B0,0,none⟩) n n) (hd.map bY)]) (fun k=>l.length - k.1.1) ⟨(0,s),Nat.zero_le _,hs0,by dsimp only;omega,rfl⟩ ⟨rfl,rfl,rfl,rfl,rfl,rfl,rfl,rfl,rfl,rfl,trivial⟩ (fun h=>h) ?_
 intro ⟨⟨k,v⟩,hk,hv0,hv1,hT⟩;dsimp only at hk hv0 hv1 hT ⊢;refine Ja (Jk (Jb ?_));refine ar ?_;refine ay rfl (fun hkt=>?_) (fun hke=>?_);rotate_left
 ·have hke':l.length≤k:=by omega
  rw [List.drop_eq_nil_of_le hke',dz] at hT;rw [hT] at hS;refine aG rfl (ah ?_);refine aj ?_;refine Ka ?_;refine Jc ?_;refine aq ?_;exact Pa ⟨(q + 1,v),by dsimp only;omega,hv0,by dsimp only;omega,hS⟩
 have hkt':k < l.length:=by omega
 rw [List.drop_eq_getElem_cons hkt',dz] at hT;obtain ⟨B3,O3,hA3,hm3,_⟩:=aR hl (List.getElem?_eq_getElem hkt');obtain ⟨hf0,hf1⟩:=bU hlr l[k] (List.getElem_mem hkt');generalize l[k]=f at *;have hgf:=cM (q:=f) hcn.1 hf0 (by omega);have hbf:=hcn.at (by omega) f;have hm1:0≤aF hd q * aF hd f:=Int.mul_nonneg hbq.1 hbf.1
 have hm2:aF hd q * aF hd f≤16777216:=by
  have:=Int.mul_le_mul hbq.2 hbf.2 hbf.1 (by omega);omega
 refine al (ah ?_);refine ar ?_;refine ak ?_;refine Ja ?_;refine aa hA3 rfl rfl (by omega) hkt rfl ?_;refine ac rfl hle (aT hm3) rfl rfl ?_;refine Jd (Jb ?_);refine dZ (by kernel_rfl) rfl ?_;refine Xc (Xc (Xc ?_));refine Aw (fun _ _=>av rfl rfl (by omega) hlt rfl Dn) ?_;refine Aw (fun _ _=>az [_] (i:=q) (j:=0) rfl (by simp) (bI hgq) rfl rfl rfl Dn) ?_;refine Xc (Xc ?_);refine Aw (fun _ _=>av rfl rfl hf0 (by omega) rfl Dn) ?_;refine Aw (fun _ _=>az [_] (i:=f.toNat) (j:=0) rfl (by simp) (bI hgf) rfl rfl rfl Dn) ?_
 skip
 refine Aw (fun _ _=>yP rfl rfl (w64 (by omega) (by omega)) rfl Dn) ?_;refine Aw (fun _ _=>cY rfl rfl (w64 (by omega) (by omega)) rfl Dn) ?_;refine Aq fun bs=>?_;refine rk rfl rfl ?_;refine aq (ah ?_);refine aj ?_;refine Ka ?_;refine Jc ?_;refine aq ?_;exact Pa ⟨(k + 1,v + aF hd q * aF hd f),hkt',by dsimp only;omega,by dsimp only;omega,hT⟩
end
section
def ai (t:ThV) (i:Int):i3:=((ao t)[i.toNat]?).getD (0,0,[])
def mw (t:ThV) (q:Int):List Int→Bool
 | []=>true
 | s::r=>vK (cq t (ai t q).2.1) (ai t s).2.1&&mw t q r
def cV (t:ThV) (q:Int) (l:List Int):Bool:=!bg l (ao t).length || !mw t q l
def gj (t:ThV):List (List Int)→Int→Int
 | [],_=>-1
 | l::r,q=>if cV t q l=true then q else gj t r (q + 1)
def fU (t:ThV):Int:=gj t (aN t) 0
theorem kJ {M:Mem} {t:ThV} {x:TC} (h:gp M t x) {q:Int} (h0:0≤q) (h1:q < ((aH t).length:Int)):∃ B O A c,x.A1=some ⟨B,O,none⟩∧M B (O + q.toNat * 1) (.slice A (cq t q).length c)∧Rd cO M [.slice A (cq t q).length c] (cq t q):=by
 have h2:q.toNat < (aH t).length:=by omega
 obtain ⟨B,O,A,c,hA,hm,hl⟩:=dQ h.foes (List.getElem?_eq_getElem h2);have e:cq t q=(aH t)[q.toNat]:=by unfold cq;rw [List.getElem?_eq_getElem h2];rfl
 rw [e];exact ⟨B,O,A,c,hA,by rw [Nat.mul_one];exact hm,hl⟩
theorem bz {M:Mem} {t:ThV} {x:TC} (h:gp M t x) {i:Int} (h0:0≤i) (h1:i < ((ao t).length:Int)):∃ B O A c,x.A2=some ⟨B,O,none⟩∧(∀ (j:Nat) (v:Value),(bJ (ai t i) A c)[j]?=some v→M B (O + i.toNat * 3 + j) v)∧Rd cO M [.slice A (ai t i).2.2.length c] (ai t i).2.2∧ai t i∈ao t:=by
 have h2:i.toNat < (ao t).length:=by omega
 obtain ⟨B,O,A,c,hA,hm,hl,_⟩:=iu h.rules (List.getElem?_eq_getElem h2);have e:ai t i=(ao t)[i.toNat]:=by unfold ai;rw [List.getElem?_eq_getElem h2];rfl
 rw [e];exact ⟨B,O,A,c,hA,hm,hl,List.getElem_mem h2⟩
attribute [local irreducible] RW CW
set_option maxHeartbeats 8000000 in
theorem yy {t:ThV} {x:TC} {w:World} (h:gp (mem w (fun b=>¬ No b)) t x) (hk:j6 t) (hB:(aN t).length=(ao t).length):Ret Tryz.prog 76 [.agg (x.th t).toArray] w (.int .i64 (fU t)):=by
 have hle:=hq0 w;obtain ⟨hL,hM,hF,hC,hR⟩:=hk;refine Calls.enter Tryz.func76 rfl _ rfl rfl (S:=No) (H:=[]) trivial ?_;refine bZ ?_;refine aS (l:=x.th t) rfl rfl fun b1 _=>?_;refine Jd (Jb ?_);refine ar ?_;refine Ja (Je ?_);refine JA ?_;refine Jg (Jc (Jb ?_));refine ak ?_;refine aI (ι:={ q:Nat // q≤(aN t).length∧fU t=gj t ((aN t).drop q) q }) (fun q=>[(1,aK b1),(8,.slice x.A3 (aN t).length x.c3),(9,.int .i64 (aN t).length),(10,.int .i64 q.1)]) (fun _=>[blk b1 (x.th t) 25]) (fun q=>(aN t).length - q.1) ⟨0,Nat.zero_le _,rfl⟩ ⟨rfl,rfl,rfl,rfl,trivial⟩ (fun h=>h) ?_;intro ⟨q,hq,hS⟩;dsimp only at hq hS ⊢;refine Ja (Jk (Jb ?_));refine ar ?_;refine ay rfl (fun hlt=>?_) (fun hge=>?_);rotate_left
 ·have hge':(aN t).length≤q:=by omega
  rw [List.drop_eq_nil_of_le hge'] at hS;refine aG rfl (ah ?_);refine Ja (Jd (Jb ?_));exact aw rfl Tryz.results76 rfl rfl fun w hw=>⟨by rw [hS];rfl,hw.kp⟩
 have hlt':q < (aN t).length:=by omega
 rw [List.drop_eq_getElem_cons hlt',gj] at hS;obtain ⟨B,O,A2,c2,hA,hm,hl⟩:=dQ h.beats (List.getElem?_eq_getElem hlt');generalize (aN t)[q]=l at *;have hsl:=aP hl;unfold br at hsl;have bad:cV t q l=true→fU t=q:=fun h=>by rw [hS,if_pos h]
 have good:cV t q l=false→fU t=gj t ((aN t).drop (q + 1)) ((q + 1:Nat):Int):=fun h=>by rw [hS,if_neg (by simp [h])];rfl
 clear hS;unfold cV at bad good;refine al (ah ?_);refine ar ?_;refine ak ?_;refine Ja (Jc ?_);refine aa hA rfl rfl (by omega) hlt rfl ?_;refine ac rfl hle (aT hm) rfl rfl ?_;refine Jd (Jd (Jb ?_));refine ar ?_;refine Ja (Jc (Je ?_));refine JA ?_;refine Jg ?_;refine aD Tryz.call78 rfl (fun w2 hw=>iK (hl.mono (au hw))) rfl ?_;cases h2:bg l (ao t).length with
 | false=>
  rw [h2] at bad;refine Js (Jb ?_);refine cn rfl ?_;refine Ja (Jc (Jd (Jb ?_)));exact aw rfl Tryz.results76 rfl rfl fun w hw=>⟨by rw [bad rfl],hw.kp⟩
 | true=>
 rw [h2] at bad good;refine Js (Jb ?_);refine ch rfl ?_;refine JM ?_;refine Ja (Jc (Jg (Jc (Jb ?_))));refine ak ?_;refine aI (ι:={ k:Nat // k≤l.length∧mw t q l=mw t q (l.drop k) }) (fun k=>[(1,aK b1),(3,.int .i64 q),(8,.slice x.A3 (aN t).length x.c3),(9,.int .i64 (aN t).length),(10,.int .i64 q),(22,.slice A2 l.length c2),(23,.int .i64 l.length),(24,.int .i64 k.1)]) (fun _=>[blk b1 (x.th t) 25]) (fun k=>l.length - k.1) ⟨0,Nat.zero_le _,rfl⟩ ⟨rfl,rfl,rfl,rfl,rfl,rfl,rfl,rfl,trivial⟩ (fun h=>h) ?_;intro ⟨k,hk,hT⟩;dsimp only at hk hT ⊢;refine Ja (Jk (Jb ?_));refine ar ?_;refine ay rfl (fun hkt=>?_) (fun hke=>?_);rotate_left
 ·have hke':l.length≤k:=by omega
  rw [List.drop_eq_nil_of_le hke'] at hT;rw [hT] at good;refine aG rfl (ah ?_);refine aj ?_;refine Ka ?_;refine Jc ?_;refine aq ?_;exact Pa ⟨q + 1,hlt',good rfl⟩
 have hkt':k < l.length:=by omega
 rw [List.drop_eq_getElem_cons hkt',mw] at hT;obtain ⟨B3,O3,hA3,hm3,_⟩:=aR hl (List.getElem?_eq_getElem hkt');obtain ⟨hf0,hf1⟩:=bU h2 l[k] (List.getElem_mem hkt');generalize l[k]=f at *;obtain ⟨B4,O4,A4,c4,hA4,hm4,_,hin4⟩:=bz h (i:=(q:Int)) (by omega) (by omega);obtain ⟨B5,O5,A5,c5,hA5,hm5,_,hin5⟩:=bz h (i:=f) hf0 hf1;have hr4:=cJ (hR _ hin4);have hr5:=cJ (hR _ hin5);obtain ⟨B6,O6,A6,c6,hA6,hm6,hl6⟩:=kJ h hr4.1 (by omega);refine al (ah ?_);refine ar ?_;refine ak ?_;refine Ja ?_;refine aa hA3 rfl rfl (by omega) hkt rfl ?_;refine ac rfl hle (aT hm3) rfl rfl ?_;refine Jd (Jb ?_);refine bR (by kernel_rfl) rfl ?_;refine Xe ?_;refine Aw (fun _ _=>JA Dn) ?_;refine Xe ?_;refine Aw (fun _ _=>JA Dn) ?_;refine Xc ?_;refine Aw (fun _ _=>aa hA4 rfl rfl (by omega) (by omega) rfl Dn) ?_;refine Xe ?_;refine Aw (fun _ _=>ac (v:=.int .i64 (ai t q).2.1) rfl hle (hm4 1 _ rfl) rfl rfl Dn) ?_
 skip
 refine Aw (fun _ _=>aa hA6 rfl rfl hr4.1 (by omega) rfl Dn) ?_;refine Aw (fun _ _=>ac rfl hle hm6 rfl rfl Dn) ?_;refine Xe ?_;refine Aw (fun _ _=>JA Dn) ?_;refine Xc ?_;refine Aw (fun _ _=>aa hA5 rfl rfl hf0 hf1 rfl Dn) ?_;refine Xe ?_;refine Aw (fun _ _=>ac (v:=.int .i64 (ai t f).2.1) rfl hle (hm5 1 _ rfl) rfl rfl Dn) ?_
 skip
 refine Aw (fun _ _=>aD Tryz.call115 rfl (fun w2 hw=>xR (hl6.mono (au hw))) rfl Dn) ?_;refine Aw (fun _ _=>Js Dn) ?_;refine Aq fun bs=>?_;refine Jb ?_;cases h5:vK (cq t (ai t q).2.1) (ai t f).2.1 with
 | false=>
  rw [h5,Bool.false_and] at hT;refine cn rfl ?_;refine Ja (Jc (Jd (Jb ?_)));exact aw rfl Tryz.results76 rfl rfl fun w hw=>⟨by rw [bad (by rw [hT];rfl)],hw.kp⟩
 | true=>
 rw [h5,Bool.true_and] at hT;refine ch rfl ?_;refine al (ah ?_);refine aj ?_;refine Ka ?_;refine Jc ?_;refine aq ?_;exact Pa ⟨k + 1,hkt',hT⟩
end
section
section
variable {P:Program} {E:Env} {Q:Pst} {G:List (Nat × Value)} {H:List HP} {l:List Oper} {own:HP} {q j2:Nat}
theorem fK {ops:Array Oper} {o:Oper} {a:Act} {w:World} {K1 K2:Act→World→Prop} (hk:∀ a w,K1 a w→K2 a w) (h:wpList P ops (Pst.then K1 Q).fn [o] a w):wpList P ops (Pst.then K2 Q).fn [o] a w:=by
 have hl:LetsOut (Pst.then K1 Q).fn→LetsOut (Pst.then K2 Q).fn:=fun h=>h;unfold wpList at h ⊢;split
 ·rename_i hw
  rw [if_pos hw] at h;rcases h with h | ⟨h1,h2⟩
  ·refine .inl ?_
   unfold Oper.wp at h ⊢;generalize (execOp a.eval o).run P w=r at *;cases r with
   | ok n w'=>
    cases n <;> simp only [Oper.upon] at h ⊢ <;>
     first
      | exact hk _ _ h
      | exact Calls.mono h (fun e w'' he=>by cases e <;> first | exact hk _ _ he | exact he)
      | exact Rows.mono h (fun _ _ he=>hk _ _ he)
   | halt x w'=>cases x <;> simp only [Oper.upon] at h ⊢ <;> exact h
  ·exact .inr ⟨h1,hl h2⟩
 ·rename_i hw
  rw [if_neg hw] at h;exact hk _ _ h
theorem fP {A:List HP} {X:List HP}:((own::A)++X).Perm (A++own::X):=(List.perm_middle (a:=own) (l₁:=A) (l₂:=X)).symm
theorem yS {ops:Array Oper} {Gd:List (Nat × Value)} {o:Oper} {k:PK} (h:ul P E ops Q Gd G H o k):ul P E ops Q Gd G (own::H) o k:=by
 cases k with
 | val v=>
  intro Gx X a w hf hw;refine fK (fun a' w' ⟨d,h1,h2,h3⟩=>⟨d,h1,h2,h3.perm fP.symm⟩) (h Gx (own::X) a w hf (hw.perm fP))
 | new c t p c2=>
  intro Gx X a w hf hw;refine fK (fun a' w' ⟨b,d,h1,h2,h3⟩=>⟨b,d,h1,h2,h3.perm (List.Perm.cons _ fP.symm)⟩) (h Gx (own::X) a w hf (hw.perm fP))
 | put dj c t c2=>
  intro b Gx X a w hf hw;refine fK (fun a' w' ⟨h2,h3⟩=>⟨h2,h3.perm (List.Perm.cons _ fP.symm)⟩) (h b Gx (own::X) a w hf (hw.perm (List.Perm.cons _ fP)))
def PrA (P:Program) (E:Env) (Q:Pst) (l:List Oper) (G:List (Nat × Value)) (own:HP) (H:List HP) (q j2:Nat) (ks:List PK) (m:Nat) (o:Oper) (k:PK):Prop:=
 (m≠q→ul P E l.toArray Q (ij l ks o) G H o k∨∃ (e:Edge) (oj:Oper) (dj:Nat) (v:Value) (cj:Nat→HP) (tj:Nat→Value) (pj:Nat),e∈o.after.toList∧Region.binds .any e=true∧l[e.on]?=some oj∧oj.dst=some dj∧k=.val v∧ks[e.on]?=some (.new cj tj pj cj)∧∀ (b:Nat) (Gx:List (Nat × Value)) (X:List HP),RW P E l.toArray (Pst.then (fun a w=>∃ d,o.dst=some d∧Fr E.N E.ds a ((d,v)::(dj,tj b)::(ij l ks o++G++Gx))∧St E.w0 E.S (cj b::(H++X)) w) Q) [o] ((dj,tj b)::(ij l ks o++G++Gx)) (cj b::(H++X))) ∧
 (m=q→∃ (e:Edge) (oj:Oper) (dj:Nat) (c:Nat→HP) (t:Nat→Value) (p:Nat) (c2 cj:Nat→HP) (tj:Nat→Value) (pj:Nat),e∈o.after.toList∧Region.binds .any e=true∧e.on=j2∧l[j2]?=some oj∧oj.dst=some dj∧k=.new c t p c2∧ks[j2]?=some (.new cj tj pj cj) ∧
  ∀ (b:Nat) (Gx:List (Nat × Value)) (X:List HP),RW P E l.toArray (Pst.then (fun a w=>∃ b' d,o.dst=some d∧Fr E.N E.ds a ((d,t b')::(dj,tj b)::(ij l ks o++G++Gx))∧St E.w0 E.S (c b'::cj b::(H++X)) w) Q) [o] ((dj,tj b)::(ij l ks o++G++Gx)) (cj b::((own::H)++X)))
structure AB (P:Program) (E:Env) (Q:Pst) (l:List Oper) (G:List (Nat × Value)) (own:HP) (H:List HP) (q j2:Nat) (D:List (Nat × PK)) (os:List Oper):Prop where
 out:∀ acc:List PK,D.reverse=zp l acc→acc.length≤l.length→(∀ (i:Nat) (o:Oper),l[i]?=some o→∀ e∈o.after.toList,Region.binds .any e=true→e.on < i)→l.drop acc.length=os→∃ ks:List PK,
  (zf l (acc++ks).length→∀ (m:Nat) (o:Oper) (k:PK),acc.length≤m→l[m]?=some o→(acc++ks)[m]?=some k→PrA P E Q l G own H q j2 (acc++ks) m o k) ∧
  (Nat.ble (acc++ks).length l.length=true∧dL l (acc++ks).length=true∧sq l [] (acc++ks).length G=true∧(zf l (acc++ks).length→∀ bs,RW P E l.toArray Q (l.drop (acc++ks).length) (oR l (acc++ks) bs++G) (H++rV l (acc++ks) bs))) ∧
  (∀ k∈ks,k.plain)∧q < (acc++ks).length
theorem mV {D:List (Nat × PK)} {os:List Oper} (hq:Nat.blt q D.length=true) (h2:dL l D.length=true) (h3:sq l [] D.length G=true) (tail:∀ bs,RW P E l.toArray Q os (zd D bs++G) (H++xc D bs)):AB P E Q l G own H q j2 D os:=by
 refine ⟨fun acc hD hle hb hos=>⟨[],fun _ m o k h1 h2 h3=>?_,by rw [List.append_nil];exact sX h2 h3 tail hD hle hos,by simp,?_⟩⟩
 ·rw [List.append_nil,List.getElem?_eq_none h1] at h3;cases h3
 ·have:D.length=acc.length:=by rw [← List.length_reverse,hD,zp,List.length_zipWith,Nat.min_eq_right hle]
  rw [List.append_nil,← this]
  rwa [Nat.blt_eq] at hq
theorem Fi {D:List (Nat × PK)} {o:Oper} {os:List Oper} {d:Nat} {k:PK} (hkp:k.plain) (hd:o.dst=some d)
 (hp:∀ (acc ks:List PK),D.reverse=zp l acc→acc.length≤l.length→l[acc.length]?=some o→zf l (acc++k::ks).length→ij l (acc++k::ks) o=ko l D o.after.toList→PrA P E Q l G own H q j2 (acc++k::ks) acc.length o k) (h:AB P E Q l G own H q j2 ((d,k)::D) os):AB P E Q l G own H q j2 D (o::os):=by
 refine ⟨fun acc hD hle hb hos=>?_⟩;obtain ⟨hlt,ho,hos',hD'⟩:=sY (k:=k) hd hD hle hos;obtain ⟨ks,h1,h2,h6,h7⟩:=h.out (acc++[k]) hD' (by simp;omega) hb hos';have hass:acc++[k]++ks=acc++k::ks:=by simp
 rw [hass] at h1 h2 h7;refine ⟨k::ks,fun hdist m o' k' hm ho' hk'=>?_,h2,fun k' hk'=>(List.mem_cons.1 hk').elim (fun e=>e ▸ hkp) (h6 k'),h7⟩;rcases Nat.eq_or_lt_of_le hm with e | hlt'
 ·subst e
  rw [ho] at ho';cases ho'
  rw [List.getElem?_append_right (Nat.le_refl _),Nat.sub_self] at hk';cases hk'
  exact hp acc ks hD hle ho hdist (yf hdist (by simp) hD (fun e he hbe=>hb _ _ ho e he hbe))
 ·exact h1 hdist m o' k' (by simp;omega) ho' hk'
theorem zb {D:List (Nat × PK)} {o:Oper} {os:List Oper} {d:Nat} {k:PK} (hkp:k.plain) (hd:o.dst=some d) (hq:Nat.beq D.length q=false) (hp:ul P E l.toArray Q (ko l D o.after.toList) G H o k) (h:AB P E Q l G own H q j2 ((d,k)::D) os):AB P E Q l G own H q j2 D (o::os):=
 Fi hkp hd (fun acc ks hD hle ho hdist hdep=>by
  have:D.length=acc.length:=by rw [← List.length_reverse,hD,zp,List.length_zipWith,Nat.min_eq_right hle]
  refine ⟨fun _=>.inl (by rw [hdep];exact hp),fun e=>?_⟩;rw [this,e] at hq;simp at hq) h
theorem Fh {D:List (Nat × PK)} {o:Oper} {os:List Oper} {d:Nat} {v:Value} (hd:o.dst=some d) (hq:Nat.beq D.length q=false)
 (hp:∀ (Gx:List (Nat × Value)) (X:List HP),RW P E l.toArray (Pst.then (fun a w=>∃ d,o.dst=some d∧Fr E.N E.ds a ((d,v)::(ko l D o.after.toList++G++Gx))∧St E.w0 E.S (H++X) w) Q) [o] (ko l D o.after.toList++G++Gx) (H++X))
 (h:AB P E Q l G own H q j2 ((d,.val v)::D) os):AB P E Q l G own H q j2 D (o::os):=zb (k:=.val v) trivial hd hq hp h
theorem Bw {D:List (Nat × PK)} {o:Oper} {os:List Oper} {d:Nat} {v:Value} (hp:∀ (Gx:List (Nat × Value)) (X:List HP),RW P E l.toArray (Pst.then (fun a w=>∃ d,o.dst=some d∧Fr E.N E.ds a ((d,v)::(ko l D o.after.toList++G++Gx))∧St E.w0 E.S (H++X) w) Q) [o] (ko l D o.after.toList++G++Gx) (H++X)) (h:AB P E Q l G own H q j2 ((d,.val v)::D) os) (hd:o.dst=some d:=by exact rfl) (hq:Nat.beq D.length q=false:=by exact rfl):AB P E Q l G own H q j2 D (o::os):=Fh hd hq hp h
theorem ru {D:List (Nat × PK)} {o:Oper} {os:List Oper} {d:Nat} (V:Nat→Value) (c:Nat→HP) (hd:o.dst=some d) (hq:Nat.beq D.length q=false)
 (hp:∀ (Gx:List (Nat × Value)) (X:List HP),RW P E l.toArray (Pst.then (fun a w=>∃ b d,o.dst=some d∧Fr E.N E.ds a ((d,V b)::(ko l D o.after.toList++G++Gx))∧St E.w0 E.S (c b::(H++X)) w) Q) [o] (ko l D o.after.toList++G++Gx) (H++X))
 (h:AB P E Q l G own H q j2 ((d,.new c V 0 c)::D) os):AB P E Q l G own H q j2 D (o::os):=zb (k:=.new c V 0 c) rfl hd hq hp h
theorem rv {D:List (Nat × PK)} {o oj:Oper} {os:List Oper} {d dj:Nat} (V:Nat→Value) (c:Nat→HP) {cj:Nat→HP} {tj:Nat→Value} {pj:Nat} (hd:o.dst=some d) (hq:Nat.beq D.length q=true)
 (he:(o.after.toList.any fun e=>Region.binds .any e&&Nat.beq e.on j2)=true) (hoj:l[j2]?=some oj) (hdj:oj.dst=some dj) (hkj:D.reverse[j2]?=some (dj,.new cj tj pj cj))
 (hp:∀ (b:Nat) (Gx:List (Nat × Value)) (X:List HP),RW P E l.toArray (Pst.then (fun a w=>∃ b' d,o.dst=some d∧Fr E.N E.ds a ((d,V b')::(dj,tj b)::(ko l D o.after.toList++G++Gx))∧St E.w0 E.S (c b'::cj b::(H++X)) w) Q) [o] ((dj,tj b)::(ko l D o.after.toList++G++Gx)) (cj b::((own::H)++X)))
 (h:AB P E Q l G own H q j2 ((d,.new c V 0 c)::D) os):AB P E Q l G own H q j2 D (o::os):=
 Fi (k:=.new c V 0 c) rfl hd (fun acc ks hD hle ho hdist hdep=>by
  have hlen:D.length=acc.length:=by rw [← List.length_reverse,hD,zp,List.length_zipWith,Nat.min_eq_right hle]
  refine ⟨fun hn=>absurd (hlen.symm.trans (Nat.eq_of_beq_eq_true hq)) hn,fun _=>?_⟩;rw [List.any_eq_true] at he;obtain ⟨e,he1,he2⟩:=he;rw [Bool.and_eq_true] at he2;rw [hdep];refine ⟨e,oj,dj,c,V,0,c,cj,tj,pj,he1,he2.1,Nat.eq_of_beq_eq_true he2.2,hoj,hdj,rfl,?_,hp⟩;rw [hD] at hkj
  have hj:j2 < acc.length:=by
   have:=(List.getElem?_eq_some_iff.1 hkj).1;rw [zp,List.length_zipWith] at this;omega
  rw [List.getElem?_append_left hj,List.getElem?_eq_getElem hj];rw [Cc (k:=acc[j2]) hoj hdj (List.getElem?_eq_getElem hj)] at hkj;have:=Option.some.inj hkj;rw [Prod.mk.injEq] at this;rw [this.2]) h
theorem yI (hb:j5 l=true) (h:AB P E Q l G own H q j2 [] l):WA P E l Q G (own::H):=by
 have hback:∀ (i:Nat) (o:Oper),l[i]?=some o→∀ e∈o.after.toList,Region.binds .any e=true→e.on < i:=by
  intro i o ho e he hbe;have hi:i < l.length:=(List.getElem?_eq_some_iff.1 ho).1;have:=(List.all_eq_true.1 hb) i (List.mem_range.2 hi);rw [ho] at this;have h9:=(List.all_eq_true.1 this) e he
  simpa [hbe] using h9
 obtain ⟨ks,h1,⟨h2,h3,h4,h5⟩,hpl,hqn⟩:=h.out [] (by cases l <;> rfl) (by simp) hback rfl;rw [List.nil_append] at h1 h2 h3 h4 h5 hqn
 have hdist:zf l ks.length:=by
  intro i hi;have h6:=(List.all_eq_true.1 h4) i (List.mem_range.2 hi);have hi':i < l.length:=by rw [Nat.ble_eq] at h2;omega
  rw [List.getElem?_eq_getElem hi'] at h6;simp only at h6;cases hdd:l[i].dst with
  | none=>rw [hdd] at h6;cases h6
  | some d=>
   rw [hdd] at h6;simp only [Bool.and_eq_true] at h6;refine ⟨l[i],d,List.getElem?_eq_getElem hi',hdd,fun j o' hj ho' hd'=>?_⟩;have h7:=(List.all_eq_true.1 h6.2) j (List.mem_range.2 hj);rw [ho'] at h7;simp only [hd'] at h7
   simpa using h7
 have hnoput:∀ i:Nat,bP ks[i]?=false:=fun i=>by
  cases hk:ks[i]? with
  | none=>rfl
  | some k=>
   have:=hpl k (List.mem_of_getElem? hk);cases k with
   | put _ _ _ _=>exact this.elim
   | val v=>rfl
   | new _ _ _ _=>rfl
 have h4':sq l ks ks.length G=true:=by
  unfold sq at h4 ⊢;rw [List.all_eq_true] at h4 ⊢;intro i hi;have:=h4 i hi;rw [hnoput i];exact this
 have h1:=h1 hdist
 refine Dr q j2 (fun b=>if b=true then H else own::H) ks.length ks rfl h2 hb h3 h4' (rn.plain (fun dj c t c2 hm=>hpl _ hm) (fun c t p c2 hm=>hpl _ hm)) (fun i o d _ _ _ hp=>by rw [hnoput i] at hp;cases hp)
  (fun i o k hi ho hk=>?_) (fun o hq ho=>?_) (fun bs=>?_)
 ·rcases (h1 i o k (Nat.zero_le _) ho hk).1 hi with this | ⟨e,oj,dj,v,cj,tj,pj,g1,g2,g3,g4,g5,g6,g7⟩
  ·refine .inl fun b=>?_
   cases b with
   | true=>exact this
   | false=>exact yS this
  ·refine .inr ⟨e,oj,dj,v,cj,tj,pj,g1,g2,g3,g4,g5,g6,fun b0 b Gx X=>?_⟩
   cases b0 with
   | true=>exact g7 b Gx X
   | false=>
    intro a w hf hw;exact fK (fun a' w' ⟨d,h1,h2,h3⟩=>⟨d,h1,h2,h3.perm (List.Perm.cons _ fP.symm)⟩) (g7 b Gx (own::X) a w hf (hw.perm (List.Perm.cons _ fP)))
 ·have hk:ks[q]?=some ks[q]:=List.getElem?_eq_getElem hq
  obtain ⟨e,oj,dj,c,t,p,c2,cj,tj,pj,g1,g2,g3,g4,g5,g6,g7,g8⟩:=(h1 q o ks[q] (Nat.zero_le _) ho hk).2 rfl;exact ⟨e,oj,dj,c,t,p,c2,cj,tj,pj,g1,g2,g3,g4,g5,by rw [hk,g6],g7,fun b Gx X=>g8 b Gx X⟩
 ·rw [decide_eq_true hqn]
  exact h5 hdist bs
theorem fH {ops:Array Oper} {o:Oper} {n d:Nat} {V:Nat→Value} {c:Nat→HP} {cj:HP} {G':List (Nat × Value)} {H':List HP} (hd:o.dst=some d):
 RW P E ops (Pst.then (fun a w=>∃ b d,o.dst=some d∧Fr E.N E.ds a ((d,V b)::G')∧St E.w0 E.S (c b::cj::H') w) Q) [] ((d,V n)::G') (cj::c n::H'):=fun a w hf hw=>⟨n,d,hd,hf,hw.perm (List.Perm.swap _ _ _)⟩
theorem y6 {id:Nat} {y:Code} (q j2:Nat) (own:HP) {H:List HP} (hm:P.follows .mixedOrders=true) (hb:j5 l=true) (h:AB P E (Pst.then (y.wp P Q.fn) Q) l G own H q j2 [] l):CW P E (.seq (.region id l.toArray true) y) Q G (own::H):=ar (y9 hm (yI hb h))
theorem y8 {id:Nat} (q j2:Nat) (own:HP) {H:List HP} (hm:P.follows .mixedOrders=true) (hb:j5 l=true) (h:AB P E Q l G own H q j2 [] l):CW P E (.region id l.toArray true) Q G (own::H):=y9 hm (yI hb h)
/-! ### few orders: each of them -/
def kZ (l:List Oper) (L:List Bool):List Nat:=(List.range l.length).filter fun i=>!L.getD i true&&((l[i]?).map fun o=>o.after.toList.all fun e=>!Region.binds .any e || L.getD e.on false).getD false
def WT (P:Program) (E:Env) (l:List Oper) (Q:Pst) (L:List Bool) (G:List (Nat × Value)) (H:List HP):Prop:=∀ (a:Act) (w:World),Fr E.N E.ds a G→St E.w0 E.S H w→wpAny P .any l.toArray Q.fn (L.count false) L.toArray a w
def Fy (P:Program) (E:Env) (l:List Oper) (Q:Pst) (L:List Bool) (G:List (Nat × Value)) (H:List HP):List Nat→Prop
 | []=>True
 | i::r=>(∃ o,l[i]?=some o∧RW P E l.toArray (Pst.then (fun a w=>wpAny P .any l.toArray Q.fn ((L.set i true).count false) (L.set i true).toArray a w) Q) [o] G H)∧Fy P E l Q L G H r
theorem Fy.at_ {L:List Bool} {is:List Nat} (h:Fy P E l Q L G H is):∀ i∈is,∃ o,l[i]?=some o∧RW P E l.toArray (Pst.then (fun a w=>wpAny P .any l.toArray Q.fn ((L.set i true).count false) (L.set i true).toArray a w) Q) [o] G H:=by
 induction is with
 | nil=>intro i hi;cases hi
 | cons j is ih=>
  intro i hi;rcases List.mem_cons.1 hi with rfl | hi
  ·exact h.1
  ·exact ih h.2 i hi
theorem l7 {L:List Bool} (hL:L.length=l.length):Region.ready .any l.toArray L.toArray=kZ l L:=by
 unfold Region.ready kZ;simp only [List.size_toArray];refine List.filter_congr fun i hi=>?_;simp only [List.getElem?_toArray,Array.getD_eq_getD_getElem?,List.getD_eq_getElem?_getD]
 congr 2
 congr 1
 funext o
 rw [← Array.all_toList]
theorem lU {L:List Bool}:∀ {i:Nat},L[i]?=some false→(L.set i true).count false + 1=L.count false:=by
 induction L with
 | nil=>intro i h;simp at h
 | cons b L ih=>
  intro i h;cases i with
  | zero=>simp at h;subst h;simp
  | succ i=>
   have:=ih (i:=i) (by simpa using h);cases b <;> simp [List.count_cons] <;> omega
theorem cC {L:List Bool} {is:List Nat} (hl:Nat.beq L.length l.length=true) (hr:kZ l L=is) (hne:is.isEmpty=false) (h:Fy P E l Q L G H is):WT P E l Q L G H:=by
 have hL:=Nat.eq_of_beq_eq_true hl;subst hr;intro a w hf hw
 obtain ⟨i0,hi0⟩:∃ i,i∈kZ l L:=by
  cases hh:kZ l L with
  | nil=>rw [hh] at hne;cases hne
  | cons i r=>exact ⟨i,by simp⟩
 have hfalse:∀ i∈kZ l L,L[i]?=some false:=fun i hi=>by
  unfold kZ at hi;rw [List.mem_filter] at hi;have h1:=List.mem_range.1 hi.1;have h2:=hi.2;rw [Bool.and_eq_true] at h2;have h3:i < L.length:=by omega
  rw [List.getD_eq_getElem?_getD,List.getElem?_eq_getElem h3] at h2;rw [List.getElem?_eq_getElem h3];have:=h2.1;simp at this;rw [this]
 have hc:=lU (hfalse i0 hi0);rw [← hc];refine ⟨fun hn=>?_,fun i hi=>?_⟩
 ·rw [l7 hL] at hn
  rw [hn] at hi0;cases hi0
 ·rw [l7 hL] at hi
  obtain ⟨o,ho,h1⟩:=h.at_ i hi;have h2:=h1 a w hf hw;have hset:L.toArray.setIfInBounds i true=(L.set i true).toArray:=by simp
  have hcnt:(L.set i true).count false=(L.set i0 true).count false:=by
   have:=lU (hfalse i hi);omega
  rw [hset,← hcnt];exact db (bG ho h2)
theorem pi {L:List Bool} (hl:Nat.beq L.length l.length=true) (hc:L.all id=true) (h:RW P E l.toArray Q [] G H):WT P E l Q L G H:=by
 have hL:=Nat.eq_of_beq_eq_true hl;intro a w hf hw
 have h0:L.count false=0:=by
  rw [List.count_eq_zero];intro hm;have:=List.all_eq_true.1 hc false hm;cases this
 rw [h0];refine ⟨?_,h a w hf hw⟩;rw [l7 hL];unfold kZ;refine List.eq_nil_iff_forall_not_mem.2 fun i hi=>?_;rw [List.mem_filter] at hi;have h1:=List.mem_range.1 hi.1;have h3:i < L.length:=by omega
 have h2:=hi.2;rw [Bool.and_eq_true,List.getD_eq_getElem?_getD,List.getElem?_eq_getElem h3] at h2;have h4:=List.all_eq_true.1 hc L[i] (List.getElem_mem h3);simp at h4;rw [h4] at h2;simp at h2
theorem Dl (h:WT P E l Q (List.replicate l.length false) G H):WA P E l Q G H:=fun a w hf hw=>by
 have:=h a w.drew hf hw.drew;have e:(List.replicate l.length false).count false=l.toArray.size:=by simp
 rw [e] at this;have e2:(List.replicate l.length false).toArray=Array.replicate l.toArray.size false:=by simp
 rw [e2] at this;exact this
theorem cc {ops:Array Oper} {L:List Bool} (h:WT P E l Q L G H):RW P E ops (Pst.then (fun a w=>wpAny P .any l.toArray Q.fn (L.count false) L.toArray a w) Q) [] G H:=h
end
end
section
section
variable {P:Program} {E:Env} {ops:Array Oper} {Q:Pst} {rest:List Oper} {G:List (Nat × Value)} {H:List HP}
variable {dst:Nat} {ty:TypeId} {pos:String} {af:Array Edge} {t e:TypeId} {d:TypeDesc} {z z':Value} {sz by_ sz' by':Nat} {x y:Operand}
end
end
section
section
variable {P:Program} {E:Env} {ops:Array Oper} {Q:Pst} {rest:List Oper} {G:List (Nat × Value)} {H:List HP}
variable {dst:Nat} {ty t t2:TypeId} {pos:String} {af:Array Edge} {x y:Operand} {k:IntKind} {a b:Int}
theorem yQ (hx:ev G x=some (.int k a)) (hy:ev G y=some (.int k b)) (hN:Nat.blt dst E.N=true) (kk:RW P E ops Q rest ((dst,.int k (if b < a then b else a))::G) H):
 RW P E ops Q (⟨some dst,.call ⟨.builtin .min,#[x,y],#[t,t2]⟩,ty,pos,af,none⟩::rest) G H:=
 b8 hN (fun f w hf _=>by
  simp [execOp,resolve,invoke,builtin,Builtin.min_,Builtin.min2,hf.eval hx,hf.eval hy]) kk
end
structure KN where
 (ix lo:List Int)
 (on:List Bool)
 (st of:List Int)
 (ct kn:Int)
def eO (l:List Bool) (v:Int):Bool:=(l[v.toNat]?).getD false
def nj (a b:Int):Int:=if b < a then b else a
def KN.meet (k:KN) (v:Int):KN:={ k with ix:=k.ix.set v.toNat (k.ct + 1),lo:=k.lo.set v.toNat (k.ct + 1),on:=k.on.set v.toNat true,st:=k.st++[v],ct:=k.ct + 1 }
def KN.lower (k:KN) (v a:Int):KN:={ k with lo:=k.lo.set v.toNat (nj (aF k.lo v) a) }
def KN.pop (k:KN):KN:={ k with st:=k.st.dropLast,on:=k.on.set (k.st.getLastD (-1)).toNat false,of:=k.of.set (k.st.getLastD (-1)).toNat k.kn }
def popGo (v:Int):Nat→KN→KN
 | 0,k=>k
 | f + 1,k=>if k.st.getLastD (-1)=v then k.pop else popGo v f k.pop
def KN.close (k:KN) (v:Int):KN:=if aF k.lo v=aF k.ix v then { popGo v k.st.length k with kn:=k.kn + 1 } else k
def dA (vis:KN→Int→KN) (v:Int):List Int→KN→KN
 | [],k=>k
 | w::r,k=>dA vis v r (if aF k.ix w=0 then (vis k w).lower v (aF (vis k w).lo w) else if eO k.on w=true then k.lower v (aF k.ix w) else k)
def cr (nx:Int→List Int):Nat→KN→Int→KN
 | 0,k,_=>k
 | f + 1,k,v=>(dA (cr nx f) v (nx v) (k.meet v)).close v
def da (l:List Int):Nat:=l.countP (· == 0)
structure KOk (n d:Nat) (k:KN):Prop where
 ix:k.ix.length=n
 lo:k.lo.length=n
 on:k.on.length=n
 of:k.of.length=n
 st:∀ w∈k.st,0≤w∧w < n
 ct:k.ct + (da k.ix:Nat)=n
 ct0:0≤k.ct
 kn0:0≤k.kn
 kn:k.kn + d≤k.ct
 sl:k.st.length + da k.ix≤n
theorem li (l:List Int):da l≤l.length:=List.countP_le_length
theorem lI:∀ {l:List Int} {i:Nat} {x:Int},l[i]?=some 0→x≠0→da (l.set i x) + 1=da l
 | [],i,x,h,_=>by simp at h
 | y::l,0,x,h,hx=>by
  simp only [List.getElem?_cons_zero,Option.some.injEq] at h;subst h;simp [da,hx]
 | y::l,i + 1,x,h,hx=>by
  have:=lI (l:=l) (i:=i) (by simpa using h) hx;unfold da at *;rw [List.set_cons_succ,List.countP_cons,List.countP_cons];omega
theorem vR {n:Nat} {l:List Int} {v:Int} (hl:l.length=n) (h0:0≤v) (h1:v < n) (h:aF l v=0):l[v.toNat]?=some 0:=by rw [← h];exact cM hl h0 h1
theorem KOk.meet {n d:Nat} {k:KN} {v:Int} (h:KOk n d k) (h0:0≤v) (h1:v < n) (hz:aF k.ix v=0):KOk n (d + 1) (k.meet v):=by
 have hc:=h.ct0;have:=lI (x:=k.ct + 1) (vR h.ix h0 h1 hz) (by omega);have hct:=h.ct;have hkn:=h.kn;refine ⟨by simp [KN.meet,h.ix],by simp [KN.meet,h.lo],by simp [KN.meet,h.on],h.of,fun w hw=>?_,?_,?_,h.kn0,?_,?_⟩
 ·rcases List.mem_append.1 hw with hw | hw
  ·exact h.st w hw
  ·obtain rfl:=List.mem_singleton.1 hw;exact ⟨h0,h1⟩
 ·show k.ct + 1 + (da (k.ix.set v.toNat (k.ct + 1)):Nat)=n
  omega
 ·show 0≤k.ct + 1
  omega
 ·show k.kn + ((d + 1:Nat):Int)≤k.ct + 1
  omega
 ·show (k.st++[v]).length + da (k.ix.set v.toNat (k.ct + 1))≤n
  have:=h.sl;rw [List.length_append,List.length_singleton];omega
theorem KOk.lower {n d:Nat} {k:KN} {v a:Int} (h:KOk n d k):KOk n d (k.lower v a):=⟨h.ix,by simp [KN.lower,h.lo],h.on,h.of,h.st,h.ct,h.ct0,h.kn0,h.kn,h.sl⟩
theorem KOk.pop {n d:Nat} {k:KN} (h:KOk n d k):KOk n d k.pop:=
 ⟨h.ix,h.lo,by simp [KN.pop,h.on],by simp [KN.pop,h.of],fun w hw=>h.st w ((List.dropLast_sublist _).subset hw),h.ct,h.ct0,h.kn0,h.kn,by have:=h.sl;have e:k.pop.st.length≤k.st.length:=(List.dropLast_sublist _).length_le;show k.pop.st.length + da k.ix≤n;omega⟩
theorem gR (v:Int):∀ (f:Nat) (k:KN),(popGo v f k).ix=k.ix∧(popGo v f k).lo=k.lo∧(popGo v f k).ct=k.ct∧(popGo v f k).kn=k.kn
 | 0,k=>⟨rfl,rfl,rfl,rfl⟩
 | f + 1,k=>by
  unfold popGo;split
  ·exact ⟨rfl,rfl,rfl,rfl⟩
  ·exact gR v f k.pop
theorem KOk.popGo {n d:Nat} {v:Int}:∀ (f:Nat) {k:KN},KOk n d k→KOk n d (popGo v f k)
 | 0,k,h=>h
 | f + 1,k,h=>by
  unfold Go.Proofs.YtbcdgcodnkgdoaaGreat.popGo;split
  ·exact h.pop
  ·exact KOk.popGo f h.pop
theorem KOk.close {n d:Nat} {k:KN} {v:Int} (h:KOk n (d + 1) k):KOk n d (k.close v):=by
 have hk:=h.kn;unfold KN.close;split
 ·have h2:=KOk.popGo (v:=v) k.st.length h
  have e:=gR v k.st.length k;refine ⟨h2.ix,h2.lo,h2.on,h2.of,h2.st,h2.ct,h2.ct0,by show 0≤k.kn + 1;have:=h.kn0;omega,?_,h2.sl⟩;show k.kn + 1 + (d:Int)≤(Go.Proofs.YtbcdgcodnkgdoaaGreat.popGo v k.st.length k).ct;rw [e.2.2.1];omega
 ·exact ⟨h.ix,h.lo,h.on,h.of,h.st,h.ct,h.ct0,h.kn0,by omega,h.sl⟩
structure eH (k k2:KN):Prop where
 st:∃ e,k2.st=k.st++e
 ze:da k2.ix≤da k.ix
theorem eH.refl (k:KN):eH k k:=⟨⟨[],(List.append_nil _).symm⟩,Nat.le_refl _⟩
theorem eH.trans {k k2 k3:KN} (h:eH k k2) (h2:eH k2 k3):eH k k3:=by
 obtain ⟨⟨e,he⟩,hz⟩:=h;obtain ⟨⟨e2,he2⟩,hz2⟩:=h2;exact ⟨⟨e++e2,by rw [he2,he,List.append_assoc]⟩,Nat.le_trans hz2 hz⟩
theorem ti (v:Int) (s:List Int):∀ (f:Nat) (k:KN) (e:List Int),k.st=s++[v]++e→e.length < f→∃ e2,(popGo v f k).st=s++e2
 | 0,k,e,_,hf=>absurd hf (Nat.not_lt_zero _)
 | f + 1,k,e,he,hf=>by
  unfold popGo;rcases List.eq_nil_or_concat e with rfl | ⟨e',w,rfl⟩
  ·rw [List.append_nil] at he
   rw [if_pos (by rw [he];simp)];exact ⟨[],by show k.st.dropLast=_;rw [he];simp⟩
  ·rw [List.concat_eq_append] at he hf
   rw [List.length_append,List.length_singleton] at hf;have hd:k.pop.st=s++[v]++e':=by show k.st.dropLast=_;rw [he,← List.append_assoc,List.dropLast_concat]
   split
   ·exact ⟨[v]++e',by rw [hd,List.append_assoc]⟩
   ·exact ti v s f k.pop e' hd (by omega)
theorem sE {n d:Nat} {k k2:KN} {v:Int} (h:eH (k.meet v) k2) (hz:da (k.meet v).ix≤da k.ix):eH k (k2.close v):=by
 obtain ⟨⟨e,he⟩,hz2⟩:=h;have he2:k2.st=k.st++[v]++e:=he;unfold KN.close;split
 ·refine ⟨ti v k.st k2.st.length k2 e he2 (by rw [he2];simp;omega),?_⟩
  show da (popGo v k2.st.length k2).ix≤_;rw [(gR v _ k2).1];omega
 ·exact ⟨⟨[v]++e,by rw [he2,List.append_assoc]⟩,by omega⟩
theorem dn {n d:Nat} {k:KN} {v:Int} (h:KOk n d k) (h0:0≤v) (h1:v < n) (hz:aF k.ix v=0):da (k.meet v).ix + 1=da k.ix:=
 lI (x:=k.ct + 1) (vR h.ix h0 h1 hz) (by have:=h.ct0;omega)
theorem mq {n d:Nat} {vis:KN→Int→KN} {v:Int} {z:Nat} (hv:∀ (k:KN) (w:Int),KOk n d k→0≤w→w < n→aF k.ix w=0→da k.ix≤z→KOk n d (vis k w)∧eH k (vis k w)):∀ (l:List Int) (k:KN),(∀ w∈l,0≤w∧w < n)→KOk n d k→da k.ix≤z→KOk n d (dA vis v l k)∧eH k (dA vis v l k)
 | [],k,_,h,_=>⟨h,eH.refl k⟩
 | w::r,k,hl,h,hz=>by
  obtain ⟨w0,w1⟩:=hl w (List.mem_cons_self ..);unfold dA;split
  ·rename_i h0
   obtain ⟨a1,a2⟩:=hv k w h w0 w1 h0 hz;have a3:KOk n d ((vis k w).lower v (aF (vis k w).lo w)):=a1.lower;obtain ⟨b1,b2⟩:=mq hv r _ (fun u hu=>hl u (List.mem_cons_of_mem _ hu)) a3 (Nat.le_trans a2.ze hz);exact ⟨b1,eH.trans a2 ⟨b2.st,b2.ze⟩⟩
  ·split
   ·have a3:KOk n d (k.lower v (aF k.ix w)):=h.lower
    obtain ⟨b1,b2⟩:=mq hv r _ (fun u hu=>hl u (List.mem_cons_of_mem _ hu)) a3 hz;exact ⟨b1,⟨b2.st,b2.ze⟩⟩
   ·exact mq hv r k (fun u hu=>hl u (List.mem_cons_of_mem _ hu)) h hz
theorem fL {n:Nat} {nx:Int→List Int} (hnx:∀ v:Int,0≤v→v < n→∀ w∈nx v,0≤w∧w < n):∀ (f d:Nat) (k:KN) (v:Int),KOk n d k→0≤v→v < n→aF k.ix v=0→da k.ix≤f→KOk n d (cr nx f k v)∧eH k (cr nx f k v)
 | 0,d,k,v,h,v0,v1,hz,hf=>by
  have:=dn h v0 v1 hz;omega
 | f + 1,d,k,v,h,v0,v1,hz,hf=>by
  have e:=dn h v0 v1 hz;obtain ⟨a1,a2⟩:=mq (v:=v) (z:=f) (fun k w hk w0 w1 h0 hz=>fL hnx f (d + 1) k w hk w0 w1 h0 hz) (nx v) (k.meet v) (hnx v v0 v1) (h.meet v0 v1 hz) (by omega);unfold cr;exact ⟨a1.close,sE (n:=n) (d:=d) a2 (by omega)⟩
theorem Cz {k:KN} {s e:List Int} {v:Int} (h:k.st=s++[v]++e):k.st=k.pop.st++[k.st.getLastD (-1)]∧(k.st.getLastD (-1)≠v→∃ e',k.pop.st=s++[v]++e'):=by
 rcases List.eq_nil_or_concat e with rfl | ⟨e',w,rfl⟩
 ·rw [List.append_nil] at h
  have hp:k.pop.st=s:=by show k.st.dropLast=_;rw [h,List.dropLast_concat]
  have hl:k.st.getLastD (-1)=v:=by rw [h];simp
  exact ⟨by rw [hp,hl,h],fun hn=>absurd hl hn⟩
 ·rw [List.concat_eq_append,← List.append_assoc] at h
  have hp:k.pop.st=s++[v]++e':=by show k.st.dropLast=_;rw [h,List.dropLast_concat]
  have hl:k.st.getLastD (-1)=w:=by rw [h,List.getLastD_concat]
  exact ⟨by rw [hp,hl,h],fun _=>⟨e',hp⟩⟩
theorem ts {ty:TypeId} {B m c:Nat} {l:List Int} {x:Int} {w:World} {F:Nat→Prop} (hm:l.length=m) (h:(ax ty 1 (.slice (some ⟨B,0,none⟩) (m + 1) c) ((l++[x]).map bY)).p w F):(ax ty 1 (.slice (some ⟨B,0,none⟩) m c) (l.map bY)).p w F:=by
 rcases h with ⟨h,_⟩ | ⟨B',c',tl,h1,h2,h3,h4,h5,h6,h7⟩
 ·cases h
 ·simp only [Value.slice.injEq,Option.some.injEq,Addr.mk.injEq] at h1
  obtain ⟨⟨rfl,_⟩,_,rfl⟩:=h1;rw [List.map_append,List.flatten_append] at h3 h5;rw [List.length_map,List.length_append] at h6;refine .inr ⟨B,c,[bY x].flatten++tl,by rw [List.length_map,hm],h2,by rw [h3,List.append_assoc];rfl,fun y hy=>h4 y (by rw [List.map_append];exact List.mem_append_left _ hy),?_,by rw [List.length_map];omega,h7⟩;rw [← h5];simp only [List.length_append,List.map_cons,List.map_nil];omega
end
section
def xF (i:Nat) (o:Oper):Oper:={ o with after:=o.after.push ⟨i,.data⟩ }
def ml (i:Nat):Nat→List Oper→List Oper
 | _,[]=>[]
 | j,o::r=>cond (Nat.blt i j) (xF i o) o::ml i (j + 1) r
abbrev jG (i:Nat) (l:List Oper):List Oper:=ml i 0 l
theorem od {i:Nat}:∀ {l:List Oper} {k j:Nat},(ml i k l)[j]?=(l[j]?).map fun o=>if i < k + j then xF i o else o
 | [],k,j=>rfl
 | o::r,k,0=>by
  unfold ml;simp only [List.getElem?_cons_zero,Option.map_some,Nat.add_zero];cases h:Nat.blt i k with
  | true=>rw [if_pos (by rwa [Nat.blt_eq] at h)];rfl
  | false=>rw [if_neg (fun k=>by rw [← Nat.blt_eq] at k;rw [k] at h;cases h)];rfl
 | o::r,k,j + 1=>by
  unfold ml;rw [List.getElem?_cons_succ,List.getElem?_cons_succ,od,show k + 1 + j=k + (j + 1) by omega]
theorem kE {i:Nat}:∀ {l:List Oper} {k:Nat},(ml i k l).length=l.length
 | [],_=>rfl
 | o::r,k=>by
  unfold ml;rw [List.length_cons,List.length_cons,kE]
section
variable {P:Program} {E:Env} {Q:Pst} {G:List (Nat × Value)} {H:List HP} {l:List Oper} {i:Nat}
theorem jF (j:Nat):(jG i l).toArray[j]?=(l.toArray[j]?).map fun o=>if i < j then xF i o else o:=by
 simp [jG,od]
theorem u5 (tmps:Array Value):yielded (jG i l).toArray tmps=yielded l.toArray tmps:=by
 funext g
 unfold yielded;rw [jF];cases l.toArray[g]? with
 | none=>rfl
 | some o=>
  have e:(if i < g then xF i o else o).dst=o.dst:=by split <;> rfl
  simp only [Option.map_some,Option.bind_some,e]
theorem oa {listed:Array Bool} (hi:listed.getD i false=true):Region.ready .any (jG i l).toArray listed=Region.ready .any l.toArray listed:=by
 unfold Region.ready;rw [show (jG i l).toArray.size=l.toArray.size by simp [jG,kE]];refine List.filter_congr fun j hj=>?_;rw [jF];cases l.toArray[j]? with
 | none=>rfl
 | some o=>
  simp only [Option.map_some,Option.getD_some];split
  ·have hi2:listed[i]?.getD false=true:=by simpa using hi
   unfold xF;simp [hi2]
  ·rfl
theorem xE {Qf:Exit→Act→World→Prop} {j:Nat} {K:Act→World→Prop} {a:Act} {w:World}:wpOp P (jG i l).toArray Qf j K a w↔wpOp P l.toArray Qf j K a w:=by
 unfold wpOp;rw [jF,u5];cases l.toArray[j]? with
 | none=>exact Iff.rfl
 | some o=>
  simp only [Option.map_some];split <;> exact Iff.rfl
theorem tK {Qf:Exit→Act→World→Prop}:∀ (fuel:Nat) (listed:Array Bool) (a:Act) (w:World),listed.getD i false=true→wpAny P .any (jG i l).toArray Qf fuel listed a w→wpAny P .any l.toArray Qf fuel listed a w
 | 0,listed,a,w,hi,h=>by
  unfold wpAny at h ⊢;rw [oa hi] at h;exact h
 | fuel + 1,listed,a,w,hi,h=>by
  unfold wpAny at h ⊢;rw [oa hi] at h;refine ⟨h.1,fun j hj=>?_⟩;exact xE.1 (wpOp_mono (fun a' w' h'=>tK fuel _ a' w' (getD_set_true hi) h') (h.2 j hj))
theorem Dm (i:Nat) {o:Oper} {s d:Nat} {v:Value} {fn:Func} {R:Ending→World→Prop} (ho:l[i]?=some o) (hop:o.op=.move (.tmp s)) (hd:o.dst=some d) (hg:o.guard=none) (hv:look G s=some v) (hs:Region.noSelect l.toArray=true)
 (hf:Region.free .any l.toArray (Array.replicate l.toArray.size false) i=true) (hr:(Region.ready .any l.toArray (Array.replicate l.toArray.size false)).contains i=true) (hQ:Q.pan=E6 P fn R) (h:WA P E (jG i l) Q G H):WA P E l Q G H:=fun a w hfr hw=>by
 have h1:=h a w hfr hw;have hsz:(jG i l).toArray.size=l.toArray.size:=by simp [jG,kE]
 rw [hsz] at h1;have hlt:i < l.toArray.size:=by simpa using (List.getElem?_eq_some_iff.1 ho).1
 obtain ⟨n,hn⟩:∃ n,l.toArray.size=n + 1:=⟨l.toArray.size - 1,by omega⟩;have hla:l.toArray[i]?=some o:=by simpa using ho
 have ha:a.eval (.tmp s)=v:=hfr.eval (show ev G (.tmp s)=some v from hv);have hrun:∀ w,(execOp a.eval o).run P w=.ok (.value v) w:=fun w=>by simp [execOp,hop,ha]
 have hwan:Region.wanted o (yielded l.toArray a.tmps)=true:=by simp [Region.wanted,hg]
 have hy:Yields P l.toArray o v a:=.inl ⟨hwan,hrun⟩;have hr0:i∈Region.ready .any l.toArray (Array.replicate l.toArray.size false):=by simpa using hr
 have hr2:i∈Region.ready .any (jG i l).toArray (Array.replicate l.toArray.size false):=by
  rw [mem_ready] at hr0 ⊢;obtain ⟨k0,o2,k1,k2⟩:=hr0;refine ⟨k0,o2,?_,k2⟩;rw [jF,k1];simp
 rw [hn] at h1 hr2;have h2:=xE.1 (h1.2 i hr2);unfold wpOp at h2;rw [hla] at h2;simp only [hwan,if_true] at h2
 have h3:wpAny P .any (jG i l).toArray Q.fn n ((Array.replicate (n + 1) false).setIfInBounds i true) (a.put o.dst v) w.drew:=by
  rcases h2 with h2 | ⟨h2,_⟩
  ·unfold Oper.wp at h2
   rw [hrun] at h2;exact h2
  ·unfold Oper.asks at h2
   have h4:=h2.1
   have e:execOp a.eval o=.pure (.value v):=by
    unfold execOp;rw [hop];simp only [ha]
    rfl
   rw [e] at h4;exact absurd h4 (by simp [Sem.runT])
 rw [hn];rw [hn] at hr0;refine wpAny_first hla (Region.noSelect_spec hs) (fun c a w hp=>?_) n _ a w.drew ?_ hr0 hy (tK n _ _ _ ?_ h3)
 ·show Q.pan c a w
  have hp:Q.pan c (a.put o.dst v) w:=hp;rw [hQ] at hp ⊢;refine ⟨?_⟩;have:=hp.out;rw [hd] at this;exact this
 ·rw [hn] at hf
  exact Region.free_spec hla hf
 ·rw [Array.getD_eq_getD_getElem?,Array.getElem?_setIfInBounds_self_of_lt (by simp;omega)]
  rfl
theorem kU {id:Nat} {y:Code} (i:Nat) {o:Oper} {s d:Nat} {v:Value} {fn:Func} {R:Ending→World→Prop} (hm:P.follows .mixedOrders=true) (ho:l[i]?=some o) (hop:o.op=.move (.tmp s)) (hd:o.dst=some d) (hg:o.guard=none) (hv:look G s=some v) (hs:Region.noSelect l.toArray=true)
 (hf:Region.free .any l.toArray (Array.replicate l.toArray.size false) i=true) (hr:(Region.ready .any l.toArray (Array.replicate l.toArray.size false)).contains i=true) (hQ:Q.pan=E6 P fn R) (h:WA P E (jG i l) (Pst.then (y.wp P Q.fn) Q) G H):CW P E (.seq (.region id l.toArray true) y) Q G H:=
 ar (y9 hm (Dm i ho hop hd hg hv hs hf hr hQ h))
end
end
section
def kj (L n:Nat):Value:=if n=0 then .slice none 0 0 else .slice (some ⟨(n - 1) / 9223372036854775808,0,none⟩) L ((n - 1) % 9223372036854775808)
theorem jP {w0 w:World} {S:Nat→Prop} {pre r:List HP} {e:TypeId} {sz:Nat} {v:Value} {es:List (List Value)} (h:St w0 S (pre++ax e sz v es::r) w):∃ n,v=kj es.length n:=by
 rcases iN h with ⟨h1,h2⟩ | ⟨B,c,h1,_,h3,_⟩
 ·exact ⟨0,by rw [h1];unfold kj;rw [if_pos rfl]⟩
 ·obtain ⟨n,e1,e2⟩:=enc B c h3
  refine ⟨n + 1,?_⟩;unfold kj;rw [if_neg (by omega),Nat.add_sub_cancel,h1,e1,e2]
end
section
abbrev CN (b1:Nat):Value:=.func (.func 118) #[] #[aK b1]
structure KAd where
 (B1 B2 B3 B5:Nat)
abbrev knC (b1:Nat) (a:KAd) (n:Nat) (sv:Value) (ct kn:Int):List Value:=[CN b1,.slice (some ⟨a.B1,0,none⟩) n n,.slice (some ⟨a.B2,0,none⟩) n n,.slice (some ⟨a.B3,0,none⟩) n n,sv,.slice (some ⟨a.B5,0,none⟩) n n,.int .i64 ct,.int .i64 kn]
abbrev bu (b:Bool):List Value:=[.bool b]
abbrev knR (a:KAd) (n:Nat) (sv:Value) (k:KN):List HP:=[ax 3 1 (.slice (some ⟨a.B1,0,none⟩) n n) (k.ix.map bY),ax 3 1 (.slice (some ⟨a.B2,0,none⟩) n n) (k.lo.map bY),ax 4 1 (.slice (some ⟨a.B3,0,none⟩) n n) (k.on.map bu),ax 3 1 sv (k.st.map bY),ax 3 1 (.slice (some ⟨a.B5,0,none⟩) n n) (k.of.map bY)]
abbrev knH (bk b1:Nat) (a:KAd) (n:Nat) (sv:Value) (k:KN):List HP:=blk bk (knC b1 a n sv k.ct k.kn) 190::knR a n sv k
def aQ (t:ThV) (v:Int):List Int:=((aN t)[v.toNat]?).getD []
theorem iS {M:Mem} {t:ThV} {x:TC} (h:gp M t x) {q:Int} (h0:0≤q) (h1:q < ((aN t).length:Int)):∃ B O A c,x.A3=some ⟨B,O,none⟩∧M B (O + q.toNat * 1) (.slice A (aQ t q).length c)∧Rd cO M [.slice A (aQ t q).length c] (aQ t q):=by
 have h2:q.toNat < (aN t).length:=by omega
 obtain ⟨B,O,A,c,hA,hm,hl⟩:=dQ h.beats (List.getElem?_eq_getElem h2);have e:aQ t q=(aN t)[q.toNat]:=by unfold aQ;rw [List.getElem?_eq_getElem h2];rfl
 rw [e];exact ⟨B,O,A,c,hA,by rw [Nat.mul_one];exact hm,hl⟩
theorem eK {w0 w:World} {S:Nat→Prop} {pre r:List HP} {e:TypeId} {sz:Nat} {v:Value} {es:List (List Value)} (h:St w0 S (pre++ax e sz v es::r) w):∃ A c,v=.slice A es.length c∧(es≠[]→∃ B,A=some ⟨B,0,none⟩):=by
 rcases iN h with ⟨h1,h2⟩ | ⟨B,c,h1,_⟩
 ·exact ⟨none,0,by rw [h1,h2];rfl,fun h=>absurd h2 h⟩
 ·exact ⟨_,c,h1,fun _=>⟨B,rfl⟩⟩
theorem gC {w0 w:World} {S:Nat→Prop} {pre r:List HP} {e:TypeId} {sz:Nat} {v:Value} {es:List (List Value)} (h:St w0 S (pre++ax e sz v es::r) w):∃ A c,v=.slice A es.length c∧(es≠[]→∃ B,A=some ⟨B,0,none⟩)∧es.length≤c:=by
 rcases iN h with ⟨h1,h2⟩ | ⟨B,c,h1,h3,_⟩
 ·exact ⟨none,0,by rw [h1,h2];rfl,fun h=>absurd h2 h,by rw [h2];exact Nat.le_refl _⟩
 ·exact ⟨_,c,h1,fun _=>⟨B,rfl⟩,h3⟩
theorem gI (L n:Nat):(kj L n).cells=#[kj L n]∧(kj L n).oneCell'=true:=by unfold kj;split <;> exact ⟨rfl,rfl⟩
attribute [local irreducible] RW CW
theorem zT {t:ThV} {x:TC} {b1 B O n c:Nat} {v:Int} {A:Option Addr} {w:World} (hb:∀ (j:Nat) (u:Value),(x.th t)[j]?=some u→mem w (fun b=>¬ No b) b1 j u) (h0:0≤v) (h1:v < ((aN t).length:Int)) (hA:x.A3=some ⟨B,O,none⟩) (hm:mem w (fun b=>¬ No b) B (O + v.toNat * 1) (.slice A n c)):
 Ret Tryz.prog 118 [.int .i64 v,aK b1] w (.slice A n c):=by
 have hle:=hq0 w;refine Calls.enter Tryz.func118 rfl _ rfl rfl (S:=No) (H:=[]) trivial ?_;refine Ja (Jd (Jb (Ja (Je ?_))));refine ac rfl hle (hb 3 _ rfl) rfl rfl ?_;refine Jc ?_;refine aa hA rfl rfl h0 h1 rfl ?_;refine ac rfl hle hm rfl rfl ?_;refine Jd (Jb ?_);exact aw rfl Tryz.results118 rfl rfl fun w hw=>⟨rfl,hw.kp⟩
theorem jC {l:List Bool} {i:Nat} {v:Bool} (h:l[i]?=some v):(l.map bu)[i]?=some [.bool v]:=by rw [List.getElem?_map,h];rfl
theorem tv {n:Nat} {l:List Bool} {q:Int} (hl:l.length=n) (h0:0≤q) (h1:q < n):l[q.toNat]?=some (eO l q):=by
 unfold eO;rw [List.getElem?_eq_getElem (by omega)]
 rfl
set_option maxHeartbeats 32000000 in
theorem pD {t:ThV} {x:TC} {bk b1 n:Nat} {a:KAd} (hnB:(aN t).length=n) (hn:n≤4096) (hnx:∀ v:Int,0≤v→v < n→∀ w∈aQ t v,0≤w∧w < n):∀ (f d:Nat) (k:KN) (v:Int) (sv:Value) (w:World) (F:Nat→Prop),KOk n d k→0≤v→v < n→aF k.ix v=0→da k.ix≤f→
 (∀ (j:Nat) (u:Value),(x.th t)[j]?=some u→mem w (fun b=>¬ F b) b1 j u)→gp (mem w (fun b=>¬ F b)) t x→Sep (knH bk b1 a n sv k) w F→
 iT Tryz.prog 166 [aK bk,.int .i64 v] w F (fun _:Value=>.tuple #[]) (fun sv2=>knH bk b1 a n sv2 (cr (aQ t) f k v))
 | 0,d,k,v,sv,w,F,hk,v0,v1,hz,hf,_,_,_=>by
  have:=dn hk v0 v1 hz;omega
 | f + 1,d,k,v,sv,w,F,hk,v0,v1,hz,hf,hb,h,hH=>by
  have hle:Mem.le (mem w (fun b=>¬ F b)) (mem w (fun b=>¬ F b)):=Mem.le_refl _;have hct:=hk.ct;have hct0:=hk.ct0;have hg1:=cM hk.ix v0 v1;have hg2:=cM hk.lo v0 v1;have hg3:=tv hk.on v0 v1;refine Calls.enter Tryz.func166 rfl _ rfl rfl (S:=F) (H:=knH bk b1 a n sv k) hH ?_;refine Ja (Jc (Jf (Je ?_)));refine JA ?_;refine Ka ?_;refine Jf (Je ?_);refine bQ [] rfl rfl rfl rfl rfl (Nat.lt_of_sub_eq_succ rfl) ?_;refine Jb ?_;refine cI (blk bk (knC b1 a n sv (k.ct + 1) k.kn) 190::knR a n sv k) (fun w A h=>h) ?_;refine kU 9 (by kernel_rfl) rfl rfl rfl rfl rfl (by kernel_rfl) (by kernel_rfl) (by kernel_rfl) rfl ?_;refine hY (by kernel_rfl) ?_;refine Xc (Xf (Xe ?_));refine Aw (fun _ _=>JA Dn) ?_;refine Xc (Xc (Xf (Xe ?_)));refine Aw (fun _ _=>JA Dn) ?_;refine Xc (Xc (Xf (Xe ?_)));refine Aw (fun _ _=>JA Dn) ?_;refine Xc (Xf (Xe ?_));refine Aw (fun _ _=>JA Dn) ?_;refine Aq fun bs=>?_;refine av rfl rfl v0 v1 rfl ?_;refine aM [_] (v:=.int .i64 (k.ct + 1)) (i:=v.toNat) (j:=0) rfl (by simp) rfl rfl rfl (bI hg1) (Nat.zero_lt_succ _) ?_;refine av rfl rfl v0 v1 rfl ?_;refine aM [_,_] (v:=.int .i64 (k.ct + 1)) (i:=v.toNat) (j:=0) rfl (by simp) rfl rfl rfl (bI hg2) (Nat.zero_lt_succ _) ?_;rw [show (k.ix.map bY).set v.toNat ([Value.int .i64 (aF k.ix v)].set 0 (.int .i64 (k.ct + 1)))=(k.ix.set v.toNat (k.ct + 1)).map bY from List.map_set.symm,show (k.lo.map bY).set v.toNat ([Value.int .i64 (aF k.lo v)].set 0 (.int .i64 (k.ct + 1)))=(k.lo.set v.toNat (k.ct + 1)).map bY from List.map_set.symm];refine aq (ah ?_);refine cI [ax 3 1 sv (k.st.map bY),blk bk (knC b1 a n sv (k.ct + 1) k.kn) 190,ax 3 1 (.slice (some ⟨a.B1,0,none⟩) n n) ((k.ix.set v.toNat (k.ct + 1)).map bY),ax 3 1 (.slice (some ⟨a.B2,0,none⟩) n n) ((k.lo.set v.toNat (k.ct + 1)).map bY),ax 4 1 (.slice (some ⟨a.B3,0,none⟩) n n) (k.on.map bu),ax 3 1 (.slice (some ⟨a.B5,0,none⟩) n n) (k.of.map bY)] (fun w A h=>Sep.take [4,0,1,2,3,5] h) ?_;refine kU 5 (by kernel_rfl) rfl rfl rfl rfl rfl (by kernel_rfl) (by kernel_rfl) (by kernel_rfl) rfl ?_;refine yI (q:=12) (j2:=11) (by kernel_rfl) ?_;refine Bw (fun _ _=>Jc Dn) ?_;refine Bw (fun _ _=>Jc Dn) ?_;refine Bw (fun _ _=>Jf Dn) ?_;refine Bw (fun _ _=>Je Dn) ?_;refine Bw (fun _ _=>JA Dn) ?_;refine Bw (fun _ _=>Jc Dn) ?_;refine Bw (fun _ _=>Jc Dn) ?_;refine Bw (fun _ _=>Jf Dn) ?_;refine Bw (fun _ _=>Je Dn) ?_;refine Bw (fun _ _=>JA Dn) ?_;refine Bw (fun _ _=>Jc Dn) ?_
  (apply ru (fun b=>.slice (some ⟨b,0,none⟩) 1 1) (fun b=>blk b [.int .i64 v] 3) rfl rfl;· intro Gx X;refine bW (e:=3) (c:=[.int .i64 v]) rfl (fun w=>by kernel_rfl) rfl fun b _=>?_;exact aU rfl)
  refine rv (fun m=>kj (k.st.length + 1) m) (fun m=>ax 3 1 (kj (k.st.length + 1) m) ((k.st++[v]).map bY)) rfl rfl rfl rfl rfl rfl (fun b Gx X=>?_) ?_
  ·refine eS [_] (e:=3) (sz:=1) (news:=[[.int .i64 v]]) (zc:=[.int .i64 0]) rfl rfl rfl rfl rfl (by simp) (by simp [Value.oneCell']) (fun w hw hn=>?_) ?_ ?_ rfl fun u1=>?_
   ·exact ⟨b,0,rfl,a9 (St.blk (pre:=[]) hw)⟩
   ·rw [List.length_map];have:=hk.sl;omega
   ·rw [List.length_map];unfold dK;have:=hk.sl;omega
   rw [show k.st.map bY++[[.int .i64 v]]=(k.st++[v]).map bY by rw [List.map_append];rfl];refine fY (φ:=∃ m,u1=kj (k.st.length + 1) m) (fun w hw=>by have:=jP (pre:=[_]) hw;rwa [List.length_map,List.length_append,List.length_singleton] at this) (fun ⟨m,hm⟩=>?_);subst hm;exact fH rfl
  refine mV rfl (by kernel_rfl) (by kernel_rfl) fun bs2=>?_;have hv1:=gI (k.st.length + 1) (bs2 46);refine jn rfl rfl ?_;refine iI rfl rfl ?_;refine bQ [] rfl rfl rfl hv1.1 hv1.2 (Nat.lt_of_sub_eq_succ rfl) ?_;refine av rfl rfl v0 v1 rfl ?_;refine aM [_,_,_] (v:=.bool true) (i:=v.toNat) (j:=0) rfl (by simp) rfl rfl rfl (jC hg3) (Nat.zero_lt_succ _) ?_;rw [show (k.on.map bu).set v.toNat ([Value.bool (eO k.on v)].set 0 (.bool true))=(k.on.set v.toNat true).map bu from List.map_set.symm];refine aq (ah ?_);refine cI (knH bk b1 a n (kj (k.st.length + 1) (bs2 46)) (k.meet v)) (fun w A h=>Sep.take [0,1,2,3,5,4] h) ?_;have hk1:=hk.meet v0 v1 hz;have hz1:=dn hk v0 v1 hz;have hvd:cr (aQ t) (f + 1) k v=(dA (cr (aQ t) f) v (aQ t v) (k.meet v)).close v:=rfl;rw [hvd];obtain ⟨B3,O3,A3,c3,hA3,hm3,hl3⟩:=iS h v0 (by omega);have hsl:=aP hl3;unfold br at hsl;have hst1:(k.meet v).st=k.st++[v]:=rfl;generalize k.meet v=k1 at *;generalize kj (k.st.length + 1) (bs2 46)=sv1 at *;have hnl:=hnx v v0 v1;generalize aQ t v=l at *;refine ar ?_;refine Ja (Jc (Jf (Je ?_)));refine JA ?_;refine Jc ?_;refine uk Tryz.call118 rfl rfl (fun w2 hw=>zT (fun j u hj=>au hw _ _ _ (hb j u hj)) v0 (by omega) hA3 (au hw _ _ _ hm3)) rfl ?_;refine Jg (Jc (Jb ?_));clear hvd;refine ak ?_
  refine aI (ι:={ q:Nat × KN × Value // q.1≤l.length∧KOk n (d + 1) q.2.1∧da q.2.1.ix≤f∧eH k1 q.2.1∧dA (cr (aQ t) f) v l k1=dA (cr (aQ t) f) v (l.drop q.1) q.2.1 })
   (fun q=>[(0,aK bk),(1,.int .i64 v),(55,.slice A3 l.length c3),(56,.int .i64 l.length),(57,.int .i64 q.1.1)]) (fun q=>knH bk b1 a n q.1.2.2 q.1.2.1) (fun q=>l.length - q.1.1) ⟨(0,k1,sv1),Nat.zero_le _,hk1,by dsimp only;omega,eH.refl _,rfl⟩ ⟨rfl,rfl,rfl,rfl,rfl,trivial⟩ (fun h=>h) ?_
  intro ⟨⟨i,k2,sv2⟩,hi,hk2,hz2,hL2,hS⟩;dsimp only at hi hk2 hz2 hL2 hS ⊢;refine Ja (Jk (Jb ?_));refine ar ?_;refine ay rfl (fun hlt=>?_) (fun hge=>?_)
  ·have hlt':i < l.length:=by omega
   rw [List.drop_eq_getElem_cons hlt',dA] at hS;obtain ⟨B4,O4,hA4,hm4,_⟩:=aR hl3 (List.getElem?_eq_getElem hlt');obtain ⟨u0,u1⟩:=hnl _ (List.getElem_mem hlt');generalize l[i]=u at *;have gi:=cM hk2.ix u0 u1;refine al (ah ?_);refine ar ?_;refine ak ?_;refine Ja ?_;refine aa hA4 rfl rfl (by omega) hlt rfl ?_;refine ac rfl hle (aT hm4) rfl rfl ?_;refine Jd (Jb (Ja (Jc (Jf (Je ?_)))));refine JA ?_;refine Jc ?_;refine av rfl rfl u0 u1 rfl ?_;refine az [_] (i:=u.toNat) (j:=0) rfl (by simp) (bI gi) rfl rfl rfl ?_;refine Ji (Jb ?_);refine ay rfl (fun h0=>?_) (fun h0=>?_)
   ·rw [if_pos h0] at hS
    obtain ⟨hk3,hL3⟩:=fL hnx f (d + 1) k2 u hk2 u0 u1 h0 hz2;refine Ja (Jc (Jc ?_));refine pt [0,1,2,3,4,5] (knH bk b1 a n sv2 k2) (r:=[]) rfl rfl rfl Tryz.call166 (fun w3 F3 hle3 hC hr=>pD hnB hn hnx f (d + 1) k2 u sv2 w3 F3 hk2 u0 u1 h0 hz2 (fun j v hj=>hle3 _ _ _ (hb j v hj)) (h.mono hle3) hC) fun sv3=>?_;generalize cr (aQ t) f k2 u=k3 at *;refine Jb ?_;have g1:=cM hk3.lo v0 v1;have g2:=cM hk3.lo u0 u1;have hL13:=hL2.trans hL3;refine dZ (by kernel_rfl) rfl ?_;refine Xc (Xf (Xe ?_));refine Aw (fun _ _=>JA Dn) ?_;refine Xc (Xc (Xf (Xe ?_)));refine Aw (fun _ _=>JA Dn) ?_;refine Xc ?_;refine Aw (fun _ _=>av rfl rfl v0 v1 rfl Dn) ?_;refine Aw (fun _ _=>az [_,_] (i:=v.toNat) (j:=0) rfl (by simp) (bI g1) rfl rfl rfl Dn) ?_;refine Xc (Xf (Xe ?_));refine Aw (fun _ _=>JA Dn) ?_;refine Xc ?_;refine Aw (fun _ _=>av rfl rfl u0 u1 rfl Dn) ?_;refine Aw (fun _ _=>az [_,_] (i:=u.toNat) (j:=0) rfl (by simp) (bI g2) rfl rfl rfl Dn) ?_;refine Aw (fun _ _=>yQ rfl rfl rfl Dn) ?_;refine Aq fun bs=>?_;refine av rfl rfl v0 v1 rfl ?_;refine aM [_,_] (v:=.int .i64 (nj (aF k3.lo v) (aF k3.lo u))) (i:=v.toNat) (j:=0) rfl (by simp) rfl rfl rfl (bI g1) (Nat.zero_lt_succ _) ?_;rw [show (k3.lo.map bY).set v.toNat ([Value.int .i64 (aF k3.lo v)].set 0 (.int .i64 (nj (aF k3.lo v) (aF k3.lo u))))=(k3.lower v (aF k3.lo u)).lo.map bY from List.map_set.symm];refine aq (ah ?_);refine aj ?_;refine Ka ?_;refine Jc ?_;refine aq ?_;exact bp ⟨(i + 1,k3.lower v (aF k3.lo u),sv3),hlt',hk3.lower,by show da k3.ix≤f;have:=hL3.ze;omega,⟨hL13.st,hL13.ze⟩,hS⟩ ⟨rfl,rfl,rfl,rfl,rfl,trivial⟩ (fun h=>h) (by show l.length - (i + 1) < l.length - i;omega)
   ·rw [if_neg h0] at hS
    have go:=tv hk2.on u0 u1;refine Ja (Jc (Jf (Je ?_)));refine JA ?_;refine Jc ?_;refine av rfl rfl u0 u1 rfl ?_;refine az [_,_,_] (i:=u.toNat) (j:=0) rfl (by simp) (jC go) rfl rfl rfl ?_;refine Jb ?_;refine ce rfl (fun ho=>?_) (fun ho=>?_)
    ·rw [if_pos ho] at hS
     have g1:=cM hk2.lo v0 v1;have g2:=cM hk2.ix u0 u1;refine dZ (by kernel_rfl) rfl ?_;refine Xc (Xf (Xe ?_));refine Aw (fun _ _=>JA Dn) ?_;refine Xc (Xc (Xf (Xe ?_)));refine Aw (fun _ _=>JA Dn) ?_;refine Xc ?_;refine Aw (fun _ _=>av rfl rfl v0 v1 rfl Dn) ?_;refine Aw (fun _ _=>az [_,_] (i:=v.toNat) (j:=0) rfl (by simp) (bI g1) rfl rfl rfl Dn) ?_;refine Xc (Xf (Xe ?_));refine Aw (fun _ _=>JA Dn) ?_;refine Xc ?_;refine Aw (fun _ _=>av rfl rfl u0 u1 rfl Dn) ?_;refine Aw (fun _ _=>az [_] (i:=u.toNat) (j:=0) rfl (by simp) (bI g2) rfl rfl rfl Dn) ?_;refine Aw (fun _ _=>yQ rfl rfl rfl Dn) ?_;refine Aq fun bs=>?_;refine av rfl rfl v0 v1 rfl ?_;refine aM [_,_] (v:=.int .i64 (nj (aF k2.lo v) (aF k2.ix u))) (i:=v.toNat) (j:=0) rfl (by simp) rfl rfl rfl (bI g1) (Nat.zero_lt_succ _) ?_;rw [show (k2.lo.map bY).set v.toNat ([Value.int .i64 (aF k2.lo v)].set 0 (.int .i64 (nj (aF k2.lo v) (aF k2.ix u))))=(k2.lower v (aF k2.ix u)).lo.map bY from List.map_set.symm];refine aq (ah ?_);refine aj ?_;refine Ka ?_;refine Jc ?_;refine aq ?_;exact bp ⟨(i + 1,k2.lower v (aF k2.ix u),sv2),hlt',hk2.lower,by show da k2.ix≤f;omega,⟨hL2.st,hL2.ze⟩,hS⟩ ⟨rfl,rfl,rfl,rfl,rfl,trivial⟩ (fun h=>h) (by show l.length - (i + 1) < l.length - i;omega)
    ·rw [if_neg (by simp [ho])] at hS
     refine al (ah ?_);refine aj ?_;refine Ka ?_;refine Jc ?_;refine aq ?_;exact Pa ⟨(i + 1,k2,sv2),hlt',hk2,hz2,hL2,hS⟩
  have hge':l.length≤i:=by omega
  rw [List.drop_eq_nil_of_le hge',dA] at hS;rw [hS];refine aG rfl (ah ?_);have g1:=cM hk2.ix v0 v1;have g2:=cM hk2.lo v0 v1;have hkc:=hk2.close (v:=v);refine ar ?_;refine bR (by kernel_rfl) rfl ?_;refine Xc (Xf (Xe ?_));refine Aw (fun _ _=>JA Dn) ?_;refine Xc ?_;refine Aw (fun _ _=>av rfl rfl v0 v1 rfl Dn) ?_;refine Aw (fun _ _=>az [_,_] (i:=v.toNat) (j:=0) rfl (by simp) (bI g2) rfl rfl rfl Dn) ?_;refine Xc (Xf (Xe ?_));refine Aw (fun _ _=>JA Dn) ?_;refine Xc ?_;refine Aw (fun _ _=>av rfl rfl v0 v1 rfl Dn) ?_;refine Aw (fun _ _=>az [_] (i:=v.toNat) (j:=0) rfl (by simp) (bI g1) rfl rfl rfl Dn) ?_;refine Aw (fun _ _=>Jj Dn) ?_;refine Aq fun bs=>?_;refine aq (ah ?_);refine ay rfl (fun hne=>?_) (fun heq=>?_)
  ·have e:k2.close v=k2:=by unfold KN.close;rw [if_neg hne]
   rw [e];exact aZ (rs:=[]) (vs:=[]) rfl Tryz.results166 rfl aL.nil fun w hw=>⟨sv2,rfl,hw⟩
  have heq':aF k2.lo v=aF k2.ix v:=Decidable.of_not_not heq;have e:k2.close v={ popGo v k2.st.length k2 with kn:=k2.kn + 1 }:=by unfold KN.close;rw [if_pos heq']
  rw [e];clear e hkc;refine al (ah ?_);refine ar ?_;refine Ja (Jd (Jb ?_));refine ak ?_
  refine aI (ι:={ q:Int × KN × Value // KOk n (d + 1) q.2.1∧(q.1=v∧popGo v k2.st.length k2=q.2.1∨q.1≠v∧popGo v k2.st.length k2=popGo v q.2.1.st.length q.2.1∧∃ e,q.2.1.st=k.st++[v]++e) })
   (fun q=>[(0,aK bk),(1,.int .i64 v),(6,.int .i64 q.1.1)]) (fun q=>knH bk b1 a n q.1.2.2 q.1.2.1) (fun q=>q.1.2.1.st.length) ⟨(-1,k2,sv2),hk2,.inr ⟨by dsimp only;omega,rfl,by obtain ⟨⟨e,he⟩,_⟩:=hL2;exact ⟨e,by rw [he,hst1]⟩⟩⟩ ⟨rfl,rfl,rfl,trivial⟩ (fun h=>h) ?_
  intro ⟨⟨wv,k4,sv4⟩,hk4,hP⟩;dsimp only at hk4 hP ⊢;refine ar ?_;refine Ja (Jc (Jc (Jj (Jb ?_))));refine ay rfl (fun hne=>?_) (fun heq=>?_);rotate_left
  ·have hwv:wv=v:=Decidable.of_not_not heq
   obtain ⟨_,hP⟩ | ⟨h1,_⟩:=hP;rotate_left
   ·exact absurd hwv h1
   have hkn:k4.kn=k2.kn:=by rw [← hP];exact (gR v _ k2).2.2.2
   have hkk:=hk4.kn;have hkc:=hk4.ct;have hk0:=hk4.kn0;rw [hP,← hkn];refine aG rfl (ah ?_);refine aj ?_;refine Jc (Jf (Je ?_));refine JA ?_;refine Ka ?_;refine Jf (Je ?_);refine bQ [] rfl rfl rfl rfl rfl (Nat.lt_of_sub_eq_succ rfl) ?_;refine aq ?_;exact eC (rs:=[]) (vs:=[]) Tryz.results166 rfl aL.nil fun w hw=>⟨sv4,rfl,hw⟩
  obtain ⟨h1,_⟩ | ⟨_,hP,e,hst⟩:=hP
  ·exact absurd h1 hne
  obtain ⟨hpop,hmore⟩:=Cz hst;have hkp:=hk4.pop;have hwl:=hk4.st (k4.st.getLastD (-1)) (by rw [hpop];exact List.mem_append_right _ (List.mem_singleton.2 (by rw [← hpop])));have hlen:k4.st.length=k4.pop.st.length + 1:=by have:=congrArg List.length hpop;rwa [List.length_append,List.length_singleton] at this
  have hpg:popGo v k4.st.length k4=if k4.st.getLastD (-1)=v then k4.pop else popGo v k4.pop.st.length k4.pop:=by rw [hlen,popGo]
  rw [hpg] at hP;clear hpg;have hof:k4.pop.of=k4.of.set (k4.st.getLastD (-1)).toNat k4.kn:=rfl;have hon:k4.pop.on=k4.on.set (k4.st.getLastD (-1)).toNat false:=rfl;have hpx:k4.pop.ix=k4.ix∧k4.pop.lo=k4.lo∧k4.pop.ct=k4.ct∧k4.pop.kn=k4.kn:=⟨rfl,rfl,rfl,rfl⟩;generalize k4.st.getLastD (-1)=wl at *;generalize k4.pop=k5 at *;have hss:=hk4.sl;refine fk (φ:=∃ A c,sv4=.slice A k4.st.length c∧(k4.st≠[]→∃ B,A=some ⟨B,0,none⟩)∧k4.st.length≤c) (fun w hw=>?_) (fun ⟨A,sc,hsv,hAs,hcs⟩=>?_)
  ·obtain ⟨A,c,h1,h2,h3⟩:=gC (pre:=[_,_,_,_]) hw
   rw [List.length_map] at h1 h3;exact ⟨A,c,h1,fun h=>h2 (by simpa using h),h3⟩
  obtain ⟨SB,rfl⟩:=hAs (by rw [hpop];simp);subst hsv;have gw:(k4.st.map bY)[k5.st.length]?=some [.int .i64 wl]:=by rw [hpop,List.map_append,List.getElem?_append_right (by simp)];simp
  have gof:=cM hk4.of hwl.1 hwl.2;have gon:=tv hk4.on hwl.1 hwl.2;refine al (ah ?_);refine ak ?_;refine bR (by kernel_rfl) rfl ?_;refine Xc (Xf (Xe ?_));refine Aw (fun _ _=>JA Dn) ?_;refine Xc (Xf (Xe ?_));refine Aw (fun _ _=>JA Dn) ?_;refine Aw (fun _ _=>Jg Dn) ?_;refine Aw (fun _ _=>eG rfl rfl (w64 (by omega) (by omega)) rfl Dn) ?_;refine Aw (fun _ _=>av rfl rfl (by omega) (by omega) rfl Dn) ?_;refine Aw (fun _ _=>az [_,_,_,_] (i:=k5.st.length) (j:=0) rfl (by omega) gw rfl rfl rfl Dn) ?_;refine Aq fun bs=>?_;refine Jd (Jb ?_);refine kU 5 (by kernel_rfl) rfl rfl rfl rfl rfl (by kernel_rfl) (by kernel_rfl) (by kernel_rfl) rfl ?_;refine hY (by kernel_rfl) ?_;refine Xc (Xc (Xf (Xe ?_)));refine Aw (fun _ _=>JA Dn) ?_;refine Xc (Xc (Xf (Xe ?_)));refine Aw (fun _ _=>JA Dn) ?_;refine Xc (Xf (Xe ?_));refine Aw (fun _ _=>JA Dn) ?_;refine Aw (fun _ _=>Jg Dn) ?_;refine Aw (fun _ _=>eG (c:=(k5.st.length:Int)) rfl rfl (by rw [w64 (by omega) (by omega)];omega) rfl Dn) ?_;refine Aw (fun _ _=>oD rfl rfl (by omega) (by omega) rfl Dn) ?_;refine Aq fun bs2=>?_;refine jn rfl rfl ?_;refine iI rfl rfl ?_;refine bQ [] (v:=.slice (some ⟨SB,0,none⟩) k5.st.length sc) rfl rfl rfl rfl rfl (Nat.lt_of_sub_eq_succ rfl) ?_;refine av rfl rfl hwl.1 hwl.2 rfl ?_;refine aM [_,_,_] (v:=.bool false) (i:=wl.toNat) (j:=0) rfl (by simp) rfl rfl rfl (jC gon) (Nat.zero_lt_succ _) ?_;rw [show (k4.on.map bu).set wl.toNat ([Value.bool (eO k4.on wl)].set 0 (.bool false))=k5.on.map bu by rw [hon];exact List.map_set.symm];refine mQ [_,_,_,_] (ax 3 1 (.slice (some ⟨SB,0,none⟩) k5.st.length sc) (k5.st.map bY)) (fun w F hp=>by rw [hlen,hpop] at hp;exact ts rfl hp) ?_;refine aq (ah ?_);obtain ⟨px1,px2,px3,px4⟩:=hpx;refine cI [blk bk (knC b1 a n (.slice (some ⟨SB,0,none⟩) k5.st.length sc) k4.ct k4.kn) 190,ax 3 1 (.slice (some ⟨a.B1,0,none⟩) n n) (k4.ix.map bY),ax 3 1 (.slice (some ⟨a.B2,0,none⟩) n n) (k4.lo.map bY),ax 4 1 (.slice (some ⟨a.B3,0,none⟩) n n) (k5.on.map bu),ax 3 1 (.slice (some ⟨SB,0,none⟩) k5.st.length sc) (k5.st.map bY),ax 3 1 (.slice (some ⟨a.B5,0,none⟩) n n) (k4.of.map bY)] (fun w A h=>h) ?_;refine dZ (by kernel_rfl) rfl ?_;refine Xc (Xf (Xe ?_));refine Aw (fun _ _=>JA Dn) ?_;refine Xc (Xc (Xf (Xe ?_)));refine Aw (fun _ _=>JA Dn) ?_;refine Aq fun bs3=>?_;refine av rfl rfl hwl.1 hwl.2 rfl ?_;refine aM [_,_,_,_,_] (v:=.int .i64 k4.kn) (i:=wl.toNat) (j:=0) rfl (by simp) rfl rfl rfl (bI gof) (Nat.zero_lt_succ _) ?_;rw [show (k4.of.map bY).set wl.toNat ([Value.int .i64 (aF k4.of wl)].set 0 (.int .i64 k4.kn))=k5.of.map bY by rw [hof];exact List.map_set.symm];refine aq ?_;refine bp ⟨(wl,k5,.slice (some ⟨SB,0,none⟩) k5.st.length sc),hkp,?_⟩ ⟨rfl,rfl,rfl,trivial⟩ (fun h=>?_) (by show k5.st.length < k4.st.length;omega)
  ·by_cases hv:wl=v
   ·rw [if_pos hv] at hP
    exact .inl ⟨hv,hP⟩
   ·rw [if_neg hv] at hP
    exact .inr ⟨hv,hP,hmore hv⟩
  ·dsimp only
   unfold knH knR;rw [px1,px2,px3,px4];exact h
end
section
def KN.new (n:Nat):KN:=⟨List.replicate n 0,List.replicate n 0,List.replicate n false,[],List.replicate n 0,0,0⟩
def gG (nx:Int→List Int) (f:Nat):Nat→Nat→KN→KN
 | 0,_,k=>k
 | r + 1,i,k=>gG nx f r (i + 1) (if aF k.ix i=0 then cr nx f k i else k)
def iY (nx:Int→List Int) (n:Nat):KN:=gG nx n n 0 (KN.new n)
theorem pB (n:Nat):da (List.replicate n 0)=n:=by simp [da,List.countP_replicate]
theorem KOk.new (n:Nat):KOk n 0 (KN.new n):=
 ⟨by simp [KN.new],by simp [KN.new],by simp [KN.new],by simp [KN.new],fun w hw=>(List.not_mem_nil hw).elim,by show (0:Int) + (da (List.replicate n 0):Nat)=n;rw [pB];omega,Int.le_refl _,Int.le_refl _,Int.le_refl _,by show 0 + da (List.replicate n 0)≤n;rw [pB];omega⟩
theorem pn {c:HP} {r:List HP} {w:World} {A:Nat→Prop} (hc:c.p w No) (h:Sep r w A):Sep (c::r) w A:=⟨No,fun b hb=>hb.elim,hc,Sep.up (fun b hb=>⟨hb,fun k=>k.elim⟩) h⟩
theorem u6 {w:World} {A:Nat→Prop} {bk b1 n:Nat} {a:KAd} {r:List HP} (h:Sep (blk bk (knC b1 a n (.slice none 0 0) 0 0) 190::ax 3 1 (.slice (some ⟨a.B1,0,none⟩) n n) (List.replicate n [.int .i64 0])::ax 3 1 (.slice (some ⟨a.B2,0,none⟩) n n) (List.replicate n [.int .i64 0])::ax 4 1 (.slice (some ⟨a.B3,0,none⟩) n n) (List.replicate n [.bool false])::ax 3 1 (.slice (some ⟨a.B5,0,none⟩) n n) (List.replicate n [.int .i64 0])::r) w A):Sep (knH bk b1 a n (.slice none 0 0) (KN.new n)++r) w A:=by
 unfold knH knR KN.new;rw [List.map_replicate,List.map_replicate];exact cG (fun _=>cG (fun _=>cG (fun _=>cG (fun _ h=>pn (.inl ⟨rfl,rfl⟩) h)))) h
theorem r8 {n:Nat} {nx:Int→List Int} (hnx:∀ v:Int,0≤v→v < n→∀ w∈nx v,0≤w∧w < n) {k:KN} {i:Nat} (h:KOk n 0 k) (hi:i < n):KOk n 0 (if aF k.ix i=0 then cr nx n k i else k):=by
 split
 ·rename_i h0
  exact (fL hnx n 0 k i h (by omega) (by omega) h0 (by have:=li k.ix;have:=h.ix;omega)).1
 ·exact h
attribute [local irreducible] RW CW
set_option maxHeartbeats 8000000 in
theorem Ag {t:ThV} {x:TC} {b1 n:Nat} {w:World} (hnB:(aN t).length=n) (hn:n≤4096) (hnx:∀ v:Int,0≤v→v < n→∀ w∈aQ t v,0≤w∧w < n)
 (hb:∀ (j:Nat) (u:Value),(x.th t)[j]?=some u→mem w (fun b=>¬ No b) b1 j u) (h:gp (mem w (fun b=>¬ No b)) t x):
 iT Tryz.prog 117 [.int .i64 n,CN b1] w No (fun q:Nat × KAd × Value=>aK q.1) (fun q=>knH q.1 b1 q.2.1 n q.2.2 (iY (aQ t) n)):=by
 have hle:=hq0 w;refine Calls.enter Tryz.func117 rfl _ rfl rfl (S:=No) (H:=[]) trivial ?_;refine Ja (Jd (Jb ?_));refine bR (by kernel_rfl) rfl ?_;refine Xc (Xc ?_)
 (apply eD (fun b=>.slice (some ⟨b,0,none⟩) n n) (fun b=>ax 3 1 (.slice (some ⟨b,0,none⟩) n n) (List.replicate n [.int .i64 0])) rfl;· intro Gx X;refine bF (n:=n) (zc:=[.int .i64 0]) rfl rfl rfl rfl rfl (by unfold dK;omega) (by omega) rfl fun B0=>?_;exact aU rfl)
 refine Xc ?_
 (apply eD (fun b=>.slice (some ⟨b,0,none⟩) n n) (fun b=>ax 3 1 (.slice (some ⟨b,0,none⟩) n n) (List.replicate n [.int .i64 0])) rfl;· intro Gx X;refine bF (n:=n) (zc:=[.int .i64 0]) rfl rfl rfl rfl rfl (by unfold dK;omega) (by omega) rfl fun B0=>?_;exact aU rfl)
 refine Xc ?_
 (apply eD (fun b=>.slice (some ⟨b,0,none⟩) n n) (fun b=>ax 4 1 (.slice (some ⟨b,0,none⟩) n n) (List.replicate n [.bool false])) rfl;· intro Gx X;refine bF (n:=n) (zc:=[.bool false]) rfl rfl rfl rfl rfl (by unfold dK;omega) (by omega) rfl fun B0=>?_;exact aU rfl)
 refine Xc ?_
 (apply eD (fun b=>.slice (some ⟨b,0,none⟩) n n) (fun b=>ax 3 1 (.slice (some ⟨b,0,none⟩) n n) (List.replicate n [.int .i64 0])) rfl;· intro Gx X;refine bF (n:=n) (zc:=[.int .i64 0]) rfl rfl rfl rfl rfl (by unfold dK;omega) (by omega) rfl fun B0=>?_;exact aU rfl)
 refine Aq fun bs=>?_;refine eQ (v:=.agg (knC b1 ⟨bs 9,bs 11,bs 13,bs 15⟩ n (.slice none 0 0) 0 0).toArray) rfl (fun w=>by kernel_rfl) rfl ?_;refine aS (l:=knC b1 ⟨bs 9,bs 11,bs 13,bs 15⟩ n (.slice none 0 0) 0 0) rfl rfl fun bk _=>?_;refine Jd (Jb ?_);generalize ha:(⟨bs 9,bs 11,bs 13,bs 15⟩:KAd)=a;refine cI (knH bk b1 a n (.slice none 0 0) (KN.new n)) (fun w A h=>?_) ?_
 ·subst ha
  exact u6 (a:=⟨bs 9,bs 11,bs 13,bs 15⟩) (r:=[]) (Sep.take [0,4,3,2,1] h)
 clear ha;refine ar ?_;refine Ja (Jc (Jc (Jb ?_)));refine ak ?_;refine aI (ι:={ q:Nat × KN × Value // q.1≤n∧KOk n 0 q.2.1∧iY (aQ t) n=gG (aQ t) n (n - q.1) q.1 q.2.1 }) (fun q=>[(5,aK bk),(18,.int .i64 n),(19,.int .i64 q.1.1)]) (fun q=>knH bk b1 a n q.1.2.2 q.1.2.1) (fun q=>n - q.1.1) ⟨(0,KN.new n,.slice none 0 0),Nat.zero_le _,KOk.new n,rfl⟩ ⟨rfl,rfl,rfl,trivial⟩ (fun h=>h) ?_;intro ⟨⟨i,k,sv⟩,hi,hk,hS⟩;dsimp only at hi hk hS ⊢;refine Ja (Jk (Jb ?_));refine ar ?_;refine ay rfl (fun hlt=>?_) (fun hge=>?_);rotate_left
 ·have hge':n - i=0:=by omega
  rw [hge',gG] at hS;rw [hS];refine aG rfl (ah ?_);refine Ja (Jc (Jd (Jb ?_)));exact aw rfl Tryz.results117 rfl rfl fun w hw=>⟨(bk,a,sv),rfl,hw⟩
 have hlt':i < n:=by omega
 have hi0:(0:Int)≤i:=by omega
 rw [show n - i=(n - (i + 1)) + 1 by omega,gG] at hS;have hk2:=r8 hnx hk hlt';have gi:=cM (q:=(i:Int)) hk.ix hi0 hlt;refine al (ah ?_);refine ar ?_;refine ak ?_;refine Ja (Jc (Jd (Jb (Ja (Jc (Jf (Je ?_)))))));refine JA ?_;refine Jc ?_;refine av rfl rfl hi0 hlt rfl ?_;refine az [_] (i:=i) (j:=0) rfl (by simp) (bI gi) rfl rfl rfl ?_;refine Ji (Jb ?_);refine ay rfl (fun h0=>?_) (fun h0=>?_)
 ·rw [if_pos h0] at hS hk2
  refine aj ?_;refine Jc (Jc ?_);refine pt [0,1,2,3,4,5] (knH bk b1 a n sv k) (r:=[]) rfl rfl rfl Tryz.call166 (fun w3 F3 hle3 hC hr=>pD hnB hn hnx n 0 k i sv w3 F3 hk hi0 hlt h0 (by have:=li k.ix;have:=hk.ix;omega) (fun j v hj=>hle3 _ _ _ (hb j v hj)) (h.mono hle3) hC) fun sv3=>?_;refine aq (ah ?_);refine aj ?_;refine Ka ?_;refine Jc ?_;refine aq ?_;exact Pa ⟨(i + 1,cr (aQ t) n k i,sv3),hlt',hk2,hS⟩
 ·rw [if_neg h0] at hS hk2
  refine al (ah ?_);refine aj ?_;refine Ka ?_;refine Jc ?_;refine aq ?_;exact Pa ⟨(i + 1,k,sv),hlt',hk2,hS⟩
end
section
def oF (M:Mem) (A:Option Addr) (l:List Int):Prop:=∀ (i:Nat) (x:Int),l[i]?=some x→∃ B O,A=some ⟨B,O,none⟩∧M B (O + i) (.int .i64 x)
theorem oF.mono {M M':Mem} {A:Option Addr} {l:List Int} (h:oF M A l) (hM:Mem.le M M'):oF M' A l:=fun i x hi=>by
 obtain ⟨B,O,h1,h2⟩:=h i x hi;exact ⟨B,O,h1,hM _ _ _ h2⟩
theorem gh {w:World} {ok:Nat→Prop} {b:Nat} {c:List Value} {t:TypeId} (hb:ok b) (h:w.heap[b]?=some (.cells c.toArray t (0,0))):∀ (j:Nat) (v:Value),c[j]?=some v→mem w ok b j v:=fun j v hj=>
 ⟨⟨hb,dy h _⟩,gZ h hj⟩
theorem qI:∀ (l:List Int),(l.map bY).flatten=l.map G1
 | []=>rfl
 | x::l=>by rw [List.map_cons,List.flatten_cons,qI l];rfl
theorem tq {w0 w:World} {S:Nat→Prop} {pre r:List HP} {e:TypeId} {A:Option Addr} {n c:Nat} {l:List Int} (h:St w0 S (pre++ax e 1 (.slice A n c) (l.map bY)::r) w):oF (mem w (fun b=>¬ No b)) A l:=fun i x hi=>by
 obtain ⟨F2,hp,_⟩:=h.get;rcases hp with ⟨_,h2⟩ | ⟨B,c',tl,h1,_,h3,_⟩
 ·rw [List.map_eq_nil_iff] at h2;subst h2;simp at hi
 ·simp only [Value.slice.injEq] at h1
  refine ⟨B,0,h1.1,?_⟩;rw [Nat.zero_add];refine gh (fun k=>k) h3 i _ ?_;have hlt:=(List.getElem?_eq_some_iff.1 hi).1;rw [qI,List.getElem?_append_left (by rw [List.length_map];exact hlt),List.getElem?_map,hi]
  rfl
def qC (p:Int→Bool):List Int→Int→Int
 | [],_=>-1
 | x::r,i=>if p x=true then i else qC p r (i + 1)
def Fo (p:Int→Bool) (l:List Int):Int:=qC p l 0
attribute [local irreducible] RW CW
theorem o4 {f:FuncId} {caps:List Value} {p:Int→Bool} {A:Option Addr} {c:Nat} {l:List Int} {w:World} (hcall:∀ args w,(callFunc f args).run Tryz.prog w=.ok (.enter f args) w) (hn:l.length≤140737488351232) (hl:oF (mem w (fun b=>¬ No b)) A l)
 (hp:∀ (w2:World) (x:Int),x∈l→cL No w w2→Ret Tryz.prog f (.int .i64 x::caps) w2 (.bool (p x))):Ret Tryz.prog 119 [.slice A l.length c,.func (.func f) #[] caps.toArray] w (.int .i64 (Fo p l)):=by
 have hle:=hq0 w;refine Calls.enter Tryz.func119 rfl _ rfl rfl (S:=No) (H:=[]) trivial ?_;refine Ja (Jd (Jb ?_));refine ar ?_;refine Ja (Jc (Jg (Jc (Jb ?_))));refine ak ?_;refine aI (ι:={ k:Nat // k≤l.length∧Fo p l=qC p (l.drop k) k }) (fun k=>[(0,.slice A l.length c),(1,.func (.func f) #[] caps.toArray),(7,.int .i64 l.length),(8,.int .i64 k.1)]) (fun _=>[]) (fun k=>l.length - k.1) ⟨0,Nat.zero_le _,rfl⟩ ⟨rfl,rfl,rfl,rfl,trivial⟩ (fun h=>h) ?_;intro ⟨k,hk,hS⟩;dsimp only at hk hS ⊢;refine Ja (Jk (Jb ?_));refine ar ?_;refine ay rfl (fun hlt=>?_) (fun hge=>?_);rotate_left
 ·have hge':l.length≤k:=by omega
  rw [List.drop_eq_nil_of_le hge'] at hS;refine aG rfl (ah ?_);refine Ja (Jd (Jb ?_));exact aw rfl Tryz.results119 rfl rfl fun w hw=>⟨by rw [hS];rfl,hw.kp⟩
 have hlt':k < l.length:=by omega
 rw [List.drop_eq_getElem_cons hlt',qC] at hS;obtain ⟨B,O,hA,hm⟩:=hl k _ (List.getElem?_eq_getElem hlt');have hx:=List.getElem_mem hlt';generalize l[k]=x at *;refine al (ah ?_);refine ar ?_;refine ak ?_;refine Ja (Jc (Jd (Jb (Ja (Jc (Jc (Jc ?_)))))));refine aa hA rfl rfl (by omega) hlt rfl ?_;refine ac rfl hle (aT hm) rfl rfl ?_;refine uk hcall rfl rfl (fun w2 hw=>hp w2 x hx hw.kp) rfl ?_;refine Jb ?_;refine ce rfl (fun h1=>?_) (fun h1=>?_)
 ·rw [if_pos h1] at hS
  refine Ja (Jc (Jd (Jb ?_)));exact aw rfl Tryz.results119 rfl rfl fun w hw=>⟨by rw [hS],hw.kp⟩
 rw [if_neg (by simp [h1])] at hS;refine al (ah ?_);refine aj ?_;refine Ka ?_;refine Jc ?_;refine aq ?_;exact Pa ⟨k + 1,hlt',hS⟩
theorem sF {b4 n c:Nat} {A:Option Addr} {sz:List Int} {x:Int} {w:World} (hb:mem w (fun b=>¬ No b) b4 0 (.slice A n c)) (hl:oF (mem w (fun b=>¬ No b)) A sz) (hn:sz.length=n) (h0:0≤x) (h1:x < n):Ret Tryz.prog 120 [.int .i64 x,aK b4] w (.bool (decide (1 < aF sz x))):=by
 have hle:=hq0 w;obtain ⟨B,O,hA,hm⟩:=hl x.toNat _ (cM hn h0 h1);refine Calls.enter Tryz.func120 rfl _ rfl rfl (S:=No) (H:=[]) trivial ?_;refine Ja (Jd (Jb (Ja ?_)));refine ac rfl hle hb rfl rfl ?_;refine Jc ?_;refine aa hA rfl rfl h0 h1 rfl ?_;refine ac (v:=.int .i64 (aF sz x)) rfl hle (by rw [Nat.mul_one];exact hm) rfl rfl ?_;refine Jm (Jd (Jb ?_));exact aw rfl Tryz.results120 rfl rfl fun w hw=>⟨rfl,hw.kp⟩
end
section
def io:List Int→List Int→List Int
 | [],l=>l
 | w::r,l=>io r (gH l w)
def lS (k:KN):List Int:=io k.of (List.replicate k.kn.toNat 0)
def gY (t:ThV):Int:=Fo (fun w=>decide (1 < aF (lS (iY (aQ t) (aN t).length)) w)) (iY (aQ t) (aN t).length).of
theorem qy {n:Nat} {nx:Int→List Int} (hnx:∀ v:Int,0≤v→v < n→∀ w∈nx v,0≤w∧w < n):∀ (r i:Nat) (k:KN),i + r=n→KOk n 0 k→KOk n 0 (gG nx n r i k)
 | 0,i,k,_,h=>h
 | r + 1,i,k,hi,h=>by
  unfold gG;exact qy hnx r (i + 1) _ (by omega) (r8 hnx h (by omega))
theorem lw {n:Nat} {nx:Int→List Int} (hnx:∀ v:Int,0≤v→v < n→∀ w∈nx v,0≤w∧w < n):KOk n 0 (iY nx n):=qy hnx n 0 _ (by omega) (KOk.new n)
attribute [local irreducible] RW CW
set_option maxHeartbeats 8000000 in
theorem vl {t:ThV} {x:TC} {w:World} (h:gp (mem w (fun b=>¬ No b)) t x) (hB:(aN t).length=(ao t).length) (hn:(aN t).length≤4096) (hnx:∀ v:Int,0≤v→v < (aN t).length→∀ w∈aQ t v,0≤w∧w < (aN t).length)
 (hof:∀ w∈(iY (aQ t) (aN t).length).of,0≤w∧w < (iY (aQ t) (aN t).length).kn):Ret Tryz.prog 77 [.agg (x.th t).toArray] w (.int .i64 (gY t)):=by
 have hle:=hq0 w;have hko:=lw hnx;unfold gY;generalize hnn:(aN t).length=n at *;refine Calls.enter Tryz.func77 rfl _ rfl rfl (S:=No) (H:=[]) trivial ?_;refine bZ ?_;refine aS (l:=x.th t) rfl rfl fun b1 _=>?_;refine Jd (Jb (Ja (Je ?_)));refine JA ?_;refine Jg (Jx ?_);refine dY Tryz.call117 (show _=some [.int .i64 n,CN b1] by rw [hB];rfl) (fun w2 hw=>Ag hnn hn hnx (gh (fun k=>k) (St.blk (pre:=[]) hw)) (h.mono (au hw))) rfl fun ⟨bk,a,sv⟩=>?_;generalize iY (aQ t) n=k at *;have hkn:=hko.kn;have hkc:=hko.ct;have hk0:=hko.kn0;obtain ⟨m,hm⟩:∃ m:Nat,k.kn=m:=⟨k.kn.toNat,by omega⟩;refine Jd (Jb (Ja (Jc (Jf (Je ?_)))));refine JA ?_;refine bF (n:=m) (zc:=[.int .i64 0]) rfl rfl hm rfl rfl (by unfold dK;omega) (by omega) rfl fun Bz=>?_;refine cH (c:=[.slice none 0 0]) rfl rfl fun b4 _=>?_;refine bQ [] rfl rfl rfl rfl rfl (Nat.zero_lt_succ _) ?_;refine Jb ?_;refine ar ?_;refine Ja (Jc (Jf (Je ?_)));refine JC ?_;refine Jg (Jc (Jb ?_));refine cI [blk b4 [.slice (some ⟨Bz,0,none⟩) m m] 26,ax 3 1 (.slice (some ⟨Bz,0,none⟩) m m) (List.replicate m [.int .i64 0]),blk bk (knC b1 a n sv k.ct k.kn) 190,ax 3 1 (.slice (some ⟨a.B5,0,none⟩) n n) (k.of.map bY)] (fun w A h=>Sep.take [0,1,2,7] h) ?_;refine ak ?_
 refine aI (ι:={ q:Nat × List Int // q.1≤n∧ii m q.1 q.2∧lS k=io (k.of.drop q.1) q.2 }) (fun q=>[(3,aK bk),(4,aK b4),(20,.slice (some ⟨a.B5,0,none⟩) n n),(21,.int .i64 n),(22,.int .i64 q.1.1)])
  (fun q=>[blk b4 [.slice (some ⟨Bz,0,none⟩) m m] 26,ax 3 1 (.slice (some ⟨Bz,0,none⟩) m m) (q.1.2.map bY),blk bk (knC b1 a n sv k.ct k.kn) 190,ax 3 1 (.slice (some ⟨a.B5,0,none⟩) n n) (k.of.map bY)]) (fun q=>n - q.1.1)
  ⟨(0,List.replicate m 0),Nat.zero_le _,⟨by simp,fun v hv=>by rw [List.eq_of_mem_replicate hv];exact ⟨Int.le_refl _,Int.le_refl _⟩⟩,by unfold lS;rw [hm];rfl⟩ ⟨rfl,rfl,rfl,rfl,rfl,trivial⟩ (fun h=>by rw [List.map_replicate];exact h) ?_
 intro ⟨⟨i,sz⟩,hi,hCt,hS⟩;dsimp only at hi hCt hS ⊢;refine Ja (Jk (Jb ?_));refine ar ?_;refine ay rfl (fun hlt=>?_) (fun hge=>?_)
 ·have hlt':i < k.of.length:=by rw [hko.of];omega
  rw [List.drop_eq_getElem_cons hlt',io] at hS;have go:k.of[i]?=some k.of[i]:=List.getElem?_eq_getElem hlt';obtain ⟨u0,u1⟩:=hof _ (List.getElem_mem hlt');generalize k.of[i]=u at *;have gz:=cM (q:=u) hCt.1 u0 (by omega);have hb:=hCt.at (by omega) u;refine al (ah ?_);refine ar ?_;refine ak ?_;refine ar ?_;refine aj ?_;refine av rfl rfl (by omega) hlt rfl ?_;refine az [_,_,_] (i:=i) (j:=0) rfl (by simp) (bI go) rfl rfl rfl ?_;refine Jd (Jb ?_);refine aj ?_;refine JA ?_;refine Jc ?_;refine av rfl rfl u0 (by omega) rfl ?_;refine az [_] (i:=u.toNat) (j:=0) rfl (by simp) (bI gz) rfl rfl rfl ?_;refine Ka ?_;refine av rfl rfl u0 (by omega) rfl ?_;refine aM [_] (v:=.int .i64 (aF sz u + 1)) (i:=u.toNat) (j:=0) rfl (by simp) rfl rfl rfl (bI gz) (Nat.zero_lt_succ _) ?_;refine aq (ah ?_);refine aj ?_;refine Ka ?_;refine Jc ?_;refine aq ?_;refine bp ⟨(i + 1,gH sz u),by dsimp only;omega,hCt.inc (by omega) _,hS⟩ ⟨rfl,rfl,rfl,rfl,rfl,trivial⟩ (fun hw=>?_) (by show n - (i + 1) < n - i;omega);unfold gH;rw [List.map_set];exact hw
 have hge':k.of.length≤i:=by rw [hko.of];omega
 rw [List.drop_eq_nil_of_le hge',io] at hS;refine aG rfl (ah ?_);refine Ja (Jc (Jf (Je ?_)));refine JC ?_;refine Jx ?_;have hofl:k.of.length=n:=hko.of;refine aD Tryz.call119 (show _=some [.slice (some ⟨a.B5,0,none⟩) k.of.length n,.func (.func 120) #[] [aK b4].toArray] by rw [hofl];rfl) (fun w2 hw=>o4 (p:=fun w=>decide (1 < aF (lS k) w)) Tryz.call120 (by omega) (tq (pre:=[_,_,_]) hw) (fun w3 y hy hk3=>?_)) rfl ?_
 ·obtain ⟨y0,y1⟩:=hof y hy
  have hmt:Mem.le (mem w2 (fun b=>¬ No b)) (mem w3 (fun b=>¬ No b)):=Bu hk3 (fun b hb hl=>⟨hb,hb⟩);rw [hS];exact sF (hmt _ _ _ (gh (fun k=>k) (St.blk (pre:=[]) hw) 0 _ rfl)) ((tq (pre:=[_]) hw).mono hmt) hCt.1 y0 (by omega)
 refine Jd (Jb ?_);exact aw rfl Tryz.results77 rfl rfl fun w hw=>⟨rfl,hw.kp⟩
end
section
theorem b7 {l:List Int} {i j x:Int} (h0:0≤i) (h1:i.toNat < l.length) (hj:0≤j):aF (l.set i.toNat x) j=if i=j then x else aF l j:=by
 unfold aF;by_cases h:i=j
 ·subst h
  rw [if_pos rfl,List.getElem?_set_self h1]
  rfl
 ·rw [if_neg h,List.getElem?_set_ne (by omega)]
theorem jA {l:List Bool} {i j:Int} {x:Bool} (h0:0≤i) (h1:i.toNat < l.length) (hj:0≤j):eO (l.set i.toNat x) j=if i=j then x else eO l j:=by
 unfold eO;by_cases h:i=j
 ·subst h
  rw [if_pos rfl,List.getElem?_set_self h1]
  rfl
 ·rw [if_neg h,List.getElem?_set_ne (by omega)]
structure kg (n:Nat) (c0:Int) (k:KN):Prop where
 on:∀ w:Int,0≤w→w < n→eO k.on w=true→c0 < aF k.ix w
 lo:∀ w:Int,0≤w→w < n→c0 < aF k.ix w→c0 < aF k.lo w
 up:∀ w:Int,0≤w→w < n→aF k.ix w≠0→aF k.lo w≤aF k.ix w
 pos:∀ w:Int,0≤w→w < n→0≤aF k.ix w∧aF k.ix w≤k.ct
 ct:c0≤k.ct
theorem kg.meet {n d:Nat} {c0:Int} {k:KN} {v:Int} (h:kg n c0 k) (hk:KOk n d k) (v0:0≤v) (v1:v < n):kg n c0 (k.meet v):=by
 have hc:=h.ct;have h0:=hk.ct0;have ex:∀ w:Int,0≤w→aF (k.meet v).ix w=if v=w then k.ct + 1 else aF k.ix w:=fun w hw=>b7 v0 (by rw [hk.ix];omega) hw
 have el:∀ w:Int,0≤w→aF (k.meet v).lo w=if v=w then k.ct + 1 else aF k.lo w:=fun w hw=>b7 v0 (by rw [hk.lo];omega) hw
 have eo:∀ w:Int,0≤w→eO (k.meet v).on w=if v=w then true else eO k.on w:=fun w hw=>jA v0 (by rw [hk.on];omega) hw
 refine ⟨fun w w0 w1 hw=>?_,fun w w0 w1 hw=>?_,fun w w0 w1 hw=>?_,fun w w0 w1=>?_,by show c0≤k.ct + 1;omega⟩
 ·rw [ex w w0]
  rw [eo w w0] at hw;split
  ·omega
  ·rename_i hn;rw [if_neg hn] at hw;exact h.on w w0 w1 hw
 ·rw [el w w0]
  rw [ex w w0] at hw;split
  ·omega
  ·rename_i hn;rw [if_neg hn] at hw;exact h.lo w w0 w1 hw
 ·rw [el w w0,ex w w0]
  rw [ex w w0] at hw;split
  ·omega
  ·rename_i hn;rw [if_neg hn] at hw;exact h.up w w0 w1 hw
 ·rw [ex w w0]
  have:=h.pos w w0 w1;show 0≤_∧_≤k.ct + 1;split <;> omega
theorem kg.lower {n d:Nat} {c0 a:Int} {k:KN} {v:Int} (h:kg n c0 k) (hk:KOk n d k) (v0:0≤v) (v1:v < n) (ha:c0 < a):kg n c0 (k.lower v a):=by
 have el:∀ w:Int,0≤w→aF (k.lower v a).lo w=if v=w then nj (aF k.lo v) a else aF k.lo w:=fun w hw=>b7 v0 (by rw [hk.lo];omega) hw
 refine ⟨h.on,fun w w0 w1 hw=>?_,fun w w0 w1 hw=>?_,h.pos,h.ct⟩
 ·rw [el w w0]
  split
  ·rename_i e
   subst e;have:=h.lo v v0 v1 hw;unfold nj;split <;> omega
  ·exact h.lo w w0 w1 hw
 ·rw [el w w0]
  have:=h.up w w0 w1 hw;show _≤aF k.ix w;split
  ·rename_i e
   subst e;unfold nj;split <;> omega
  ·exact this
theorem kg.pop {n d:Nat} {c0:Int} {k:KN} (h:kg n c0 k) (hk:KOk n d k):kg n c0 k.pop:=by
 refine ⟨fun w w0 w1 hw=>h.on w w0 w1 ?_,h.lo,h.up,h.pos,h.ct⟩;by_cases he:k.st=[]
 ·have:k.pop.on=k.on.set 0 false∨True:=.inr trivial
  by_cases hx:w.toNat=(k.st.getLastD (-1)).toNat
  ·have e:eO k.pop.on w=false:=by
    unfold eO;show (((k.on.set (k.st.getLastD (-1)).toNat false)[w.toNat]?).getD false)=false;rw [← hx,List.getElem?_set_self (by rw [hk.on];omega)]
    rfl
   rw [e] at hw;cases hw
  ·unfold eO at hw ⊢
   rw [show k.pop.on=k.on.set (k.st.getLastD (-1)).toNat false from rfl,List.getElem?_set_ne (fun e=>hx e.symm)] at hw;exact hw
 ·by_cases hx:w.toNat=(k.st.getLastD (-1)).toNat
  ·have e:eO k.pop.on w=false:=by
    unfold eO;show (((k.on.set (k.st.getLastD (-1)).toNat false)[w.toNat]?).getD false)=false;rw [← hx,List.getElem?_set_self (by rw [hk.on];omega)]
    rfl
   rw [e] at hw;cases hw
  ·unfold eO at hw ⊢
   rw [show k.pop.on=k.on.set (k.st.getLastD (-1)).toNat false from rfl,List.getElem?_set_ne (fun e=>hx e.symm)] at hw;exact hw
theorem kg.popGo {n d:Nat} {c0 v:Int}:∀ (f:Nat) {k:KN},kg n c0 k→KOk n d k→kg n c0 (popGo v f k)
 | 0,k,h,_=>h
 | f + 1,k,h,hk=>by
  unfold Go.Proofs.YtbcdgcodnkgdoaaGreat.popGo;split
  ·exact h.pop hk
  ·exact kg.popGo f (h.pop hk) hk.pop
theorem kg.close {n d:Nat} {c0 v:Int} {k:KN} (h:kg n c0 k) (hk:KOk n d k):kg n c0 (k.close v):=by
 unfold KN.close;split
 ·have h2:=kg.popGo (v:=v) k.st.length h hk
  exact ⟨h2.on,h2.lo,h2.up,h2.pos,h2.ct⟩
 ·exact h
structure i4 (n:Nat) (k k2:KN):Prop where
 ix:∀ w:Int,0≤w→w < n→aF k.ix w≠0→aF k2.ix w=aF k.ix w
 kn:k.kn≤k2.kn
 of:(∀ u∈k.of,0≤u∧(u < k.kn∨u=0))→∀ u∈k2.of,0≤u∧(u < k2.kn∨u=0)
theorem i4.refl {n:Nat} (k:KN):i4 n k k:=⟨fun _ _ _ _=>rfl,Int.le_refl _,fun h=>h⟩
theorem i4.trans {n:Nat} {k k2 k3:KN} (h:i4 n k k2) (h2:i4 n k2 k3):i4 n k k3:=
 ⟨fun w w0 w1 hw=>by have e:=h.ix w w0 w1 hw;rw [h2.ix w w0 w1 (by rw [e];exact hw),e],Int.le_trans h.kn h2.kn,fun ho=>h2.of (h.of ho)⟩
theorem tk {v x:Int}:∀ (f:Nat) {k:KN},∀ u∈(popGo v f k).of,u∈k.of∨u=k.kn
 | 0,k,u,hu=>.inl hu
 | f + 1,k,u,hu=>by
  have hp:∀ u∈k.pop.of,u∈k.of∨u=k.kn:=fun u hu=>by
   rcases List.mem_or_eq_of_mem_set hu with h | h
   ·exact .inl h
   ·exact .inr h
  unfold popGo at hu;split at hu
  ·exact hp u hu
  ·rcases tk f (x:=x) u hu with h | h
   ·exact hp u h
   ·exact .inr h
theorem oz {n d:Nat} {k:KN} {v:Int} (hk:KOk n d k):i4 n k (k.close v):=by
 have h0:=hk.kn0;unfold KN.close;split
 ·have e:=gR v k.st.length k
  refine ⟨fun w _ _ _=>by show aF (popGo v k.st.length k).ix w=_;rw [e.1],by show k.kn≤k.kn + 1;omega,fun ho u hu=>?_⟩;rcases tk (x:=0) _ u hu with h | h
  ·have:=ho u h
   exact ⟨this.1,by show u < k.kn + 1∨u=0;omega⟩
  ·subst h
   exact ⟨h0,.inl (by show k.kn < k.kn + 1;omega)⟩
 ·exact i4.refl k
theorem xj {n d:Nat} {k:KN} {v:Int} (hk:KOk n d k) (v0:0≤v) (v1:v < n) (hz:aF k.ix v=0):i4 n k (k.meet v):=
 ⟨fun w w0 w1 hw=>by rw [show aF (k.meet v).ix w=if v=w then k.ct + 1 else aF k.ix w from b7 v0 (by rw [hk.ix];omega) w0,if_neg (fun e:v=w=>hw (by rw [← e];exact hz))],Int.le_refl _,fun h=>h⟩
theorem lx {n d z:Nat} {vis:KN→Int→KN} {v c0:Int} (v0:0≤v) (v1:v < n)
 (hv:∀ (k:KN) (w:Int),KOk n d k→kg n c0 k→0≤w→w < n→aF k.ix w=0→da k.ix≤z→KOk n d (vis k w)∧eH k (vis k w)∧kg n c0 (vis k w)∧i4 n k (vis k w)∧aF (vis k w).ix w=k.ct + 1):
 ∀ (l:List Int) (k:KN),(∀ w∈l,0≤w∧w < n)→KOk n d k→kg n c0 k→da k.ix≤z→KOk n d (dA vis v l k)∧kg n c0 (dA vis v l k)∧i4 n k (dA vis v l k)
 | [],k,_,h,hl,_=>⟨h,hl,i4.refl k⟩
 | w::r,k,hin,h,hl,hz=>by
  obtain ⟨w0,w1⟩:=hin w (List.mem_cons_self ..);have hr:∀ u∈r,0≤u∧u < (n:Int):=fun u hu=>hin u (List.mem_cons_of_mem _ hu);unfold dA;split
  ·rename_i h0
   obtain ⟨a1,a2,a3,a4,a5⟩:=hv k w h hl w0 w1 h0 hz;have a6:c0 < aF (vis k w).lo w:=a3.lo w w0 w1 (by have:=hl.ct;omega);obtain ⟨b1,b2,b3⟩:=lx v0 v1 hv r _ hr a1.lower (a3.lower a1 v0 v1 a6) (Nat.le_trans a2.ze hz);exact ⟨b1,b2,a4.trans ⟨b3.ix,b3.kn,b3.of⟩⟩
  ·split
   ·rename_i ho
    obtain ⟨b1,b2,b3⟩:=lx v0 v1 hv r _ hr h.lower (hl.lower h v0 v1 (hl.on w w0 w1 ho)) hz;exact ⟨b1,b2,⟨b3.ix,b3.kn,b3.of⟩⟩
   ·exact lx v0 v1 hv r k hr h hl hz
theorem lM {n:Nat} {nx:Int→List Int} {c0:Int} (hnx:∀ v:Int,0≤v→v < n→∀ w∈nx v,0≤w∧w < n):∀ (f d:Nat) (k:KN) (v:Int),KOk n d k→kg n c0 k→0≤v→v < n→aF k.ix v=0→da k.ix≤f→
 kg n c0 (cr nx f k v)∧i4 n k (cr nx f k v)∧aF (cr nx f k v).ix v=k.ct + 1∧((∀ w:Int,0≤w→w < n→eO k.on w=false)→1≤(cr nx f k v).kn)
 | 0,d,k,v,h,_,v0,v1,hz,hf=>by
  have:=dn h v0 v1 hz;omega
 | f + 1,d,k,v,h,hl,v0,v1,hz,hf=>by
  have e:=dn h v0 v1 hz;have hm:=h.meet v0 v1 hz
  have go:∀ c1,kg n c1 k→KOk n (d + 1) (dA (cr nx f) v (nx v) (k.meet v))∧kg n c1 (dA (cr nx f) v (nx v) (k.meet v))∧i4 n (k.meet v) (dA (cr nx f) v (nx v) (k.meet v)):=fun c1 hc=>
   lx (z:=f) v0 v1 (fun k w hk hl w0 w1 h0 hz=>by
    obtain ⟨a1,a2⟩:=fL hnx f (d + 1) k w hk w0 w1 h0 hz;obtain ⟨a3,a4,a5,_⟩:=lM hnx f (d + 1) k w hk hl w0 w1 h0 hz;exact ⟨a1,a2,a3,a4,a5⟩) (nx v) (k.meet v) (hnx v v0 v1) hm (hc.meet h v0 v1) (by omega)
  obtain ⟨b1,b2,b3⟩:=go c0 hl;have hx:aF (k.meet v).ix v=k.ct + 1:=by rw [show aF (k.meet v).ix v=if v=v then k.ct + 1 else aF k.ix v from b7 v0 (by rw [h.ix];omega) v0,if_pos rfl]
  have hx2:aF (dA (cr nx f) v (nx v) (k.meet v)).ix v=k.ct + 1:=by rw [b3.ix v v0 v1 (by rw [hx];have:=h.ct0;omega),hx]
  have hx3:=(oz (v:=v) b1).ix v v0 v1 (by rw [hx2];have:=h.ct0;omega);unfold cr;refine ⟨b2.close b1,((xj h v0 v1 hz).trans b3).trans (oz b1),by rw [hx3,hx2],fun hoff=>?_⟩;have hroot:kg n k.ct k:=⟨fun w w0 w1 hw=>by rw [hoff w w0 w1] at hw;exact Bool.noConfusion hw,fun w w0 w1 hw=>by have:=(hl.pos w w0 w1).2;omega,hl.up,hl.pos,Int.le_refl _⟩;obtain ⟨c1,c2,c3⟩:=go k.ct hroot;have d1:=c2.lo v v0 v1 (by rw [hx2];omega);have d2:=c2.up v v0 v1 (by rw [hx2];have:=h.ct0;omega);generalize dA (cr nx f) v (nx v) (k.meet v)=k9 at *;unfold KN.close;rw [if_pos (by omega)];show 1≤k9.kn + 1;have:=c1.kn0;omega
theorem nN (n:Nat) (w:Int):aF (List.replicate n 0) w=0:=by
 unfold aF;cases h:(List.replicate n (0:Int))[w.toNat]? with
 | none=>rfl
 | some x=>exact List.eq_of_mem_replicate (List.mem_of_getElem? h)
theorem oN (n:Nat) (w:Int):eO (List.replicate n false) w=false:=by
 unfold eO;cases h:(List.replicate n false)[w.toNat]? with
 | none=>rfl
 | some x=>exact List.eq_of_mem_replicate (List.mem_of_getElem? h)
theorem CO (n:Nat):kg n 0 (KN.new n):=
 ⟨fun w _ _ hw=>by rw [show eO (KN.new n).on w=false from oN n w] at hw;exact Bool.noConfusion hw,fun w _ _ hw=>by rw [show aF (KN.new n).ix w=0 from nN n w] at hw;omega,fun w _ _ hw=>absurd (nN n w) hw,fun w _ _=>by rw [show aF (KN.new n).ix w=0 from nN n w];exact ⟨Int.le_refl _,Int.le_refl _⟩,Int.le_refl _⟩
theorem je {n:Nat} {nx:Int→List Int} (hnx:∀ v:Int,0≤v→v < n→∀ w∈nx v,0≤w∧w < n):∀ (r i:Nat) (k:KN),i + r=n→KOk n 0 k→kg n 0 k→i4 n k (gG nx n r i k)∧(0 < r→aF k.ix i=0→(∀ w:Int,0≤w→w < n→eO k.on w=false)→1≤(gG nx n r i k).kn)
 | 0,i,k,_,h,_=>⟨i4.refl k,fun h=>absurd h (Nat.lt_irrefl _)⟩
 | r + 1,i,k,hi,h,hl=>by
  have hk2:=r8 hnx h (i:=i) (by omega);unfold gG;by_cases h0:aF k.ix i=0
  ·rw [if_pos h0] at hk2 ⊢
   obtain ⟨a1,a2,_,a4⟩:=lM hnx n 0 k i h hl (by omega) (by omega) h0 (by have:=li k.ix;have:=h.ix;omega);obtain ⟨b1,_⟩:=je hnx r (i + 1) _ (by omega) hk2 a1;exact ⟨a2.trans b1,fun _ _ hoff=>by have:=a4 hoff;have:=b1.kn;omega⟩
  ·rw [if_neg h0] at hk2 ⊢
   obtain ⟨b1,_⟩:=je hnx r (i + 1) _ (by omega) hk2 hl;exact ⟨b1,fun _ h1 _=>absurd h1 h0⟩
theorem xG {n:Nat} {nx:Int→List Int} (hnx:∀ v:Int,0≤v→v < n→∀ w∈nx v,0≤w∧w < n):∀ u∈(iY nx n).of,0≤u∧u < (iY nx n).kn:=by
 intro u hu;obtain ⟨a,b⟩:=je hnx n 0 (KN.new n) (by omega) (KOk.new n) (CO n);have h1:=a.of (fun u hu=>by rw [List.eq_of_mem_replicate hu];exact ⟨Int.le_refl _,.inr rfl⟩) u hu;have hl:=(lw hnx).of
 have hn:0 < n:=by
  have:0 < (iY nx n).of.length:=List.length_pos_of_mem hu;omega
 have h2:1≤(iY nx n).kn:=b hn (nN n _) (fun w _ _=>oN n w);have h3:u < (iY nx n).kn∨u=0:=h1.2;omega
end
section
def dp (n:Int):List i3→Int→Int
 | [],_=>-1
 | r::rs,i=>if eX n r=true then dp n rs (i + 1) else i
def fT (t:ThV):Int × Int:=
 if t.1 < 0∨4096 < t.1 then (112,0)
 else if ((aH t).length:Int)≠t.1 then (121,0)
 else if 0≤jN t then (121,jN t)
 else if 4096 < ((ao t).length:Int) then (111,0)
 else if 0≤dp t.1 (ao t) 0 then (122,dp t.1 (ao t) 0)
 else if 65536 < gy t then (113,0)
 else if ((aN t).length:Int)≠(ao t).length then (123,0)
 else if 0≤fU t then (123,fU t)
 else if 0≤gY t then (131,gY t)
 else (0,0)
theorem oo {t:ThV}:∀ {l:List (List Int)} {q:Int},0≤q→i9 t l q < 0→∀ x∈l,∃ p,iF t p x=false
 | [],_,_,_,x,hx=>by cases hx
 | y::l,q,hq,h,x,hx=>by
  unfold i9 at h;by_cases hb:iF t q y=true
  ·rw [if_pos hb] at h;omega
  ·rw [if_neg hb] at h
   rcases List.mem_cons.1 hx with rfl | hx
   ·exact ⟨q,by simpa using hb⟩
   ·exact oo (by omega) h x hx
theorem lY {n:Int}:∀ {l:List i3} {q:Int},0≤q→dp n l q < 0→∀ x∈l,eX n x=true
 | [],_,_,_,x,hx=>by cases hx
 | y::l,q,hq,h,x,hx=>by
  unfold dp at h;by_cases hb:eX n y=true
  ·rw [if_pos hb] at h
   rcases List.mem_cons.1 hx with rfl | hx
   ·exact hb
   ·exact lY (by omega) h x hx
  ·rw [if_neg hb] at h;omega
theorem mM {t:ThV}:∀ {l:List (List Int)} {q:Int},0≤q→gj t l q < 0→∀ x∈l,∃ p,cV t p x=false
 | [],_,_,_,x,hx=>by cases hx
 | y::l,q,hq,h,x,hx=>by
  unfold gj at h;by_cases hb:cV t q y=true
  ·rw [if_pos hb] at h;omega
  ·rw [if_neg hb] at h
   rcases List.mem_cons.1 hx with rfl | hx
   ·exact ⟨q,by simpa using hb⟩
   ·exact mM (by omega) h x hx
theorem j6.of {t:ThV} (h1:¬ (t.1 < 0∨4096 < t.1)) (h2:((aH t).length:Int)=t.1) (h3:¬ 0≤jN t) (h4:¬ 4096 < ((ao t).length:Int)) (h5:¬ 0≤dp t.1 (ao t) 0):j6 t:=by
 refine ⟨h2.symm,by omega,fun l hl=>?_,by omega,lY (Int.le_refl _) (by omega)⟩;obtain ⟨p,hp⟩:=oo (t:=t) (Int.le_refl 0) (by show jN t < 0;omega) l hl;unfold iF at hp;simp only [Bool.or_eq_false_iff,decide_eq_false_iff_not,Bool.not_eq_false'] at hp;exact ⟨by omega,hp.1.1.2⟩
theorem uf {t:ThV} (hB:((aN t).length:Int)=(ao t).length) (h:¬ 0≤fU t):∀ v:Int,0≤v→v < (aN t).length→∀ w∈aQ t v,0≤w∧w < (aN t).length:=by
 intro v h0 h1 w hw;have e:aQ t v=(aN t)[v.toNat]'(by omega):=by unfold aQ;rw [List.getElem?_eq_getElem (by omega)];rfl
 rw [e] at hw;obtain ⟨p,hp⟩:=mM (t:=t) (Int.le_refl 0) (by show fU t < 0;omega) _ (List.getElem_mem (l:=aN t) (n:=v.toNat) (by omega));unfold cV at hp;simp only [Bool.or_eq_false_iff,Bool.not_eq_false'] at hp;have:=bU hp.1 w hw;omega
attribute [local irreducible] RW CW
set_option maxHeartbeats 16000000 in
theorem yl {t:ThV} {x:TC} {w:World} (h:gp (mem w (fun b=>¬ No b)) t x):
 Ret Tryz.prog 45 [.agg (x.th t).toArray] w (.tuple #[.int .i64 (fT t).1,.int .i64 (fT t).2]):=by
 have hle:=hq0 w;generalize hD:fT t=D;unfold fT at hD;refine Calls.enter Tryz.func45 rfl _ rfl rfl (S:=No) (H:=[]) trivial ?_;refine bZ ?_;refine aS (l:=x.th t) rfl rfl fun b1 _=>?_;refine Jd (Jd (Jb ?_));refine ar ?_;refine Ja (Je ?_);refine JA ?_;refine Jk (Jc ?_);refine aY 12 rfl (fun h1=>?_) (fun h1=>?_)
 ·rw [if_pos (.inl h1)] at hD
  subst hD
  (iterate 3 refine Jz ?_);refine Jv (Jb ?_)
  refine cn rfl ?_;refine Ja (Jd (Jd (Jb ?_)));exact aZ (rs:=[.tmp 2,.tmp 3]) (vs:=[_,_]) rfl Tryz.results45 rfl (aL.tmp rfl (aL.tmp rfl aL.nil)) fun w hw=>⟨rfl,hw.kp⟩
 refine Jy (Je ?_);refine Jy ?_;refine JA ?_;refine Jy (Jm (Jw (Jb ?_)));refine ay rfl (fun h2=>?_) (fun h2=>?_)
 ·rw [if_pos (.inr h2)] at hD
  subst hD;refine Ja (Jd (Jd (Jb ?_)));exact aZ (rs:=[.tmp 2,.tmp 3]) (vs:=[_,_]) rfl Tryz.results45 rfl (aL.tmp rfl (aL.tmp rfl aL.nil)) fun w hw=>⟨rfl,hw.kp⟩
 have h12:¬ (t.1 < 0∨4096 < t.1):=fun h=>h.elim h1 h2;rw [if_neg h12] at hD;refine al (ah ?_);refine ar ?_;refine Ja (Je ?_);refine JA ?_;refine Jg (Je ?_);refine JA ?_;refine Jj (Jb ?_);refine ay rfl (fun h3=>?_) (fun h3=>?_)
 ·rw [if_pos h3] at hD
  subst hD;refine Ja (Jd (Jd (Jb ?_)));exact aZ (rs:=[.tmp 2,.tmp 3]) (vs:=[_,_]) rfl Tryz.results45 rfl (aL.tmp rfl (aL.tmp rfl aL.nil)) fun w hw=>⟨rfl,hw.kp⟩
 rw [if_neg h3] at hD;have h3':((aH t).length:Int)=t.1:=Decidable.of_not_not h3;refine al (ah ?_);refine ar ?_;refine Ja ?_;refine JE ?_;refine aD Tryz.call73 rfl (fun w2 hw=>Av (h.mono (au hw)) h3'.symm) rfl ?_;refine Jd (Jb (Ja (Jc (Jn (Jb ?_)))));refine ay rfl (fun h4=>?_) (fun h4=>?_)
 ·rw [if_pos h4] at hD
  subst hD;refine Ja (Jc (Jd (Jd (Jb ?_))));exact aZ (rs:=[.tmp 2,.tmp 3]) (vs:=[_,_]) rfl Tryz.results45 rfl (aL.tmp rfl (aL.tmp rfl aL.nil)) fun w hw=>⟨rfl,hw.kp⟩
 rw [if_neg h4] at hD;refine al (ah ?_);refine ar ?_;refine Ja (Je ?_);refine JA ?_;refine Jg (Jm (Jb ?_));refine ay rfl (fun h5=>?_) (fun h5=>?_)
 ·rw [if_pos h5] at hD
  subst hD;refine Ja (Jd (Jd (Jb ?_)));exact aZ (rs:=[.tmp 2,.tmp 3]) (vs:=[_,_]) rfl Tryz.results45 rfl (aL.tmp rfl (aL.tmp rfl aL.nil)) fun w hw=>⟨rfl,hw.kp⟩
 rw [if_neg h5] at hD;refine al (ah ?_);refine ar ?_;refine Ja (Je ?_);refine JA ?_;refine Jg (Jc (Jb ?_));have hrs:=aP h.rules;unfold br at hrs;refine ak ?_;refine aI (ι:={ q:Nat // q≤(ao t).length∧dp t.1 (ao t) 0=dp t.1 ((ao t).drop q) q }) (fun q=>[(1,aK b1),(33,.slice x.A2 (ao t).length x.c2),(34,.int .i64 (ao t).length),(35,.int .i64 q.1)]) (fun _=>[blk b1 (x.th t) 25]) (fun q=>(ao t).length - q.1) ⟨0,Nat.zero_le _,rfl⟩ ⟨rfl,rfl,rfl,rfl,trivial⟩ (fun h=>h) ?_;intro ⟨q,hq,hS⟩;dsimp only at hq hS ⊢;refine Ja (Jk (Jb ?_));refine ar ?_;refine ay rfl (fun hlt=>?_) (fun hge=>?_)
 ·have hlt':q < (ao t).length:=by omega
  rw [List.drop_eq_getElem_cons hlt',dp] at hS;obtain ⟨B,O,A2,c2,hA,hm,hl,_,_⟩:=iu h.rules (List.getElem?_eq_getElem hlt');generalize (ao t)[q]=r at *;refine al (ah ?_);refine ar ?_;refine ak ?_;refine Ja (Jc ?_);refine aa hA rfl rfl (by omega) hlt rfl ?_;refine dF (cs:=bJ r A2 c2) rfl hle (fun j v hj=>by have:=hm j v hj;simpa using this) rfl rfl (Nat.zero_lt_succ _) rfl ?_;refine cH (c:=bJ (0,0,[]) none 0) rfl rfl fun b6 _=>?_;refine Jd ?_;refine aX [] rfl rfl (vs:=bJ r A2 c2) rfl rfl rfl (by simp [Value.oneCell']) ?_;refine Jb (Ja ?_);refine JF ?_;refine JE ?_;refine aD Tryz.call74 rfl (fun w2 hw=>zy (hl.mono (au hw))) rfl ?_;refine Js (Jb ?_);cases h6:eX t.1 r with
  | false=>
   rw [h6,if_neg (by decide)] at hS;rw [hS,if_pos (by omega)] at hD;subst hD;refine cn rfl ?_;refine Ja (Jc (Jd (Jd (Jb ?_))));exact aZ (rs:=[.tmp 2,.tmp 3]) (vs:=[_,_]) rfl Tryz.results45 rfl (aL.tmp rfl (aL.tmp rfl aL.nil)) fun w hw=>⟨rfl,hw.kp⟩
  | true=>
  rw [h6,if_pos rfl] at hS;refine ch rfl ?_;refine al (ah ?_);refine aj ?_;refine Ka ?_;refine Jc ?_;refine aq ?_;exact kc ⟨q + 1,hlt',hS⟩ [1] ⟨rfl,rfl,rfl,rfl,trivial⟩ rfl (by show (ao t).length - (q + 1) < (ao t).length - q;omega)
 have hge':(ao t).length≤q:=by omega
 rw [List.drop_eq_nil_of_le hge',dp] at hS;have h6:¬ 0≤dp t.1 (ao t) 0:=by omega
 rw [if_neg h6] at hD;have hok:=j6.of h12 h3' h4 h5 h6;refine aG rfl (ah ?_);refine ar ?_;refine Ja ?_;refine JE ?_;refine aD Tryz.call75 rfl (fun w2 hw=>wN (h.mono (au hw)) hok) rfl ?_;refine Jm (Jb ?_);refine ay rfl (fun h7=>?_) (fun h7=>?_)
 ·rw [if_pos h7] at hD
  subst hD;refine Ja (Jd (Jd (Jb ?_)));exact aZ (rs:=[.tmp 2,.tmp 3]) (vs:=[_,_]) rfl Tryz.results45 rfl (aL.tmp rfl (aL.tmp rfl aL.nil)) fun w hw=>⟨rfl,hw.kp⟩
 rw [if_neg h7] at hD;refine al (ah ?_);refine ar ?_;refine Ja (Je ?_);refine JA ?_;refine Jg (Je ?_);refine JA ?_;refine Jg (Jj (Jb ?_));refine ay rfl (fun h8=>?_) (fun h8=>?_)
 ·rw [if_pos h8] at hD
  subst hD;refine Ja (Jd (Jd (Jb ?_)));exact aZ (rs:=[.tmp 2,.tmp 3]) (vs:=[_,_]) rfl Tryz.results45 rfl (aL.tmp rfl (aL.tmp rfl aL.nil)) fun w hw=>⟨rfl,hw.kp⟩
 rw [if_neg h8] at hD;refine al (ah ?_);refine ar ?_;refine Ja ?_;refine JE ?_;have h8':((aN t).length:Int)=(ao t).length:=Decidable.of_not_not h8;refine aD Tryz.call76 rfl (fun w2 hw=>yy (h.mono (au hw)) hok (by omega)) rfl ?_;refine Jd (Jb (Ja (Jc (Jn (Jb ?_)))));refine ay rfl (fun h9=>?_) (fun h9=>?_)
 ·rw [if_pos h9] at hD
  subst hD;refine Ja (Jc (Jd (Jd (Jb ?_))));exact aZ (rs:=[.tmp 2,.tmp 3]) (vs:=[_,_]) rfl Tryz.results45 rfl (aL.tmp rfl (aL.tmp rfl aL.nil)) fun w hw=>⟨rfl,hw.kp⟩
 rw [if_neg h9] at hD;refine al (ah ?_);refine ar ?_;refine Ja ?_;refine JE ?_;have hin:=uf h8' h9;refine aD Tryz.call77 rfl (fun w2 hw=>vl (h.mono (au hw)) (by omega) (by omega) hin (xG hin)) rfl ?_;refine Jd (Jb (Ja (Jc (Jn (Jb ?_)))));refine ay rfl (fun h10=>?_) (fun h10=>?_)
 ·rw [if_pos h10] at hD
  subst hD;refine Ja (Jc (Jd (Jd (Jb ?_))));exact aZ (rs:=[.tmp 2,.tmp 3]) (vs:=[_,_]) rfl Tryz.results45 rfl (aL.tmp rfl (aL.tmp rfl aL.nil)) fun w hw=>⟨rfl,hw.kp⟩
 rw [if_neg h10] at hD;subst hD;refine JM ?_;refine Ja (Jd (Jd (Jb ?_)));exact aZ (rs:=[.tmp 2,.tmp 3]) (vs:=[_,_]) rfl Tryz.results45 rfl (aL.tmp rfl (aL.tmp rfl aL.nil)) fun w hw=>⟨rfl,hw.kp⟩
theorem nt {t:ThV} {x:TC} {A:Option Addr} {c:Nat} {l:List Int} {w:World} (h:Rd cO (mem w (fun b=>¬ No b)) [.slice A l.length c] l):Ret Tryz.prog 46 [.agg (x.th t).toArray,.slice A l.length c] w (.int .i64 (if bg l t.1=true then 0 else 181)):=by
 refine Calls.enter Tryz.func46 rfl _ rfl rfl (S:=No) (H:=[]) trivial ?_;refine bZ ?_;refine aS (l:=x.th t) rfl rfl fun b2 _=>?_;refine Jd (Jb ?_);refine ar ?_;refine Ja (Jc (Je ?_));refine JA ?_;refine aD Tryz.call78 rfl (fun w2 hw=>iK (h.mono (au hw))) rfl ?_;cases h1:bg l t.1 with
 | false=>
  refine Js (Jb ?_);refine cn rfl ?_;refine Ja (Jd (Jb ?_));exact aw rfl Tryz.results46 rfl rfl fun w hw=>⟨rfl,hw.kp⟩
 | true=>
  refine Js (Jb ?_);refine ch rfl ?_;refine JM ?_;refine Ja (Jd (Jb ?_));exact aw rfl Tryz.results46 rfl rfl fun w hw=>⟨rfl,hw.kp⟩
end
section
attribute [local irreducible] RW CW
theorem rG {A:Option Addr} {c:Nat} {l:List Int} {v:Int} {w:World} (h:Rd cO (mem w (fun b=>¬ No b)) [.slice A l.length c] l):Ret Tryz.prog 57 [.slice A l.length c,.int .i64 v] w (.bool (decide (v∈l))):=by
 have hsm:=aP h;unfold br at hsm;have hle:=hq0 w;refine Calls.enter Tryz.func57 rfl _ rfl rfl (S:=No) (H:=[]) trivial ?_;refine Ja (Jd (Jb ?_));refine ar ?_;refine Ja (Jd (Jb ?_));refine ak ?_;refine aI (ι:={ k:Nat // k≤l.length∧∀ x∈l.take k,x≠v }) (fun k=>[(0,.slice A l.length c),(1,.int .i64 v),(5,.int .i64 k.1)]) (fun _=>[]) (fun k=>l.length - k.1) ⟨0,Nat.zero_le _,fun x hx=>by simp at hx⟩ ⟨rfl,rfl,rfl,trivial⟩ (fun h=>h) ?_;intro ⟨k,hk,hS⟩;dsimp only at hk hS ⊢;refine ar ?_;refine Ja (Jc (Jc (Jg (Jk (Jb ?_)))));refine ay rfl (fun hlt=>?_) (fun hge=>?_);rotate_left
 ·refine aG rfl (ah ?_)
  refine Ja (Jd (Jb ?_));refine aw rfl Tryz.results57 rfl rfl fun w hw=>⟨?_,hw.kp⟩;rw [List.take_of_length_le (by omega)] at hS;rw [decide_eq_false (fun hm=>hS v hm rfl)]
 have hlt':k < l.length:=by omega
 obtain ⟨B,O,hA,hm,_⟩:=aR h (List.getElem?_eq_getElem hlt');refine al (ah ?_);refine ar ?_;refine ak ?_;refine Ja (Jc (Jc ?_));refine aa hA rfl rfl (by omega) hlt rfl ?_;refine ac rfl hle (aT hm) rfl rfl ?_;refine Jc (Ji (Jb ?_));refine ay rfl (fun h1=>?_) (fun h1=>?_)
 ·refine Ja (Jd (Jb ?_))
  refine aw rfl Tryz.results57 rfl rfl fun w hw=>⟨?_,hw.kp⟩;rw [decide_eq_true (show v∈l from h1 ▸ List.getElem_mem hlt')]
 refine al (ah ?_);refine aj (Jc ?_);refine Ka ?_;refine Jd (aq ?_);refine bp ⟨k + 1,hlt',fun x hx=>?_⟩ ⟨rfl,rfl,rfl,trivial⟩ (fun h=>h) (by show l.length - (k + 1) < l.length - k;omega);rw [List.take_add_one,List.getElem?_eq_getElem hlt',List.mem_append] at hx;rcases hx with hx | hx
 ·exact hS x hx
 ·simp at hx
  subst hx;exact h1
theorem oP {A:Option Addr} {c:Nat} {l:List Int} {v:Int} {w:World} (h:Rd cO (mem w (fun b=>¬ No b)) [.slice A l.length c] l):Ret Tryz.prog 145 [.slice A l.length c,.int .i64 v] w (.bool (decide (v∈l))):=by
 have hsm:=aP h;unfold br at hsm;have hle:=hq0 w;refine Calls.enter Tryz.func145 rfl _ rfl rfl (S:=No) (H:=[]) trivial ?_;refine Ja (Jd (Jb ?_));refine ar ?_;refine Ja (Jd (Jb ?_));refine ak ?_;refine aI (ι:={ k:Nat // k≤l.length∧∀ x∈l.take k,x≠v }) (fun k=>[(0,.slice A l.length c),(1,.int .i64 v),(5,.int .i64 k.1)]) (fun _=>[]) (fun k=>l.length - k.1) ⟨0,Nat.zero_le _,fun x hx=>by simp at hx⟩ ⟨rfl,rfl,rfl,trivial⟩ (fun h=>h) ?_;intro ⟨k,hk,hS⟩;dsimp only at hk hS ⊢;refine ar ?_;refine Ja (Jc (Jc (Jg (Jk (Jb ?_)))));refine ay rfl (fun hlt=>?_) (fun hge=>?_);rotate_left
 ·refine aG rfl (ah ?_)
  refine Ja (Jd (Jb ?_));refine aw rfl Tryz.results145 rfl rfl fun w hw=>⟨?_,hw.kp⟩;rw [List.take_of_length_le (by omega)] at hS;rw [decide_eq_false (fun hm=>hS v hm rfl)]
 have hlt':k < l.length:=by omega
 obtain ⟨B,O,hA,hm,_⟩:=aR h (List.getElem?_eq_getElem hlt');refine al (ah ?_);refine ar ?_;refine ak ?_;refine Ja (Jc (Jc ?_));refine aa hA rfl rfl (by omega) hlt rfl ?_;refine ac rfl hle (aT hm) rfl rfl ?_;refine Jc (Ji (Jb ?_));refine ay rfl (fun h1=>?_) (fun h1=>?_)
 ·refine Ja (Jd (Jb ?_))
  refine aw rfl Tryz.results145 rfl rfl fun w hw=>⟨?_,hw.kp⟩;rw [decide_eq_true (show v∈l from h1 ▸ List.getElem_mem hlt')]
 refine al (ah ?_);refine aj (Jc ?_);refine Ka ?_;refine Jd (aq ?_);refine bp ⟨k + 1,hlt',fun x hx=>?_⟩ ⟨rfl,rfl,rfl,trivial⟩ (fun h=>h) (by show l.length - (k + 1) < l.length - k;omega);rw [List.take_add_one,List.getElem?_eq_getElem hlt',List.mem_append] at hx;rcases hx with hx | hx
 ·exact hS x hx
 ·simp at hx
  subst hx;exact h1
set_option maxHeartbeats 2000000 in
theorem gQ {A:Option Addr} {c:Nat} {l:List Int} {n:Int} {w:World} (h:Rd cO (mem w (fun b=>¬ No b)) [.slice A l.length c] l):Ret Tryz.prog 56 [.slice A l.length c,.int .i64 n] w (.bool (bg l n)):=by
 have hsm:=aP h;unfold br at hsm;have hle:=hq0 w;refine Calls.enter Tryz.func56 rfl _ rfl rfl (S:=No) (H:=[]) trivial ?_;refine Ja (Jd (Jb ?_));refine ar ?_;refine Ja (Jd (Jb ?_));refine ak ?_;refine aI (ι:={ k:Nat // k≤l.length∧bg l n=du n (dP l k) (l.drop k) }) (fun k=>[(0,.slice A l.length c),(1,.int .i64 n),(5,.int .i64 k.1)]) (fun _=>[]) (fun k=>l.length - k.1) ⟨0,Nat.zero_le _,rfl⟩ ⟨rfl,rfl,rfl,trivial⟩ (fun h=>h) ?_;intro ⟨k,hk,hS⟩;dsimp only at hk hS ⊢;refine ar ?_;refine Ja (Jc (Jc (Jg (Jk (Jb ?_)))));refine ay rfl (fun hlt=>?_) (fun hge=>?_);rotate_left
 ·have hge':l.length≤k:=by omega
  rw [List.drop_eq_nil_of_le hge'] at hS;refine aG rfl (ah ?_);refine Ja (Jd (Jb ?_));exact aw rfl Tryz.results56 rfl rfl fun w hw=>⟨by rw [hS];rfl,hw.kp⟩
 have hlt':k < l.length:=by omega
 rw [lZ hlt'] at hS;obtain ⟨B,O,hA,hm,_⟩:=aR h (List.getElem?_eq_getElem hlt');have bad:¬ (0≤l[k]∧l[k] < n∧dP l k < l[k])→bg l n=false:=fun h=>by rw [hS,decide_eq_false h];rfl
 have good:(0≤l[k]∧l[k] < n∧dP l k < l[k])→bg l n=du n (dP l (k + 1)) (l.drop (k + 1)):=fun h=>by rw [hS,decide_eq_true h];rfl
 have hp0:k=0→dP l k=-1:=fun h=>by unfold dP;rw [if_pos h]
 have hp1:0 < k→∃ v,l[k - 1]?=some v∧dP l k=v:=fun h=>by
  refine ⟨l[k - 1],List.getElem?_eq_getElem (by omega),?_⟩;unfold dP;rw [if_neg (by omega),List.getD_eq_getElem?_getD,List.getElem?_eq_getElem (by omega)]
  rfl
 generalize hx:l[k]=x at *;refine al (ah ?_);refine ar ?_;refine ak ?_;refine bR (by kernel_rfl) rfl ?_;refine Xc (Xc ?_);refine Aw (fun _ _=>aa hA rfl rfl (by omega) hlt rfl Dn) ?_;refine Aw (fun _ _=>ac rfl hle (aT hm) rfl rfl Dn) ?_;refine Aw (fun _ _=>Jk Dn) ?_;refine Xc ?_;by_cases h1:x < 0
 ·rw [decide_eq_true h1]
  (iterate 6 refine Aw (fun _ _=>Jz Dn) ?_);refine Aw (fun _ _=>Jv Dn) ?_;refine Xc ?_;(iterate 14 refine Aw (fun _ _=>Jz Dn) ?_);refine Aw (fun _ _=>Jv Dn) ?_
  refine Aq fun bs=>?_;refine Jb ?_;refine cn rfl ?_;refine Ja (Jd (Jb ?_));exact aw rfl Tryz.results56 rfl rfl fun w hw=>⟨by rw [bad (by omega)],hw.kp⟩
 rw [decide_eq_false h1];refine Aw (fun _ _=>aJ rfl (Jc Dn)) ?_;refine Aw (fun _ _=>aJ rfl (Jc Dn)) ?_;refine Aw (fun _ _=>aJ rfl (aa hA rfl rfl (by omega) hlt rfl Dn)) ?_;refine Aw (fun _ _=>aJ rfl (ac rfl hle (aT hm) rfl rfl Dn)) ?_;refine Aw (fun _ _=>aJ rfl (Jc Dn)) ?_;refine Aw (fun _ _=>aJ rfl (Jn Dn)) ?_;refine Aw (fun _ _=>Jw Dn) ?_;refine Xc ?_;by_cases h2:x ≥ n
 ·rw [decide_eq_true h2]
  (iterate 14 refine Aw (fun _ _=>Jz Dn) ?_);refine Aw (fun _ _=>Jv Dn) ?_
  refine Aq fun bs=>?_;refine Jb ?_;refine cn rfl ?_;refine Ja (Jd (Jb ?_));exact aw rfl Tryz.results56 rfl rfl fun w hw=>⟨by rw [bad (by omega)],hw.kp⟩
 rw [decide_eq_false h2];refine Aw (fun _ _=>aJ rfl (Jc Dn)) ?_;refine Aw (fun _ _=>aJ rfl (Jm Dn)) ?_;refine Aw (fun _ _=>aJ rfl (Jc Dn)) ?_;by_cases h3:(k:Int) > 0
 ·rw [decide_eq_true h3]
  obtain ⟨v,hv,hpv⟩:=hp1 (by omega);obtain ⟨B1,O1,hA1,hm1,_⟩:=aR h hv;refine Aw (fun _ _=>aJ rfl (Jc Dn)) ?_;refine Aw (fun _ _=>aJ rfl (Jc Dn)) ?_;refine Aw (fun _ _=>aJ rfl (aa hA rfl rfl (by omega) hlt rfl Dn)) ?_;refine Aw (fun _ _=>aJ rfl (ac rfl hle (aT hm) rfl rfl Dn)) ?_;refine Aw (fun _ _=>aJ rfl (Jc Dn)) ?_;refine Aw (fun _ _=>aJ rfl (Jc Dn)) ?_;refine Aw (fun _ _=>aJ rfl (eG rfl rfl (w64 (by omega) (by omega)) rfl Dn)) ?_;refine Aw (fun _ _=>aJ rfl (aa hA1 rfl rfl (by omega) (by omega) rfl Dn)) ?_;refine Aw (fun _ _=>aJ rfl (ac (v:=.int .i64 v) rfl hle (by rw [show ((k:Int) - 1).toNat=k - 1 by omega,Nat.mul_one];exact hm1) rfl rfl Dn)) ?_;refine Aw (fun _ _=>aJ rfl (Jl Dn)) ?_;refine Aw (fun _ _=>aJ rfl (Jv Dn)) ?_;refine Aw (fun _ _=>Jw Dn) ?_;refine Aq fun bs=>?_;refine Jb ?_;refine ay rfl (fun h4=>?_) (fun h4=>?_)
  ·refine Ja (Jd (Jb ?_))
   exact aw rfl Tryz.results56 rfl rfl fun w hw=>⟨by rw [bad (by omega)],hw.kp⟩
  refine al (ah ?_);refine aj (Jc ?_);refine Ka ?_;refine Jd (aq ?_);exact Pa ⟨k + 1,hlt',good (by omega)⟩
 ·rw [decide_eq_false h3]
  (iterate 10 refine Aw (fun _ _=>Jz Dn) ?_);refine Aw (fun _ _=>aJ rfl (Jw Dn)) ?_;refine Aw (fun _ _=>Jw Dn) ?_
  refine Aq fun bs=>?_;refine Jb ?_;refine ch rfl ?_;refine al (ah ?_);refine aj (Jc ?_);refine Ka ?_;refine Jd (aq ?_);exact Pa ⟨k + 1,hlt',good (by have:=hp0 (by omega);omega)⟩
end
section
def g9 (k:IntKind) (a b:Int):Int:=k.wrap (BitVec.ofInt k.bits a &&& BitVec.ofInt k.bits b).toNat
def dT (k:IntKind) (a b:Int):Int:=k.wrap (BitVec.ofInt k.bits a ||| BitVec.ofInt k.bits b).toNat
def kY (k:IntKind) (a b:Int):Int:=k.wrap (a * 2 ^ (min b.toNat k.bits))
def FH (k:IntKind) (a b:Int):Int:=a.fdiv (2 ^ (min b.toNat k.bits))
section
variable {P:Program} {E:Env} {ops:Array Oper} {Q:Pst} {rest:List Oper} {G:List (Nat × Value)} {H:List HP}
variable {dst:Nat} {ty t ty':TypeId} {pos:String} {af:Array Edge} {x y:Operand} {k k2:IntKind} {a b c:Int}
theorem jp (hx:ev G x=some (.int k a)) (hy:ev G y=some (.int k b)) (hw:g9 k a b=c) (hN:Nat.blt dst E.N=true) (kk:RW P E ops Q rest ((dst,.int k c)::G) H):
 RW P E ops Q (⟨some dst,.binOp .and t x y ty',ty,pos,af,none⟩::rest) G H:=
 b8 hN (fun f w hf _=>by subst hw;simp [execOp,hf.eval hx,hf.eval hy,aW,binOp,Op.intBits,g9]) kk
theorem B9 (hx:ev G x=some (.int k a)) (hy:ev G y=some (.int k b)) (hw:dT k a b=c) (hN:Nat.blt dst E.N=true) (kk:RW P E ops Q rest ((dst,.int k c)::G) H):
 RW P E ops Q (⟨some dst,.binOp .or t x y ty',ty,pos,af,none⟩::rest) G H:=
 b8 hN (fun f w hf _=>by subst hw;simp [execOp,hf.eval hx,hf.eval hy,aW,binOp,Op.intBits,dT]) kk
theorem BZ (hx:ev G x=some (.int k a)) (hy:ev G y=some (.int k2 b)) (h0:0≤b) (hw:kY k a b=c) (hN:Nat.blt dst E.N=true) (kk:RW P E ops Q rest ((dst,.int k c)::G) H):
 RW P E ops Q (⟨some dst,.binOp .shl t x y ty',ty,pos,af,none⟩::rest) G H:=
 b8 hN (fun f w hf _=>by
  subst hw;have h1:¬ b < 0:=by omega
  simp only [execOp,hf.eval hx,hf.eval hy,Sem.run_bind,aW,Result.andThen,binOp,Op.shift,if_neg h1]
  rfl) kk
theorem BY (hx:ev G x=some (.int k a)) (hy:ev G y=some (.int k2 b)) (h0:0≤b) (hw:FH k a b=c) (hN:Nat.blt dst E.N=true) (kk:RW P E ops Q rest ((dst,.int k c)::G) H):
 RW P E ops Q (⟨some dst,.binOp .shr t x y ty',ty,pos,af,none⟩::rest) G H:=
 b8 hN (fun f w hf _=>by
  subst hw;have h1:¬ b < 0:=by omega
  simp only [execOp,hf.eval hx,hf.eval hy,Sem.run_bind,aW,Result.andThen,binOp,Op.shift,if_neg h1]
  rfl) kk
end
end
end Go.Proofs.YtbcdgcodnkgdoaaGreat
namespace Go.Proofs.YtbcdgcodnkgdoaaGreat
open Go Go.RowKit
structure En where
 marks:List Int
 told:List (Int × Int)
 qd:Int
 up:Int
 needD:List Int
 need:List Int
 deadD:List Bool
 dead:List Bool
 strict:List Int
 backs:List Int
 backed:List Bool
 opn:List Int
 clash:List Bool
 attacks:List Int
 standing:List Bool
 pairs:List (Int × Int × Bool × Int)
structure Es where
 t:ThV
 inn:List (List Int)
 of:List (List Int)
 beats:List (List Int)
namespace En
abbrev w64 (x:Int):Int:=IntKind.i64.wrap x
def bit (m k:Int):Bool:=decide (g9 .u8 (FH .u8 m (k - 1)) 1=1)
def has (e:En) (q k:Int):Bool:=bit (e.marks.getD q.toNat 0) k
def ups (e:En) (k:Int):En:={ e with up:=w64 (e.up + k) }
def tell (e:En) (q k:Int):En:=if e.has q k then e else
 { e with marks:=e.marks.set q.toNat (dT .u8 (e.marks.getD q.toNat 0) (kY .u8 1 (k - 1))),told:=e.told++[(q,k)],qd:=w64 (e.qd + 1),up:=w64 (e.up + 2) }
def look1 (e:En) (q:Int):En:=if e.has q 1 || (e.backed.getD q.toNat false&&(e.opn.getD q.toNat 0 == 0)&&(e.attacks.getD q.toNat 0 == 0)) then e.tell q 3 else e
def look2 (e:En) (q:Int):En:=if e.has q 2&&((e.backs.getD q.toNat 0 == 0) || e.clash.getD q.toNat false || e.standing.getD q.toNat false) then e.tell q 4 else e
def look (e:En) (q:Int):En:=(e.look1 q).look2 q
def pair (e:En) (p:Int):Int × Int × Bool × Int:=e.pairs.getD p.toNat (0,0,false,0)
def dec (l:List Int) (q:Int):List Int:=l.set q.toNat (w64 (l.getD q.toNat 0 - 1))
def settle (e:En) (p:Int):En:=if (e.pair p).2.2.1 then e else
 (({ e with pairs:=e.pairs.set p.toNat ((e.pair p).1,(e.pair p).2.1,true,(e.pair p).2.2.2),attacks:=dec e.attacks (e.pair p).1 }).ups 2).look (e.pair p).1
def stand (e:En) (p:Int):En:=if (e.need.getD (e.pair p).2.1.toNat 0 == 0)&&((e.pair p).2.2.2 == 0)&&!e.standing.getD (e.pair p).1.toNat false then
 (({ e with standing:=e.standing.set (e.pair p).1.toNat true }).ups 1).look (e.pair p).1 else e
end En
def cZ (t:ThV) (r:Int):Bool:=!((ai t r).1 == 3)
abbrev ap (l:List (List Int)) (r:Int):List Int:=l.getD r.toNat []
namespace En
def fire1 (s:Es) (e:En) (r:Int):En:=if cZ s.t r then
 let q:=(ai s.t r).2.1
 let e:=if e.backed.getD q.toNat false then e else ({ e with backed:=e.backed.set q.toNat true }).ups 1
 ((ap s.beats r).foldl settle e).look q
 else e
def fire (s:Es) (e:En) (r:Int):En:=(ap s.of r).foldl stand (fire1 s e r)
def long (s:Es) (r:Int):Bool:=decide (1 < (ai s.t r).2.2.length)
def upL (s:Es) (e:En) (r:Int):En:=if long s r then e.ups 1 else e
def lowerD (s:Es) (e:En) (r:Int):En:=({ e with needD:=dec e.needD r }).upL s r
def lower (s:Es) (e:En) (r:Int):En:=({ e with need:=dec e.need r }).upL s r
def onPlusD1 (s:Es) (e:En) (r:Int):En:=if (ai s.t r).1 == 1 then
 let e:=lowerD s e r
 if e.needD.getD r.toNat 0 == 0 then e.tell (ai s.t r).2.1 1 else e
 else e
def onPlusD2 (e:En) (f:Int):En:=if decide (0 < e.backs.getD f.toNat 0)&&!e.clash.getD f.toNat false then (({ e with clash:=e.clash.set f.toNat true }).ups 1).look f else e
def onPlusD (s:Es) (e:En) (q:Int):En:=(((ap (aH s.t) q).foldl onPlusD2 ((ap s.inn q).foldl (onPlusD1 s) e))).look q
def onNoD1 (s:Es) (e:En) (r:Int):En:=if (ai s.t r).1 == 1&&!e.deadD.getD r.toNat false then
 let e:=({ e with deadD:=e.deadD.set r.toNat true }).upL s r
 let h:=(ai s.t r).2.1
 let e:=({ e with strict:=dec e.strict h }).ups 1
 if e.strict.getD h.toNat 0 == 0 then e.tell h 2 else e
 else e
def onNoD (s:Es) (e:En) (q:Int):En:=((ap s.inn q).foldl (onNoD1 s) e).look q
def onLate1 (e:En) (f:Int):En:=if decide (0 < e.backs.getD f.toNat 0) || e.backed.getD f.toNat false then (({ e with opn:=dec e.opn f }).ups 1).look f else e
def onLate (s:Es) (e:En) (q:Int):En:=onNoD s ((ap (aH s.t) q).foldl onLate1 e) q
def onPlus1 (s:Es) (e:En) (r:Int):En:=
 let e:=lower s e r
 if e.need.getD r.toNat 0 == 0 then fire s e r else e
def onPlus (s:Es) (e:En) (q:Int):En:=(ap s.inn q).foldl (onPlus1 s) e
def onMinus2 (e:En) (p:Int):En:=(({ e with pairs:=e.pairs.set p.toNat ((e.pair p).1,(e.pair p).2.1,(e.pair p).2.2.1,w64 ((e.pair p).2.2.2 - 1)) }).ups 1).stand p
def onMinus1 (s:Es) (e:En) (r:Int):En:=if e.dead.getD r.toNat false then e else
 let e:=({ e with dead:=e.dead.set r.toNat true }).upL s r
 let e:=(ap s.of r).foldl settle e
 if cZ s.t r then
  let h:=(ai s.t r).2.1
  let e:=({ e with backs:=dec e.backs h }).ups 1
  ((ap s.beats r).foldl onMinus2 e).look h
 else e
def onMinus (s:Es) (e:En) (q:Int):En:=(ap s.inn q).foldl (onMinus1 s) e
def does (s:Es) (first:Nat) (i:Nat) (e:En) (p:Int × Int):En:=
 if p.2 == 2 then (if first≤i then onLate s e p.1 else onNoD s e p.1)
 else if p.2 == 1 then onPlusD s e p.1
 else if p.2 == 3 then onPlus s e p.1
 else onMinus s e p.1
def work (s:Es) (first:Nat):Nat→Nat→En→En
 | 0,_,e=>e
 | k + 1,i,e=>match e.told[i]? with
  | none=>e
  | some p=>work s first k (i + 1) (does s first i (e.ups 1) p)
end En
end Go.Proofs.YtbcdgcodnkgdoaaGreat
namespace Go.Proofs.YtbcdgcodnkgdoaaGreat
open Go Go.RowKit
section
structure EAd where
 (m nd nn dd dx st bk bd op cl at_ sd:Nat)
structure ECs where
 s:Es
 x:TC
 first:Int
 (iA oA bA pA:Option Addr)
 (ic oc bc pc np:Nat)
abbrev slV (b n:Nat):Value:=.slice (some ⟨b,0,none⟩) n n
abbrev enC (a:EAd) (z:ECs) (n m:Nat) (sv:Value) (qd up:Int):List Value:=
 [.int .i64 z.s.t.1,.slice z.x.A1 (aH z.s.t).length z.x.c1,.slice z.x.A2 (ao z.s.t).length z.x.c2,.slice z.x.A3 (aN z.s.t).length z.x.c3,
  slV a.m n,sv,.int .i64 z.first,.int .i64 qd,.int .i64 up,.slice z.iA n z.ic,slV a.nd m,slV a.nn m,slV a.dd m,slV a.dx m,slV a.st n,slV a.bk n,slV a.bd n,slV a.op n,slV a.cl n,slV a.at_ n,slV a.sd n,.slice z.pA z.np z.pc,.slice z.oA m z.oc,.slice z.bA m z.bc]
abbrev gD (x:Int):List Value:=[.int .u8 x]
abbrev ku (p:Int × Int):List Value:=[.int .i64 p.1,.int .i64 p.2]
abbrev fx (p:Int × Int × Bool × Int):List Value:=[.int .i64 p.1,.int .i64 p.2.1,.bool p.2.2.1,.int .i64 p.2.2.2]
abbrev enR (a:EAd) (z:ECs) (n m:Nat) (sv:Value) (e:En):List HP:=
 [ax 45 1 (slV a.m n) (e.marks.map gD),ax 111 2 sv (e.told.map ku),ax 3 1 (slV a.nd m) (e.needD.map bY),ax 3 1 (slV a.nn m) (e.need.map bY),ax 4 1 (slV a.dd m) (e.deadD.map bu),ax 4 1 (slV a.dx m) (e.dead.map bu),
  ax 3 1 (slV a.st n) (e.strict.map bY),ax 3 1 (slV a.bk n) (e.backs.map bY),ax 4 1 (slV a.bd n) (e.backed.map bu),ax 3 1 (slV a.op n) (e.opn.map bY),ax 4 1 (slV a.cl n) (e.clash.map bu),ax 3 1 (slV a.at_ n) (e.attacks.map bY),ax 4 1 (slV a.sd n) (e.standing.map bu),ax 148 4 (.slice z.pA z.np z.pc) (e.pairs.map fx)]
abbrev enH (be:Nat) (a:EAd) (z:ECs) (n m:Nat) (sv:Value) (e:En):List HP:=blk be (enC a z n m sv e.qd e.up) 73::enR a z n m sv e
def mW (x:Int):Nat:=(cond (En.bit x 1) 1 0) + (cond (En.bit x 2) 1 0) + (cond (En.bit x 3) 1 0) + (cond (En.bit x 4) 1 0)
def gn:List Int→Nat
 | []=>0
 | x::r=>mW x + gn r
structure aE (n m np:Nat) (e:En):Prop where
 marks:e.marks.length=n
 needD:e.needD.length=m
 need:e.need.length=m
 deadD:e.deadD.length=m
 dead:e.dead.length=m
 strict:e.strict.length=n
 backs:e.backs.length=n
 backed:e.backed.length=n
 opn:e.opn.length=n
 clash:e.clash.length=n
 attacks:e.attacks.length=n
 standing:e.standing.length=n
 pairs:e.pairs.length=np
 mks:∀ x∈e.marks,0≤x∧x < 16
 pr:∀ p∈e.pairs,(0≤p.1∧p.1 < n)∧(0≤p.2.1∧p.2.1 < m)
 td:∀ p∈e.told,(0≤p.1∧p.1 < n)∧(1≤p.2∧p.2≤4)
 cnt:e.told.length=gn e.marks
 qd:e.qd=e.told.length
structure fJ (n m np:Nat) (s:Es):Prop where
 lits:s.t.1=n
 foes:(aH s.t).length=n
 rules:(ao s.t).length=m
 inn:s.inn.length=n
 of:s.of.length=m
 beats:s.beats.length=m
 small:n≤4096∧m≤4096
 inn2:∀ l∈s.inn,∀ r∈l,0≤r∧r < m
 of2:∀ l∈s.of,∀ p∈l,0≤p∧p < np
 beats2:∀ l∈s.beats,∀ p∈l,0≤p∧p < np
 foes2:∀ l∈aH s.t,∀ f∈l,0≤f∧f < n
 head:∀ r∈ao s.t,0≤r.2.1∧r.2.1 < n
structure sT (M:Mem) (n m:Nat) (z:ECs):Prop where
 th:gp M z.s.t z.x
 inn:Rd en M [.slice z.iA n z.ic] z.s.inn
 of:Rd en M [.slice z.oA m z.oc] z.s.of
 beats:Rd en M [.slice z.bA m z.bc] z.s.beats
theorem sT.mono {M M':Mem} {n m:Nat} {z:ECs} (h:sT M n m z) (hM:Mem.le M M'):sT M' n m z:=⟨h.th.mono hM,h.inn.mono hM,h.of.mono hM,h.beats.mono hM⟩
def DB (z:ECs):Prop:=z.np≠0→∃ B,z.pA=some ⟨B,0,none⟩
theorem wJ (x:Int):mW x≤4:=by
 unfold mW;cases En.bit x 1 <;> cases En.bit x 2 <;> cases En.bit x 3 <;> cases En.bit x 4 <;> decide
theorem wI:∀ (l:List Int),gn l≤4 * l.length
 | []=>Nat.le_refl _
 | x::r=>by
  have:=wI r;have:=wJ x;simp only [gn,List.length_cons];omega
theorem tf:∀ {l:List Int} {i:Nat} {x y:Int},l[i]?=some x→mW y=mW x + 1→gn (l.set i y)=gn l + 1
 | [],i,x,y,h,_=>by simp at h
 | u::l,0,x,y,h,hp=>by
  simp only [List.getElem?_cons_zero,Option.some.injEq] at h;subst h;simp only [List.set_cons_zero,gn];omega
 | u::l,i + 1,x,y,h,hp=>by
  have:=tf (l:=l) (i:=i) (by simpa using h) hp;simp only [List.set_cons_succ,gn];omega
def G6 (x k:Nat):Bool:=(List.range 4).all fun j=>En.bit (dT .u8 (x:Int) (kY .u8 1 ((k:Int) + 1 - 1))) ((j:Int) + 1) == (Nat.beq j k || En.bit (x:Int) ((j:Int) + 1))
def E7 (x k:Nat):Bool:=decide (0≤dT .u8 (x:Int) (kY .u8 1 ((k:Int) + 1 - 1)))&&decide (dT .u8 (x:Int) (kY .u8 1 ((k:Int) + 1 - 1)) < 16)
set_option maxRecDepth 100000 in
theorem Gv:((List.range 16).all fun x=>(List.range 4).all fun k=>G6 x k&&E7 x k)=true:=by decide +kernel
theorem oB {x k j:Int} (x0:0≤x) (x1:x < 16) (k0:1≤k) (k1:k≤4) (j0:1≤j) (j1:j≤4):En.bit (dT .u8 x (kY .u8 1 (k - 1))) j=(decide (j=k) || En.bit x j):=by
 have h:=List.all_eq_true.1 (List.all_eq_true.1 Gv x.toNat (List.mem_range.2 (by omega))) (k - 1).toNat (List.mem_range.2 (by omega));rw [Bool.and_eq_true] at h;have h2:=List.all_eq_true.1 h.1 (j - 1).toNat (List.mem_range.2 (by omega));have e1:((x.toNat:Nat):Int)=x:=by omega
 have e2:(((k - 1).toNat:Nat):Int) + 1 - 1=k - 1:=by omega
 have e3:(((j - 1).toNat:Nat):Int) + 1=j:=by omega
 rw [e1,e2,e3] at h2;rw [eq_of_beq h2]
 congr 1
 rw [Bool.eq_iff_iff,Nat.beq_eq,decide_eq_true_iff];omega
theorem CD {x k:Int} (x0:0≤x) (x1:x < 16) (k0:1≤k) (k1:k≤4):0≤dT .u8 x (kY .u8 1 (k - 1))∧dT .u8 x (kY .u8 1 (k - 1)) < 16:=by
 have h:=List.all_eq_true.1 (List.all_eq_true.1 Gv x.toNat (List.mem_range.2 (by omega))) (k - 1).toNat (List.mem_range.2 (by omega));rw [Bool.and_eq_true] at h;have h2:=h.2;unfold E7 at h2;have e1:((x.toNat:Nat):Int)=x:=by omega
 have e2:(((k - 1).toNat:Nat):Int) + 1 - 1=k - 1:=by omega
 rw [e1,e2] at h2
 simpa using h2
theorem Eb {x k:Int} (x0:0≤x) (x1:x < 16) (k0:1≤k) (k1:k≤4) (hb:En.bit x k=false):mW (dT .u8 x (kY .u8 1 (k - 1)))=mW x + 1:=by
 unfold mW;rw [oB x0 x1 k0 k1 (by omega) (by omega),oB x0 x1 k0 k1 (by omega) (by omega),oB x0 x1 k0 k1 (by omega) (by omega),oB x0 x1 k0 k1 (by omega) (by omega)];have hk:k=1∨k=2∨k=3∨k=4:=by omega
 rcases hk with rfl | rfl | rfl | rfl <;> rw [hb] <;> simp <;> omega
theorem getD_some {α:Type} {l:List α} {d:α} {n:Nat} {q:Int} (hl:l.length=n) (h0:0≤q) (h1:q < n):l[q.toNat]?=some (l.getD q.toNat d):=by
 rw [List.getD_eq_getElem?_getD,List.getElem?_eq_getElem (by omega)];rfl
theorem dw {α:Type} {l:List α} {d:α} {n:Nat} {q:Int} (hl:l.length=n) (h0:0≤q) (h1:q < n):l.getD q.toNat d∈l:=List.mem_of_getElem? (getD_some hl h0 h1)
section
variable {n m np:Nat} {e:En} {q k p r v:Int}
theorem aE.most (h:aE n m np e):e.told.length≤4 * n:=by
 rw [h.cnt,← h.marks];exact wI _
theorem aE.ups (h:aE n m np e):aE n m np (e.ups v):=⟨h.marks,h.needD,h.need,h.deadD,h.dead,h.strict,h.backs,h.backed,h.opn,h.clash,h.attacks,h.standing,h.pairs,h.mks,h.pr,h.td,h.cnt,h.qd⟩
theorem aE.tell (hn:n≤4096) (h:aE n m np e) (q0:0≤q) (q1:q < n) (k0:1≤k) (k1:k≤4):aE n m np (e.tell q k):=by
 unfold En.tell;split
 ·exact h
 ·rename_i hb
  have hx:=h.mks _ (dw (d:=0) h.marks q0 q1);have hmost:=h.most;refine ⟨by simp [h.marks],h.needD,h.need,h.deadD,h.dead,h.strict,h.backs,h.backed,h.opn,h.clash,h.attacks,h.standing,h.pairs,fun x hx2=>?_,h.pr,fun p hp=>?_,?_,?_⟩
  ·rcases List.mem_or_eq_of_mem_set hx2 with hx2 | rfl
   ·exact h.mks _ hx2
   ·exact CD hx.1 hx.2 k0 k1
  ·rcases List.mem_append.1 hp with hp | hp
   ·exact h.td p hp
   ·obtain rfl:=List.mem_singleton.1 hp
    exact ⟨⟨q0,q1⟩,k0,k1⟩
  ·rw [List.length_append,List.length_singleton,h.cnt]
   exact (tf (getD_some (d:=0) h.marks q0 q1) (Eb hx.1 hx.2 k0 k1 (by simpa [En.has] using hb))).symm
  ·show En.w64 (e.qd + 1)=_
   rw [h.qd,List.length_append,List.length_singleton];exact w64 (by omega) (by omega)
theorem aE.look1 (hn:n≤4096) (h:aE n m np e) (q0:0≤q) (q1:q < n):aE n m np (e.look1 q):=by
 unfold En.look1;split
 ·exact h.tell hn q0 q1 (by omega) (by omega)
 ·exact h
theorem aE.look2 (hn:n≤4096) (h:aE n m np e) (q0:0≤q) (q1:q < n):aE n m np (e.look2 q):=by
 unfold En.look2;split
 ·exact h.tell hn q0 q1 (by omega) (by omega)
 ·exact h
theorem aE.look (hn:n≤4096) (h:aE n m np e) (q0:0≤q) (q1:q < n):aE n m np (e.look q):=(h.look1 hn q0 q1).look2 hn q0 q1
end
end
section
def eR (t:ThV) (q:Int) (l:List Int):Bool:=decide ((l.length:Int)≤64)&&bg l t.1&&!decide (q∈l)&&gJ t q l
attribute [local irreducible] RW CW
set_option maxHeartbeats 4000000 in
theorem ww {t:ThV} {x:TC} {w:World} {q:Int} (h:gp (mem w (fun b=>¬ No b)) t x) (hn:t.1=(aH t).length) (q0:0≤q) (q1:q < ((aH t).length:Int)):Ret Tryz.prog 55 [.agg (x.th t).toArray,.int .i64 q] w (.bool (eR t q (cq t q))):=by
 have hle:=hq0 w;obtain ⟨B,O,A2,c2,hA,hm,hl⟩:=kJ h q0 q1;generalize cq t q=l at *;have hsl:=aP hl;unfold br at hsl;refine Calls.enter Tryz.func55 rfl _ rfl rfl (S:=No) (H:=[]) trivial ?_;refine bZ ?_;refine aS (l:=x.th t) rfl rfl fun b2 _=>?_;refine Jd (Jb (Ja (Je ?_)));refine JA ?_;refine Jc ?_;refine aa hA rfl rfl q0 q1 rfl ?_;refine ac rfl hle hm rfl rfl ?_;refine Jd (Jb ?_);refine ar ?_;refine Ja (Jc (Jg (Jm (Jc ?_))));refine aY 15 rfl (fun h1=>?_) (fun h1=>?_)
 ·(iterate 5 refine Jz ?_);refine Jv (Jc ?_);(iterate 3 refine Jz ?_);refine Jv (Jb ?_)
  refine cn rfl ?_;refine Ja (Jd (Jb ?_));exact aw rfl Tryz.results55 rfl rfl fun w hw=>⟨by unfold eR;rw [decide_eq_false (by omega)];rfl,hw.kp⟩
 have e1:decide ((l.length:Int)≤64)=true:=decide_eq_true (by omega);refine Jy (Jc ?_);refine Jy (Je ?_);refine Jy ?_;refine JA ?_;refine Jy ?_;refine aD Tryz.call56 rfl (fun w2 hw=>gQ (hl.mono (au hw))) rfl ?_;cases h2:bg l t.1 with
 | false=>
  refine Jy (Js (Jw (Jc ?_)));(iterate 3 refine Jz ?_);refine Jv (Jb ?_);refine cn rfl ?_;refine Ja (Jd (Jb ?_));exact aw rfl Tryz.results55 rfl rfl fun w hw=>⟨by unfold eR;rw [h2,Bool.and_false];rfl,hw.kp⟩
 | true=>
 refine Jy (Js (Jw (Jc ?_)));refine Jy (Jc ?_);refine Jy (Jc ?_);refine Jy ?_;refine aD Tryz.call57 rfl (fun w2 hw=>rG (hl.mono (au hw))) rfl ?_;cases h3:decide (q∈l) with
 | true=>
  refine Jw (Jb ?_);refine cn rfl ?_;refine Ja (Jd (Jb ?_));exact aw rfl Tryz.results55 rfl rfl fun w hw=>⟨by unfold eR;rw [h3];simp,hw.kp⟩
 | false=>
 refine Jw (Jb ?_);refine ch rfl ?_;refine JM ?_;refine ar ?_;refine Ja (Jd (Jb ?_));have hD:eR t q l=gJ t q l:=by unfold eR;rw [e1,h2,h3];rfl
 rw [hD];have hr:=bU h2;refine ak ?_;refine aI (ι:={ k:Nat // k≤l.length∧gJ t q l=gJ t q (l.drop k) }) (fun k=>[(1,.int .i64 q),(2,aK b2),(5,.slice A2 l.length c2),(6,.int .i64 k.1)]) (fun _=>[blk b2 (x.th t) 25]) (fun k=>l.length - k.1) ⟨0,Nat.zero_le _,rfl⟩ ⟨rfl,rfl,rfl,rfl,trivial⟩ (fun h=>h) ?_;intro ⟨k,hk,hT⟩;dsimp only at hk hT ⊢;refine ar ?_;refine Ja (Jc (Jc (Jg (Jk (Jb ?_)))));refine ay rfl (fun hlt=>?_) (fun hge=>?_);rotate_left
 ·rw [List.drop_eq_nil_of_le (by omega)] at hT
  refine aG rfl (ah ?_);refine Ja (Jd (Jb ?_));exact aw rfl Tryz.results55 rfl rfl fun w hw=>⟨by rw [hT];rfl,hw.kp⟩
 have hlt':k < l.length:=by omega
 rw [List.drop_eq_getElem_cons hlt',gJ] at hT;obtain ⟨B3,O3,hA3,hm3,_⟩:=aR hl (List.getElem?_eq_getElem hlt');obtain ⟨f0,f1⟩:=hr _ (List.getElem_mem hlt');generalize l[k]=f at *;obtain ⟨B4,O4,A4,c4,hA4,hm4,hl4⟩:=kJ h f0 (by rw [← hn];exact f1);refine al (ah ?_);refine ar ?_;refine ak ?_;refine bR (by kernel_rfl) rfl ?_;refine Xe ?_;refine Aw (fun _ _=>JA Dn) ?_;refine Xc (Xc ?_);refine Aw (fun _ _=>aa hA3 rfl rfl (by omega) hlt rfl Dn) ?_;refine Aw (fun _ _=>ac rfl hle (aT hm3) rfl rfl Dn) ?_;refine Aw (fun _ _=>aa hA4 rfl rfl f0 (by rw [← hn];exact f1) rfl Dn) ?_;refine Aw (fun _ _=>ac rfl hle hm4 rfl rfl Dn) ?_;refine Xc ?_;refine Aw (fun _ _=>aD Tryz.call57 rfl (fun w2 hw=>rG (hl4.mono (au hw))) rfl Dn) ?_;refine Aw (fun _ _=>Js Dn) ?_;refine Aq fun bs=>?_;refine Jb ?_;cases hin:decide (q∈cq t f) with
 | false=>
  refine cn rfl ?_;refine Ja (Jd (Jb ?_));exact aw rfl Tryz.results55 rfl rfl fun w hw=>⟨by rw [hT,hin];rfl,hw.kp⟩
 | true=>
 refine ch rfl ?_;refine al (ah ?_);refine aj (Jc ?_);refine Ka ?_;refine Jd (aq ?_);exact Pa ⟨k + 1,hlt',by rw [hT,hin];rfl⟩
set_option maxHeartbeats 4000000 in
theorem uJ {t:ThV} {x:TC} {w:World} {n:Nat} (h:gp (mem w (fun b=>¬ No b)) t x) (hk:j6 t) (hn:t.1=n):iT Tryz.prog 59 [.agg (x.th t).toArray] w No (fun b:Nat=>slV b n) (fun b=>[ax 3 1 (slV b n) ((fR t).map bY)]):=by
 have hle:=hq0 w;obtain ⟨hL,hM,hF,hC,hR⟩:=hk;refine Calls.enter Tryz.func59 rfl _ rfl rfl (S:=No) (H:=[]) trivial ?_;refine bZ ?_;refine aS (l:=x.th t) rfl rfl fun b1 _=>?_;refine Jd (Jb (Ja (Je ?_)));refine JA ?_;refine bF (n:=n) (zc:=[.int .i64 0]) rfl rfl hn rfl rfl (by unfold dK;omega) (by omega) rfl fun B0=>?_;refine Jd (Jb ?_);refine ar ?_;refine Ja (Jd (Jb ?_));refine ak ?_
 refine aI (ι:={ q:Nat × List Int // q.1≤(ao t).length∧ii n q.1 q.2∧fR t=ep ((ao t).drop q.1) q.2 }) (fun q=>[(1,aK b1),(3,slV B0 n),(4,.int .i64 q.1.1)])
  (fun q=>[blk b1 (x.th t) 25,ax 3 1 (slV B0 n) (q.1.2.map bY)]) (fun q=>(ao t).length - q.1.1) ⟨(0,List.replicate n 0),Nat.zero_le _,⟨by simp,fun v hv=>by rw [List.eq_of_mem_replicate hv];exact ⟨Int.le_refl _,Int.le_refl _⟩⟩,by unfold fR;rw [show t.1.toNat=n by omega];rfl⟩ ⟨rfl,rfl,rfl,trivial⟩ (fun h=>by rw [List.map_replicate];exact h.take [1,0]) ?_
 intro ⟨⟨i,hd⟩,hi,hCt,hS⟩;dsimp only at hi hCt hS ⊢;refine ar ?_;refine Ja (Jc (Je ?_));refine JA ?_;refine Jg (Jk (Jb ?_));refine ay rfl (fun hlt=>?_) (fun hge=>?_);rotate_left
 ·rw [List.drop_eq_nil_of_le (by omega),ep] at hS
  refine aG rfl (ah ?_);refine Ja (Jc (Jd (Jb ?_)));exact aw rfl Tryz.results59 rfl rfl fun w hw=>⟨B0,rfl,by rw [hS];exact St.take [1] hw⟩
 have hlt':i < (ao t).length:=by omega
 rw [List.drop_eq_getElem_cons hlt',ep] at hS;obtain ⟨B,O,A2,c2,hA,hm,hl,_,_⟩:=iu h.rules (List.getElem?_eq_getElem hlt');have hr:=cJ (hR _ (List.getElem_mem hlt'));generalize (ao t)[i]=r at *;have hg:=cM hCt.1 hr.1 (by omega);have hb:=hCt.at (by omega) r.2.1;refine al (ah ?_);refine ar ?_;refine ak ?_;refine aj ?_;refine Jc (Je ?_);refine JA ?_;refine Jc ?_;refine aa hA rfl rfl (by omega) hlt rfl ?_;refine Je ?_;refine ac rfl hle (hm 1 _ rfl) rfl rfl ?_
 skip
 refine av rfl rfl hr.1 (by omega) rfl ?_;refine az [_] (i:=r.2.1.toNat) (j:=0) rfl (by simp) (bI hg) rfl rfl rfl ?_;refine Ka ?_;refine av rfl rfl hr.1 (by omega) rfl ?_;refine aM [_] (v:=.int .i64 (aF hd r.2.1 + 1)) (i:=r.2.1.toNat) (j:=0) rfl (by simp) rfl rfl rfl (bI hg) (Nat.zero_lt_succ _) ?_;refine aq (ah ?_);refine aj (Jc ?_);refine Ka ?_;refine Jd (aq ?_);refine bp ⟨(i + 1,gH hd r.2.1),hlt',hCt.inc (by omega) _,hS⟩ ⟨rfl,rfl,rfl,trivial⟩ (fun hw=>?_) (by show (ao t).length - (i + 1) < (ao t).length - i;omega);unfold gH;rw [List.map_set];exact hw
end
end Go.Proofs.YtbcdgcodnkgdoaaGreat
