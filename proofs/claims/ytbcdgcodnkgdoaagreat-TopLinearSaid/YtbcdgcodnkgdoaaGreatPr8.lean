/- Parts of the proof: lexpriorref12.Check. · lexpriorref15: a world; Bit, All, Any, strict, Support, plusD, minusD, beaten, stands. · lexpriorref15.plusd, minusd, Holds. · fast's given and Counted. · lexpriorref15.Round, lexpriorplain.SameMarks. · The calculus: in a statement whose order is open, an operation of a known value that stands apart may be taken first, at any time. · lexpriorref15.NewWorld. · lexpriorref15: rounds, plain; Run walked. · lexpriorref12.CheckFacts, Size; lexpriorref15.given, Solve. · fast's beginning: foes; all of it up to the pairs. Conditions: none. -/
import Derived.Test.YtbcdgcodnkgdoaaGreatPr7
/- lexpriorref12.Check. Conditions: none. -/
set_option linter.unusedVariables false
set_option linter.unusedSimpArgs false
set_option maxRecDepth 10000
namespace Go.Proofs.YtbcdgcodnkgdoaaGreat
open Go Go.RowKit
section
theorem Da {t:ThV} {r:Int} (h:aQ t r=[]):vN t r=false:=Bool.eq_false_iff.2 fun hc=>(jX.1 hc) (fun _=>False) (fun z hz=>by rw [h] at hz;cases hz) (fun _ _ h _=>h)
theorem tX {t:ThV} {i:Nat} (h:i < (aH t).length):cq t i=(aH t)[i]:=by
 unfold cq;rw [show ((i:Int)).toNat=i by omega,List.getElem?_eq_getElem h];rfl
theorem sK {t:ThV} {i:Nat} (h:i < (aN t).length):aQ t i=(aN t)[i]:=by
 unfold aQ;rw [show ((i:Int)).toNat=i by omega,List.getElem?_eq_getElem h];rfl
theorem C4 {t:ThV} (h:∀ i:Nat,i < (aH t).length→eR t i (cq t i)=true):¬ 0≤jN t:=fun hc=>by
 obtain ⟨i,x,h1,h2⟩:=(kH (t:=t) (Int.le_refl 0)).1 hc;obtain ⟨h3,h4⟩:=List.getElem?_eq_some_iff.1 h1;rw [q7,Int.zero_add,← h4,← tX h3,h i h3] at h2;cases h2
theorem tW {t:ThV} {i:Nat} (hi:i < (aH t).length) (h:eR t i (cq t i)=false):0≤jN t:=
 (kH (t:=t) (Int.le_refl 0)).2 ⟨i,_,List.getElem?_eq_getElem hi,by rw [q7,Int.zero_add,← tX hi,h];rfl⟩
theorem AM {t:ThV} (h:∀ i:Nat,i < (aN t).length→cV t i (aQ t i)=false):¬ 0≤fU t:=fun hc=>by
 obtain ⟨i,x,h1,h2⟩:=(jm (t:=t) (Int.le_refl 0)).1 hc;obtain ⟨h3,h4⟩:=List.getElem?_eq_some_iff.1 h1;rw [Int.zero_add,← h4,← sK h3,h i h3] at h2;cases h2
theorem q6 {t:ThV} {i:Nat} (hi:i < (aN t).length) (h:cV t i (aQ t i)=true):0≤fU t:=
 (jm (t:=t) (Int.le_refl 0)).2 ⟨i,_,List.getElem?_eq_getElem hi,by rw [Int.zero_add,← sK hi];exact h⟩
abbrev vH (t:ThV):Prop:=j6 t→¬ 0≤jN t→((aN t).length:Int)=(ao t).length→¬ 0≤fU t→(0≤gY t↔∃ i:Nat,i < (aN t).length∧vN t i=true)
attribute [local irreducible] RW CW
set_option maxHeartbeats 32000000 in
theorem nP {t:ThV} {x:TC} {w:World} (h:gp (mem w (fun b=>¬ No b)) t x) (xQ:vH t):
 iT Tryz.prog 26 [.agg (x.th t).toArray] w No (fun a:Int=>.tuple #[.int .i64 (fT t).1,.int .i64 a]) (fun _=>[]):=by
 have hle:=hq0 w;have hfs:=aP h.foes;have hrs:=aP h.rules;have hbs:=aP h.beats;unfold br at hfs hrs hbs;generalize hD:(fT t).1=D;unfold fT at hD;refine Calls.enter Tryz.func26 rfl _ rfl rfl (S:=No) (H:=[]) trivial ?_;refine bZ ?_;refine aS (l:=x.th t) rfl rfl fun b1 _=>?_;refine Jd (Jd (Jb ?_));refine ar ?_;refine Ja (Je ?_);refine JA ?_;refine Jk (Jc ?_);refine aY 13 rfl (fun h1=>?_) (fun h1=>?_)
 ·rw [if_pos (.inl h1)] at hD
  subst hD
  (iterate 3 refine Jz ?_);refine Jv (Jb ?_)
  refine cn rfl ?_;refine Ja (Jd (Jd (Jb ?_)));exact aZ (rs:=[.tmp 2,.tmp 3]) (vs:=[_,_]) rfl Tryz.results26 rfl (aL.tmp rfl (aL.tmp rfl aL.nil)) fun w hw=>⟨_,rfl,hw.sub (List.nil_sublist _)⟩
 refine Jy (Je ?_);refine Jy ?_;refine JA ?_;refine Jy (Jm (Jw (Jb ?_)));refine ay rfl (fun h2=>?_) (fun h2=>?_)
 ·rw [if_pos (.inr h2)] at hD
  subst hD;refine Ja (Jd (Jd (Jb ?_)));exact aZ (rs:=[.tmp 2,.tmp 3]) (vs:=[_,_]) rfl Tryz.results26 rfl (aL.tmp rfl (aL.tmp rfl aL.nil)) fun w hw=>⟨_,rfl,hw.sub (List.nil_sublist _)⟩
 have h12:¬ (t.1 < 0∨4096 < t.1):=fun h=>h.elim h1 h2;rw [if_neg h12] at hD;refine al (ah ?_);refine ar ?_;refine Ja (Je ?_);refine JA ?_;refine Jg (Je ?_);refine JA ?_;refine Jj (Jb ?_);refine ay rfl (fun h3=>?_) (fun h3=>?_)
 ·rw [if_pos h3] at hD
  subst hD;refine Ja (Jd (Jd (Jb ?_)));exact aZ (rs:=[.tmp 2,.tmp 3]) (vs:=[_,_]) rfl Tryz.results26 rfl (aL.tmp rfl (aL.tmp rfl aL.nil)) fun w hw=>⟨_,rfl,hw.sub (List.nil_sublist _)⟩
 rw [if_neg h3] at hD;have h3':((aH t).length:Int)=t.1:=Decidable.of_not_not h3;refine al (ah ?_);refine ar ?_;refine Ja (Jd (Jb ?_));refine ak ?_;refine aI (ι:={ q:Nat // q≤(aH t).length∧∀ i:Nat,i < q→eR t i (cq t i)=true }) (fun q=>[(1,aK b1),(4,.int .i64 q.1)]) (fun _=>[blk b1 (x.th t) 25]) (fun q=>(aH t).length - q.1) ⟨0,Nat.zero_le _,fun i hi=>absurd hi (Nat.not_lt_zero _)⟩ ⟨rfl,rfl,trivial⟩ (fun h=>h) ?_;intro ⟨q,hq,hS⟩;dsimp only at hq hS ⊢;refine ar ?_;refine Ja (Jc (Je ?_));refine JA ?_;refine Jk (Jb ?_);refine ay rfl (fun hlt=>?_) (fun hge=>?_)
 ·have hlt':q < (aH t).length:=by omega
  refine al (ah ?_);refine ar ?_;refine ak ?_;refine Ja ?_;refine JE ?_;refine Jc ?_;refine aD Tryz.call55 rfl (fun w2 hw=>ww (h.mono (au hw)) h3'.symm (by omega) (by omega)) rfl ?_;refine Js (Jb ?_);cases hf:eR t q (cq t q) with
  | false=>
   rw [if_pos (tW hlt' hf)] at hD;subst hD;refine cn rfl ?_;refine Ja (Jc (Jd (Jd (Jb ?_))));exact aZ (rs:=[.tmp 2,.tmp 3]) (vs:=[_,_]) rfl Tryz.results26 rfl (aL.tmp rfl (aL.tmp rfl aL.nil)) fun w hw=>⟨_,rfl,hw.sub (List.nil_sublist _)⟩
  | true=>
  refine ch rfl ?_;refine al (ah ?_);refine aj (Jc ?_);refine Ka ?_;refine Jd (aq ?_);exact Pa ⟨q + 1,hlt',fun i hi=>if e:i=q then (by rw [e];exact hf) else hS i (by omega)⟩
 have h4:¬ 0≤jN t:=C4 fun i hi=>hS i (by omega);rw [if_neg h4] at hD;refine aG rfl (ah ?_);refine ar ?_;refine Ja (Je ?_);refine JA ?_;refine Jg (Jm (Jb ?_));refine ay rfl (fun h5=>?_) (fun h5=>?_)
 ·rw [if_pos h5] at hD
  subst hD;refine Ja (Jd (Jd (Jb ?_)));exact aZ (rs:=[.tmp 2,.tmp 3]) (vs:=[_,_]) rfl Tryz.results26 rfl (aL.tmp rfl (aL.tmp rfl aL.nil)) fun w hw=>⟨_,rfl,hw.sub (List.nil_sublist _)⟩
 rw [if_neg h5] at hD;refine al (ah ?_);refine ar ?_;refine Ja (Jd (Jb ?_));refine ak ?_;clear hS;refine aI (ι:={ q:Nat // q≤(ao t).length∧dp t.1 (ao t) 0=dp t.1 ((ao t).drop q) q }) (fun q=>[(1,aK b1),(5,.int .i64 q.1)]) (fun _=>[blk b1 (x.th t) 25]) (fun q=>(ao t).length - q.1) ⟨0,Nat.zero_le _,rfl⟩ ⟨rfl,rfl,trivial⟩ (fun h=>h) ?_;intro ⟨q,hq,hS⟩;dsimp only at hq hS ⊢;refine ar ?_;refine Ja (Jc (Je ?_));refine JA ?_;refine Jg (Jk (Jb ?_));refine ay rfl (fun hlt=>?_) (fun hge=>?_)
 ·have hlt':q < (ao t).length:=by omega
  rw [List.drop_eq_getElem_cons hlt',dp] at hS;obtain ⟨B,O,A2,c2,hA,hm,hl,_,_⟩:=iu h.rules (List.getElem?_eq_getElem hlt');generalize (ao t)[q]=r at *;have hsr:=aP hl;unfold br at hsr
  have hbad:eX t.1 r=false→D=122:=fun hb=>by
   rw [hb,if_neg (by decide)] at hS;rw [hS,if_pos (by omega)] at hD;exact hD.symm
  have hgood:eX t.1 r=true→dp t.1 (ao t) 0=dp t.1 ((ao t).drop (q + 1)) ((q:Int) + 1):=fun hb=>by rw [hS,hb,if_pos rfl]
  unfold eX at hbad hgood;refine al (ah ?_);refine ar ?_;refine ak ?_;refine Ja (Je ?_);refine JA ?_;refine Jc ?_;refine aa hA rfl rfl (by omega) hlt rfl ?_;refine dF (cs:=bJ r A2 c2) rfl hle (fun j v hj=>by have:=hm j v hj;simpa using this) rfl rfl (Nat.zero_lt_succ _) rfl ?_;refine cH (c:=bJ (0,0,[]) none 0) rfl rfl fun b6 _=>?_
  skip
  refine aX [] rfl rfl (vs:=bJ r A2 c2) rfl rfl rfl (by simp [Value.oneCell']) ?_;refine Jb (Ja (Je ?_));refine JA ?_;refine Jk (Jc ?_);refine aY 54 rfl (fun g1=>?_) (fun g1=>?_)
  ·obtain rfl:=hbad (by rw [decide_eq_false (show ¬ 1≤r.1 by omega)];rfl)
   (iterate 3 refine Jz ?_);refine Jv (Jc ?_);(iterate 3 refine Jz ?_);refine Jv (Jc ?_);(iterate 5 refine Jz ?_);refine Jv (Jc ?_);(iterate 4 refine Jz ?_);refine Jv (Jc ?_);(iterate 6 refine Jz ?_);refine Jv (Jb ?_)
   refine cn rfl ?_;refine Ja (Jc (Jd (Jd (Jb ?_))));exact aZ (rs:=[.tmp 2,.tmp 3]) (vs:=[_,_]) rfl Tryz.results26 rfl (aL.tmp rfl (aL.tmp rfl aL.nil)) fun w hw=>⟨_,rfl,hw.sub (List.nil_sublist _)⟩
  have e1:decide (1≤r.1)=true:=decide_eq_true (by omega);rw [e1,Bool.true_and] at hbad hgood;refine Jy (Je ?_);refine Jy ?_;refine JA ?_;refine Jy (Jm (Jw (Jc ?_)));refine aY 59 rfl (fun g2=>?_) (fun g2=>?_)
  ·obtain rfl:=hbad (by rw [decide_eq_false (show ¬ r.1≤3 by omega)];rfl)
   (iterate 3 refine Jz ?_);refine Jv (Jc ?_);(iterate 5 refine Jz ?_);refine Jv (Jc ?_);(iterate 4 refine Jz ?_);refine Jv (Jc ?_);(iterate 6 refine Jz ?_);refine Jv (Jb ?_)
   refine cn rfl ?_;refine Ja (Jc (Jd (Jd (Jb ?_))));exact aZ (rs:=[.tmp 2,.tmp 3]) (vs:=[_,_]) rfl Tryz.results26 rfl (aL.tmp rfl (aL.tmp rfl aL.nil)) fun w hw=>⟨_,rfl,hw.sub (List.nil_sublist _)⟩
  have e2:decide (r.1≤3)=true:=decide_eq_true (by omega);rw [e2,Bool.true_and] at hbad hgood;refine Jy (Je ?_);refine Jy ?_;refine JA ?_;refine Jy (Jk (Jw (Jc ?_)));refine aY 64 rfl (fun g3=>?_) (fun g3=>?_)
  ·obtain rfl:=hbad (by rw [decide_eq_false (show ¬ 0≤r.2.1 by omega)];rfl)
   (iterate 5 refine Jz ?_);refine Jv (Jc ?_);(iterate 4 refine Jz ?_);refine Jv (Jc ?_);(iterate 6 refine Jz ?_);refine Jv (Jb ?_)
   refine cn rfl ?_;refine Ja (Jc (Jd (Jd (Jb ?_))));exact aZ (rs:=[.tmp 2,.tmp 3]) (vs:=[_,_]) rfl Tryz.results26 rfl (aL.tmp rfl (aL.tmp rfl aL.nil)) fun w hw=>⟨_,rfl,hw.sub (List.nil_sublist _)⟩
  have e3:decide (0≤r.2.1)=true:=decide_eq_true (by omega);rw [e3,Bool.true_and] at hbad hgood;refine Jy (Je ?_);refine Jy ?_;refine JA ?_;refine Jy (Je ?_);refine Jy ?_;refine JB ?_;refine Jy (Jn (Jw (Jc ?_)));refine aY 71 rfl (fun g4=>?_) (fun g4=>?_)
  ·obtain rfl:=hbad (by rw [decide_eq_false (show ¬ r.2.1 < t.1 by omega)];rfl)
   (iterate 4 refine Jz ?_);refine Jv (Jc ?_);(iterate 6 refine Jz ?_);refine Jv (Jb ?_)
   refine cn rfl ?_;refine Ja (Jc (Jd (Jd (Jb ?_))));exact aZ (rs:=[.tmp 2,.tmp 3]) (vs:=[_,_]) rfl Tryz.results26 rfl (aL.tmp rfl (aL.tmp rfl aL.nil)) fun w hw=>⟨_,rfl,hw.sub (List.nil_sublist _)⟩
  have e4:decide (r.2.1 < t.1)=true:=decide_eq_true (by omega);rw [e4,Bool.true_and] at hbad hgood;refine Jy (Je ?_);refine Jy ?_;refine JA ?_;refine Jy (Jg ?_);refine Jy (Jm (Jw (Jc ?_)));refine aY 77 rfl (fun g5=>?_) (fun g5=>?_)
  ·obtain rfl:=hbad (by rw [decide_eq_false (show ¬ (r.2.2.length:Int)≤16 by omega)];rfl)
   (iterate 6 refine Jz ?_);refine Jv (Jb ?_)
   refine cn rfl ?_;refine Ja (Jc (Jd (Jd (Jb ?_))));exact aZ (rs:=[.tmp 2,.tmp 3]) (vs:=[_,_]) rfl Tryz.results26 rfl (aL.tmp rfl (aL.tmp rfl aL.nil)) fun w hw=>⟨_,rfl,hw.sub (List.nil_sublist _)⟩
  have e5:decide ((r.2.2.length:Int)≤16)=true:=decide_eq_true (by omega);rw [e5,Bool.true_and] at hbad hgood;refine Jy (Je ?_);refine Jy ?_;refine JA ?_;refine Jy (Je ?_);refine Jy ?_;refine JB ?_;refine Jy ?_;refine aD Tryz.call56 rfl (fun w2 hw=>gQ (hl.mono (au hw))) rfl ?_;refine Jy (Js (Jw (Jb ?_)));cases g6:bg r.2.2 t.1 with
  | false=>
   obtain rfl:=hbad g6;refine cn rfl ?_;refine Ja (Jc (Jd (Jd (Jb ?_))));exact aZ (rs:=[.tmp 2,.tmp 3]) (vs:=[_,_]) rfl Tryz.results26 rfl (aL.tmp rfl (aL.tmp rfl aL.nil)) fun w hw=>⟨_,rfl,hw.sub (List.nil_sublist _)⟩
  | true=>
  refine ch rfl ?_;refine al (ah ?_);refine aj (Jc ?_);refine Ka ?_;refine Jd (aq ?_);exact kc ⟨q + 1,hlt',hgood g6⟩ [1] ⟨rfl,rfl,trivial⟩ rfl (by show (ao t).length - (q + 1) < (ao t).length - q;omega)
 rw [List.drop_eq_nil_of_le (by omega),dp] at hS;have h6:¬ 0≤dp t.1 (ao t) 0:=by omega
 rw [if_neg h6] at hD;have hok:=j6.of h12 h3' h4 h5 h6;refine aG rfl (ah ?_);refine ar ?_;refine Ja ?_;refine JE ?_;refine aD Tryz.call27 rfl (fun w2 hw=>nJ (h.mono (au hw)) hok) rfl ?_;refine Jm (Jb ?_);have h7e:(65536 < fw t)=(65536 < gy t):=by unfold fw;split <;> simp_all
 refine ay rfl (fun h7=>?_) (fun h7=>?_)
 ·rw [if_pos (by rw [← h7e];exact h7)] at hD
  subst hD;refine Ja (Jd (Jd (Jb ?_)));exact aZ (rs:=[.tmp 2,.tmp 3]) (vs:=[_,_]) rfl Tryz.results26 rfl (aL.tmp rfl (aL.tmp rfl aL.nil)) fun w hw=>⟨_,rfl,hw.sub (List.nil_sublist _)⟩
 rw [if_neg (by rw [← h7e];exact h7)] at hD;refine al (ah ?_);refine ar ?_;refine Ja (Je ?_);refine JA ?_;refine Jg (Je ?_);refine JA ?_;refine Jg (Jj (Jb ?_));refine ay rfl (fun h8=>?_) (fun h8=>?_)
 ·rw [if_pos h8] at hD
  subst hD;refine Ja (Jd (Jd (Jb ?_)));exact aZ (rs:=[.tmp 2,.tmp 3]) (vs:=[_,_]) rfl Tryz.results26 rfl (aL.tmp rfl (aL.tmp rfl aL.nil)) fun w hw=>⟨_,rfl,hw.sub (List.nil_sublist _)⟩
 rw [if_neg h8] at hD;have h8':((aN t).length:Int)=(ao t).length:=Decidable.of_not_not h8;refine al (ah ?_);refine ar ?_;refine Ja (Jd (Jb ?_));refine ak ?_;clear hS;refine aI (ι:={ q:Nat // q≤(aN t).length∧∀ i:Nat,i < q→cV t i (aQ t i)=false }) (fun q=>[(1,aK b1),(7,.int .i64 q.1)]) (fun _=>[blk b1 (x.th t) 25]) (fun q=>(aN t).length - q.1) ⟨0,Nat.zero_le _,fun i hi=>absurd hi (Nat.not_lt_zero _)⟩ ⟨rfl,rfl,trivial⟩ (fun h=>h) ?_;intro ⟨q,hq,hS⟩;dsimp only at hq hS ⊢;refine ar ?_;refine Ja (Jc (Je ?_));refine JA ?_;refine Jg (Jk (Jb ?_));refine ay rfl (fun hlt=>?_) (fun hge=>?_)
 ·have hlt':q < (aN t).length:=by omega
  obtain ⟨B,O,A2,c2,hA,hm,hl⟩:=iS h (q:=(q:Int)) (by omega) hlt;obtain ⟨B5,O5,A5,c5,hA5,hm5,_,_⟩:=bz h (i:=(q:Int)) (by omega) (by omega);obtain ⟨k0,k1⟩:=hok.rules _ (List.getElem_mem (l:=ao t) (n:=q) (by omega)) |> cJ;have hrq:ai t q=(ao t)[q]'(by omega):=by unfold ai;rw [show ((q:Int)).toNat=q by omega,List.getElem?_eq_getElem (by omega)];rfl
  rw [← hrq] at k0 k1;obtain ⟨B6,O6,A6,c6,hA6,hm6,hl6⟩:=kJ h (q:=(ai t q).2.1) k0 (by rw [h3'];exact k1)
  have hfr:bg (cq t (ai t q).2.1) t.1=true:=by
   have hi2:(ai t q).2.1.toNat < (aH t).length:=by omega
   have:=tX hi2;rw [show (((ai t q).2.1.toNat:Nat):Int)=(ai t q).2.1 by omega] at this;rw [this];exact (hok.foes _ (List.getElem_mem hi2)).2
  have hsr:=aP hl;unfold br at hsr
  have hbad:cV t q (aQ t q)=true→D=123:=fun hb=>by
   rw [if_pos (q6 hlt' hb)] at hD;exact hD.symm
  have hbe:cV t q (aQ t q)=(!bg (aQ t q) (ao t).length || !(aQ t q).all (fun s=>decide ((ai t s).2.1∈cq t (ai t q).2.1))):=by unfold cV;rw [o6 hfr]
  refine al (ah ?_);refine ar ?_;refine ak ?_;refine ar ?_;refine bR (by kernel_rfl) rfl ?_;refine Xe ?_;refine Aw (fun _ _=>JA Dn) ?_;refine Xc ?_;refine Aw (fun _ _=>aa hA rfl rfl (by omega) hlt rfl Dn) ?_;refine Aw (fun _ _=>ac rfl hle hm rfl rfl Dn) ?_;refine Xe ?_;refine Aw (fun _ _=>JA Dn) ?_;refine Aw (fun _ _=>Jg Dn) ?_;refine Aw (fun _ _=>aD Tryz.call56 rfl (fun w2 hw=>gQ (hl.mono (au hw))) rfl Dn) ?_;refine Aw (fun _ _=>Js Dn) ?_;refine Aq fun bs=>?_;refine Jb ?_;cases hri:bg (aQ t q) (ao t).length with
  | false=>
   obtain rfl:=hbad (by rw [hbe,hri];rfl);refine cn rfl ?_;refine Ja (Jc (Jd (Jd (Jb ?_))));exact aZ (rs:=[.tmp 2,.tmp 3]) (vs:=[_,_]) rfl Tryz.results26 rfl (aL.tmp rfl (aL.tmp rfl aL.nil)) fun w hw=>⟨_,rfl,hw.sub (List.nil_sublist _)⟩
  | true=>
  rw [hri,Bool.not_true,Bool.false_or] at hbe;have hin:=bU hri;refine ch rfl ?_;refine JM ?_;refine Ja (Jd (Jb ?_));refine ak ?_
  have hS':cV t q (aQ t q)=false→∀ i:Nat,i < q + 1→cV t i (aQ t i)=false:=fun hc i hi=>by
   by_cases e:i=q
   ·subst e;exact hc
   ·exact hS i (by omega)
  generalize aQ t q=l at *;refine aI (ι:={ k:Nat // k≤l.length∧∀ s∈l.take k,(ai t s).2.1∈cq t (ai t q).2.1 }) (fun k=>[(1,aK b1),(7,.int .i64 q),(8,.int .i64 k.1)]) (fun _=>[blk b1 (x.th t) 25]) (fun k=>l.length - k.1) ⟨0,Nat.zero_le _,fun s hs=>by simp at hs⟩ ⟨rfl,rfl,rfl,trivial⟩ (fun h=>h) ?_;intro ⟨k,hk,hT⟩;dsimp only at hk hT ⊢;refine ar ?_;refine Ja (Jc (Je ?_));refine JA ?_;refine Jc ?_;refine aa hA rfl rfl (by omega) hlt rfl ?_;refine ac rfl hle hm rfl rfl ?_;refine Jg (Jk (Jb ?_));refine ay rfl (fun hlt2=>?_) (fun hge2=>?_);rotate_left
  ·rw [List.take_of_length_le (by omega)] at hT
   have hbf:cV t q l=false:=by rw [hbe,List.all_eq_true.2 (fun s hs=>decide_eq_true (hT s hs))];rfl
   refine aG rfl (ah ?_);refine aj (Jc ?_);refine Ka ?_;refine Jd (aq ?_);exact Pa ⟨q + 1,hlt',hS' hbf⟩
  have hlt3:k < l.length:=by omega
  obtain ⟨B3,O3,hA3,hm3,_⟩:=aR hl (List.getElem?_eq_getElem hlt3);have hsm:=List.getElem_mem hlt3;have htake:l.take (k + 1)=l.take k++[l[k]]:=by rw [List.take_add_one,List.getElem?_eq_getElem hlt3];rfl
  generalize l[k]=s at *;obtain ⟨s0,s1⟩:=hin s hsm;obtain ⟨B4,O4,A4,c4,hA4,hm4,_,_⟩:=bz h (i:=s) s0 s1;refine al (ah ?_);refine ar ?_;refine ak ?_;refine bR (by kernel_rfl) rfl ?_;refine Xe ?_;refine Aw (fun _ _=>JA Dn) ?_;refine Xe ?_;refine Aw (fun _ _=>JA Dn) ?_;refine Xc ?_;refine Aw (fun _ _=>aa hA5 rfl rfl (by omega) (by omega) rfl Dn) ?_;refine Xe ?_;refine Aw (fun _ _=>ac (v:=.int .i64 (ai t q).2.1) rfl hle (hm5 1 _ rfl) rfl rfl Dn) ?_;refine Aw (fun _ _=>aa hA6 rfl rfl k0 (by rw [h3'];exact k1) rfl Dn) ?_;refine Aw (fun _ _=>ac rfl hle hm6 rfl rfl Dn) ?_;refine Xe ?_;refine Aw (fun _ _=>JA Dn) ?_;refine Xe ?_;refine Aw (fun _ _=>JA Dn) ?_;refine Xc ?_;refine Aw (fun _ _=>aa hA rfl rfl (by omega) hlt rfl Dn) ?_;refine Aw (fun _ _=>ac rfl hle hm rfl rfl Dn) ?_;refine Xc ?_;refine Aw (fun _ _=>aa hA3 rfl rfl (by omega) (by omega) rfl Dn) ?_;refine Aw (fun _ _=>ac rfl hle (aT hm3) rfl rfl Dn) ?_;refine Aw (fun _ _=>aa hA4 rfl rfl s0 s1 rfl Dn) ?_;refine Xe ?_;refine Aw (fun _ _=>ac (v:=.int .i64 (ai t s).2.1) rfl hle (hm4 1 _ rfl) rfl rfl Dn) ?_;refine Aw (fun _ _=>aD Tryz.call57 rfl (fun w2 hw=>rG (hl6.mono (au hw))) rfl Dn) ?_;refine Aw (fun _ _=>Js Dn) ?_;refine Aq fun bs=>?_;refine Jb ?_;cases hm7:decide ((ai t s).2.1∈cq t (ai t q).2.1) with
  | false=>
   obtain rfl:=hbad (by
    rw [hbe,Bool.not_eq_true'];refine Bool.eq_false_iff.2 fun hc=>?_;have:=List.all_eq_true.1 hc s hsm;rw [hm7] at this;cases this)
   refine cn rfl ?_;refine Ja (Jc (Jd (Jd (Jb ?_))));exact aZ (rs:=[.tmp 2,.tmp 3]) (vs:=[_,_]) rfl Tryz.results26 rfl (aL.tmp rfl (aL.tmp rfl aL.nil)) fun w hw=>⟨_,rfl,hw.sub (List.nil_sublist _)⟩
  | true=>
  refine ch rfl ?_;refine al (ah ?_);refine aj (Jc ?_);refine Ka ?_;refine Jd (aq ?_);refine bp ⟨k + 1,hlt3,fun v hv=>?_⟩ ⟨rfl,rfl,rfl,trivial⟩ (fun h=>h) (by show l.length - (k + 1) < l.length - k;omega);rw [htake] at hv;rcases List.mem_append.1 hv with hv | hv
  ·exact hT v hv
  ·rw [List.mem_singleton.1 hv];exact of_decide_eq_true hm7
 have h9:¬ 0≤fU t:=AM fun i hi=>hS i (by omega);rw [if_neg h9] at hD;have hin:=uf h8' h9;have hci:=xQ hok h4 h8' h9;have hcount:=hok.count;refine aG rfl (ah ?_);refine ar ?_;refine Ja (Jd (Jb ?_));refine ak ?_;clear hS;refine aI (ι:={ q:Nat // q≤(aN t).length∧∀ i:Nat,i < q→vN t i=false }) (fun q=>[(1,aK b1),(9,.int .i64 q.1)]) (fun _=>[blk b1 (x.th t) 25]) (fun q=>(aN t).length - q.1) ⟨0,Nat.zero_le _,fun i hi=>absurd hi (Nat.not_lt_zero _)⟩ ⟨rfl,rfl,trivial⟩ (fun h=>h) ?_;intro ⟨q,hq,hS⟩;dsimp only at hq hS ⊢;refine ar ?_;refine Ja (Jc (Je ?_));refine JA ?_;refine Jg (Jk (Jb ?_));refine ay rfl (fun hlt=>?_) (fun hge=>?_);rotate_left
 ·have h10:¬ 0≤gY t:=fun hc=>by
   obtain ⟨i,hi,hci2⟩:=hci.1 hc;rw [hS i (by omega)] at hci2;cases hci2
  rw [if_neg h10] at hD;subst hD;refine aG rfl (ah ?_);refine Ja (Jd (Jd (Jb ?_)));exact aZ (rs:=[.tmp 2,.tmp 3]) (vs:=[_,_]) rfl Tryz.results26 rfl (aL.tmp rfl (aL.tmp rfl aL.nil)) fun w hw=>⟨_,rfl,hw.sub (List.nil_sublist _)⟩
 have hlt':q < (aN t).length:=by omega
 obtain ⟨B,O,A2,c2,hA,hm,hl⟩:=iS h (q:=(q:Int)) (by omega) hlt
 have hnext:vN t q=false→∀ i:Nat,i < q + 1→vN t i=false:=fun hc i hi=>by
  by_cases e:i=q
  ·subst e;exact hc
  ·exact hS i (by omega)
 refine al (ah ?_);refine ar ?_;refine ak ?_;refine Ja (Je ?_);refine JA ?_;refine Jc ?_;refine aa hA rfl rfl (by omega) hlt rfl ?_;refine ac rfl hle hm rfl rfl ?_;refine Jg (Jm (Jc ?_));refine aY 164 rfl (fun g1=>?_) (fun g1=>?_)
 ·refine Jy (Je ?_);refine Jy ?_;refine JA ?_;refine Jy (Jc ?_);refine Jy ?_
  refine aD Tryz.call58 rfl (fun w2 hw=>AN (h.mono (au hw)) rfl (by omega) hin (by omega) hlt) rfl ?_;refine Jv (Jb ?_);cases hc:vN t q with
  | true=>
   rw [if_pos (hci.2 ⟨q,hlt',hc⟩)] at hD;subst hD;refine cn rfl ?_;refine Ja (Jc (Jd (Jd (Jb ?_))));exact aZ (rs:=[.tmp 2,.tmp 3]) (vs:=[_,_]) rfl Tryz.results26 rfl (aL.tmp rfl (aL.tmp rfl aL.nil)) fun w hw=>⟨_,rfl,hw.sub (List.nil_sublist _)⟩
  | false=>
  refine ch rfl ?_;refine al (ah ?_);refine aj (Jc ?_);refine Ka ?_;refine Jd (aq ?_);exact Pa ⟨q + 1,hlt',hnext hc⟩
 ·have hc:vN t q=false:=Da (List.length_eq_zero_iff.1 (by omega))
  (iterate 4 refine Jz ?_);refine Jw (Jb ?_)
  refine ch rfl ?_;refine al (ah ?_);refine aj (Jc ?_);refine Ka ?_;refine Jd (aq ?_);exact Pa ⟨q + 1,hlt',hnext hc⟩
end
section
def qM (m:List Int) (q tag:Int):Bool:=decide (¬ g9 .u8 (aF m q) (kY .u8 1 (tag - 1))=0)
def oC (m:List Int) (l:List Int) (tag:Int):Bool:=l.all fun b=>qM m b tag
def kR (m:List Int) (l:List Int) (tag:Int):Bool:=l.any fun b=>qM m b tag
def gL (M:Mem) (A:Option Addr) (m:List Int):Prop:=∀ q:Int,0≤q→q < m.length→∃ B O,A=some ⟨B,O,none⟩∧M B (O + q.toNat) (.int .u8 (aF m q))
theorem gL.mono {M M':Mem} {A:Option Addr} {m:List Int} (h:gL M A m) (hM:Mem.le M M'):gL M' A m:=fun q h0 h1=>by
 obtain ⟨B,O,h2,h3⟩:=h q h0 h1;exact ⟨B,O,h2,hM _ _ _ h3⟩
structure QC where
 (AF AR:Option Addr)
 (cF cR:Nat)
abbrev QC.cells (y:QC) (x:TC) (t:ThV) (fs:List Int) (rl:List (List Int)):List Value:=[.int .i64 t.1,.slice x.A1 (aH t).length x.c1,.slice x.A2 (ao t).length x.c2,.slice x.A3 (aN t).length x.c3,.slice y.AF fs.length y.cF,.slice y.AR rl.length y.cR]
structure QW (M:Mem) (bw:Nat) (t:ThV) (x:TC) (y:QC) (fs:List Int) (rl:List (List Int)):Prop where
 cell:∀ (j:Nat) (v:Value),(y.cells x t fs rl)[j]?=some v→M bw j v
 th:gp M t x
 facts:Rd cO M [.slice y.AF fs.length y.cF] fs
 rules:Rd en M [.slice y.AR rl.length y.cR] rl
theorem QW.mono {M M':Mem} {bw:Nat} {t:ThV} {x:TC} {y:QC} {fs:List Int} {rl:List (List Int)} (h:QW M bw t x y fs rl) (hM:Mem.le M M'):QW M' bw t x y fs rl:=
 ⟨fun j v hj=>hM _ _ _ (h.cell j v hj),h.th.mono hM,h.facts.mono hM,h.rules.mono hM⟩
theorem iw {rl:List (List Int)} {q:Int} (h0:0≤q) (h1:q < rl.length):ap rl q∈rl:=by
 have h2:q.toNat < rl.length:=by omega
 unfold ap;rw [List.getD_eq_getElem?_getD,List.getElem?_eq_getElem h2];exact List.getElem_mem h2
theorem QW.row {M:Mem} {bw:Nat} {t:ThV} {x:TC} {y:QC} {fs:List Int} {rl:List (List Int)} (h:QW M bw t x y fs rl) {q:Int} (h0:0≤q) (h1:q < rl.length):∃ B O A c,y.AR=some ⟨B,O,none⟩∧M B (O + q.toNat * 1) (.slice A (ap rl q).length c)∧Rd cO M [.slice A (ap rl q).length c] (ap rl q):=by
 have h2:q.toNat < rl.length:=by omega
 obtain ⟨B,O,A,c,hA,hm,hl⟩:=dQ h.rules (List.getElem?_eq_getElem h2);have e:ap rl q=rl[q.toNat]:=by unfold ap;rw [List.getD_eq_getElem?_getD,List.getElem?_eq_getElem h2];rfl
 rw [e];exact ⟨B,O,A,c,hA,by rw [Nat.mul_one];exact hm,hl⟩
structure QOk (t:ThV) (rl:List (List Int)) (m:List Int):Prop where
 lrl:(rl.length:Int)=t.1
 lm:(m.length:Int)=t.1
 rin:∀ l∈rl,∀ r∈l,0≤r∧r < ((ao t).length:Int)
 ok:j6 t
 beats:(aN t).length=(ao t).length
theorem QOk.body {t:ThV} {rl:List (List Int)} {m:List Int} (h:QOk t rl m) {r:Int} (r0:0≤r) (r1:r < ((ao t).length:Int)):∀ b∈(ai t r).2.2,0≤b∧b < m.length:=fun b hb=>by
 have h2:r.toNat < (ao t).length:=by omega
 have e:ai t r=(ao t)[r.toNat]:=by unfold ai;rw [List.getElem?_eq_getElem h2];rfl
 have h3:=h.ok.rules _ (List.getElem_mem h2);rw [← e] at h3;unfold eX at h3;simp only [Bool.and_eq_true,decide_eq_true_eq] at h3;rw [h.lm];exact bU h3.2.2.2.2.2 b hb
theorem QOk.foe {t:ThV} {rl:List (List Int)} {m:List Int} (h:QOk t rl m) {q:Int}:∀ g∈cq t q,0≤g∧g < t.1:=fun g hg=>by
 unfold cq at hg;cases e:(aH t)[q.toNat]? with
 | none=>rw [e] at hg;cases hg
 | some l=>
  rw [e] at hg;exact bU (h.ok.foes l (List.mem_of_getElem? e)).2 g hg
theorem yF {α:Type} {l:List α} {f:α→Bool} {x:α} (h:x∈l) (hf:f x=false):l.all f=false:=by
 rw [List.all_eq_false];exact ⟨x,h,by rw [hf];exact Bool.false_ne_true⟩
theorem yC {α:Type} {l:List α} {f:α→Bool} {x:α} (h:x∈l) (hf:f x=true):l.any f=true:=List.any_eq_true.2 ⟨x,h,hf⟩
theorem yE {α:Type} {l:List α} {f:α→Bool} {k:Nat} (hk:l.length≤k) (h:∀ x∈l.take k,f x=true):l.all f=true:=by
 rw [List.take_of_length_le hk] at h;exact List.all_eq_true.2 h
theorem yD {α:Type} {l:List α} {f:α→Bool} {k:Nat} (hk:l.length≤k) (h:∀ x∈l.take k,f x=false):l.any f=false:=by
 rw [List.take_of_length_le hk] at h;exact List.any_eq_false.2 fun x hx=>by rw [h x hx];exact Bool.false_ne_true
theorem dO {α:Type} {l:List α} {p:α→Prop} {k:Nat} (hk:k < l.length) (h:∀ x∈l.take k,p x) (hx:p l[k]):∀ x∈l.take (k + 1),p x:=fun x hm=>by
 rw [List.take_add_one,List.getElem?_eq_getElem hk] at hm;rcases List.mem_append.1 hm with hm | hm
 ·exact h x hm
 ·rw [Option.toList_some,List.mem_singleton] at hm;rw [hm];exact hx
attribute [local irreducible] RW CW
theorem iL {tag:Int} {w:World} (h1:1≤tag) (h2:tag≤4):Ret Tryz.prog 22 [.int .i64 tag] w (.int .u8 (kY .u8 1 (tag - 1))):=by
 refine Calls.enter Tryz.func22 rfl _ rfl rfl (S:=No) (H:=[]) trivial ?_;refine Ja (Jd (Jb (Ja (Jc ?_))));refine eG rfl rfl (w64 (by omega) (by omega)) rfl ?_;refine BZ rfl rfl (by omega) rfl rfl ?_;refine Jd (Jb ?_);exact aw rfl Tryz.results22 rfl rfl fun w hw=>⟨rfl,hw.kp⟩
set_option maxHeartbeats 4000000 in
theorem jw {Am A:Option Addr} {cm c:Nat} {m l:List Int} {tag:Int} {w:World} (hm:gL (mem w (fun b=>¬ No b)) Am m) (h:Rd cO (mem w (fun b=>¬ No b)) [.slice A l.length c] l) (hin:∀ b∈l,0≤b∧b < m.length) (h1:1≤tag) (h2:tag≤4):
 Ret Tryz.prog 147 [.slice Am m.length cm,.slice A l.length c,.int .i64 tag] w (.bool (oC m l tag)):=by
 have hsm:=aP h;unfold br at hsm;have hle:=hq0 w;refine Calls.enter Tryz.func147 rfl _ rfl rfl (S:=No) (H:=[]) trivial ?_;refine Ja (Jd (Jb ?_));refine ar ?_;refine Ja (Jd (Jb ?_));refine ak ?_;refine aI (ι:={ k:Nat // k≤l.length∧∀ x∈l.take k,qM m x tag=true }) (fun k=>[(0,.slice Am m.length cm),(1,.slice A l.length c),(2,.int .i64 tag),(7,.int .i64 k.1)]) (fun _=>[]) (fun k=>l.length - k.1) ⟨0,Nat.zero_le _,fun x hx=>by simp at hx⟩ ⟨rfl,rfl,rfl,rfl,trivial⟩ (fun h=>h) ?_;intro ⟨k,hk,hS⟩;dsimp only at hk hS ⊢;refine ar ?_;refine Ja (Jc (Jc (Jg (Jk (Jb ?_)))));refine ay rfl (fun hlt=>?_) (fun hge=>?_);rotate_left
 ·refine aG rfl (ah ?_)
  refine Ja (Jd (Jb ?_));exact aw rfl Tryz.results147 rfl rfl fun w hw=>⟨by unfold oC;rw [yE (by omega) hS],hw.kp⟩
 have hlt':k < l.length:=by omega
 obtain ⟨B,O,hA,hmm,_⟩:=aR h (List.getElem?_eq_getElem hlt');have hmem:=List.getElem_mem hlt';have hnext:=dO (p:=fun x=>qM m x tag=true) hlt' hS;generalize l[k]=b at *;obtain ⟨b0,b1⟩:=hin b hmem;obtain ⟨B2,O2,hA2,hm2⟩:=hm b b0 b1;refine al (ah ?_);refine ar ?_;refine ak ?_;refine bR (by kernel_rfl) rfl ?_;refine Xc (Xc (Xc ?_));refine Aw (fun _ _=>aa hA rfl rfl (by omega) hlt rfl Dn) ?_;refine Aw (fun _ _=>ac rfl hle (aT hmm) rfl rfl Dn) ?_;refine Aw (fun _ _=>aa hA2 rfl rfl b0 b1 rfl Dn) ?_;refine Aw (fun _ _=>ac (v:=.int .u8 (aF m b)) rfl hle (by rw [Nat.mul_one];exact hm2) rfl rfl Dn) ?_;refine Xc ?_;refine Aw (fun _ _=>aD Tryz.call22 rfl (fun w2 hw=>iL h1 h2) rfl Dn) ?_;refine Aw (fun _ _=>jp rfl rfl rfl rfl Dn) ?_;refine Aw (fun _ _=>Ji Dn) ?_;refine Aq fun bs=>?_;refine Jb ?_;refine ay rfl (fun hc=>?_) (fun hc=>?_)
 ·refine Ja (Jd (Jb ?_))
  exact aw rfl Tryz.results147 rfl rfl fun w hw=>⟨by unfold oC;rw [yF hmem (by unfold qM;exact decide_eq_false (fun e=>e hc))],hw.kp⟩
 refine al (ah ?_);refine aj (Jc ?_);refine Ka ?_;refine Jd (aq ?_);exact Pa ⟨k + 1,hlt',hnext (by unfold qM;exact decide_eq_true hc)⟩
set_option maxHeartbeats 4000000 in
theorem jv {Am A:Option Addr} {cm c:Nat} {m l:List Int} {tag:Int} {w:World} (hm:gL (mem w (fun b=>¬ No b)) Am m) (h:Rd cO (mem w (fun b=>¬ No b)) [.slice A l.length c] l) (hin:∀ b∈l,0≤b∧b < m.length) (h1:1≤tag) (h2:tag≤4):
 Ret Tryz.prog 148 [.slice Am m.length cm,.slice A l.length c,.int .i64 tag] w (.bool (kR m l tag)):=by
 have hsm:=aP h;unfold br at hsm;have hle:=hq0 w;refine Calls.enter Tryz.func148 rfl _ rfl rfl (S:=No) (H:=[]) trivial ?_;refine Ja (Jd (Jb ?_));refine ar ?_;refine Ja (Jd (Jb ?_));refine ak ?_;refine aI (ι:={ k:Nat // k≤l.length∧∀ x∈l.take k,qM m x tag=false }) (fun k=>[(0,.slice Am m.length cm),(1,.slice A l.length c),(2,.int .i64 tag),(7,.int .i64 k.1)]) (fun _=>[]) (fun k=>l.length - k.1) ⟨0,Nat.zero_le _,fun x hx=>by simp at hx⟩ ⟨rfl,rfl,rfl,rfl,trivial⟩ (fun h=>h) ?_;intro ⟨k,hk,hS⟩;dsimp only at hk hS ⊢;refine ar ?_;refine Ja (Jc (Jc (Jg (Jk (Jb ?_)))));refine ay rfl (fun hlt=>?_) (fun hge=>?_);rotate_left
 ·refine aG rfl (ah ?_)
  refine Ja (Jd (Jb ?_));exact aw rfl Tryz.results148 rfl rfl fun w hw=>⟨by unfold kR;rw [yD (by omega) hS],hw.kp⟩
 have hlt':k < l.length:=by omega
 obtain ⟨B,O,hA,hmm,_⟩:=aR h (List.getElem?_eq_getElem hlt');have hmem:=List.getElem_mem hlt';have hnext:=dO (p:=fun x=>qM m x tag=false) hlt' hS;generalize l[k]=b at *;obtain ⟨b0,b1⟩:=hin b hmem;obtain ⟨B2,O2,hA2,hm2⟩:=hm b b0 b1;refine al (ah ?_);refine ar ?_;refine ak ?_;refine bR (by kernel_rfl) rfl ?_;refine Xc (Xc (Xc ?_));refine Aw (fun _ _=>aa hA rfl rfl (by omega) hlt rfl Dn) ?_;refine Aw (fun _ _=>ac rfl hle (aT hmm) rfl rfl Dn) ?_;refine Aw (fun _ _=>aa hA2 rfl rfl b0 b1 rfl Dn) ?_;refine Aw (fun _ _=>ac (v:=.int .u8 (aF m b)) rfl hle (by rw [Nat.mul_one];exact hm2) rfl rfl Dn) ?_;refine Xc ?_;refine Aw (fun _ _=>aD Tryz.call22 rfl (fun w2 hw=>iL h1 h2) rfl Dn) ?_;refine Aw (fun _ _=>jp rfl rfl rfl rfl Dn) ?_;refine Aw (fun _ _=>Jj Dn) ?_;refine Aq fun bs=>?_;refine Jb ?_;refine ay rfl (fun hc=>?_) (fun hc=>?_)
 ·refine Ja (Jd (Jb ?_))
  exact aw rfl Tryz.results148 rfl rfl fun w hw=>⟨by unfold kR;rw [yC hmem (by unfold qM;exact decide_eq_true hc)],hw.kp⟩
 refine al (ah ?_);refine aj (Jc ?_);refine Ka ?_;refine Jd (aq ?_);exact Pa ⟨k + 1,hlt',hnext (by unfold qM;exact decide_eq_false hc)⟩
theorem l8 {bw:Nat} {t:ThV} {x:TC} {y:QC} {fs:List Int} {rl:List (List Int)} {r:Int} {w:World} (h:QW (mem w (fun b=>¬ No b)) bw t x y fs rl) (r0:0≤r) (r1:r < ((ao t).length:Int)):Ret Tryz.prog 146 [aK bw,.int .i64 r] w (.bool (decide ((ai t r).1=1))):=by
 have hle:=hq0 w;obtain ⟨B,O,A,c,hA,hm,_,_⟩:=bz h.th r0 r1;refine Calls.enter Tryz.func146 rfl _ rfl rfl (S:=No) (H:=[]) trivial ?_;refine Ja (Jd (Jb (Ja (Jc (Jf (Je (Je ?_)))))));refine ac rfl hle (h.cell 2 _ rfl) rfl rfl ?_;refine Jc ?_;refine aa hA rfl rfl r0 r1 rfl ?_;refine Je ?_;refine ac (v:=.int .i64 (ai t r).1) rfl hle (hm 0 _ rfl) rfl rfl ?_;refine Ji (Jd (Jb ?_));exact aw rfl Tryz.results146 rfl rfl fun w hw=>⟨rfl,hw.kp⟩
theorem fM {bw:Nat} {t:ThV} {x:TC} {y:QC} {fs:List Int} {rl:List (List Int)} {r:Int} {w:World} (h:QW (mem w (fun b=>¬ No b)) bw t x y fs rl) (r0:0≤r) (r1:r < ((ao t).length:Int)):Ret Tryz.prog 149 [aK bw,.int .i64 r] w (.bool (decide (¬ (ai t r).1=3))):=by
 have hle:=hq0 w;obtain ⟨B,O,A,c,hA,hm,_,_⟩:=bz h.th r0 r1;refine Calls.enter Tryz.func149 rfl _ rfl rfl (S:=No) (H:=[]) trivial ?_;refine Ja (Jd (Jb (Ja (Jc (Jf (Je (Je ?_)))))));refine ac rfl hle (h.cell 2 _ rfl) rfl rfl ?_;refine Jc ?_;refine aa hA rfl rfl r0 r1 rfl ?_;refine Je ?_;refine ac (v:=.int .i64 (ai t r).1) rfl hle (hm 0 _ rfl) rfl rfl ?_;refine Jj (Jd (Jb ?_));exact aw rfl Tryz.results149 rfl rfl fun w hw=>⟨rfl,hw.kp⟩
def p6 (t:ThV) (fs:List Int) (rl:List (List Int)) (m:List Int) (q:Int):Bool:=decide (q∈fs) || (ap rl q).any fun r=>decide ((ai t r).1=1)&&oC m (ai t r).2.2 1
def mh (t:ThV) (fs:List Int) (rl:List (List Int)) (m:List Int) (q:Int):Bool:=!decide (q∈fs)&&(ap rl q).all fun r=>!(decide ((ai t r).1=1)&&!kR m (ai t r).2.2 2)
def eV (t:ThV) (rl:List (List Int)) (m:List Int) (q s:Int):Bool:=(ap rl q).any fun r=>decide (¬ (ai t r).1=3)&&oC m (ai t r).2.2 3&&decide (s∈aQ t r)
def eT (t:ThV) (rl:List (List Int)) (m:List Int) (q s:Int):Bool:=oC m (ai t s).2.2 3&&(ap rl q).all fun r=>!(decide (¬ (ai t r).1=3)&&!kR m (ai t r).2.2 4&&decide (s∈aQ t r))
set_option maxHeartbeats 16000000 in
theorem uN {bw:Nat} {t:ThV} {x:TC} {y:QC} {fs:List Int} {rl:List (List Int)} {m:List Int} {Am:Option Addr} {cm:Nat} {q:Int} {w:World} (h:QW (mem w (fun b=>¬ No b)) bw t x y fs rl) (hk:gL (mem w (fun b=>¬ No b)) Am m) (qk:QOk t rl m) (q0:0≤q) (q1:q < t.1):
 Ret Tryz.prog 103 [aK bw,.slice Am m.length cm,.int .i64 q] w (.bool (p6 t fs rl m q)):=by
 have hle:=hq0 w;obtain ⟨RB,RO,RA,Rc,hRA,hRm,hl⟩:=h.row q0 (by rw [qk.lrl];exact q1);have hrow:=fun r hr=>qk.rin _ (iw q0 (by rw [qk.lrl];exact q1)) r hr;have hsm:=aP hl;unfold br at hsm;unfold p6;generalize ap rl q=l at *;refine Calls.enter Tryz.func103 rfl _ rfl rfl (S:=No) (H:=[]) trivial ?_;refine Ja (Jd (Jb ?_));refine ar ?_;refine Ja (Jc (Jf (Je ?_)));refine ac rfl hle (h.cell 4 _ rfl) rfl rfl ?_;refine Jc ?_;refine aD Tryz.call145 rfl (fun w2 hw=>oP (h.facts.mono (au hw))) rfl ?_;refine Jb ?_;cases hf:decide (q∈fs) with
 | true=>
  refine cn rfl ?_;refine Ja (Jd (Jb ?_));exact aw rfl Tryz.results103 rfl rfl fun w hw=>⟨rfl,hw.kp⟩
 | false=>
 refine ch rfl ?_;refine al (ah ?_);refine ar ?_;refine Ja (Jd (Jb ?_));refine ak ?_;refine aI (ι:={ k:Nat // k≤l.length∧∀ r∈l.take k,(decide ((ai t r).1=1)&&oC m (ai t r).2.2 1)=false }) (fun k=>[(0,aK bw),(1,.slice Am m.length cm),(2,.int .i64 q),(7,.int .i64 k.1)]) (fun _=>[]) (fun k=>l.length - k.1) ⟨0,Nat.zero_le _,fun x hx=>by simp at hx⟩ ⟨rfl,rfl,rfl,rfl,trivial⟩ (fun h=>h) ?_;intro ⟨k,hkk,hS⟩;dsimp only at hkk hS ⊢;refine ar ?_;refine Ja (Jc (Jc (Jf (Je ?_))));refine ac rfl hle (h.cell 5 _ rfl) rfl rfl ?_;refine Jc ?_;refine aa hRA rfl rfl q0 (by rw [qk.lrl];exact q1) rfl ?_;refine ac rfl hle hRm rfl rfl ?_;refine Jg (Jk (Jb ?_));refine ay rfl (fun hlt=>?_) (fun hge=>?_);rotate_left
 ·refine aG rfl (ah ?_)
  refine Ja (Jd (Jb ?_));exact aw rfl Tryz.results103 rfl rfl fun w hw=>⟨by rw [yD (by omega) hS];rfl,hw.kp⟩
 have hlt':k < l.length:=by omega
 obtain ⟨B3,O3,hA3,hm3,_⟩:=aR hl (List.getElem?_eq_getElem hlt');have hmem:=List.getElem_mem hlt';have hnext:=dO (p:=fun r=>(decide ((ai t r).1=1)&&oC m (ai t r).2.2 1)=false) hlt' hS;generalize l[k]=r at *;obtain ⟨r0,r1⟩:=hrow r hmem;obtain ⟨B,O,A4,c4,hA,hm4,hl4,_⟩:=bz h.th r0 r1;refine al (ah ?_);refine ar ?_;refine ak ?_;refine Ja (Jc (Jf (Je ?_)));refine ac rfl hle (h.cell 5 _ rfl) rfl rfl ?_;refine Jc ?_;refine aa hRA rfl rfl q0 (by rw [qk.lrl];exact q1) rfl ?_;refine ac rfl hle hRm rfl rfl ?_;refine Jc ?_;refine aa hA3 rfl rfl (by omega) hlt rfl ?_;refine ac rfl hle (aT hm3) rfl rfl ?_;refine Jd (Jb (Ja (Jc (Jc ?_))));refine aD Tryz.call146 rfl (fun w2 hw=>l8 (h.mono (au hw)) r0 r1) rfl ?_;cases h3:decide ((ai t r).1=1) with
 | false=>
  refine Jc ?_;(iterate 11 refine Jz ?_);refine Jw (Jb ?_);refine ch rfl ?_;refine al (ah ?_);refine aj (Jc ?_);refine Ka ?_;refine Jd (aq ?_);exact Pa ⟨k + 1,hlt',hnext (by rw [h3];rfl)⟩
 | true=>
 refine Jc ?_;refine Jy (Jc ?_);refine Jy (Jc ?_);refine Jy (Jf ?_);refine Jy (Je ?_);refine Jy (Je ?_);refine Jy ?_;refine ac rfl hle (h.cell 2 _ rfl) rfl rfl ?_;refine Jy (Jc ?_);refine Jy ?_;refine aa hA rfl rfl r0 r1 rfl ?_;refine Jy (Je ?_);refine Jy ?_;refine ac (v:=.slice A4 (ai t r).2.2.length c4) rfl hle (hm4 2 _ rfl) rfl rfl ?_;refine Jy ?_;refine aD Tryz.call147 rfl (fun w2 hw=>jw (hk.mono (au hw)) (hl4.mono (au hw)) (qk.body r0 r1) (by decide) (by decide)) rfl ?_;cases h4:oC m (ai t r).2.2 1 with
 | false=>
  refine Jv (Jb ?_);refine ch rfl ?_;refine al (ah ?_);refine aj (Jc ?_);refine Ka ?_;refine Jd (aq ?_);exact Pa ⟨k + 1,hlt',hnext (by rw [h3,h4];rfl)⟩
 | true=>
 refine Jv (Jb ?_);refine cn rfl ?_;refine Ja (Jd (Jb ?_));exact aw rfl Tryz.results103 rfl rfl fun w hw=>⟨by rw [yC hmem (by rw [h3,h4];rfl),Bool.or_true],hw.kp⟩
set_option maxHeartbeats 16000000 in
theorem rJ {bw:Nat} {t:ThV} {x:TC} {y:QC} {fs:List Int} {rl:List (List Int)} {m:List Int} {Am:Option Addr} {cm:Nat} {q:Int} {w:World} (h:QW (mem w (fun b=>¬ No b)) bw t x y fs rl) (hk:gL (mem w (fun b=>¬ No b)) Am m) (qk:QOk t rl m) (q0:0≤q) (q1:q < t.1):
 Ret Tryz.prog 104 [aK bw,.slice Am m.length cm,.int .i64 q] w (.bool (mh t fs rl m q)):=by
 have hle:=hq0 w;obtain ⟨RB,RO,RA,Rc,hRA,hRm,hl⟩:=h.row q0 (by rw [qk.lrl];exact q1);have hrow:=fun r hr=>qk.rin _ (iw q0 (by rw [qk.lrl];exact q1)) r hr;have hsm:=aP hl;unfold br at hsm;unfold mh;generalize ap rl q=l at *;refine Calls.enter Tryz.func104 rfl _ rfl rfl (S:=No) (H:=[]) trivial ?_;refine Ja (Jd (Jb ?_));refine ar ?_;refine Ja (Jc (Jf (Je ?_)));refine ac rfl hle (h.cell 4 _ rfl) rfl rfl ?_;refine Jc ?_;refine aD Tryz.call145 rfl (fun w2 hw=>oP (h.facts.mono (au hw))) rfl ?_;refine Jb ?_;cases hf:decide (q∈fs) with
 | true=>
  refine cn rfl ?_;refine Ja (Jd (Jb ?_));exact aw rfl Tryz.results104 rfl rfl fun w hw=>⟨rfl,hw.kp⟩
 | false=>
 refine ch rfl ?_;refine al (ah ?_);refine ar ?_;refine Ja (Jd (Jb ?_));refine ak ?_;refine aI (ι:={ k:Nat // k≤l.length∧∀ r∈l.take k,(!(decide ((ai t r).1=1)&&!kR m (ai t r).2.2 2))=true }) (fun k=>[(0,aK bw),(1,.slice Am m.length cm),(2,.int .i64 q),(7,.int .i64 k.1)]) (fun _=>[]) (fun k=>l.length - k.1) ⟨0,Nat.zero_le _,fun x hx=>by simp at hx⟩ ⟨rfl,rfl,rfl,rfl,trivial⟩ (fun h=>h) ?_;intro ⟨k,hkk,hS⟩;dsimp only at hkk hS ⊢;refine ar ?_;refine Ja (Jc (Jc (Jf (Je ?_))));refine ac rfl hle (h.cell 5 _ rfl) rfl rfl ?_;refine Jc ?_;refine aa hRA rfl rfl q0 (by rw [qk.lrl];exact q1) rfl ?_;refine ac rfl hle hRm rfl rfl ?_;refine Jg (Jk (Jb ?_));refine ay rfl (fun hlt=>?_) (fun hge=>?_);rotate_left
 ·refine aG rfl (ah ?_)
  refine Ja (Jd (Jb ?_));exact aw rfl Tryz.results104 rfl rfl fun w hw=>⟨by rw [yE (by omega) hS];rfl,hw.kp⟩
 have hlt':k < l.length:=by omega
 obtain ⟨B3,O3,hA3,hm3,_⟩:=aR hl (List.getElem?_eq_getElem hlt');have hmem:=List.getElem_mem hlt';have hnext:=dO (p:=fun r=>(!(decide ((ai t r).1=1)&&!kR m (ai t r).2.2 2))=true) hlt' hS;generalize l[k]=r at *;obtain ⟨r0,r1⟩:=hrow r hmem;obtain ⟨B,O,A4,c4,hA,hm4,hl4,_⟩:=bz h.th r0 r1;refine al (ah ?_);refine ar ?_;refine ak ?_;refine Ja (Jc (Jf (Je ?_)));refine ac rfl hle (h.cell 5 _ rfl) rfl rfl ?_;refine Jc ?_;refine aa hRA rfl rfl q0 (by rw [qk.lrl];exact q1) rfl ?_;refine ac rfl hle hRm rfl rfl ?_;refine Jc ?_;refine aa hA3 rfl rfl (by omega) hlt rfl ?_;refine ac rfl hle (aT hm3) rfl rfl ?_;refine Jd (Jb (Ja (Jc (Jc ?_))));refine aD Tryz.call146 rfl (fun w2 hw=>l8 (h.mono (au hw)) r0 r1) rfl ?_;cases h3:decide ((ai t r).1=1) with
 | false=>
  refine Jc ?_;(iterate 12 refine Jz ?_);refine Jw (Jb ?_);refine ch rfl ?_;refine al (ah ?_);refine aj (Jc ?_);refine Ka ?_;refine Jd (aq ?_);exact Pa ⟨k + 1,hlt',hnext (by rw [h3];rfl)⟩
 | true=>
 refine Jc ?_;refine Jy (Jc ?_);refine Jy (Jc ?_);refine Jy (Jf ?_);refine Jy (Je ?_);refine Jy (Je ?_);refine Jy ?_;refine ac rfl hle (h.cell 2 _ rfl) rfl rfl ?_;refine Jy (Jc ?_);refine Jy ?_;refine aa hA rfl rfl r0 r1 rfl ?_;refine Jy (Je ?_);refine Jy ?_;refine ac (v:=.slice A4 (ai t r).2.2.length c4) rfl hle (hm4 2 _ rfl) rfl rfl ?_;refine Jy ?_;refine aD Tryz.call148 rfl (fun w2 hw=>jv (hk.mono (au hw)) (hl4.mono (au hw)) (qk.body r0 r1) (by decide) (by decide)) rfl ?_;cases h4:kR m (ai t r).2.2 2 with
 | true=>
  refine Jy (Js (Jv (Jb ?_)));refine ch rfl ?_;refine al (ah ?_);refine aj (Jc ?_);refine Ka ?_;refine Jd (aq ?_);exact Pa ⟨k + 1,hlt',hnext (by rw [h3,h4];rfl)⟩
 | false=>
 refine Jy (Js (Jv (Jb ?_)));refine cn rfl ?_;refine Ja (Jd (Jb ?_));exact aw rfl Tryz.results104 rfl rfl fun w hw=>⟨by rw [yF hmem (by rw [h3,h4];rfl),Bool.and_false],hw.kp⟩
set_option maxHeartbeats 16000000 in
theorem rK {bw:Nat} {t:ThV} {x:TC} {y:QC} {fs:List Int} {rl:List (List Int)} {m:List Int} {Am:Option Addr} {cm:Nat} {q s:Int} {w:World} (h:QW (mem w (fun b=>¬ No b)) bw t x y fs rl) (hk:gL (mem w (fun b=>¬ No b)) Am m) (qk:QOk t rl m) (q0:0≤q) (q1:q < t.1):
 Ret Tryz.prog 150 [aK bw,.slice Am m.length cm,.int .i64 q,.int .i64 s] w (.bool (eV t rl m q s)):=by
 have hle:=hq0 w;obtain ⟨RB,RO,RA,Rc,hRA,hRm,hl⟩:=h.row q0 (by rw [qk.lrl];exact q1);have hrow:=fun r hr=>qk.rin _ (iw q0 (by rw [qk.lrl];exact q1)) r hr;have hsm:=aP hl;unfold br at hsm;unfold eV;generalize ap rl q=l at *;refine Calls.enter Tryz.func150 rfl _ rfl rfl (S:=No) (H:=[]) trivial ?_;refine Ja (Jd (Jb ?_));refine ar ?_;refine Ja (Jd (Jb ?_));refine ak ?_;refine aI (ι:={ k:Nat // k≤l.length∧∀ r∈l.take k,(decide (¬ (ai t r).1=3)&&oC m (ai t r).2.2 3&&decide (s∈aQ t r))=false }) (fun k=>[(0,aK bw),(1,.slice Am m.length cm),(2,.int .i64 q),(3,.int .i64 s),(9,.int .i64 k.1)]) (fun _=>[]) (fun k=>l.length - k.1) ⟨0,Nat.zero_le _,fun x hx=>by simp at hx⟩ ⟨rfl,rfl,rfl,rfl,rfl,trivial⟩ (fun h=>h) ?_;intro ⟨k,hkk,hS⟩;dsimp only at hkk hS ⊢;refine ar ?_;refine Ja (Jc (Jc (Jf (Je ?_))));refine ac rfl hle (h.cell 5 _ rfl) rfl rfl ?_;refine Jc ?_;refine aa hRA rfl rfl q0 (by rw [qk.lrl];exact q1) rfl ?_;refine ac rfl hle hRm rfl rfl ?_;refine Jg (Jk (Jb ?_));refine ay rfl (fun hlt=>?_) (fun hge=>?_);rotate_left
 ·refine aG rfl (ah ?_)
  refine Ja (Jd (Jb ?_));exact aw rfl Tryz.results150 rfl rfl fun w hw=>⟨by rw [yD (by omega) hS],hw.kp⟩
 have hlt':k < l.length:=by omega
 obtain ⟨B3,O3,hA3,hm3,_⟩:=aR hl (List.getElem?_eq_getElem hlt');have hmem:=List.getElem_mem hlt';have hnext:=dO (p:=fun r=>(decide (¬ (ai t r).1=3)&&oC m (ai t r).2.2 3&&decide (s∈aQ t r))=false) hlt' hS;generalize l[k]=r at *;obtain ⟨r0,r1⟩:=hrow r hmem;obtain ⟨B,O,A4,c4,hA,hm4,hl4,_⟩:=bz h.th r0 r1;obtain ⟨B5,O5,A5,c5,hA5,hm5,hl5⟩:=iS h.th r0 (by rw [qk.beats];exact r1);refine al (ah ?_);refine ar ?_;refine ak ?_;refine Ja (Jc (Jf (Je ?_)));refine ac rfl hle (h.cell 5 _ rfl) rfl rfl ?_;refine Jc ?_;refine aa hRA rfl rfl q0 (by rw [qk.lrl];exact q1) rfl ?_;refine ac rfl hle hRm rfl rfl ?_;refine Jc ?_;refine aa hA3 rfl rfl (by omega) hlt rfl ?_;refine ac rfl hle (aT hm3) rfl rfl ?_;refine Jd (Jb (Ja (Jc (Jc ?_))));refine aD Tryz.call149 rfl (fun w2 hw=>fM (h.mono (au hw)) r0 r1) rfl ?_;cases h3:decide (¬ (ai t r).1=3) with
 | false=>
  refine Jc ?_;(iterate 11 refine Jz ?_);refine Jw (Jc ?_);(iterate 10 refine Jz ?_);refine Jw (Jb ?_);refine ch rfl ?_;refine al (ah ?_);refine aj (Jc ?_);refine Ka ?_;refine Jd (aq ?_);exact Pa ⟨k + 1,hlt',hnext (by rw [h3];rfl)⟩
 | true=>
 refine Jc ?_;refine Jy (Jc ?_);refine Jy (Jc ?_);refine Jy (Jf ?_);refine Jy (Je ?_);refine Jy (Je ?_);refine Jy ?_;refine ac rfl hle (h.cell 2 _ rfl) rfl rfl ?_;refine Jy (Jc ?_);refine Jy ?_;refine aa hA rfl rfl r0 r1 rfl ?_;refine Jy (Je ?_);refine Jy ?_;refine ac (v:=.slice A4 (ai t r).2.2.length c4) rfl hle (hm4 2 _ rfl) rfl rfl ?_;refine Jy ?_;refine aD Tryz.call147 rfl (fun w2 hw=>jw (hk.mono (au hw)) (hl4.mono (au hw)) (qk.body r0 r1) (by decide) (by decide)) rfl ?_;cases h4:oC m (ai t r).2.2 3 with
 | false=>
  refine Jv (Jc ?_);(iterate 10 refine Jz ?_);refine Jw (Jb ?_);refine ch rfl ?_;refine al (ah ?_);refine aj (Jc ?_);refine Ka ?_;refine Jd (aq ?_);exact Pa ⟨k + 1,hlt',hnext (by rw [h3,h4];rfl)⟩
 | true=>
 refine Jv (Jc ?_);refine Jy (Jc ?_);refine Jy (Jf ?_);refine Jy (Je ?_);refine Jy (Je ?_);refine Jy ?_;refine ac rfl hle (h.cell 3 _ rfl) rfl rfl ?_;refine Jy (Jc ?_);refine Jy ?_;refine aa hA5 rfl rfl r0 (by rw [qk.beats];exact r1) rfl ?_;refine Jy ?_;refine ac rfl hle hm5 rfl rfl ?_;refine Jy (Jc ?_);refine Jy ?_;refine aD Tryz.call145 rfl (fun w2 hw=>oP (hl5.mono (au hw))) rfl ?_;cases h5:decide (s∈aQ t r) with
 | false=>
  refine Jv (Jb ?_);refine ch rfl ?_;refine al (ah ?_);refine aj (Jc ?_);refine Ka ?_;refine Jd (aq ?_);exact Pa ⟨k + 1,hlt',hnext (by rw [h3,h4,h5];rfl)⟩
 | true=>
 refine Jv (Jb ?_);refine cn rfl ?_;refine Ja (Jd (Jb ?_));exact aw rfl Tryz.results150 rfl rfl fun w hw=>⟨by rw [yC hmem (by rw [h3,h4,h5];rfl)],hw.kp⟩
set_option maxHeartbeats 16000000 in
theorem rH {bw:Nat} {t:ThV} {x:TC} {y:QC} {fs:List Int} {rl:List (List Int)} {m:List Int} {Am:Option Addr} {cm:Nat} {q s:Int} {w:World} (h:QW (mem w (fun b=>¬ No b)) bw t x y fs rl) (hk:gL (mem w (fun b=>¬ No b)) Am m) (qk:QOk t rl m) (q0:0≤q) (q1:q < t.1) (s0:0≤s) (s1:s < ((ao t).length:Int)):
 Ret Tryz.prog 151 [aK bw,.slice Am m.length cm,.int .i64 q,.int .i64 s] w (.bool (eT t rl m q s)):=by
 have hle:=hq0 w;obtain ⟨RB,RO,RA,Rc,hRA,hRm,hl⟩:=h.row q0 (by rw [qk.lrl];exact q1);have hrow:=fun r hr=>qk.rin _ (iw q0 (by rw [qk.lrl];exact q1)) r hr;have hsm:=aP hl;unfold br at hsm;unfold eT;generalize ap rl q=l at *;refine Calls.enter Tryz.func151 rfl _ rfl rfl (S:=No) (H:=[]) trivial ?_;refine Ja (Jd (Jb ?_));obtain ⟨B6,O6,A6,c6,hA6,hm6,hl6,_⟩:=bz h.th s0 s1;refine ar ?_;refine Ja (Jc (Jc (Jf (Je (Je ?_)))));refine ac rfl hle (h.cell 2 _ rfl) rfl rfl ?_;refine Jc ?_;refine aa hA6 rfl rfl s0 s1 rfl ?_;refine Je ?_;refine ac (v:=.slice A6 (ai t s).2.2.length c6) rfl hle (hm6 2 _ rfl) rfl rfl ?_
 skip
 refine aD Tryz.call147 rfl (fun w2 hw=>jw (hk.mono (au hw)) (hl6.mono (au hw)) (qk.body s0 s1) (by decide) (by decide)) rfl ?_;cases hf:oC m (ai t s).2.2 3 with
 | false=>
  refine Js (Jb ?_);refine cn rfl ?_;refine Ja (Jd (Jb ?_));exact aw rfl Tryz.results151 rfl rfl fun w hw=>⟨rfl,hw.kp⟩
 | true=>
 refine Js (Jb ?_);refine ch rfl ?_;refine al (ah ?_);refine ar ?_;refine Ja (Jd (Jb ?_));refine ak ?_;refine aI (ι:={ k:Nat // k≤l.length∧∀ r∈l.take k,(!(decide (¬ (ai t r).1=3)&&!kR m (ai t r).2.2 4&&decide (s∈aQ t r)))=true }) (fun k=>[(0,aK bw),(1,.slice Am m.length cm),(2,.int .i64 q),(3,.int .i64 s),(9,.int .i64 k.1)]) (fun _=>[]) (fun k=>l.length - k.1) ⟨0,Nat.zero_le _,fun x hx=>by simp at hx⟩ ⟨rfl,rfl,rfl,rfl,rfl,trivial⟩ (fun h=>h) ?_;intro ⟨k,hkk,hS⟩;dsimp only at hkk hS ⊢;refine ar ?_;refine Ja (Jc (Jc (Jf (Je ?_))));refine ac rfl hle (h.cell 5 _ rfl) rfl rfl ?_;refine Jc ?_;refine aa hRA rfl rfl q0 (by rw [qk.lrl];exact q1) rfl ?_;refine ac rfl hle hRm rfl rfl ?_;refine Jg (Jk (Jb ?_));refine ay rfl (fun hlt=>?_) (fun hge=>?_);rotate_left
 ·refine aG rfl (ah ?_)
  refine Ja (Jd (Jb ?_));exact aw rfl Tryz.results151 rfl rfl fun w hw=>⟨by rw [yE (by omega) hS];rfl,hw.kp⟩
 have hlt':k < l.length:=by omega
 obtain ⟨B3,O3,hA3,hm3,_⟩:=aR hl (List.getElem?_eq_getElem hlt');have hmem:=List.getElem_mem hlt';have hnext:=dO (p:=fun r=>(!(decide (¬ (ai t r).1=3)&&!kR m (ai t r).2.2 4&&decide (s∈aQ t r)))=true) hlt' hS;generalize l[k]=r at *;obtain ⟨r0,r1⟩:=hrow r hmem;obtain ⟨B,O,A4,c4,hA,hm4,hl4,_⟩:=bz h.th r0 r1;obtain ⟨B5,O5,A5,c5,hA5,hm5,hl5⟩:=iS h.th r0 (by rw [qk.beats];exact r1);refine al (ah ?_);refine ar ?_;refine ak ?_;refine Ja (Jc (Jf (Je ?_)));refine ac rfl hle (h.cell 5 _ rfl) rfl rfl ?_;refine Jc ?_;refine aa hRA rfl rfl q0 (by rw [qk.lrl];exact q1) rfl ?_;refine ac rfl hle hRm rfl rfl ?_;refine Jc ?_;refine aa hA3 rfl rfl (by omega) hlt rfl ?_;refine ac rfl hle (aT hm3) rfl rfl ?_;refine Jd (Jb (Ja (Jc (Jc ?_))));refine aD Tryz.call149 rfl (fun w2 hw=>fM (h.mono (au hw)) r0 r1) rfl ?_;cases h3:decide (¬ (ai t r).1=3) with
 | false=>
  refine Jc ?_;(iterate 12 refine Jz ?_);refine Jw (Jc ?_);(iterate 10 refine Jz ?_);refine Jw (Jb ?_);refine ch rfl ?_;refine al (ah ?_);refine aj (Jc ?_);refine Ka ?_;refine Jd (aq ?_);exact Pa ⟨k + 1,hlt',hnext (by rw [h3];rfl)⟩
 | true=>
 refine Jc ?_;refine Jy (Jc ?_);refine Jy (Jc ?_);refine Jy (Jf ?_);refine Jy (Je ?_);refine Jy (Je ?_);refine Jy ?_;refine ac rfl hle (h.cell 2 _ rfl) rfl rfl ?_;refine Jy (Jc ?_);refine Jy ?_;refine aa hA rfl rfl r0 r1 rfl ?_;refine Jy (Je ?_);refine Jy ?_;refine ac (v:=.slice A4 (ai t r).2.2.length c4) rfl hle (hm4 2 _ rfl) rfl rfl ?_;refine Jy ?_;refine aD Tryz.call148 rfl (fun w2 hw=>jv (hk.mono (au hw)) (hl4.mono (au hw)) (qk.body r0 r1) (by decide) (by decide)) rfl ?_;cases h4:kR m (ai t r).2.2 4 with
 | true=>
  refine Jy (Js (Jv (Jc ?_)));(iterate 10 refine Jz ?_);refine Jw (Jb ?_);refine ch rfl ?_;refine al (ah ?_);refine aj (Jc ?_);refine Ka ?_;refine Jd (aq ?_);exact Pa ⟨k + 1,hlt',hnext (by rw [h3,h4];rfl)⟩
 | false=>
 refine Jy (Js (Jv (Jc ?_)));refine Jy (Jc ?_);refine Jy (Jf ?_);refine Jy (Je ?_);refine Jy (Je ?_);refine Jy ?_;refine ac rfl hle (h.cell 3 _ rfl) rfl rfl ?_;refine Jy (Jc ?_);refine Jy ?_;refine aa hA5 rfl rfl r0 (by rw [qk.beats];exact r1) rfl ?_;refine Jy ?_;refine ac rfl hle hm5 rfl rfl ?_;refine Jy (Jc ?_);refine Jy ?_;refine aD Tryz.call145 rfl (fun w2 hw=>oP (hl5.mono (au hw))) rfl ?_;cases h5:decide (s∈aQ t r) with
 | false=>
  refine Jv (Jb ?_);refine ch rfl ?_;refine al (ah ?_);refine aj (Jc ?_);refine Ka ?_;refine Jd (aq ?_);exact Pa ⟨k + 1,hlt',hnext (by rw [h3,h4,h5];rfl)⟩
 | true=>
 refine Jv (Jb ?_);refine cn rfl ?_;refine Ja (Jd (Jb ?_));exact aw rfl Tryz.results151 rfl rfl fun w hw=>⟨by rw [yF hmem (by rw [h3,h4,h5];rfl),Bool.and_false],hw.kp⟩
end
section
def pZ (t:ThV) (rl:List (List Int)) (m:List Int) (q:Int):Bool:=qM m q 1 || (((ap rl q).any fun r=>decide (¬ (ai t r).1=3)&&oC m (ai t r).2.2 3)&&(oC m (cq t q) 2&&(cq t q).all fun g=>(ap rl g).all fun s=>kR m (ai t s).2.2 4 || eV t rl m q s))
def mg (t:ThV) (rl:List (List Int)) (m:List Int) (q:Int):Bool:=qM m q 2&&(((ap rl q).all fun r=>!decide (¬ (ai t r).1=3) || kR m (ai t r).2.2 4) || (kR m (cq t q) 1 || (cq t q).any fun g=>(ap rl g).any fun s=>eT t rl m q s))
def jJ (t:ThV) (fs:List Int) (rl:List (List Int)) (m:List Int) (k q:Int):Bool:=if k=1 then p6 t fs rl m q else if k=2 then mh t fs rl m q else if k=3 then pZ t rl m q else mg t rl m q
theorem zo {α:Type} {l:List α} {f:α→Bool} {k:Nat} (hk:k < l.length):(l.take (k + 1)).any f=((l.take k).any f || f l[k]):=by
 rw [List.take_add_one,List.getElem?_eq_getElem hk,List.any_append];simp
theorem zq {α:Type} {l:List α} {f:α→Bool} {k:Nat} (hk:k < l.length):(l.take (k + 1)).all f=((l.take k).all f&&f l[k]):=by
 rw [List.take_add_one,List.getElem?_eq_getElem hk,List.all_append];simp
attribute [local irreducible] RW CW
set_option maxHeartbeats 16000000 in
theorem uM {bw:Nat} {t:ThV} {x:TC} {y:QC} {fs:List Int} {rl:List (List Int)} {m:List Int} {Am:Option Addr} {cm:Nat} {q:Int} {w:World} (h:QW (mem w (fun b=>¬ No b)) bw t x y fs rl) (hk:gL (mem w (fun b=>¬ No b)) Am m) (qk:QOk t rl m) (q0:0≤q) (q1:q < t.1):
 Ret Tryz.prog 105 [aK bw,.slice Am m.length cm,.int .i64 q] w (.bool (pZ t rl m q)):=by
 have hle:=hq0 w;have q2:q < ((aH t).length:Int):=by rw [← qk.ok.lits];exact q1
 obtain ⟨RB,RO,RA,Rc,hRA,hRm,hl⟩:=h.row q0 (by rw [qk.lrl];exact q1);obtain ⟨FB,FO,FA,Fc,hFA,hFm,hF⟩:=kJ h.th q0 q2;obtain ⟨MB,MO,hMA,hMm⟩:=hk q q0 (by rw [qk.lm];exact q1);have hrow:=fun r hr=>qk.rin _ (iw q0 (by rw [qk.lrl];exact q1)) r hr;have hfoe:=qk.foe (q:=q);have hsm:=aP hl;have hsf:=aP hF;unfold br at hsm hsf;unfold pZ;generalize hPd:(fun r=>decide (¬ (ai t r).1=3)&&oC m (ai t r).2.2 3)=P at *;generalize ap rl q=l at *;refine Calls.enter Tryz.func105 rfl _ rfl rfl (S:=No) (H:=[]) trivial ?_;refine Ja (Jd (Jb ?_));refine ar ?_;refine bR (by kernel_rfl) rfl ?_;refine Xc (Xc ?_);refine Aw (fun _ _=>aa hMA rfl rfl q0 (by rw [qk.lm];exact q1) rfl Dn) ?_;refine Aw (fun _ _=>ac (v:=.int .u8 (aF m q)) rfl hle (by rw [Nat.mul_one];exact hMm) rfl rfl Dn) ?_
 skip
 refine Aw (fun _ _=>aD Tryz.call22 rfl (fun w2 hw=>iL (by decide) (by decide)) rfl Dn) ?_;refine Aw (fun _ _=>jp rfl rfl rfl rfl Dn) ?_;refine Aw (fun _ _=>Jj Dn) ?_;refine Aq fun bs=>?_;refine Jb ?_;refine ay rfl (fun hc=>?_) (fun hc=>?_)
 ·refine Ja (Jd (Jb ?_))
  exact aw rfl Tryz.results105 rfl rfl fun w hw=>⟨by rw [show qM m q 1=true from decide_eq_true hc];rfl,hw.kp⟩
 rw [show qM m q 1=false from decide_eq_false hc,Bool.false_or];refine al (ah ?_);refine Ja (Jd (Jb ?_));refine ar ?_;refine Ja (Jd (Jb ?_));refine ak ?_;refine aI (ι:={ k:Nat // k≤l.length }) (fun k=>[(0,aK bw),(1,.slice Am m.length cm),(2,.int .i64 q),(7,.bool ((l.take k.1).any P)),(8,.int .i64 k.1)]) (fun _=>[]) (fun k=>l.length - k.1) ⟨0,Nat.zero_le _⟩ ⟨rfl,rfl,rfl,by rw [List.take_zero];rfl,rfl,trivial⟩ (fun h=>h) ?_;intro ⟨k,hkk⟩;dsimp only at hkk ⊢;refine ar ?_;refine Ja (Jc (Jc (Jf (Je ?_))));refine ac rfl hle (h.cell 5 _ rfl) rfl rfl ?_;refine Jc ?_;refine aa hRA rfl rfl q0 (by rw [qk.lrl];exact q1) rfl ?_;refine ac rfl hle hRm rfl rfl ?_;refine Jg (Jk (Jb ?_));refine ay rfl (fun hlt=>?_) (fun hge=>?_)
 ·have hlt':k < l.length:=by omega
  obtain ⟨B3,O3,hA3,hm3,_⟩:=aR hl (List.getElem?_eq_getElem hlt');have hmem:=List.getElem_mem hlt';have hnext:=zo (f:=P) hlt';generalize l[k]=r at *;obtain ⟨r0,r1⟩:=hrow r hmem;obtain ⟨B,O,A4,c4,hA,hm4,hl4,_⟩:=bz h.th r0 r1;have hPr:P r=_:=(congrFun hPd r).symm;rw [hPr] at hnext;refine al (ah ?_);refine ar ?_;refine ak ?_;cases hb:(l.take k).any P with
  | true=>
   rw [hb,Bool.true_or] at hnext;refine dZ (by kernel_rfl) rfl ?_;refine Xc (Xc ?_);(iterate 33 refine Aw (fun _ _=>Jz Dn) ?_);refine Aq fun bs=>?_;refine Jz (Jv (Jd ?_));refine aq (ah ?_);refine aj (Jc ?_);refine Ka ?_;refine Jd (aq ?_);exact bp ⟨k + 1,hlt'⟩ ⟨rfl,rfl,rfl,by rw [hnext];rfl,rfl,trivial⟩ (fun h=>h) (by show l.length - (k + 1) < l.length - k;omega)
  | false=>
  rw [hb,Bool.false_or] at hnext;refine dZ (by kernel_rfl) rfl ?_;refine Xc (Xc ?_);refine Aw (fun _ _=>aJ rfl (Jc Dn)) ?_;refine Aw (fun _ _=>aJ rfl (Jc Dn)) ?_;refine Aw (fun _ _=>aJ rfl (Jf Dn)) ?_;refine Aw (fun _ _=>aJ rfl (Je Dn)) ?_;refine Aw (fun _ _=>aJ rfl (ac rfl hle (h.cell 5 _ rfl) rfl rfl Dn)) ?_;refine Aw (fun _ _=>aJ rfl (Jc Dn)) ?_;refine Aw (fun _ _=>aJ rfl (aa hRA rfl rfl q0 (by rw [qk.lrl];exact q1) rfl Dn)) ?_
  skip
  refine Aw (fun _ _=>aJ rfl (ac rfl hle hRm rfl rfl Dn)) ?_;refine Aw (fun _ _=>aJ rfl (Jc Dn)) ?_;refine Aw (fun _ _=>aJ rfl (aa hA3 rfl rfl (by omega) hlt rfl Dn)) ?_
  skip
  refine Aw (fun _ _=>aJ rfl (ac rfl hle (aT hm3) rfl rfl Dn)) ?_
  skip
  refine Aw (fun _ _=>aJ rfl (aD Tryz.call149 rfl (fun w2 hw=>fM (h.mono (au hw)) r0 r1) rfl Dn)) ?_;cases h3:decide (¬ (ai t r).1=3) with
  | false=>
   refine Aw (fun _ _=>aJ rfl (Jc Dn)) ?_;(iterate 20 refine Aw (fun _ _=>Jz Dn) ?_);refine Aq fun bs=>?_;refine Jy (Jw (Jw (Jd ?_)));refine aq (ah ?_);refine aj (Jc ?_);refine Ka ?_;refine Jd (aq ?_);exact bp ⟨k + 1,hlt'⟩ ⟨rfl,rfl,rfl,by rw [hnext,h3];rfl,rfl,trivial⟩ (fun h=>h) (by show l.length - (k + 1) < l.length - k;omega)
  | true=>
  refine Aw (fun _ _=>aJ rfl (Jc Dn)) ?_;refine Aw (fun _ _=>aJ rfl (Jc Dn)) ?_;refine Aw (fun _ _=>aJ rfl (Jc Dn)) ?_;refine Aw (fun _ _=>aJ rfl (Jf Dn)) ?_;refine Aw (fun _ _=>aJ rfl (Je Dn)) ?_;refine Aw (fun _ _=>aJ rfl (Je Dn)) ?_;refine Aw (fun _ _=>aJ rfl (ac rfl hle (h.cell 2 _ rfl) rfl rfl Dn)) ?_;refine Aw (fun _ _=>aJ rfl (Jc Dn)) ?_;refine Aw (fun _ _=>aJ rfl (Jf Dn)) ?_;refine Aw (fun _ _=>aJ rfl (Je Dn)) ?_;refine Aw (fun _ _=>aJ rfl (ac rfl hle (h.cell 5 _ rfl) rfl rfl Dn)) ?_;refine Aw (fun _ _=>aJ rfl (Jc Dn)) ?_;refine Aw (fun _ _=>aJ rfl (aa hRA rfl rfl q0 (by rw [qk.lrl];exact q1) rfl Dn)) ?_
  skip
  refine Aw (fun _ _=>aJ rfl (ac rfl hle hRm rfl rfl Dn)) ?_;refine Aw (fun _ _=>aJ rfl (Jc Dn)) ?_;refine Aw (fun _ _=>aJ rfl (aa hA3 rfl rfl (by omega) hlt rfl Dn)) ?_
  skip
  refine Aw (fun _ _=>aJ rfl (ac rfl hle (aT hm3) rfl rfl Dn)) ?_
  skip
  refine Aw (fun _ _=>aJ rfl (aa hA rfl rfl r0 r1 rfl Dn)) ?_;refine Aw (fun _ _=>aJ rfl (Je Dn)) ?_;refine Aw (fun _ _=>aJ rfl (ac (v:=.slice A4 (ai t r).2.2.length c4) rfl hle (hm4 2 _ rfl) rfl rfl Dn)) ?_
  skip
  refine Aw (fun _ _=>aJ rfl (aD Tryz.call147 rfl (fun w2 hw=>jw (hk.mono (au hw)) (hl4.mono (au hw)) (qk.body r0 r1) (by decide) (by decide)) rfl Dn)) ?_;cases h4:oC m (ai t r).2.2 3 with
  | true=>
   refine Aq fun bs=>?_;refine Jy (Jv (Jw (Jd ?_)));refine aq (ah ?_);refine aj (Jc ?_);refine Ka ?_;refine Jd (aq ?_);exact bp ⟨k + 1,hlt'⟩ ⟨rfl,rfl,rfl,by rw [hnext,h3,h4];rfl,rfl,trivial⟩ (fun h=>h) (by show l.length - (k + 1) < l.length - k;omega)
  | false=>
   refine Aq fun bs=>?_;refine Jy (Jv (Jw (Jd ?_)));refine aq (ah ?_);refine aj (Jc ?_);refine Ka ?_;refine Jd (aq ?_);exact bp ⟨k + 1,hlt'⟩ ⟨rfl,rfl,rfl,by rw [hnext,h3,h4];rfl,rfl,trivial⟩ (fun h=>h) (by show l.length - (k + 1) < l.length - k;omega)
 rw [List.take_of_length_le (by omega)];refine aG rfl (ah ?_);refine ar ?_;cases hb:l.any P with
 | false=>
  refine Ja (Jc (Js (Jc ?_)));(iterate 11 refine Jz ?_);refine Jv (Jb ?_);refine cn rfl ?_;refine Ja (Jd (Jb ?_));exact aw rfl Tryz.results105 rfl rfl fun w hw=>⟨rfl,hw.kp⟩
 | true=>
 rw [Bool.true_and];refine Ja (Jc (Js (Jc ?_)));refine Jy (Jc ?_);refine Jy (Jc ?_);refine Jy (Jf ?_);refine Jy (Je ?_);refine Jy (Je ?_);refine Jy ?_;refine ac rfl hle (h.cell 1 _ rfl) rfl rfl ?_;refine Jy (Jc ?_);refine Jy ?_;refine aa hFA rfl rfl q0 q2 rfl ?_;refine Jy ?_;refine ac rfl hle hFm rfl rfl ?_;refine Jy ?_;refine aD Tryz.call147 rfl (fun w2 hw=>jw (hk.mono (au hw)) (hF.mono (au hw)) (fun b hb=>by rw [qk.lm];exact hfoe b hb) (by decide) (by decide)) rfl ?_;cases hc2:oC m (cq t q) 2 with
 | false=>
  refine Jy (Js (Jw (Jb ?_)));refine cn rfl ?_;refine Ja (Jd (Jb ?_));exact aw rfl Tryz.results105 rfl rfl fun w hw=>⟨rfl,hw.kp⟩
 | true=>
 rw [Bool.true_and];refine Jy (Js (Jw (Jb ?_)));refine ch rfl ?_;refine al (ah ?_);refine ar ?_;refine Ja (Jd (Jb ?_));generalize cq t q=fl at *;refine ak ?_;refine aI (ι:={ k:Nat // k≤fl.length∧∀ g∈fl.take k,(ap rl g).all (fun s=>kR m (ai t s).2.2 4 || eV t rl m q s)=true }) (fun k=>[(0,aK bw),(1,.slice Am m.length cm),(2,.int .i64 q),(9,.int .i64 k.1)]) (fun _=>[]) (fun k=>fl.length - k.1) ⟨0,Nat.zero_le _,fun x hx=>by simp at hx⟩ ⟨rfl,rfl,rfl,rfl,trivial⟩ (fun h=>h) ?_;intro ⟨k,hkk,hS⟩;dsimp only at hkk hS ⊢;refine ar ?_;refine Ja (Jc (Jc (Jf (Je (Je ?_)))));refine ac rfl hle (h.cell 1 _ rfl) rfl rfl ?_;refine Jc ?_;refine aa hFA rfl rfl q0 q2 rfl ?_
 skip
 refine ac rfl hle hFm rfl rfl ?_;refine Jg (Jk (Jb ?_));refine ay rfl (fun hlt=>?_) (fun hge=>?_);rotate_left
 ·refine aG rfl (ah ?_)
  refine Ja (Jd (Jb ?_));exact aw rfl Tryz.results105 rfl rfl fun w hw=>⟨by rw [yE (by omega) hS],hw.kp⟩
 have hlt':k < fl.length:=by omega
 obtain ⟨B3,O3,hA3,hm3,_⟩:=aR hF (List.getElem?_eq_getElem hlt');have hmem:=List.getElem_mem hlt';have hnext:=dO (p:=fun g=>(ap rl g).all (fun s=>kR m (ai t s).2.2 4 || eV t rl m q s)=true) hlt' hS;generalize fl[k]=g at *;obtain ⟨g0,g1⟩:=hfoe g hmem;obtain ⟨SB,SO,SA,Sc,hSA,hSm,hsl⟩:=h.row g0 (by rw [qk.lrl];exact g1);have hrow2:=fun r hr=>qk.rin _ (iw g0 (by rw [qk.lrl];exact g1)) r hr;have hbad:(ap rl g).all (fun s=>kR m (ai t s).2.2 4 || eV t rl m q s)=false→fl.all (fun g=>(ap rl g).all (fun s=>kR m (ai t s).2.2 4 || eV t rl m q s))=false:=fun e=>yF hmem e;have hss:=aP hsl;unfold br at hss;generalize ap rl g=sl at *;refine al (ah ?_);refine ar ?_;refine ak ?_;refine bR (by kernel_rfl) rfl ?_;refine Xc (Xf (Xe ?_));refine Aw (fun _ _=>ac rfl hle (h.cell 5 _ rfl) rfl rfl Dn) ?_;refine Xc (Xf (Xe (Xe ?_)));refine Aw (fun _ _=>ac rfl hle (h.cell 1 _ rfl) rfl rfl Dn) ?_;refine Xc ?_;refine Aw (fun _ _=>aa hFA rfl rfl q0 q2 rfl Dn) ?_;refine Aw (fun _ _=>ac rfl hle hFm rfl rfl Dn) ?_;refine Xc ?_;refine Aw (fun _ _=>aa hA3 rfl rfl (by omega) hlt rfl Dn) ?_;refine Aw (fun _ _=>ac rfl hle (aT hm3) rfl rfl Dn) ?_;refine Aw (fun _ _=>aa hSA rfl rfl g0 (by rw [qk.lrl];exact g1) rfl Dn) ?_;refine Aw (fun _ _=>ac rfl hle hSm rfl rfl Dn) ?_;refine Aq fun bs=>?_;refine Jd (Jb (Ja (Jd (Jb ?_))));refine ak ?_;refine aI (ι:={ j:Nat // j≤sl.length∧∀ s∈sl.take j,(kR m (ai t s).2.2 4 || eV t rl m q s)=true }) (fun j=>[(0,aK bw),(1,.slice Am m.length cm),(2,.int .i64 q),(9,.int .i64 k),(10,.slice SA sl.length Sc),(11,.int .i64 j.1)]) (fun _=>[]) (fun j=>sl.length - j.1) ⟨0,Nat.zero_le _,fun x hx=>by simp at hx⟩ ⟨rfl,rfl,rfl,rfl,rfl,rfl,trivial⟩ (fun h=>h) ?_;intro ⟨j,hj,hT⟩;dsimp only at hj hT ⊢;refine ar ?_;refine Ja (Jc (Jc (Jg (Jk (Jb ?_)))));refine ay rfl (fun hlt2=>?_) (fun hge2=>?_);rotate_left
 ·refine aG rfl (ah ?_)
  refine aj (Jc ?_);refine Ka ?_;refine Jd (aq ?_);exact Pa ⟨k + 1,hlt',hnext (yE (by omega) hT)⟩
 have hlt3:j < sl.length:=by omega
 obtain ⟨B7,O7,hA7,hm7,_⟩:=aR hsl (List.getElem?_eq_getElem hlt3);have hmem2:=List.getElem_mem hlt3;have hnext2:=dO (p:=fun s=>(kR m (ai t s).2.2 4 || eV t rl m q s)=true) hlt3 hT;generalize sl[j]=s at *;obtain ⟨s0,s1⟩:=hrow2 s hmem2;obtain ⟨B,O,A4,c4,hA,hm4,hl4,_⟩:=bz h.th s0 s1;refine al (ah ?_);refine ar ?_;refine ak ?_;refine bR (by kernel_rfl) rfl ?_;refine Xc (Xc (Xf (Xe (Xe ?_))));refine Aw (fun _ _=>ac rfl hle (h.cell 2 _ rfl) rfl rfl Dn) ?_;refine Xc (Xc ?_);refine Aw (fun _ _=>aa hA7 rfl rfl (by omega) hlt2 rfl Dn) ?_;refine Aw (fun _ _=>ac rfl hle (aT hm7) rfl rfl Dn) ?_;refine Aw (fun _ _=>aa hA rfl rfl s0 s1 rfl Dn) ?_;refine Xe ?_;refine Aw (fun _ _=>ac (v:=.slice A4 (ai t s).2.2.length c4) rfl hle (hm4 2 _ rfl) rfl rfl Dn) ?_
 skip
 refine Aw (fun _ _=>aD Tryz.call148 rfl (fun w2 hw=>jv (hk.mono (au hw)) (hl4.mono (au hw)) (qk.body s0 s1) (by decide) (by decide)) rfl Dn) ?_;cases h3:kR m (ai t s).2.2 4 with
 | true=>
  refine Aw (fun _ _=>Js Dn) ?_;refine Xc ?_;(iterate 9 refine Aw (fun _ _=>Jz Dn) ?_);refine Aw (fun _ _=>Jw Dn) ?_;refine Aq fun bs=>?_;refine Jb ?_;refine ch rfl ?_;refine al (ah ?_);refine aj (Jc ?_);refine Ka ?_;refine Jd (aq ?_);exact Pa ⟨j + 1,hlt3,hnext2 (by rw [h3];rfl)⟩
 | false=>
 refine Aw (fun _ _=>Js Dn) ?_;refine Xc ?_;refine Aw (fun _ _=>aJ rfl (Jc Dn)) ?_;refine Aw (fun _ _=>aJ rfl (Jc Dn)) ?_;refine Aw (fun _ _=>aJ rfl (Jc Dn)) ?_;refine Aw (fun _ _=>aJ rfl (Jc Dn)) ?_;refine Aw (fun _ _=>aJ rfl (Jc Dn)) ?_;refine Aw (fun _ _=>aJ rfl (aa hA7 rfl rfl (by omega) hlt2 rfl Dn)) ?_
 skip
 refine Aw (fun _ _=>aJ rfl (ac rfl hle (aT hm7) rfl rfl Dn)) ?_
 skip
 refine Aw (fun _ _=>aJ rfl (aD Tryz.call150 rfl (fun w2 hw=>rK (h.mono (au hw)) (hk.mono (au hw)) qk q0 q1) rfl Dn)) ?_;cases h4:eV t rl m q s with
 | true=>
  refine Aw (fun _ _=>aJ rfl (Js Dn)) ?_;refine Aw (fun _ _=>Jv Dn) ?_;refine Aq fun bs=>?_;refine Jb ?_;refine ch rfl ?_;refine al (ah ?_);refine aj (Jc ?_);refine Ka ?_;refine Jd (aq ?_);exact Pa ⟨j + 1,hlt3,hnext2 (by rw [h3,h4];rfl)⟩
 | false=>
 refine Aw (fun _ _=>aJ rfl (Js Dn)) ?_;refine Aw (fun _ _=>Jv Dn) ?_;refine Aq fun bs=>?_;refine Jb ?_;refine cn rfl ?_;refine Ja (Jd (Jb ?_));exact aw rfl Tryz.results105 rfl rfl fun w hw=>⟨by rw [hbad (yF hmem2 (by rw [h3,h4];rfl))],hw.kp⟩
set_option maxHeartbeats 16000000 in
theorem rI {bw:Nat} {t:ThV} {x:TC} {y:QC} {fs:List Int} {rl:List (List Int)} {m:List Int} {Am:Option Addr} {cm:Nat} {q:Int} {w:World} (h:QW (mem w (fun b=>¬ No b)) bw t x y fs rl) (hk:gL (mem w (fun b=>¬ No b)) Am m) (qk:QOk t rl m) (q0:0≤q) (q1:q < t.1):
 Ret Tryz.prog 106 [aK bw,.slice Am m.length cm,.int .i64 q] w (.bool (mg t rl m q)):=by
 have hle:=hq0 w;have q2:q < ((aH t).length:Int):=by rw [← qk.ok.lits];exact q1
 obtain ⟨RB,RO,RA,Rc,hRA,hRm,hl⟩:=h.row q0 (by rw [qk.lrl];exact q1);obtain ⟨FB,FO,FA,Fc,hFA,hFm,hF⟩:=kJ h.th q0 q2;obtain ⟨MB,MO,hMA,hMm⟩:=hk q q0 (by rw [qk.lm];exact q1);have hrow:=fun r hr=>qk.rin _ (iw q0 (by rw [qk.lrl];exact q1)) r hr;have hfoe:=qk.foe (q:=q);have hsm:=aP hl;have hsf:=aP hF;unfold br at hsm hsf;unfold mg;generalize hPd:(fun r=>!decide (¬ (ai t r).1=3) || kR m (ai t r).2.2 4)=P at *;generalize ap rl q=l at *;refine Calls.enter Tryz.func106 rfl _ rfl rfl (S:=No) (H:=[]) trivial ?_;refine Ja (Jd (Jb ?_));refine ar ?_;refine bR (by kernel_rfl) rfl ?_;refine Xc (Xc ?_);refine Aw (fun _ _=>aa hMA rfl rfl q0 (by rw [qk.lm];exact q1) rfl Dn) ?_;refine Aw (fun _ _=>ac (v:=.int .u8 (aF m q)) rfl hle (by rw [Nat.mul_one];exact hMm) rfl rfl Dn) ?_
 skip
 refine Aw (fun _ _=>aD Tryz.call22 rfl (fun w2 hw=>iL (by decide) (by decide)) rfl Dn) ?_;refine Aw (fun _ _=>jp rfl rfl rfl rfl Dn) ?_;refine Aw (fun _ _=>Ji Dn) ?_;refine Aq fun bs=>?_;refine Jb ?_;refine ay rfl (fun hc=>?_) (fun hc=>?_)
 ·refine Ja (Jd (Jb ?_))
  exact aw rfl Tryz.results106 rfl rfl fun w hw=>⟨by rw [show qM m q 2=false from decide_eq_false (fun e=>e hc)];rfl,hw.kp⟩
 rw [show qM m q 2=true from decide_eq_true hc,Bool.true_and];refine al (ah ?_);refine Ja (Jd (Jb ?_));refine ar ?_;refine Ja (Jd (Jb ?_));refine ak ?_;refine aI (ι:={ k:Nat // k≤l.length }) (fun k=>[(0,aK bw),(1,.slice Am m.length cm),(2,.int .i64 q),(7,.bool ((l.take k.1).all P)),(8,.int .i64 k.1)]) (fun _=>[]) (fun k=>l.length - k.1) ⟨0,Nat.zero_le _⟩ ⟨rfl,rfl,rfl,by rw [List.take_zero];rfl,rfl,trivial⟩ (fun h=>h) ?_;intro ⟨k,hkk⟩;dsimp only at hkk ⊢;refine ar ?_;refine Ja (Jc (Jc (Jf (Je ?_))));refine ac rfl hle (h.cell 5 _ rfl) rfl rfl ?_;refine Jc ?_;refine aa hRA rfl rfl q0 (by rw [qk.lrl];exact q1) rfl ?_;refine ac rfl hle hRm rfl rfl ?_;refine Jg (Jk (Jb ?_));refine ay rfl (fun hlt=>?_) (fun hge=>?_)
 ·have hlt':k < l.length:=by omega
  obtain ⟨B3,O3,hA3,hm3,_⟩:=aR hl (List.getElem?_eq_getElem hlt');have hmem:=List.getElem_mem hlt';have hnext:=zq (f:=P) hlt';generalize l[k]=r at *;obtain ⟨r0,r1⟩:=hrow r hmem;obtain ⟨B,O,A4,c4,hA,hm4,hl4,_⟩:=bz h.th r0 r1;have hPr:P r=_:=(congrFun hPd r).symm;rw [hPr] at hnext;refine al (ah ?_);refine ar ?_;refine ak ?_;refine Ja (Jc (Jf (Je ?_)));refine ac rfl hle (h.cell 5 _ rfl) rfl rfl ?_;refine Jc ?_;refine aa hRA rfl rfl q0 (by rw [qk.lrl];exact q1) rfl ?_;refine ac rfl hle hRm rfl rfl ?_;refine Jc ?_;refine aa hA3 rfl rfl (by omega) hlt rfl ?_;refine ac rfl hle (aT hm3) rfl rfl ?_;refine Jd (Jb ?_);refine aj ?_;cases hb:(l.take k).all P with
  | false=>
   rw [hb,Bool.false_and] at hnext;refine Jc (Jc ?_);(iterate 17 refine Jz ?_);refine Jw (Jd ?_);refine aq (ah ?_);refine aj (Jc ?_);refine Ka ?_;refine Jd (aq ?_);exact bp ⟨k + 1,hlt'⟩ ⟨rfl,rfl,rfl,by rw [hnext];rfl,rfl,trivial⟩ (fun h=>h) (by show l.length - (k + 1) < l.length - k;omega)
  | true=>
  rw [hb,Bool.true_and] at hnext;refine Jc (Jc ?_);refine Jy (Jc ?_);refine Jy (Jc ?_);refine Jy ?_;refine aD Tryz.call149 rfl (fun w2 hw=>fM (h.mono (au hw)) r0 r1) rfl ?_;cases h3:decide (¬ (ai t r).1=3) with
  | false=>
   refine Jy (Js ?_);refine Jy (Jc ?_);(iterate 11 refine Jz ?_);refine Jy (Jv (Jv (Jd ?_)));refine aq (ah ?_);refine aj (Jc ?_);refine Ka ?_;refine Jd (aq ?_);exact bp ⟨k + 1,hlt'⟩ ⟨rfl,rfl,rfl,by rw [hnext,h3];rfl,rfl,trivial⟩ (fun h=>h) (by show l.length - (k + 1) < l.length - k;omega)
  | true=>
  refine Jy (Js ?_);refine Jy (Jc ?_);refine Jy (Jc ?_);refine Jy (Jc ?_);refine Jy (Jf ?_);refine Jy (Je ?_);refine Jy (Je ?_);refine Jy ?_;refine ac rfl hle (h.cell 2 _ rfl) rfl rfl ?_;refine Jy (Jc ?_);refine Jy ?_;refine aa hA rfl rfl r0 r1 rfl ?_;refine Jy (Je ?_);refine Jy ?_;refine ac (v:=.slice A4 (ai t r).2.2.length c4) rfl hle (hm4 2 _ rfl) rfl rfl ?_;refine Jy ?_;refine aD Tryz.call148 rfl (fun w2 hw=>jv (hk.mono (au hw)) (hl4.mono (au hw)) (qk.body r0 r1) (by decide) (by decide)) rfl ?_;cases h4:kR m (ai t r).2.2 4 with
  | true=>
   refine Jy (Jw (Jv (Jd ?_)));refine aq (ah ?_);refine aj (Jc ?_);refine Ka ?_;refine Jd (aq ?_);exact bp ⟨k + 1,hlt'⟩ ⟨rfl,rfl,rfl,by rw [hnext,h3,h4];rfl,rfl,trivial⟩ (fun h=>h) (by show l.length - (k + 1) < l.length - k;omega)
  | false=>
   refine Jy (Jw (Jv (Jd ?_)));refine aq (ah ?_);refine aj (Jc ?_);refine Ka ?_;refine Jd (aq ?_);exact bp ⟨k + 1,hlt'⟩ ⟨rfl,rfl,rfl,by rw [hnext,h3,h4];rfl,rfl,trivial⟩ (fun h=>h) (by show l.length - (k + 1) < l.length - k;omega)
 rw [List.take_of_length_le (by omega)];refine aG rfl (ah ?_);refine ar ?_;cases hb:l.all P with
 | true=>
  refine Ja (Jc (Jc ?_));(iterate 10 refine Jz ?_);refine Jv (Jb ?_);refine cn rfl ?_;refine Ja (Jd (Jb ?_));exact aw rfl Tryz.results106 rfl rfl fun w hw=>⟨rfl,hw.kp⟩
 | false=>
 rw [Bool.false_or];refine Ja (Jc (Jc ?_));refine Jy (Jc ?_);refine Jy (Jc ?_);refine Jy (Jf ?_);refine Jy (Je ?_);refine Jy (Je ?_);refine Jy ?_;refine ac rfl hle (h.cell 1 _ rfl) rfl rfl ?_;refine Jy (Jc ?_);refine Jy ?_;refine aa hFA rfl rfl q0 q2 rfl ?_;refine Jy ?_;refine ac rfl hle hFm rfl rfl ?_;refine Jy ?_;refine aD Tryz.call148 rfl (fun w2 hw=>jv (hk.mono (au hw)) (hF.mono (au hw)) (fun b hb=>by rw [qk.lm];exact hfoe b hb) (by decide) (by decide)) rfl ?_;cases hc2:kR m (cq t q) 1 with
 | true=>
  refine Jw (Jb ?_);refine cn rfl ?_;refine Ja (Jd (Jb ?_));exact aw rfl Tryz.results106 rfl rfl fun w hw=>⟨rfl,hw.kp⟩
 | false=>
 rw [Bool.false_or];refine Jw (Jb ?_);refine ch rfl ?_;refine al (ah ?_);refine ar ?_;refine Ja (Jd (Jb ?_));generalize cq t q=fl at *;refine ak ?_;refine aI (ι:={ k:Nat // k≤fl.length∧∀ g∈fl.take k,(ap rl g).any (fun s=>eT t rl m q s)=false }) (fun k=>[(0,aK bw),(1,.slice Am m.length cm),(2,.int .i64 q),(10,.int .i64 k.1)]) (fun _=>[]) (fun k=>fl.length - k.1) ⟨0,Nat.zero_le _,fun x hx=>by simp at hx⟩ ⟨rfl,rfl,rfl,rfl,trivial⟩ (fun h=>h) ?_;intro ⟨k,hkk,hS⟩;dsimp only at hkk hS ⊢;refine ar ?_;refine Ja (Jc (Jc (Jf (Je (Je ?_)))));refine ac rfl hle (h.cell 1 _ rfl) rfl rfl ?_;refine Jc ?_;refine aa hFA rfl rfl q0 q2 rfl ?_
 skip
 refine ac rfl hle hFm rfl rfl ?_;refine Jg (Jk (Jb ?_));refine ay rfl (fun hlt=>?_) (fun hge=>?_);rotate_left
 ·refine aG rfl (ah ?_)
  refine Ja (Jd (Jb ?_));exact aw rfl Tryz.results106 rfl rfl fun w hw=>⟨by rw [yD (by omega) hS],hw.kp⟩
 have hlt':k < fl.length:=by omega
 obtain ⟨B3,O3,hA3,hm3,_⟩:=aR hF (List.getElem?_eq_getElem hlt');have hmem:=List.getElem_mem hlt';have hnext:=dO (p:=fun g=>(ap rl g).any (fun s=>eT t rl m q s)=false) hlt' hS;generalize fl[k]=g at *;obtain ⟨g0,g1⟩:=hfoe g hmem;obtain ⟨SB,SO,SA,Sc,hSA,hSm,hsl⟩:=h.row g0 (by rw [qk.lrl];exact g1);have hrow2:=fun r hr=>qk.rin _ (iw g0 (by rw [qk.lrl];exact g1)) r hr;have hbad:(ap rl g).any (fun s=>eT t rl m q s)=true→fl.any (fun g=>(ap rl g).any (fun s=>eT t rl m q s))=true:=fun e=>yC hmem e;have hss:=aP hsl;unfold br at hss;generalize ap rl g=sl at *;refine al (ah ?_);refine ar ?_;refine ak ?_;refine bR (by kernel_rfl) rfl ?_;refine Xc (Xf (Xe ?_));refine Aw (fun _ _=>ac rfl hle (h.cell 5 _ rfl) rfl rfl Dn) ?_;refine Xc (Xf (Xe (Xe ?_)));refine Aw (fun _ _=>ac rfl hle (h.cell 1 _ rfl) rfl rfl Dn) ?_;refine Xc ?_;refine Aw (fun _ _=>aa hFA rfl rfl q0 q2 rfl Dn) ?_;refine Aw (fun _ _=>ac rfl hle hFm rfl rfl Dn) ?_;refine Xc ?_;refine Aw (fun _ _=>aa hA3 rfl rfl (by omega) hlt rfl Dn) ?_;refine Aw (fun _ _=>ac rfl hle (aT hm3) rfl rfl Dn) ?_;refine Aw (fun _ _=>aa hSA rfl rfl g0 (by rw [qk.lrl];exact g1) rfl Dn) ?_;refine Aw (fun _ _=>ac rfl hle hSm rfl rfl Dn) ?_;refine Aq fun bs=>?_;refine Jd (Jb (Ja (Jd (Jb ?_))));refine ak ?_;refine aI (ι:={ j:Nat // j≤sl.length∧∀ s∈sl.take j,(eT t rl m q s)=false }) (fun j=>[(0,aK bw),(1,.slice Am m.length cm),(2,.int .i64 q),(10,.int .i64 k),(11,.slice SA sl.length Sc),(12,.int .i64 j.1)]) (fun _=>[]) (fun j=>sl.length - j.1) ⟨0,Nat.zero_le _,fun x hx=>by simp at hx⟩ ⟨rfl,rfl,rfl,rfl,rfl,rfl,trivial⟩ (fun h=>h) ?_;intro ⟨j,hj,hT⟩;dsimp only at hj hT ⊢;refine ar ?_;refine Ja (Jc (Jc (Jg (Jk (Jb ?_)))));refine ay rfl (fun hlt2=>?_) (fun hge2=>?_);rotate_left
 ·refine aG rfl (ah ?_)
  refine aj (Jc ?_);refine Ka ?_;refine Jd (aq ?_);exact Pa ⟨k + 1,hlt',hnext (yD (by omega) hT)⟩
 have hlt3:j < sl.length:=by omega
 obtain ⟨B7,O7,hA7,hm7,_⟩:=aR hsl (List.getElem?_eq_getElem hlt3);have hmem2:=List.getElem_mem hlt3;have hnext2:=dO (p:=fun s=>(eT t rl m q s)=false) hlt3 hT;generalize sl[j]=s at *;obtain ⟨s0,s1⟩:=hrow2 s hmem2;obtain ⟨B,O,A4,c4,hA,hm4,hl4,_⟩:=bz h.th s0 s1;refine al (ah ?_);refine ar ?_;refine ak ?_;refine Ja (Jc (Jc (Jc (Jc (Jc ?_)))));refine aa hA7 rfl rfl (by omega) hlt2 rfl ?_;refine ac rfl hle (aT hm7) rfl rfl ?_
 skip
 refine aD Tryz.call151 rfl (fun w2 hw=>rH (h.mono (au hw)) (hk.mono (au hw)) qk q0 q1 s0 s1) rfl ?_;cases h3:eT t rl m q s with
 | true=>
  refine Jb ?_;refine cn rfl ?_;refine Ja (Jd (Jb ?_));exact aw rfl Tryz.results106 rfl rfl fun w hw=>⟨by rw [hbad (yC hmem2 h3)],hw.kp⟩
 | false=>
 refine Jb ?_;refine ch rfl ?_;refine al (ah ?_);refine aj (Jc ?_);refine Ka ?_;refine Jd (aq ?_);exact Pa ⟨j + 1,hlt3,hnext2 (by exact h3)⟩
set_option maxHeartbeats 4000000 in
theorem uO {bw:Nat} {t:ThV} {x:TC} {y:QC} {fs:List Int} {rl:List (List Int)} {m:List Int} {Am:Option Addr} {cm:Nat} {k q:Int} {w:World} (h:QW (mem w (fun b=>¬ No b)) bw t x y fs rl) (hk:gL (mem w (fun b=>¬ No b)) Am m) (qk:QOk t rl m) (q0:0≤q) (q1:q < t.1):
 Ret Tryz.prog 69 [aK bw,.slice Am m.length cm,.int .i64 k,.int .i64 q] w (.bool (jJ t fs rl m k q)):=by
 unfold jJ;refine Calls.enter Tryz.func69 rfl _ rfl rfl (S:=No) (H:=[]) trivial ?_;refine Ja (Jd (Jb ?_));refine ar ?_;refine Ja (Jc (Jb ?_));refine ak ?_;refine Ja (Ji (Jd (Jb ?_)));refine ay rfl (fun h1=>?_) (fun h1=>?_)
 ·rw [if_pos h1]
  refine Ja (Jc (Jc (Jc ?_)));refine aD Tryz.call103 rfl (fun w2 hw=>uN (h.mono (au hw)) (hk.mono (au hw)) qk q0 q1) rfl ?_;refine Jd (Jb ?_);exact aw rfl Tryz.results69 rfl rfl fun w hw=>⟨rfl,hw.kp⟩
 rw [if_neg h1];refine Ja (Ji (Jd (Jb ?_)));refine ay rfl (fun h2=>?_) (fun h2=>?_)
 ·rw [if_pos h2]
  refine Ja (Jc (Jc (Jc ?_)));refine aD Tryz.call104 rfl (fun w2 hw=>rJ (h.mono (au hw)) (hk.mono (au hw)) qk q0 q1) rfl ?_;refine Jd (Jb ?_);exact aw rfl Tryz.results69 rfl rfl fun w hw=>⟨rfl,hw.kp⟩
 rw [if_neg h2];refine Ja (Ji (Jd (Jb ?_)));refine ay rfl (fun h3=>?_) (fun h3=>?_)
 ·rw [if_pos h3]
  refine Ja (Jc (Jc (Jc ?_)));refine aD Tryz.call105 rfl (fun w2 hw=>uM (h.mono (au hw)) (hk.mono (au hw)) qk q0 q1) rfl ?_;refine Jd (Jb ?_);exact aw rfl Tryz.results69 rfl rfl fun w hw=>⟨rfl,hw.kp⟩
 rw [if_neg h3];refine al (ah ?_);refine Ja (Jc (Jc (Jc ?_)));refine aD Tryz.call106 rfl (fun w2 hw=>rI (h.mono (au hw)) (hk.mono (au hw)) qk q0 q1) rfl ?_;refine Jd (Jb ?_);exact aw rfl Tryz.results69 rfl rfl fun w hw=>⟨rfl,hw.kp⟩
end
section
def dR (t:ThV) (facts:List Int):Int:=if (fT t).1≠0 then (fT t).1 else if bg facts t.1=true then 0 else 181
attribute [local irreducible] RW CW
theorem qE {t:ThV} {x:TC} {A:Option Addr} {c:Nat} {facts:List Int} {w:World} (h:gp (mem w (fun b=>¬ No b)) t x) (hL:Rd en (mem w (fun b=>¬ No b)) [.slice A 1 c] [facts]):
 Ret Tryz.prog 24 [.agg (x.th t).toArray,.slice A 1 c] w (.int .i64 (dR t facts)):=by
 have hle:=hq0 w;obtain ⟨B,O,A2,c2,hA,hm,hl⟩:=dQ hL (i:=0) rfl;refine Calls.enter Tryz.func24 rfl _ rfl rfl (S:=No) (H:=[]) trivial ?_;refine bZ ?_;refine aS (l:=x.th t) rfl rfl fun b2 _=>?_;refine Jd (Jb ?_);refine ar ?_;refine Ja ?_;refine JE ?_;refine aD Tryz.call45 rfl (fun w2 hw=>yl (h.mono (au hw))) rfl ?_;refine Jc ?_;refine Jt ?_;refine Jt (Jd (Jd (Jb (Ja (Jc (Jj (Jb ?_)))))));refine ay rfl (fun h1=>?_) (fun h1=>?_)
 ·have hg:dR t facts=(fT t).1:=by unfold dR;rw [if_pos h1]
  rw [hg];refine Ja (Jc (Jd (Jb ?_)));exact aw rfl Tryz.results24 rfl rfl fun w hw=>⟨rfl,hw.kp⟩
 have hg:dR t facts=(if bg facts t.1=true then 0 else 181):=by unfold dR;rw [if_neg h1]
 rw [hg];refine JM ?_;refine ar ?_;refine Ja (Jc (Jg (Jc (Jb ?_))));refine ak ?_;refine aI (ι:={ i:Nat // i≤1∧(i=1→bg facts t.1=true) }) (fun i=>[(2,aK b2),(18,.slice A 1 c),(19,.int .i64 1),(20,.int .i64 i.1)]) (fun i=>[blk b2 (x.th t) 25]) (fun i=>1 - i.1) ⟨0,by omega,fun h=>by omega⟩ ⟨rfl,rfl,rfl,rfl,trivial⟩ (fun h=>h) ?_;intro ⟨i,hi,hr⟩;dsimp only at hi hr ⊢;refine Ja (Jk (Jb ?_));refine ar ?_;refine ay rfl (fun hlt=>?_) (fun hge=>?_);rotate_left
 ·refine aG rfl (ah ?_)
  rw [if_pos (hr (by omega))];refine Ja (Jd (Jb ?_));exact aw rfl Tryz.results24 rfl rfl fun w hw=>⟨rfl,hw.kp⟩
 obtain rfl:i=0:=by omega
 refine JM ?_;refine bf (ι:={ _u:Unit // bg facts t.1=true }) (fun _=>[(2,aK b2),(18,.slice A 1 c),(19,.int .i64 1),(20,.int .i64 0)]) (fun _=>[blk b2 (x.th t) 25]) ?_ (fun ⟨_,hr2⟩=>?_)
 ·refine ak ?_
  refine Ja ?_;refine aa hA rfl rfl (by omega) (by omega) rfl ?_;refine ac rfl hle (aT hm) rfl rfl ?_;refine Jd (Jb (Ja ?_));refine JE ?_;refine Jc ?_;refine aD Tryz.call46 rfl (fun w2 hw=>nt (hl.mono (au hw))) rfl ?_;cases h2:bg facts t.1 with
  | false=>
   refine Jd (Jb (Ja (Jc (Jj (Jb ?_)))));refine cn rfl ?_;refine Ja (Jc (Jd (Jb ?_)));exact aw rfl Tryz.results24 rfl rfl fun w hw=>⟨rfl,hw.kp⟩
  | true=>
   refine Jd (Jb (Ja (Jc (Jj (Jb ?_)))));refine ch rfl ?_;refine al ?_;exact aC ⟨(),rfl⟩ ⟨rfl,rfl,rfl,rfl,trivial⟩ (fun h=>h)
 refine aj ?_;refine Ka ?_;refine Jc ?_;refine aq ?_;exact Pa ⟨1,by omega,fun _=>hr2⟩
section
variable {n m:Nat} {t:ThV} {x:TC} {fA:Option Addr} {fc:Nat} {facts:List Int}
set_option maxHeartbeats 8000000 in
theorem vi (ht:TOk n m t) (hfr:∀ q∈facts,0≤q∧q < n) (hl:A8 t n m facts) (hg:dR t facts=0) (w:World) (hT:gp (mem w (fun b=>¬ No b)) t x) (hF:Rd cO (mem w (fun b=>¬ No b)) [.slice fA facts.length fc] facts):
 iT Tryz.prog 13 [.agg (x.th t).toArray,.slice fA facts.length fc] w No (fun b:Nat=>.tuple #[slV b n,.agg #[.int .i64 (En.runD t n m facts).qd,.int .i64 (En.runD t n m facts).up],.int .i64 0])
  (fun b=>[ax 45 1 (slV b n) ((En.runD t n m facts).marks.map gD)]):=by
 refine Calls.enter Tryz.func13 rfl _ rfl rfl (S:=No) (H:=[]) trivial ?_;refine bZ ?_;refine aS (l:=x.th t) rfl rfl fun b2 _=>?_;refine Jd ?_;refine cH (c:=[.int .i64 0,.int .i64 0]) rfl rfl fun b5 _=>?_;refine Jd (Jb ?_);refine ar ?_;refine Ja ?_;refine JF ?_;refine Jc ?_;refine bW (e:=26) (c:=[.slice fA facts.length fc]) rfl (fun w=>by kernel_rfl) rfl fun b11 _=>?_;refine aD Tryz.call24 rfl (fun w2 hw=>qE (hT.mono (au hw)) (D8 (fun j v hj=>gh (fun h=>h) (St.blk (pre:=[]) hw) j v hj) (hF.mono (au hw)) rfl)) rfl ?_;rw [hg];refine Jd (Jb (Ja (Jc (Jj (Jb ?_)))));refine ay rfl (fun h=>absurd rfl h) (fun _=>?_);refine al (ah ?_);refine Ja ?_;refine JG ?_;refine Jc ?_;refine dY Tryz.call25 rfl (fun w hw=>Cs ht hfr hl w (hT.mono (au hw)) (hF.mono (au hw))) rfl fun ⟨be,a,ib,ob,bb,pA,pc,sv⟩=>?_;dsimp only;refine Jd (Jb ?_);generalize (zL t x (En.layS t n m facts).inn (En.layS t n m facts).of (En.layS t n m facts).beats (En.layD t n m facts).told.length ib ob bb n m pA pc (En.layD t n m facts).pairs.length)=z;refine cI (enH be a z n m sv (En.runD t n m facts)++[blk b5 [.int .i64 0,.int .i64 0] 41,blk b2 (x.th t) 25]) (fun w A h=>Sep.take [0,1,2,3,4,5,6,7,8,9,10,11,12,13,14,16,17] h) ?_;refine dt [(8,aK be),(5,aK b5)] ⟨rfl,rfl,trivial⟩ ?_;refine kU 4 (by kernel_rfl) rfl rfl rfl rfl rfl (by kernel_rfl) (by kernel_rfl) (by kernel_rfl) rfl ?_;refine hY (by kernel_rfl) ?_;refine Xc (Xf (Xe ?_));refine Aw (fun _ _=>Eh Dn) ?_;refine Xc (Xf (Xe ?_));refine Aw (fun _ _=>pp [] rfl rfl rfl rfl Dn) ?_;refine Aw (fun _ _=>Jd Dn) ?_;refine Aq fun bq=>?_;refine aX [_,_,_,_,_,_,_,_,_,_,_,_,_,_,_] (vs:=[.int .i64 (En.runD t n m facts).qd,.int .i64 (En.runD t n m facts).up]) rfl rfl rfl rfl rfl (by simp [Value.oneCell']) ?_;refine Jd (Jb ?_);exact aZ (rs:=[.tmp 4,.cell 5 41,.tmp 6]) (vs:=[slV a.m n,.agg #[.int .i64 (En.runD t n m facts).qd,.int .i64 (En.runD t n m facts).up],.int .i64 0]) rfl Tryz.results13 rfl (.tmp rfl (.cell [_,_,_,_,_,_,_,_,_,_,_,_,_,_,_] rfl rfl rfl (.tmp rfl .nil))) fun w hw=>⟨a.m,rfl,St.take [1] hw⟩
theorem sy (hg:dR t facts≠0) (w:World) (hT:gp (mem w (fun b=>¬ No b)) t x) (hF:Rd cO (mem w (fun b=>¬ No b)) [.slice fA facts.length fc] facts):
 Ret Tryz.prog 13 [.agg (x.th t).toArray,.slice fA facts.length fc] w (.tuple #[.slice none 0 0,.agg #[.int .i64 0,.int .i64 0],.int .i64 (dR t facts)]):=by
 refine Calls.enter Tryz.func13 rfl _ rfl rfl (S:=No) (H:=[]) trivial ?_;refine bZ ?_;refine aS (l:=x.th t) rfl rfl fun b2 _=>?_;refine Jd ?_;refine cH (c:=[.int .i64 0,.int .i64 0]) rfl rfl fun b5 _=>?_;refine Jd (Jb ?_);refine ar ?_;refine Ja ?_;refine JF ?_;refine Jc ?_;refine bW (e:=26) (c:=[.slice fA facts.length fc]) rfl (fun w=>by kernel_rfl) rfl fun b11 _=>?_;refine aD Tryz.call24 rfl (fun w2 hw=>qE (hT.mono (au hw)) (D8 (fun j v hj=>gh (fun h=>h) (St.blk (pre:=[]) hw) j v hj) (hF.mono (au hw)) rfl)) rfl ?_;refine Jd (Jb (Ja (Jc (Jj (Jb ?_)))));refine ay rfl (fun _=>?_) (fun h=>absurd hg h);refine Ja ?_;refine eQ (v:=.agg #[.int .i64 0,.int .i64 0]) rfl (fun w=>by kernel_rfl) rfl ?_;refine Jc (Jd ?_);refine aX [_] (vs:=[.int .i64 0,.int .i64 0]) rfl rfl rfl rfl rfl (by simp [Value.oneCell']) ?_;refine Jd (Jb ?_);exact aZ (rs:=[.tmp 4,.cell 5 41,.tmp 6]) (vs:=[.slice none 0 0,.agg #[.int .i64 0,.int .i64 0],.int .i64 (dR t facts)]) rfl Tryz.results13 rfl (.tmp rfl (.cell [_] rfl rfl rfl (.tmp rfl .nil))) fun w hw=>⟨rfl,hw.kp⟩
end
end
section
def m6 (v k:Int) (b:Bool):Int:=if (decide (g9 .u8 v (kY .u8 1 (k - 1))=0)&&b)=true then dT .u8 v (kY .u8 1 (k - 1)) else v
def upQ (t:ThV) (fs:List Int) (rl:List (List Int)) (m:List Int) (q:Int):Nat→Int
 | 0=>aF m q
 | j + 1=>m6 (upQ t fs rl m q j) ((j:Int) + 1) (jJ t fs rl m ((j:Int) + 1) q)
def eF (t:ThV) (fs:List Int) (rl:List (List Int)) (m:List Int):List Int:=(List.range m.length).map fun q:Nat=>upQ t fs rl m q 4
theorem md {w0 w:World} {S:Nat→Prop} {pre r:List HP} {e:TypeId} {A:Option Addr} {n c:Nat} {l:List Int} (h:St w0 S (pre++ax e 1 (.slice A n c) (l.map gD)::r) w):gL (mem w (fun b=>¬ No b)) A l:=fun q q0 q1=>by
 obtain ⟨F2,hp,_⟩:=h.get;have hq:q.toNat < l.length:=by omega
 have hd:aF l q=l[q.toNat]:=by unfold aF;rw [List.getElem?_eq_getElem hq];rfl
 rcases hp with ⟨_,h2⟩ | ⟨B,c',tl,h1,_,h3,_⟩
 ·rw [List.map_eq_nil_iff] at h2;subst h2;simp at hq
 ·simp only [Value.slice.injEq] at h1
  refine ⟨B,0,h1.1,?_⟩;rw [Nat.zero_add];refine gh (fun k=>k) h3 q.toNat _ ?_
  have hf:∀ (l:List Int),(l.map gD).flatten=l.map (fun x=>Value.int .u8 x):=fun l=>by
   induction l with
   | nil=>rfl
   | cons x l ih=>rw [List.map_cons,List.flatten_cons,ih];rfl
  rw [hf,List.getElem?_append_left (by rw [List.length_map];exact hq),List.getElem?_map,List.getElem?_eq_getElem hq,hd]
  rfl
theorem jB {l:List Int} {i:Nat} {v:Int} (h:l[i]?=some v):(l.map gD)[i]?=some [.int .u8 v]:=by rw [List.getElem?_map,h];rfl
theorem oM {t:ThV} {fs:List Int} {rl:List (List Int)} {m:List Int} {q:Nat} (h:q < m.length):(eF t fs rl m)[q]?=some (upQ t fs rl m q 4):=by
 unfold eF;rw [List.getElem?_map,List.getElem?_range h];rfl
theorem kW {l R:List Int} {q:Nat} {v:Int} (h:l.take q=R.take q) (h1:l[q]?=some v) (h2:R[q]?=some v):l.take (q + 1)=R.take (q + 1):=by
 rw [List.take_add_one,List.take_add_one,h,h1,h2]
attribute [local irreducible] RW CW
set_option maxHeartbeats 16000000 in
theorem uL {bw:Nat} {t:ThV} {x:TC} {y:QC} {fs:List Int} {rl:List (List Int)} {m:List Int} {Am:Option Addr} {cm:Nat} {w:World} (h:QW (mem w (fun b=>¬ No b)) bw t x y fs rl) (hk:gL (mem w (fun b=>¬ No b)) Am m) (qk:QOk t rl m):
 iT Tryz.prog 43 [aK bw,.slice Am m.length cm] w No (fun b:Nat=>slV b m.length) (fun b=>[ax 45 1 (slV b m.length) ((eF t fs rl m).map gD)]):=by
 have hle:=hq0 w;have hn:m.length≤4096:=by have:=qk.lm;have:=qk.ok.most;omega
 have hRl:(eF t fs rl m).length=m.length:=by unfold eF;simp
 have hRg:=fun q hq=>oM (t:=t) (fs:=fs) (rl:=rl) (m:=m) (q:=q) hq;generalize eF t fs rl m=R at *;refine Calls.enter Tryz.func43 rfl _ rfl rfl (S:=No) (H:=[]) trivial ?_;refine Ja (Jd (Jb (Ja (Jc (Jg ?_)))));refine bF (n:=m.length) (zc:=[.int .u8 0]) rfl rfl rfl rfl rfl (by unfold dK;omega) (by omega) rfl fun B0=>?_;refine Jd (Jb ?_);refine ar ?_;refine Ja (Jd (Jb ?_));refine ak ?_
 refine aI (ι:={ p:Nat × List Int // p.1≤m.length∧p.2.length=m.length∧p.2.take p.1=R.take p.1 }) (fun p=>[(0,aK bw),(1,.slice Am m.length cm),(5,slV B0 m.length),(6,.int .i64 p.1.1)])
  (fun p=>[ax 45 1 (slV B0 m.length) (p.1.2.map gD)]) (fun p=>m.length - p.1.1) ⟨(0,List.replicate m.length 0),Nat.zero_le _,List.length_replicate,by simp⟩ ⟨rfl,rfl,rfl,rfl,trivial⟩ (fun h=>by rw [List.map_replicate];exact h) ?_
 intro ⟨⟨q,L⟩,hq,hL,hS⟩;dsimp only at hq hL hS ⊢;refine ar ?_;refine Ja (Jc (Jc (Jg (Jk (Jb ?_)))));refine ay rfl (fun hlt=>?_) (fun hge=>?_);rotate_left
 ·refine aG rfl (ah ?_)
  refine Ja (Jc (Jd (Jb ?_)));rw [List.take_of_length_le (by omega),List.take_of_length_le (by omega)] at hS;exact aw rfl Tryz.results43 rfl rfl fun w hw=>⟨B0,rfl,by rw [← hS];exact hw⟩
 have hlt':q < m.length:=by omega
 obtain ⟨MB,MO,hMA,hMm⟩:=hk q (by omega) hlt;have q1:(q:Int) < t.1:=by rw [← qk.lm];exact hlt
 obtain ⟨v0,hv0⟩:∃ v,L[q]?=some v:=⟨_,List.getElem?_eq_getElem (by omega)⟩;refine al (ah ?_);refine ar ?_;refine ak ?_;refine Ja (Jc (Jc (Jc (Jc ?_))));refine aa hMA rfl rfl (by omega) hlt rfl ?_;refine ac (v:=.int .u8 (aF m q)) rfl hle (by rw [Nat.mul_one];exact hMm) rfl rfl ?_;refine av rfl rfl (by omega) hlt rfl ?_;refine aM [] (v:=.int .u8 (aF m q)) (i:=q) (j:=0) rfl (by simp) rfl rfl rfl (jB hv0) (Nat.zero_lt_succ _) ?_;refine Jb (Ja (Jd (Jb ?_)));refine ak ?_
 refine aI (ι:={ p:Nat × List Int // p.1≤4∧p.2.length=m.length∧p.2.take q=R.take q∧p.2[q]?=some (upQ t fs rl m q p.1) }) (fun p=>[(0,aK bw),(1,.slice Am m.length cm),(5,slV B0 m.length),(6,.int .i64 q),(7,.int .i64 ((p.1.1:Int) + 1))])
  (fun p=>[ax 45 1 (slV B0 m.length) (p.1.2.map gD)]) (fun p=>4 - p.1.1) ⟨(0,L.set q (aF m q)),Nat.zero_le _,by rw [List.length_set];exact hL,by rw [List.take_set_of_le (Nat.le_refl _)];exact hS,by rw [List.getElem?_set_self (by omega)];rfl⟩ ⟨rfl,rfl,rfl,rfl,rfl,trivial⟩ (fun h=>by rw [List.map_set];exact h) ?_
 intro ⟨⟨j,L2⟩,hj,hL2,hS2,hv⟩;dsimp only at hj hL2 hS2 hv ⊢;refine ar ?_;refine Ja (Jc (Jl (Jb ?_)));refine ay rfl (fun hlt2=>?_) (fun hge2=>?_);rotate_left
 ·obtain rfl:j=4:=by omega
  refine aG rfl (ah ?_);refine aj (Jc ?_);refine Ka ?_;refine Jd (aq ?_);exact Pa ⟨(q + 1,L2),hlt',hL2,kW hS2 hv (hRg q hlt')⟩
 have hj4:j < 4:=by omega
 have hnext:upQ t fs rl m q (j + 1)=m6 (upQ t fs rl m q j) ((j:Int) + 1) (jJ t fs rl m ((j:Int) + 1) q):=rfl;unfold m6 at hnext;refine al (ah ?_);refine ar ?_;refine ak ?_;refine bR (by kernel_rfl) rfl ?_;refine Xc (Xc ?_);refine Aw (fun _ _=>av rfl rfl (by omega) hlt rfl Dn) ?_
 skip
 refine Aw (fun _ _=>az [] (i:=q) (j:=0) rfl (by simp) (jB hv) rfl rfl rfl Dn) ?_;refine Xc ?_;refine Aw (fun _ _=>aD Tryz.call22 rfl (fun w2 hw=>iL (by omega) (by omega)) rfl Dn) ?_;refine Aw (fun _ _=>jp rfl rfl rfl rfl Dn) ?_;refine Aw (fun _ _=>B8 rfl rfl rfl Dn) ?_;cases h1:decide (g9 .u8 (upQ t fs rl m q j) (kY .u8 1 ((j:Int) + 1 - 1))=0) with
 | false=>
  rw [h1,Bool.false_and,if_neg Bool.false_ne_true] at hnext;refine Xc ?_;(iterate 5 refine Aw (fun _ _=>Jz Dn) ?_);refine Aw (fun _ _=>Jw Dn) ?_;refine Aq fun bs=>?_;refine Jb ?_;refine ch rfl ?_;refine al (ah ?_);refine aj (Jc ?_);refine Ka ?_;refine Jd (aq ?_);exact Pa ⟨(j + 1,L2),hj4,hL2,hS2,by rw [hnext];exact hv⟩
 | true=>
 rw [h1,Bool.true_and] at hnext;refine Xc ?_;refine Aw (fun _ _=>aJ rfl (Jc Dn)) ?_;refine Aw (fun _ _=>aJ rfl (Jc Dn)) ?_;refine Aw (fun _ _=>aJ rfl (Jc Dn)) ?_;refine Aw (fun _ _=>aJ rfl (Jc Dn)) ?_;refine Aw (fun _ _=>aJ rfl (aD Tryz.call69 rfl (fun w2 hw=>uO (h.mono (au hw)) (hk.mono (au hw)) qk (by omega) q1) rfl Dn)) ?_;cases h2:jJ t fs rl m ((j:Int) + 1) q with
 | false=>
  rw [h2,if_neg Bool.false_ne_true] at hnext;refine Aw (fun _ _=>Jv Dn) ?_;refine Aq fun bs=>?_;refine Jb ?_;refine ch rfl ?_;refine al (ah ?_);refine aj (Jc ?_);refine Ka ?_;refine Jd (aq ?_);exact Pa ⟨(j + 1,L2),hj4,hL2,hS2,by rw [hnext];exact hv⟩
 | true=>
 rw [h2,if_pos rfl] at hnext;refine Aw (fun _ _=>Jv Dn) ?_;refine Aq fun bs=>?_;refine Jb ?_;refine cn rfl ?_;refine dZ (by kernel_rfl) rfl ?_;refine Xc (Xc (Xc (Xc ?_)));refine Aw (fun _ _=>av rfl rfl (by omega) hlt rfl Dn) ?_
 skip
 refine Aw (fun _ _=>az [] (i:=q) (j:=0) rfl (by simp) (jB hv) rfl rfl rfl Dn) ?_;refine Xc ?_;refine Aw (fun _ _=>aD Tryz.call22 rfl (fun w2 hw=>iL (by omega) (by omega)) rfl Dn) ?_;refine Aw (fun _ _=>B9 rfl rfl rfl rfl Dn) ?_;refine Aw (fun _ _=>av rfl rfl (by omega) hlt rfl Dn) ?_;refine Aq fun bs=>?_;refine aM [] (v:=.int .u8 (dT .u8 (upQ t fs rl m q j) (kY .u8 1 ((j:Int) + 1 - 1)))) (i:=q) (j:=0) rfl (by simp) rfl rfl rfl (jB hv) (Nat.zero_lt_succ _) ?_;refine aq (ah ?_);refine aj (Jc ?_);refine Ka ?_;refine Jd (aq ?_);exact bp ⟨(j + 1,L2.set q (dT .u8 (upQ t fs rl m q j) (kY .u8 1 ((j:Int) + 1 - 1)))),hj4,by rw [List.length_set];exact hL2,by rw [List.take_set_of_le (Nat.le_refl _)];exact hS2,by rw [List.getElem?_set_self (by omega),hnext]⟩ ⟨rfl,rfl,rfl,rfl,rfl,trivial⟩ (fun h=>by rw [List.map_set];exact h) (by show 4 - (j + 1) < 4 - j;omega)
set_option maxHeartbeats 4000000 in
theorem zw {Aa Ab:Option Addr} {ca cb:Nat} {a b:List Int} {w:World} (ha:gL (mem w (fun b=>¬ No b)) Aa a) (hb:gL (mem w (fun b=>¬ No b)) Ab b) (hn:a.length≤4096):
 Ret Tryz.prog 14 [.slice Aa a.length ca,.slice Ab b.length cb] w (.bool (decide (a=b))):=by
 have hle:=hq0 w;refine Calls.enter Tryz.func14 rfl _ rfl rfl (S:=No) (H:=[]) trivial ?_;refine Ja (Jd (Jb ?_));refine ar ?_;refine Ja (Jc (Jg (Jc (Jg (Jj (Jb ?_))))));refine ay rfl (fun h1=>?_) (fun h1=>?_)
 ·refine Ja (Jd (Jb ?_))
  exact aw rfl Tryz.results14 rfl rfl fun w hw=>⟨by rw [decide_eq_false (fun e=>h1 (by rw [e]))],hw.kp⟩
 have h1':a.length=b.length:=by omega
 refine al (ah ?_);refine ar ?_;refine Ja (Jd (Jb ?_));refine ak ?_;refine aI (ι:={ k:Nat // k≤a.length∧a.take k=b.take k }) (fun k=>[(0,.slice Aa a.length ca),(1,.slice Ab b.length cb),(5,.int .i64 k.1)]) (fun _=>[]) (fun k=>a.length - k.1) ⟨0,Nat.zero_le _,by simp⟩ ⟨rfl,rfl,rfl,trivial⟩ (fun h=>h) ?_;intro ⟨k,hk,hS⟩;dsimp only at hk hS ⊢;refine ar ?_;refine Ja (Jc (Jc (Jg (Jk (Jb ?_)))));refine ay rfl (fun hlt=>?_) (fun hge=>?_);rotate_left
 ·refine aG rfl (ah ?_)
  refine Ja (Jd (Jb ?_));rw [List.take_of_length_le (by omega),List.take_of_length_le (by omega)] at hS;exact aw rfl Tryz.results14 rfl rfl fun w hw=>⟨by rw [decide_eq_true hS],hw.kp⟩
 have hlt':k < a.length:=by omega
 obtain ⟨B,O,hA,hm⟩:=ha k (by omega) hlt;obtain ⟨B2,O2,hA2,hm2⟩:=hb k (by omega) (by omega);have hga:a[k]?=some (aF a k):=cM (q:=(k:Int)) rfl (by omega) hlt;have hgb:b[k]?=some (aF b k):=cM (n:=b.length) (q:=(k:Int)) rfl (by omega) (by omega);refine al (ah ?_);refine ar ?_;refine ak ?_;refine bR (by kernel_rfl) rfl ?_;refine Xc (Xc ?_);refine Aw (fun _ _=>aa hA rfl rfl (by omega) hlt rfl Dn) ?_;refine Aw (fun _ _=>ac (v:=.int .u8 (aF a k)) rfl hle (by rw [Nat.mul_one];exact hm) rfl rfl Dn) ?_;refine Xc (Xc ?_);refine Aw (fun _ _=>aa hA2 rfl rfl (by omega) (by omega) rfl Dn) ?_;refine Aw (fun _ _=>ac (v:=.int .u8 (aF b k)) rfl hle (by rw [Nat.mul_one];exact hm2) rfl rfl Dn) ?_;refine Aw (fun _ _=>Jj Dn) ?_;refine Aq fun bs=>?_;refine Jb ?_;refine ay rfl (fun h2=>?_) (fun h2=>?_)
 ·refine Ja (Jd (Jb ?_))
  exact aw rfl Tryz.results14 rfl rfl fun w hw=>⟨by rw [decide_eq_false (fun e=>h2 (by rw [e]))],hw.kp⟩
 refine al (ah ?_);refine aj (Jc ?_);refine Ka ?_;refine Jd (aq ?_);exact Pa ⟨k + 1,hlt',kW hS hga (by rw [Decidable.of_not_not h2];exact hgb)⟩
end
section
section
variable {P:Program} {E:Env} {Q:Pst} {G:List (Nat × Value)} {H:List HP} {l:List Oper} {L:List Bool}
theorem AQ (i:Nat) {o:Oper} {d:Nat} {v:Value} {fn:Func} {R:Ending→World→Prop} (ho:l[i]?=some o) (hd:o.dst=some d) (hg:o.guard=none) (hL:L[i]?=some false) (hs:Region.noSelect l.toArray=true) (hf:Region.free .any l.toArray L.toArray i=true)
 (hr:(Region.ready .any l.toArray L.toArray).contains i=true) (hQ:Q.pan=E6 P fn R) (hN:Nat.blt d E.N=true) (hrun:∀ a w,Fr E.N E.ds a G→(execOp a.eval o).run P w=.ok (.value v) w) (h:WT P E l Q (L.set i true) ((d,v)::G) H):WT P E l Q L G H:=fun a w hfr hw=>by
 have hla:l.toArray[i]?=some o:=by simpa using ho
 have hy:Yields P l.toArray o v a:=.inl ⟨by simp [Region.wanted,hg],fun w=>hrun a w hfr⟩;rw [← lU hL];have hr0:i∈Region.ready .any l.toArray L.toArray:=by simpa using hr
 refine wpAny_first hla (Region.noSelect_spec hs) (fun c a w hp=>?_) _ _ a w (Region.free_spec hla hf) hr0 hy ?_
 ·show Q.pan c a w
  have hp:Q.pan c (a.put o.dst v) w:=hp;rw [hQ] at hp ⊢;refine ⟨?_⟩;have:=hp.out;rw [hd] at this;exact this
 ·have e:L.toArray.setIfInBounds i true=(L.set i true).toArray:=by simp
  rw [e,hd];exact h (a.put (some d) v) w (hfr.put hN v) hw
theorem Dk (i:Nat) {x:Operand} {d:Nat} {v:Value} {ty:TypeId} {pos:String} {af:Array Edge} {fn:Func} {R:Ending→World→Prop} (ho:l[i]?=some ⟨some d,.move x,ty,pos,af,none⟩) (hL:L[i]?=some false) (hs:Region.noSelect l.toArray=true) (hf:Region.free .any l.toArray L.toArray i=true)
 (hr:(Region.ready .any l.toArray L.toArray).contains i=true) (hQ:Q.pan=E6 P fn R) (hN:Nat.blt d E.N=true) (hx:ev G x=some v) (h:WT P E l Q (L.set i true) ((d,v)::G) H):WT P E l Q L G H:=
 AQ i ho rfl rfl hL hs hf hr hQ hN (fun a w hf=>by simp [execOp,hf.eval hx]) h
end
section
variable {P:Program} {E:Env} {ops:Array Oper} {Q:Pst} {rest:List Oper} {G:List (Nat × Value)} {H:List HP}
variable {dst:Nat} {ty:TypeId} {pos:String} {af:Array Edge} {t ty':TypeId} {x y:Operand} {a b:Int} {k:IntKind}
end
end
section
def cv (t:ThV) (n:Nat):Nat→List (List Int)
 | 0=>List.replicate n []
 | i + 1=>bV (cv t n i) (ai t i).2.1 i
theorem Ap {t:ThV} (hk:j6 t) {i:Nat} (hi:i < (ao t).length):0≤(ai t i).2.1∧(ai t i).2.1 < t.1:=by
 have e:ai t i=(ao t)[i]:=by unfold ai;rw [show ((i:Int)).toNat=i by omega,List.getElem?_eq_getElem hi];rfl
 rw [e];exact cJ (hk.rules _ (List.getElem_mem hi))
theorem ol {t:ThV} {n:Nat} (hk:j6 t) (hn:t.1=n):∀ (i:Nat),i≤(ao t).length→bE n (ao t).length i (cv t n i)
 | 0,_=>bE.new n _ 0
 | i + 1,h=>(ol hk hn i (by omega)).push (Nat.le_refl _) (Ap hk (by omega)).1 (by have:=(Ap hk (i:=i) (by omega)).2;omega) (by omega) (by omega)
@[reducible] def wC (x:TC) (t:ThV) (fA:Option Addr) (fn fc ib n:Nat):List Value:=[.int .i64 t.1,.slice x.A1 (aH t).length x.c1,.slice x.A2 (ao t).length x.c2,.slice x.A3 (aN t).length x.c3,.slice fA fn fc,slV ib n]
attribute [local irreducible] RW CW
set_option maxHeartbeats 16000000 in
theorem zJ {t:ThV} {x:TC} {fA:Option Addr} {fn fc n:Nat} {w:World} (h:gp (mem w (fun b=>¬ No b)) t x) (hk:j6 t) (hn:t.1=n):
 iT Tryz.prog 42 [.agg (x.th t).toArray,.slice fA fn fc] w No (fun q:Nat × Nat=>aK q.1) (fun q=>[blk q.1 (wC x t fA fn fc q.2 n) 138,bh q.2 n (cv t n (ao t).length)]):=by
 have hle:=hq0 w;have hn4:n≤4096:=by have:=hk.most;omega
 have hm4:=hk.count;refine Calls.enter Tryz.func42 rfl _ rfl rfl (S:=No) (H:=[]) trivial ?_;refine bZ ?_;refine aS (l:=x.th t) rfl rfl fun b2 _=>?_;refine Jd (Jb ?_);refine bf (ι:=Nat × Nat) (fun q=>[(1,.slice fA fn fc),(2,aK b2),(5,aK q.1)]) (fun q=>[blk q.1 (wC x t fA fn fc q.2 n) 138,blk b2 (x.th t) 25,ax 26 1 (slV q.2 n) (List.replicate n [.slice none 0 0])]) ?_ (fun ⟨bw,ib⟩=>?_)
 ·refine y9 (by kernel_rfl) (Dl ?_)
  refine Dk 1 rfl rfl (by kernel_rfl) (by kernel_rfl) (by kernel_rfl) rfl rfl rfl ?_;refine cC rfl rfl rfl ⟨⟨_,rfl,?_⟩,⟨_,rfl,?_⟩,trivial⟩
  ·(first|refine Jc ?_|refine Jd ?_|refine Je ?_|refine Jf ?_|refine Jg ?_|refine Jh ?_|refine Ji ?_|refine Jj ?_|refine Jk ?_|refine Jl ?_|refine Jm ?_|refine Jn ?_|refine Jo ?_|refine Jp ?_|refine Jq ?_|refine Jr ?_|refine Js ?_|refine Jt ?_|refine Ju ?_|refine Jv ?_|refine Jw ?_|refine Jx ?_|refine Jz ?_|refine JA ?_|refine JB ?_|refine JC ?_|refine JD ?_|refine JE ?_|refine JF ?_|refine JG ?_|refine JH ?_|refine JI ?_|refine JJ ?_|refine JK ?_|refine JL ?_)
   refine cc ?_;refine cC rfl rfl rfl ⟨⟨_,rfl,?_⟩,trivial⟩
   ·(first|refine Jc ?_|refine Jd ?_|refine Je ?_|refine Jf ?_|refine Jg ?_|refine Jh ?_|refine Ji ?_|refine Jj ?_|refine Jk ?_|refine Jl ?_|refine Jm ?_|refine Jn ?_|refine Jo ?_|refine Jp ?_|refine Jq ?_|refine Jr ?_|refine Js ?_|refine Jt ?_|refine Ju ?_|refine Jv ?_|refine Jw ?_|refine Jx ?_|refine Jz ?_|refine JA ?_|refine JB ?_|refine JC ?_|refine JD ?_|refine JE ?_|refine JF ?_|refine JG ?_|refine JH ?_|refine JI ?_|refine JJ ?_|refine JK ?_|refine JL ?_)
    refine cc ?_;refine cC rfl rfl rfl ⟨⟨_,rfl,?_⟩,trivial⟩
    ·(first|refine Jc ?_|refine Jd ?_|refine Je ?_|refine Jf ?_|refine Jg ?_|refine Jh ?_|refine Ji ?_|refine Jj ?_|refine Jk ?_|refine Jl ?_|refine Jm ?_|refine Jn ?_|refine Jo ?_|refine Jp ?_|refine Jq ?_|refine Jr ?_|refine Js ?_|refine Jt ?_|refine Ju ?_|refine Jv ?_|refine Jw ?_|refine Jx ?_|refine Jz ?_|refine JA ?_|refine JB ?_|refine JC ?_|refine JD ?_|refine JE ?_|refine JF ?_|refine JG ?_|refine JH ?_|refine JI ?_|refine JJ ?_|refine JK ?_|refine JL ?_)
     refine cc ?_;refine cC rfl rfl rfl ⟨⟨_,rfl,?_⟩,trivial⟩
     ·refine bF (n:=n) (zc:=[.slice none 0 0]) rfl rfl hn rfl rfl (by unfold dK;omega) (by omega) rfl fun ib=>?_
      refine cc ?_;refine cC rfl rfl rfl ⟨⟨_,rfl,?_⟩,trivial⟩
      ·refine eQ (v:=.agg (wC x t fA fn fc ib n).toArray) rfl (fun w=>by kernel_rfl) rfl ?_
       refine cc ?_;refine cC rfl rfl rfl ⟨⟨_,rfl,?_⟩,trivial⟩
       ·refine aS (l:=wC x t fA fn fc ib n) rfl rfl fun bw _=>?_
        refine cc ?_;refine cC rfl rfl rfl ⟨⟨_,rfl,?_⟩,trivial⟩
        ·(first|refine Jc ?_|refine Jd ?_|refine Je ?_|refine Jf ?_|refine Jg ?_|refine Jh ?_|refine Ji ?_|refine Jj ?_|refine Jk ?_|refine Jl ?_|refine Jm ?_|refine Jn ?_|refine Jo ?_|refine Jp ?_|refine Jq ?_|refine Jr ?_|refine Js ?_|refine Jt ?_|refine Ju ?_|refine Jv ?_|refine Jw ?_|refine Jx ?_|refine Jz ?_|refine JA ?_|refine JB ?_|refine JC ?_|refine JD ?_|refine JE ?_|refine JF ?_|refine JG ?_|refine JH ?_|refine JI ?_|refine JJ ?_|refine JK ?_|refine JL ?_)
         refine cc ?_;refine pi rfl rfl (aq ?_);exact lG ⟨bw,ib⟩ [0,2,1] ⟨rfl,rfl,rfl,trivial⟩ rfl
  ·(first|refine Jc ?_|refine Jd ?_|refine Je ?_|refine Jf ?_|refine Jg ?_|refine Jh ?_|refine Ji ?_|refine Jj ?_|refine Jk ?_|refine Jl ?_|refine Jm ?_|refine Jn ?_|refine Jo ?_|refine Jp ?_|refine Jq ?_|refine Jr ?_|refine Js ?_|refine Jt ?_|refine Ju ?_|refine Jv ?_|refine Jw ?_|refine Jx ?_|refine Jz ?_|refine JA ?_|refine JB ?_|refine JC ?_|refine JD ?_|refine JE ?_|refine JF ?_|refine JG ?_|refine JH ?_|refine JI ?_|refine JJ ?_|refine JK ?_|refine JL ?_)
   refine cc ?_;refine cC rfl rfl rfl ⟨⟨_,rfl,?_⟩,⟨_,rfl,?_⟩,trivial⟩
   ·(first|refine Jc ?_|refine Jd ?_|refine Je ?_|refine Jf ?_|refine Jg ?_|refine Jh ?_|refine Ji ?_|refine Jj ?_|refine Jk ?_|refine Jl ?_|refine Jm ?_|refine Jn ?_|refine Jo ?_|refine Jp ?_|refine Jq ?_|refine Jr ?_|refine Js ?_|refine Jt ?_|refine Ju ?_|refine Jv ?_|refine Jw ?_|refine Jx ?_|refine Jz ?_|refine JA ?_|refine JB ?_|refine JC ?_|refine JD ?_|refine JE ?_|refine JF ?_|refine JG ?_|refine JH ?_|refine JI ?_|refine JJ ?_|refine JK ?_|refine JL ?_)
    refine cc ?_;refine cC rfl rfl rfl ⟨⟨_,rfl,?_⟩,trivial⟩
    ·(first|refine Jc ?_|refine Jd ?_|refine Je ?_|refine Jf ?_|refine Jg ?_|refine Jh ?_|refine Ji ?_|refine Jj ?_|refine Jk ?_|refine Jl ?_|refine Jm ?_|refine Jn ?_|refine Jo ?_|refine Jp ?_|refine Jq ?_|refine Jr ?_|refine Js ?_|refine Jt ?_|refine Ju ?_|refine Jv ?_|refine Jw ?_|refine Jx ?_|refine Jz ?_|refine JA ?_|refine JB ?_|refine JC ?_|refine JD ?_|refine JE ?_|refine JF ?_|refine JG ?_|refine JH ?_|refine JI ?_|refine JJ ?_|refine JK ?_|refine JL ?_)
     refine cc ?_;refine cC rfl rfl rfl ⟨⟨_,rfl,?_⟩,trivial⟩
     ·refine bF (n:=n) (zc:=[.slice none 0 0]) rfl rfl hn rfl rfl (by unfold dK;omega) (by omega) rfl fun ib=>?_
      refine cc ?_;refine cC rfl rfl rfl ⟨⟨_,rfl,?_⟩,trivial⟩
      ·refine eQ (v:=.agg (wC x t fA fn fc ib n).toArray) rfl (fun w=>by kernel_rfl) rfl ?_
       refine cc ?_;refine cC rfl rfl rfl ⟨⟨_,rfl,?_⟩,trivial⟩
       ·refine aS (l:=wC x t fA fn fc ib n) rfl rfl fun bw _=>?_
        refine cc ?_;refine cC rfl rfl rfl ⟨⟨_,rfl,?_⟩,trivial⟩
        ·(first|refine Jc ?_|refine Jd ?_|refine Je ?_|refine Jf ?_|refine Jg ?_|refine Jh ?_|refine Ji ?_|refine Jj ?_|refine Jk ?_|refine Jl ?_|refine Jm ?_|refine Jn ?_|refine Jo ?_|refine Jp ?_|refine Jq ?_|refine Jr ?_|refine Js ?_|refine Jt ?_|refine Ju ?_|refine Jv ?_|refine Jw ?_|refine Jx ?_|refine Jz ?_|refine JA ?_|refine JB ?_|refine JC ?_|refine JD ?_|refine JE ?_|refine JF ?_|refine JG ?_|refine JH ?_|refine JI ?_|refine JJ ?_|refine JK ?_|refine JL ?_)
         refine cc ?_;refine pi rfl rfl (aq ?_);exact lG ⟨bw,ib⟩ [0,2,1] ⟨rfl,rfl,rfl,trivial⟩ rfl
   ·(first|refine Jc ?_|refine Jd ?_|refine Je ?_|refine Jf ?_|refine Jg ?_|refine Jh ?_|refine Ji ?_|refine Jj ?_|refine Jk ?_|refine Jl ?_|refine Jm ?_|refine Jn ?_|refine Jo ?_|refine Jp ?_|refine Jq ?_|refine Jr ?_|refine Js ?_|refine Jt ?_|refine Ju ?_|refine Jv ?_|refine Jw ?_|refine Jx ?_|refine Jz ?_|refine JA ?_|refine JB ?_|refine JC ?_|refine JD ?_|refine JE ?_|refine JF ?_|refine JG ?_|refine JH ?_|refine JI ?_|refine JJ ?_|refine JK ?_|refine JL ?_)
    refine cc ?_;refine cC rfl rfl rfl ⟨⟨_,rfl,?_⟩,⟨_,rfl,?_⟩,trivial⟩
    ·(first|refine Jc ?_|refine Jd ?_|refine Je ?_|refine Jf ?_|refine Jg ?_|refine Jh ?_|refine Ji ?_|refine Jj ?_|refine Jk ?_|refine Jl ?_|refine Jm ?_|refine Jn ?_|refine Jo ?_|refine Jp ?_|refine Jq ?_|refine Jr ?_|refine Js ?_|refine Jt ?_|refine Ju ?_|refine Jv ?_|refine Jw ?_|refine Jx ?_|refine Jz ?_|refine JA ?_|refine JB ?_|refine JC ?_|refine JD ?_|refine JE ?_|refine JF ?_|refine JG ?_|refine JH ?_|refine JI ?_|refine JJ ?_|refine JK ?_|refine JL ?_)
     refine cc ?_;refine cC rfl rfl rfl ⟨⟨_,rfl,?_⟩,trivial⟩
     ·refine bF (n:=n) (zc:=[.slice none 0 0]) rfl rfl hn rfl rfl (by unfold dK;omega) (by omega) rfl fun ib=>?_
      refine cc ?_;refine cC rfl rfl rfl ⟨⟨_,rfl,?_⟩,trivial⟩
      ·refine eQ (v:=.agg (wC x t fA fn fc ib n).toArray) rfl (fun w=>by kernel_rfl) rfl ?_
       refine cc ?_;refine cC rfl rfl rfl ⟨⟨_,rfl,?_⟩,trivial⟩
       ·refine aS (l:=wC x t fA fn fc ib n) rfl rfl fun bw _=>?_
        refine cc ?_;refine cC rfl rfl rfl ⟨⟨_,rfl,?_⟩,trivial⟩
        ·(first|refine Jc ?_|refine Jd ?_|refine Je ?_|refine Jf ?_|refine Jg ?_|refine Jh ?_|refine Ji ?_|refine Jj ?_|refine Jk ?_|refine Jl ?_|refine Jm ?_|refine Jn ?_|refine Jo ?_|refine Jp ?_|refine Jq ?_|refine Jr ?_|refine Js ?_|refine Jt ?_|refine Ju ?_|refine Jv ?_|refine Jw ?_|refine Jx ?_|refine Jz ?_|refine JA ?_|refine JB ?_|refine JC ?_|refine JD ?_|refine JE ?_|refine JF ?_|refine JG ?_|refine JH ?_|refine JI ?_|refine JJ ?_|refine JK ?_|refine JL ?_)
         refine cc ?_;refine pi rfl rfl (aq ?_);exact lG ⟨bw,ib⟩ [0,2,1] ⟨rfl,rfl,rfl,trivial⟩ rfl
    ·refine bF (n:=n) (zc:=[.slice none 0 0]) rfl rfl hn rfl rfl (by unfold dK;omega) (by omega) rfl fun ib=>?_
     refine cc ?_;refine cC rfl rfl rfl ⟨⟨_,rfl,?_⟩,trivial⟩
     ·(first|refine Jc ?_|refine Jd ?_|refine Je ?_|refine Jf ?_|refine Jg ?_|refine Jh ?_|refine Ji ?_|refine Jj ?_|refine Jk ?_|refine Jl ?_|refine Jm ?_|refine Jn ?_|refine Jo ?_|refine Jp ?_|refine Jq ?_|refine Jr ?_|refine Js ?_|refine Jt ?_|refine Ju ?_|refine Jv ?_|refine Jw ?_|refine Jx ?_|refine Jz ?_|refine JA ?_|refine JB ?_|refine JC ?_|refine JD ?_|refine JE ?_|refine JF ?_|refine JG ?_|refine JH ?_|refine JI ?_|refine JJ ?_|refine JK ?_|refine JL ?_)
      refine cc ?_;refine cC rfl rfl rfl ⟨⟨_,rfl,?_⟩,trivial⟩
      ·refine eQ (v:=.agg (wC x t fA fn fc ib n).toArray) rfl (fun w=>by kernel_rfl) rfl ?_
       refine cc ?_;refine cC rfl rfl rfl ⟨⟨_,rfl,?_⟩,trivial⟩
       ·refine aS (l:=wC x t fA fn fc ib n) rfl rfl fun bw _=>?_
        refine cc ?_;refine cC rfl rfl rfl ⟨⟨_,rfl,?_⟩,trivial⟩
        ·(first|refine Jc ?_|refine Jd ?_|refine Je ?_|refine Jf ?_|refine Jg ?_|refine Jh ?_|refine Ji ?_|refine Jj ?_|refine Jk ?_|refine Jl ?_|refine Jm ?_|refine Jn ?_|refine Jo ?_|refine Jp ?_|refine Jq ?_|refine Jr ?_|refine Js ?_|refine Jt ?_|refine Ju ?_|refine Jv ?_|refine Jw ?_|refine Jx ?_|refine Jz ?_|refine JA ?_|refine JB ?_|refine JC ?_|refine JD ?_|refine JE ?_|refine JF ?_|refine JG ?_|refine JH ?_|refine JI ?_|refine JJ ?_|refine JK ?_|refine JL ?_)
         refine cc ?_;refine pi rfl rfl (aq ?_);exact lG ⟨bw,ib⟩ [0,2,1] ⟨rfl,rfl,rfl,trivial⟩ rfl
 refine cI [blk bw (wC x t fA fn fc ib n) 138,blk b2 (x.th t) 25,bh ib n (cv t n 0)] (fun w A h=>Sep.take [1,2,0] (lr (e2:=3) (Sep.take [2,0,1] h))) ?_;refine ar ?_;refine Ja (Jd (Jb ?_));refine ak ?_;refine aI (ι:={ i:Nat // i≤(ao t).length }) (fun i=>[(1,.slice fA fn fc),(2,aK b2),(5,aK bw),(6,.int .i64 i.1)]) (fun i=>[blk bw (wC x t fA fn fc ib n) 138,blk b2 (x.th t) 25,bh ib n (cv t n i.1)]) (fun i=>(ao t).length - i.1) ⟨0,Nat.zero_le _⟩ ⟨rfl,rfl,rfl,rfl,trivial⟩ (fun h=>h) ?_;intro ⟨i,hi⟩;dsimp only at hi ⊢;refine ar ?_;refine Ja (Jc (Je ?_));refine JB ?_;refine Jg (Jk (Jb ?_));refine ay rfl (fun hlt=>?_) (fun hge=>?_);rotate_left
 ·obtain rfl:i=(ao t).length:=by omega
  refine aG rfl (ah ?_);refine Ja (Jc (Jd (Jb ?_)));exact aw rfl Tryz.results42 rfl rfl fun w hw=>⟨(bw,ib),rfl,St.take [0,2] hw⟩
 have hi':i < (ao t).length:=by omega
 have hy:=ol hk hn i hi;obtain ⟨B,O,A2,c2,hA,hmm,_,_⟩:=bz h (i:=(i:Int)) (by omega) hlt;obtain ⟨u0,u1⟩:=Ap hk hi';have hnext:cv t n (i + 1)=bV (cv t n i) (ai t i).2.1 i:=rfl;have hmm1:=hmm 1 _ rfl;change mem w (fun b=>¬ No b) B (O + ((i:Int)).toNat * 3 + 1) (.int .i64 (ai t i).2.1) at hmm1;generalize (ai t i).2.1=u at *;rw [hn] at u1;have hl:(cv t n i)[u.toNat]?=some (ap (cv t n i) u):=getD_some (d:=[]) hy.len u0 u1;have hbi:u.toNat < (cv t n i).length:=by rw [hy.len];omega
 have hrl:=(hy.at_ u0 u1).1;refine al (ah ?_);refine ar ?_;refine ak ?_;refine iW (ι:=List (List Value) × Value) (fun q=>q.1[u.toNat]?=some [q.2]∧q.1.length=(cv t n i).length) (fun q=>ax 3 1 q.2 ((ap (cv t n i) u).map bY)::(([]:List HP)++[blk bw (wC x t fA fn fc ib n) 138,blk b2 (x.th t) 25,ax 26 1 (slV ib n) q.1,cT (some (u.toNat)) 3 q.1 (cv t n i)])) (fun w A h=>?_) (fun ⟨es,uv⟩ ⟨hq1,hq2⟩=>?_)
 ·obtain ⟨q,hq,h2⟩:=fp hl (Sep.take [2,0,1] h)
  exact ⟨q,hq,Sep.take [1,3,4,0,2] h2⟩
 dsimp only at hq1 hq2;refine y8 24 23 _ (by kernel_rfl) (by kernel_rfl) ?_;refine Bw (fun _ _=>Jc Dn) ?_;refine Bw (fun _ _=>Jf Dn) ?_;refine Bw (fun _ _=>Je Dn) ?_;refine Bw (fun _ _=>JA Dn) ?_;refine Bw (fun _ _=>Je Dn) ?_;refine Bw (fun _ _=>JB Dn) ?_;refine Bw (fun _ _=>Jc Dn) ?_;refine Bw (fun _ _=>aa hA rfl rfl (by omega) hlt rfl Dn) ?_;refine Bw (fun _ _=>Je Dn) ?_;refine Bw (fun _ _=>ac (v:=.int .i64 u) rfl hle hmm1 rfl rfl Dn) ?_;refine Bw (fun _ _=>Jc Dn) ?_;refine Bw (fun _ _=>Jf Dn) ?_;refine Bw (fun _ _=>Je Dn) ?_;refine Bw (fun _ _=>JA Dn) ?_;refine Bw (fun _ _=>Je Dn) ?_;refine Bw (fun _ _=>JB Dn) ?_;refine Bw (fun _ _=>Jc Dn) ?_;refine Bw (fun _ _=>aa hA rfl rfl (by omega) hlt rfl Dn) ?_;refine Bw (fun _ _=>Je Dn) ?_;refine Bw (fun _ _=>ac (v:=.int .i64 u) rfl hle hmm1 rfl rfl Dn) ?_;refine Bw (fun _ _=>av rfl rfl u0 u1 rfl Dn) ?_;refine Bw (fun _ _=>az [_,_] (i:=u.toNat) (j:=0) rfl (by simp) hq1 rfl rfl rfl Dn) ?_;refine Bw (fun _ _=>Jc Dn) ?_
 (apply ru (fun b=>.slice (some ⟨b,0,none⟩) 1 1) (fun b=>blk b [.int .i64 ((i:Int))] 3) rfl rfl;· intro Gx X;refine bW (e:=3) (c:=[.int .i64 ((i:Int))]) rfl (fun w=>by kernel_rfl) rfl fun b _=>?_;exact aU rfl)
 refine rv (fun mm=>kj ((ap (cv t n i) u).length + 1) mm) (fun mm=>ax 3 1 (kj ((ap (cv t n i) u).length + 1) mm) (((ap (cv t n i) u)++[(i:Int)]).map bY)) rfl rfl rfl rfl rfl rfl (fun b Gx X=>?_) ?_
 ·refine eS [_] (e:=3) (sz:=1) (news:=[[.int .i64 ((i:Int))]]) (zc:=[.int .i64 0]) rfl rfl rfl rfl rfl (by simp) (by simp [Value.oneCell']) (fun w hw hn=>?_) ?_ ?_ rfl fun u1=>?_
  ·exact ⟨b,0,rfl,a9 (St.blk (pre:=[]) hw)⟩
  ·rw [List.length_map];omega
  ·rw [List.length_map];unfold dK;omega
  rw [show (ap (cv t n i) u).map bY++[[.int .i64 ((i:Int))]]=((ap (cv t n i) u)++[(i:Int)]).map bY by rw [List.map_append];rfl];refine fY (φ:=∃ mm,u1=kj ((ap (cv t n i) u).length + 1) mm) (fun w hw=>by have:=jP (pre:=[_]) hw;rwa [List.length_map,List.length_append,List.length_singleton] at this) (fun ⟨mm,hmm⟩=>?_);subst hmm;exact fH rfl
 refine Bw (fun _ _=>av rfl rfl u0 u1 rfl Dn) ?_;refine mV rfl (by kernel_rfl) (by kernel_rfl) fun bs2=>?_;have hv1:=gI ((ap (cv t n i) u).length + 1) (bs2 45);refine aM [_,_] (v:=kj ((ap (cv t n i) u).length + 1) (bs2 45)) (i:=u.toNat) (j:=0) rfl (by simp) rfl hv1.1 hv1.2 hq1 (Nat.zero_lt_succ _) ?_;refine aq ?_;refine fI (H':=([]:List HP)++[blk bw (wC x t fA fn fc ib n) 138,blk b2 (x.th t) 25,de 26 3 (slV ib n) ((cv t n i).set (u.toNat) ((ap (cv t n i) u)++[(i:Int)]))]) (fun w A h=>?_) ?_
 ·have h2:=d9 (l:=(ap (cv t n i) u)++[(i:Int)]) (i:=u.toNat) hbi (Sep.take [2,4,3,0,1] h)
  exact Sep.take [1,2,0] h2
 refine ah ?_;refine aj (Jc ?_);refine Ka ?_;refine Jd (aq ?_);exact bp ⟨i + 1,hi'⟩ ⟨rfl,rfl,rfl,rfl,trivial⟩ (fun h=>by rw [hnext];exact h) (by show (ao t).length - (i + 1) < (ao t).length - i;omega)
end
section
def GD (x:Nat):Bool:=(List.range 4).all fun k=>(decide (g9 .u8 (x:Int) (kY .u8 1 ((k:Int) + 1 - 1))=0) == !En.bit x ((k:Int) + 1))&&decide ((x:Int)≤dT .u8 (x:Int) (kY .u8 1 ((k:Int) + 1 - 1)))
theorem GS:((List.range 16).all GD)=true:=by decide +kernel
theorem Cy {x k:Int} (x0:0≤x) (x1:x < 16) (k0:1≤k) (k1:k≤4):decide (g9 .u8 x (kY .u8 1 (k - 1))=0)=!En.bit x k∧x≤dT .u8 x (kY .u8 1 (k - 1)):=by
 have h:=List.all_eq_true.1 GS x.toNat (List.mem_range.2 (by omega));unfold GD at h;have h2:=List.all_eq_true.1 h (k - 1).toNat (List.mem_range.2 (by omega));rw [show ((x.toNat:Nat):Int)=x by omega,show (((k - 1).toNat:Nat):Int) + 1=k by omega,Bool.and_eq_true] at h2;exact ⟨eq_of_beq h2.1,of_decide_eq_true h2.2⟩
theorem D9 {m:List Int} {q k:Int} (hm:0≤aF m q∧aF m q < 16) (k0:1≤k) (k1:k≤4):qM m q k=En.bit (aF m q) k:=by
 have h:=(Cy hm.1 hm.2 k0 k1).1;unfold qM;rw [decide_not,h,Bool.not_not]
theorem Cp {v k:Int} {b:Bool} (h:0≤v∧v < 16) (k0:1≤k) (k1:k≤4):(0≤m6 v k b∧m6 v k b < 16)∧v≤m6 v k b:=by
 unfold m6;split
 ·exact ⟨CD h.1 h.2 k0 k1,(Cy h.1 h.2 k0 k1).2⟩
 ·exact ⟨h,Int.le_refl _⟩
theorem zr {v k j:Int} {b:Bool} (h:0≤v∧v < 16) (k0:1≤k) (k1:k≤4) (j0:1≤j) (j1:j≤4):En.bit (m6 v k b) j=(En.bit v j || (decide (j=k)&&b)):=by
 unfold m6;rw [(Cy h.1 h.2 k0 k1).1];by_cases hb:En.bit v k=true
 ·rw [hb,if_neg (by simp)]
  by_cases e:j=k
  ·rw [e,hb];rfl
  ·rw [decide_eq_false e];simp
 ·rw [Bool.not_eq_true] at hb
  rw [hb];cases b with
  | false=>rw [if_neg (by simp)];simp
  | true=>rw [if_pos (by rfl),oB h.1 h.2 k0 k1 j0 j1,Bool.or_comm,Bool.and_true]
section
variable {t:ThV} {fs:List Int} {rl:List (List Int)} {m:List Int} {q:Int}
theorem zi (h:0≤aF m q∧aF m q < 16):∀ {j:Nat},j≤4→(0≤upQ t fs rl m q j∧upQ t fs rl m q j < 16)∧aF m q≤upQ t fs rl m q j
 | 0,_=>⟨h,Int.le_refl _⟩
 | j + 1,hj=>by
  obtain ⟨h1,h2⟩:=zi h (j:=j) (by omega);obtain ⟨h3,h4⟩:=Cp (b:=jJ t fs rl m ((j:Int) + 1) q) h1 (k:=(j:Int) + 1) (by omega) (by omega);exact ⟨h3,Int.le_trans h2 h4⟩
theorem Bg (h:0≤aF m q∧aF m q < 16) {i:Int} (i0:1≤i) (i1:i≤4):∀ {j:Nat},j≤4→En.bit (upQ t fs rl m q j) i=(En.bit (aF m q) i || (decide (i≤j)&&jJ t fs rl m i q))
 | 0,_=>by rw [decide_eq_false (by omega)];simp [upQ]
 | j + 1,hj=>by
  have h1:=Bg h i0 i1 (j:=j) (by omega);show En.bit (m6 _ _ _) i=_;rw [zr (zi h (by omega)).1 (by omega) (by omega) i0 i1,h1];by_cases e:i=(j:Int) + 1
  ·subst e
   rw [decide_eq_true rfl,decide_eq_false (by omega),decide_eq_true (by omega)];simp
  ·rw [decide_eq_false e]
   by_cases e2:i≤j
   ·rw [decide_eq_true e2,decide_eq_true (by omega)];simp
   ·rw [decide_eq_false e2,decide_eq_false (by omega)];simp
end
structure sS (n:Nat) (m:List Int):Prop where
 len:m.length=n
 rg:∀ v∈m,0≤v∧v < 16
theorem xP {m:List Int} {q:Int} {n:Nat} (h:m.length=n) (q0:0≤q) (q1:q < n):aF m q∈m:=List.mem_of_getElem? (cM h q0 q1)
theorem sS.at {n:Nat} {m:List Int} {q:Int} (h:sS n m) (q0:0≤q) (q1:q < n):0≤aF m q∧aF m q < 16:=h.rg _ (xP h.len q0 q1)
section
variable {t:ThV} {fs:List Int} {rl:List (List Int)} {m:List Int} {q:Int} {n:Nat}
theorem iz:(eF t fs rl m).length=m.length:=by unfold eF;simp
theorem zB (h:m.length=n) (q0:0≤q) (q1:q < n):aF (eF t fs rl m) q=upQ t fs rl m q 4:=by
 have:=oM (t:=t) (fs:=fs) (rl:=rl) (m:=m) (q:=q.toNat) (by omega);rw [show ((q.toNat:Nat):Int)=q by omega] at this;have h2:=cM (l:=eF t fs rl m) (by rw [iz];exact h) q0 q1;rw [this] at h2;exact (Option.some.inj h2).symm
theorem sS.round (h:sS n m):sS n (eF t fs rl m):=⟨by rw [iz];exact h.len,fun v hv=>by
 obtain ⟨i,hi,rfl⟩:=List.getElem_of_mem hv;have hi2:i < m.length:=by rw [iz] at hi;exact hi
 have:=oM (t:=t) (fs:=fs) (rl:=rl) (m:=m) (q:=i) hi2;rw [List.getElem?_eq_getElem hi] at this;rw [Option.some.inj this];exact (zi (h.at (by omega) (by have:=h.len;omega)) (Nat.le_refl 4)).1⟩
def muQ (m:List Int):Nat:=(m.map fun v=>(15 - v).toNat).sum
theorem Eu:∀ {l l':List Int},l.length=l'.length→(∀ (i:Nat) (v v':Int),l[i]?=some v→l'[i]?=some v'→v≤v'∧v'≤15)→muQ l'≤muQ l∧(l≠l'→muQ l' < muQ l)
 | [],[],_,_=>⟨Nat.le_refl _,fun h=>absurd rfl h⟩
 | [],_::_,h,_=>by simp at h
 | _::_,[],h,_=>by simp at h
 | a::l,b::l',h,hv=>by
  obtain ⟨h1,h2⟩:=Eu (l:=l) (l':=l') (by simpa using h) (fun i v v' e1 e2=>hv (i + 1) v v' (by simpa using e1) (by simpa using e2));have h3:=hv 0 a b rfl rfl;have e1:muQ (a::l)=(15 - a).toNat + muQ l:=by simp [muQ]
  have e2:muQ (b::l')=(15 - b).toNat + muQ l':=by simp [muQ]
  refine ⟨by omega,fun hne=>?_⟩;by_cases e:a=b
  ·have:=h2 (fun e3=>hne (by rw [e,e3]))
   omega
  ·omega
theorem zV (h:sS n m) (hne:m≠eF t fs rl m):muQ (eF t fs rl m) < muQ m:=
 (Eu (by rw [iz]) fun i v v' e1 e2=>by
  have hi:i < m.length:=(List.getElem?_eq_some_iff.1 e1).1;rw [oM hi] at e2;have hh:=cM (l:=m) (q:=(i:Int)) rfl (by omega) (by omega);rw [show ((i:Int)).toNat=i by omega,e1] at hh;rw [← Option.some.inj e2,Option.some.inj hh];have:=zi (t:=t) (fs:=fs) (rl:=rl) (h.at (q:=(i:Int)) (by omega) (by have:=h.len;omega)) (Nat.le_refl 4);omega).2 hne
def o0 (t:ThV) (fs:List Int) (rl:List (List Int)) (n:Nat):Nat→List Int
 | 0=>List.replicate n 0
 | j + 1=>eF t fs rl (o0 t fs rl n j)
theorem mr:∀ {j:Nat},sS n (o0 t fs rl n j)
 | 0=>⟨by simp [o0],fun v hv=>by rw [List.eq_of_mem_replicate hv];omega⟩
 | j + 1=>(mr (j:=j)).round
end
theorem Ef {w0 w:World} {S:Nat→Prop} {pre r:List HP} {k:K} {cs:List Value} {x:k.V} (h:St w0 S (pre++i5 k cs x::r) w):Rd k (mem w (fun b=>¬ No b)) cs x:=by
 obtain ⟨F2,hp,_⟩:=h.get;exact (yY hp).mono (fun B O v h=>⟨⟨fun k=>k,h.1.2⟩,h.2⟩)
theorem Cx {t:ThV} {n:Nat} {m:List Int} (hk:j6 t) (hn:t.1=n) (hb:(aN t).length=(ao t).length) (hm:m.length=n):QOk t (cv t n (ao t).length) m:=
 ⟨by rw [(ol hk hn _ (Nat.le_refl _)).len,hn],by rw [hm,hn],fun l hl r hr=>((ol hk hn _ (Nat.le_refl _)).row l hl).2 r hr,hk,hb⟩
abbrev EX (t:ThV) (fs:List Int) (n:Nat):={ p:Nat × Int × List Int // eF t fs (cv t n (ao t).length) p.2.2=p.2.2∧∃ j,p.2.2=o0 t fs (cv t n (ao t).length) n j }
theorem FL {w0 w:World} {S:Nat→Prop} {r:List HP} {bw ib n fc:Nat} {t:ThV} {x:TC} {fA:Option Addr} {fs:List Int} {rl:List (List Int)} {T:TypeId} (h:gp (mem w (fun b=>¬ No b)) t x) (hf:Rd cO (mem w (fun b=>¬ No b)) [.slice fA fs.length fc] fs) (hl:rl.length=n) (hw:St w0 S (blk bw (wC x t fA fs.length fc ib n) T::i5 en [slV ib n] rl::r) w):QW (mem w (fun b=>¬ No b)) bw t x ⟨fA,some ⟨ib,0,none⟩,fc,n⟩ fs rl:=by
 subst hl;exact ⟨fun j v hj=>gh (fun h=>h) (St.blk (pre:=[]) hw) j v hj,h,hf,Ef (pre:=[_]) hw⟩
attribute [local irreducible] RW CW
theorem zI {bw:Nat} {t:ThV} {x:TC} {y:QC} {fs:List Int} {rl:List (List Int)} {m:List Int} {Am:Option Addr} {n cm:Nat} {w:World} (h:QW (mem w (fun b=>¬ No b)) bw t x y fs rl) (hk:gL (mem w (fun b=>¬ No b)) Am m) (qk:QOk t rl m) (hl:m.length=n):
 iT Tryz.prog 43 [aK bw,.slice Am n cm] w No (fun b:Nat=>slV b n) (fun b=>[ax 45 1 (slV b n) ((eF t fs rl m).map gD)]):=by
 subst hl;exact uL h hk qk
theorem wm {Aa Ab:Option Addr} {na nb ca cb:Nat} {a b:List Int} {w:World} (ha:gL (mem w (fun b=>¬ No b)) Aa a) (hb:gL (mem w (fun b=>¬ No b)) Ab b) (hn:a.length≤4096) (h1:a.length=na) (h2:b.length=nb):
 Ret Tryz.prog 14 [.slice Aa na ca,.slice Ab nb cb] w (.bool (decide (a=b))):=by
 subst h1 h2;exact zw ha hb hn
set_option maxHeartbeats 8000000 in
theorem zH {t:ThV} {x:TC} {fA:Option Addr} {fc n:Nat} {fs:List Int} {w:World} (h:gp (mem w (fun b=>¬ No b)) t x) (hf:Rd cO (mem w (fun b=>¬ No b)) [.slice fA fs.length fc] fs) (hk:j6 t) (hn:t.1=n) (hb:(aN t).length=(ao t).length):
 iT Tryz.prog 21 [.agg (x.th t).toArray,.slice fA fs.length fc] w No (fun p:EX t fs n=>.tuple #[slV p.1.1 n,.int .i64 p.1.2.1]) (fun p=>[ax 45 1 (slV p.1.1 n) (p.1.2.2.map gD)]):=by
 have hn4:n≤4096:=by have:=hk.most;omega
 have hR:=ol hk hn _ (Nat.le_refl _);have hm4:=hk.count;refine Calls.enter Tryz.func21 rfl _ rfl rfl (S:=No) (H:=[]) trivial ?_;refine bZ ?_;refine aS (l:=x.th t) rfl rfl fun b2 _=>?_;refine Jd (Jd (Jb (Ja ?_)));refine JE ?_;refine Jc ?_;refine dY Tryz.call42 rfl (fun w hw=>zJ (h.mono (au hw)) hk hn) rfl fun ⟨bw,ib⟩=>?_;dsimp only;refine Jd (Jb (Ja (Je ?_)));refine JC ?_;refine bF (n:=n) (zc:=[.int .u8 0]) rfl rfl hn rfl rfl (by unfold dK;omega) (by omega) rfl fun B0=>?_;refine Jd (Jb (Ja (Jd (Jb ?_))));refine cI [blk bw (wC x t fA fs.length fc ib n) 138,i5 en [slV ib n] (cv t n (ao t).length),ax 45 1 (slV B0 n) ((List.replicate n 0).map gD),blk b2 (x.th t) 25] (fun w A h=>?_) ?_
 ·have h2:=lq (by rw [hR.len];unfold br;omega) (fun l hl=>⟨by have:=(hR.row l hl).1;unfold br;omega,fun x hx=>by have:=(hR.row l hl).2 x hx;exact BC (by omega) (by omega)⟩) (Sep.take [2,0,1,3] h)
  rw [List.map_replicate];exact Sep.take [2,0,1,3] h2
 refine ak ?_
 refine aI (ι:={ p:Nat × Int × List Int // ∃ j,p.2.2=o0 t fs (cv t n (ao t).length) n j }) (fun p=>[(6,aK bw),(7,slV p.1.1 n),(8,.int .i64 p.1.2.1)]) (fun p=>[blk bw (wC x t fA fs.length fc ib n) 138,i5 en [slV ib n] (cv t n (ao t).length),ax 45 1 (slV p.1.1 n) (p.1.2.2.map gD),blk b2 (x.th t) 25])
  (fun p=>muQ p.1.2.2) ⟨(B0,0,List.replicate n 0),0,rfl⟩ ⟨rfl,rfl,rfl,trivial⟩ (fun h=>h) ?_
 intro ⟨⟨bm,c,m⟩,hj⟩;dsimp only at hj ⊢;have hok:sS n m:=by obtain ⟨j,rfl⟩:=hj;exact mr
 have qk:QOk t (cv t n (ao t).length) m:=Cx hk hn hb hok.len;refine ak ?_;refine Ja (Jc (Jc ?_));refine dY Tryz.call43 rfl (fun w hw=>zI (FL (h.mono (au hw)) (hf.mono (au hw)) hR.len hw) (md (pre:=[_,_]) hw) qk hok.len) rfl fun b3=>?_;refine Jd (Jb ?_);refine ar ?_;refine Ja (Jc (Jc ?_));refine aD Tryz.call14 rfl (fun w2 hw=>wm (md (pre:=[_,_,_]) hw) (md (pre:=[]) hw) (by rw [hok.len];exact hn4) hok.len (by rw [iz,hok.len])) rfl ?_;refine aq (ah ?_);refine ay rfl (fun he=>?_) (fun hne=>?_)
 ·refine Ja (Jc (Jc (Jd (Jd (Jb ?_)))))
  exact aZ (rs:=[.tmp 4,.tmp 5]) (vs:=[slV bm n,.int .i64 c]) rfl Tryz.results21 rfl (.tmp rfl (.tmp rfl .nil)) fun w hw=>⟨⟨(bm,c,m),he.symm,hj⟩,rfl,St.take [3] hw⟩
 refine al (ah ?_);refine Ja (Jc (Jd (Jb ?_)));refine aj (Jc ?_);refine cY rfl rfl rfl rfl ?_;refine Jd (aq ?_);exact kc ⟨(b3,_,eF t fs (cv t n (ao t).length) m),by obtain ⟨j,rfl⟩:=hj;exact ⟨j + 1,rfl⟩⟩ [1,2,0,4] ⟨rfl,rfl,rfl,trivial⟩ rfl (zV hok hne)
end
section
structure yZ (t:ThV):Prop where
 ok:j6 t
 foes:¬ 0≤jN t
 pairs:gy t≤65536
 lb:(aN t).length=(ao t).length
 beats:¬ 0≤fU t
 circ:¬ 0≤gY t
theorem BO {t:ThV} (h:(fT t).1=0):yZ t:=by
 unfold fT at h;split at h
 ·cases h
 split at h
 ·cases h
 split at h
 ·cases h
 split at h
 ·cases h
 split at h
 ·cases h
 split at h
 ·cases h
 split at h
 ·cases h
 split at h
 ·cases h
 split at h
 ·cases h
 rename_i h1 h2 h3 h4 h5 h6 h7 h8 h9
 exact ⟨j6.of h1 (Decidable.of_not_not h2) h3 h4 h5,h3,by omega,by have:=Decidable.of_not_not h7;omega,h8,h9⟩
def vt (t:ThV):Nat→Int
 | 0=>0
 | i + 1=>vt t i + ((ai t i).2.2.length:Int)
theorem BQ {t:ThV} (hk:j6 t) {i:Nat} (hi:i < (ao t).length):(ai t i).2.2.length≤16:=by
 have e:ai t i=(ao t)[i]:=by unfold ai;rw [show ((i:Int)).toNat=i by omega,List.getElem?_eq_getElem hi];rfl
 have h:=hk.rules _ (List.getElem_mem hi);rw [← e] at h;unfold eX at h;simp only [Bool.and_eq_true,decide_eq_true_eq] at h;omega
theorem sI {t:ThV} (hk:j6 t):∀ {i:Nat},i≤(ao t).length→0≤vt t i∧vt t i≤16 * i
 | 0,_=>⟨Int.le_refl _,Int.le_refl _⟩
 | i + 1,h=>by
  have h1:=sI hk (i:=i) (by omega);have h2:=BQ hk (i:=i) (by omega);show 0≤vt t i + ((ai t i).2.2.length:Int)∧vt t i + ((ai t i).2.2.length:Int)≤16 * ((i + 1:Nat):Int);omega
attribute [local irreducible] RW CW
set_option maxHeartbeats 4000000 in
theorem uH {t:ThV} {x:TC} {A:Option Addr} {c:Nat} {facts:List Int} {w:World} (h:gp (mem w (fun b=>¬ No b)) t x) (hL:Rd cO (mem w (fun b=>¬ No b)) [.slice A facts.length c] facts):
 Ret Tryz.prog 41 [.agg (x.th t).toArray,.slice A facts.length c] w (.int .i64 (if bg facts t.1=true then 0 else 181)):=by
 refine Calls.enter Tryz.func41 rfl _ rfl rfl (S:=No) (H:=[]) trivial ?_;refine bZ ?_;refine aS (l:=x.th t) rfl rfl fun b1 _=>?_;refine Jd (Jb ?_);refine ar ?_;refine Ja (Jc (Je ?_));refine JA ?_;refine aD Tryz.call56 rfl (fun w2 hw=>gQ (hL.mono (au hw))) rfl ?_;refine Js (Jb ?_);cases h1:bg facts t.1 with
 | false=>
  refine cn rfl ?_;refine Ja (Jd (Jb ?_));exact aw rfl Tryz.results41 rfl rfl fun w hw=>⟨rfl,hw.kp⟩
 | true=>
 refine ch rfl ?_;refine al (ah ?_);refine Ja (Jd (Jb ?_));exact aw rfl Tryz.results41 rfl rfl fun w hw=>⟨rfl,hw.kp⟩
set_option maxHeartbeats 4000000 in
theorem nQ {t:ThV} {x:TC} {A:Option Addr} {c:Nat} {facts:List Int} {w:World} (h:gp (mem w (fun b=>¬ No b)) t x) (hL:Rd cO (mem w (fun b=>¬ No b)) [.slice A facts.length c] facts) (hc:vH t):
 Ret Tryz.prog 20 [.agg (x.th t).toArray,.slice A facts.length c] w (.int .i64 (dR t facts)):=by
 refine Calls.enter Tryz.func20 rfl _ rfl rfl (S:=No) (H:=[]) trivial ?_;refine bZ ?_;refine aS (l:=x.th t) rfl rfl fun b1 _=>?_;refine Jd (Jb (Ja ?_));refine JE ?_;refine dY Tryz.call26 rfl (fun w hw=>nP (h.mono (au hw)) hc) rfl fun a=>?_;refine Jc ?_;refine Jt ?_;refine Jt (Jd (Jd (Jb ?_)));refine ar ?_;refine Ja (Jc (Jj (Jb ?_)));unfold dR;refine ay rfl (fun h1=>?_) (fun h1=>?_)
 ·rw [if_pos h1]
  refine Ja (Jc (Jd (Jb ?_)));exact aw rfl Tryz.results20 rfl rfl fun w hw=>⟨rfl,hw.kp⟩
 rw [if_neg h1];refine al (ah ?_);refine Ja ?_;refine JE ?_;refine Jc ?_;refine aD Tryz.call41 rfl (fun w2 hw=>uH (h.mono (au hw)) (hL.mono (au hw))) rfl ?_;refine Jd (Jb ?_);exact aw rfl Tryz.results20 rfl rfl fun w hw=>⟨rfl,hw.kp⟩
set_option maxHeartbeats 4000000 in
theorem wz {t:ThV} {x:TC} {A:Option Addr} {n c:Nat} {facts:List Int} {w:World} (h:gp (mem w (fun b=>¬ No b)) t x) (hL:Rd cO (mem w (fun b=>¬ No b)) [.slice A facts.length c] facts) (hc:vH t) (hg:dR t facts=0) (hk:j6 t) (hn:t.1=n) (hb:(aN t).length=(ao t).length):
 iT Tryz.prog 9 [.agg (x.th t).toArray,.slice A facts.length c] w No (fun p:EX t facts n=>.tuple #[slV p.1.1 n,.int .i64 0]) (fun p=>[ax 45 1 (slV p.1.1 n) (p.1.2.2.map gD)]):=by
 refine Calls.enter Tryz.func9 rfl _ rfl rfl (S:=No) (H:=[]) trivial ?_;refine bZ ?_;refine aS (l:=x.th t) rfl rfl fun b1 _=>?_;refine Jd (Jd (Jb (Ja ?_)));refine JE ?_;refine Jc ?_;refine aD Tryz.call20 rfl (fun w2 hw=>nQ (h.mono (au hw)) (hL.mono (au hw)) hc) rfl ?_;rw [hg];refine Jd (Jb ?_);refine ar ?_;refine Ja (Jc (Jj (Jb ?_)));refine ay rfl (fun h1=>absurd rfl h1) (fun _=>?_);refine al (ah ?_);refine Ja ?_;refine JE ?_;refine Jc ?_;refine dY Tryz.call21 rfl (fun w hw=>zH (h.mono (au hw)) (hL.mono (au hw)) hk hn hb) rfl fun p=>?_;dsimp only;refine Jc ?_;refine Jt ?_;refine Jt (Jd (Jd (Jb (Ja (Jc (Jd (Jd (Jb ?_))))))));exact aZ (rs:=[.tmp 4,.tmp 5]) (vs:=[slV p.1.1 n,.int .i64 0]) rfl Tryz.results9 rfl (.tmp rfl (.tmp rfl .nil)) fun w hw=>⟨p,rfl,St.take [0] hw⟩
set_option maxHeartbeats 4000000 in
theorem uK {t:ThV} {x:TC} {A:Option Addr} {c:Nat} {facts:List Int} {w:World} (h:gp (mem w (fun b=>¬ No b)) t x) (hL:Rd cO (mem w (fun b=>¬ No b)) [.slice A facts.length c] facts) (hc:vH t) (hg:dR t facts≠0):
 Ret Tryz.prog 9 [.agg (x.th t).toArray,.slice A facts.length c] w (.tuple #[.slice none 0 0,.int .i64 (dR t facts)]):=by
 refine Calls.enter Tryz.func9 rfl _ rfl rfl (S:=No) (H:=[]) trivial ?_;refine bZ ?_;refine aS (l:=x.th t) rfl rfl fun b1 _=>?_;refine Jd (Jd (Jb (Ja ?_)));refine JE ?_;refine Jc ?_;refine aD Tryz.call20 rfl (fun w2 hw=>nQ (h.mono (au hw)) (hL.mono (au hw)) hc) rfl ?_;refine Jd (Jb ?_);refine ar ?_;refine Ja (Jc (Jj (Jb ?_)));refine ay rfl (fun h1=>?_) (fun h1=>absurd hg h1);refine Ja (Jc (Jd (Jd (Jb ?_))));exact aZ (rs:=[.tmp 4,.tmp 5]) (vs:=[.slice none 0 0,.int .i64 (dR t facts)]) rfl Tryz.results9 rfl (.tmp rfl (.tmp rfl .nil)) fun w hw=>⟨rfl,hw.kp⟩
set_option maxHeartbeats 8000000 in
theorem ws {t:ThV} {x:TC} {w:World} (h:gp (mem w (fun b=>¬ No b)) t x) (hc:vH t) (hg:(fT t).1=0):
 Ret Tryz.prog 15 [.agg (x.th t).toArray] w (.tuple #[.int .i64 t.1,.int .i64 (vt t (ao t).length),.int .i64 (fw t),.int .i64 0]):=by
 have hle:=hq0 w;have ck:=BO hg;have hm4:=ck.ok.count;refine Calls.enter Tryz.func15 rfl _ rfl rfl (S:=No) (H:=[]) trivial ?_;refine bZ ?_;refine aS (l:=x.th t) rfl rfl fun b1 _=>?_;refine Jd (Jd (Jd (Jd (Jb (Ja ?_)))));refine JE ?_;refine dY Tryz.call26 rfl (fun w hw=>nP (h.mono (au hw)) hc) rfl fun a=>?_;rw [hg];refine Jc ?_;refine Jt ?_;refine Jt (Jd (Jd (Jb ?_)));refine ar ?_;refine Ja (Jc (Jj (Jb ?_)));refine ay rfl (fun h1=>absurd rfl h1) (fun _=>?_);refine al (ah ?_);refine Ja (Jd (Jb ?_));refine ar ?_;refine Ja (Jd (Jb ?_));refine ak ?_;refine aI (ι:={ i:Nat // i≤(ao t).length }) (fun i=>[(1,aK b1),(8,.int .i64 (vt t i.1)),(9,.int .i64 i.1)]) (fun _=>[blk b1 (x.th t) 25]) (fun i=>(ao t).length - i.1) ⟨0,Nat.zero_le _⟩ ⟨rfl,rfl,rfl,trivial⟩ (fun h=>h) ?_;intro ⟨i,hi⟩;dsimp only at hi ⊢;refine ar ?_;refine Ja (Jc (Je ?_));refine JA ?_;refine Jg (Jk (Jb ?_));refine ay rfl (fun hlt=>?_) (fun hge=>?_)
 ·have hi':i < (ao t).length:=by omega
  have h1:=sI ck.ok (i:=i) (by omega);have h2:=BQ ck.ok hi';obtain ⟨B,O,A4,c4,hA,hmm,_,_⟩:=bz h (i:=(i:Int)) (by omega) hlt;refine al (ah ?_);refine ar ?_;refine ak ?_;refine aj ?_;refine Jc (Je ?_);refine JA ?_;refine Jc ?_;refine aa hA rfl rfl (by omega) hlt rfl ?_;refine Je ?_;refine ac (v:=.slice A4 (ai t i).2.2.length c4) rfl hle (hmm 2 _ rfl) rfl rfl ?_;refine Jg ?_;refine Ka ?_;refine Jd ?_;refine aq (ah ?_);refine aj (Jc ?_);refine Ka ?_;refine Jd (aq ?_);exact Pa ⟨i + 1,hi'⟩
 obtain rfl:i=(ao t).length:=by omega
 refine aG rfl (ah ?_);refine dt [(1,aK b1),(8,.int .i64 (vt t (ao t).length))] ⟨rfl,rfl,trivial⟩ ?_;refine kU 2 (by kernel_rfl) rfl rfl rfl rfl rfl (by kernel_rfl) (by kernel_rfl) (by kernel_rfl) rfl ?_;refine hY (by kernel_rfl) ?_;refine Xe ?_;refine Aw (fun _ _=>JA Dn) ?_;refine Xc ?_;refine Aw (fun _ _=>JE Dn) ?_;refine Aw (fun _ _=>aD Tryz.call27 rfl (fun w2 hw=>nJ (h.mono (au hw)) ck.ok) rfl Dn) ?_;refine Aq fun bs=>?_;refine Jd (Jd (Jd (Jd (Jb ?_))));exact aZ (rs:=[.tmp 2,.tmp 3,.tmp 4,.tmp 5]) (vs:=[.int .i64 t.1,.int .i64 (vt t (ao t).length),.int .i64 (fw t),.int .i64 0]) rfl Tryz.results15 rfl (.tmp rfl (.tmp rfl (.tmp rfl (.tmp rfl .nil)))) fun w hw=>⟨rfl,hw.kp⟩
end
section
section
variable {n m:Nat} {t:ThV} {e:En} {q r x k:Int} {i:Nat} {facts:List Int}
theorem qs:∀ {l:List Int} {e:En},i < n→e.opn.length=n→e.clash.length=n→0≤gi e.opn i→gi e.opn i + l.length≤4096→(l.foldl (En.lay5f i) e)={ e with opn:=(l.foldl (En.lay5f i) e).opn,clash:=(l.foldl (En.lay5f i) e).clash }∧(l.foldl (En.lay5f i) e).opn.length=n∧(l.foldl (En.lay5f i) e).clash.length=n ∧
 (∀ (x:Int),0≤x→x < n→gi (l.foldl (En.lay5f i) e).opn x=if x=i then gi e.opn i + ((l.countP (fun f=>!e.has f 2):Nat):Int) else gi e.opn x)∧∀ (x:Int),0≤x→x < n→gb (l.foldl (En.lay5f i) e).clash x=if x=i then (gb e.clash i || l.any (fun f=>e.has f 1)) else gb e.clash x
 | [],e,_,h1,h2,_,_=>⟨rfl,h1,h2,fun x x0 x1=>by split <;> simp_all,fun x x0 x1=>by split <;> simp_all⟩
 | f::l,e,hi,h1,h2,h3,h4=>by
  rw [List.length_cons] at h4;have q0:(0:Int)≤i:=by omega
  have q1:(i:Int) < n:=by omega
  have key:∃ e2,En.lay5f i e f=e2∧e2={ e with opn:=e2.opn,clash:=e2.clash }∧e2.opn.length=n∧e2.clash.length=n∧(∀ (x:Int),0≤x→x < n→gi e2.opn x=if x=i then gi e.opn i + (if e.has f 2 then 0 else 1) else gi e.opn x)∧∀ (x:Int),0≤x→x < n→gb e2.clash x=if x=i then (gb e.clash i || e.has f 1) else gb e.clash x:=by
   refine ⟨_,rfl,?_⟩;unfold En.lay5f;dsimp only;have hset:∀ (v:Bool) (x:Int),0≤x→gb (e.clash.set i v) x=if x=i then v else gb e.clash x:=fun v x x0=>aV (q:=(i:Int)) h2 q0 q1 x0
   by_cases hb:e.has f 2=true
   ·rw [if_pos hb]
    refine ⟨rfl,h1,by simp [h2],fun x x0 x1=>?_,fun x x0 x1=>hset _ x x0⟩;rw [if_pos hb];split
    ·rename_i e3;subst e3;show gi e.opn _=_;omega
    ·rfl
   ·rw [if_neg hb]
    refine ⟨rfl,by show (En.inc _ _).length=n;rw [xO];exact h1,by simp [h2],fun x x0 x1=>?_,fun x x0 x1=>hset _ x x0⟩;rw [if_neg hb];show gi (En.inc e.opn i) x=_;exact tR h1 q0 q1 x0 (by omega) (by omega)
  obtain ⟨e2,he,k0,k1,k2,k3,k4⟩:=key;rw [List.foldl_cons,he];have hm:e2.marks=e.marks:=by rw [k0]
  have hh:∀ x j,e2.has x j=e.has x j:=fun x j=>cQ hm;have hi3:=k3 i q0 q1;rw [if_pos rfl] at hi3;obtain ⟨g0,g1,g2,g3,g4⟩:=qs (l:=l) (e:=e2) hi k1 k2 (by rw [hi3];split <;> omega) (by rw [hi3];split <;> omega);refine ⟨?_,g1,g2,fun x x0 x1=>?_,fun x x0 x1=>?_⟩
  ·generalize l.foldl (En.lay5f i) e2=e3 at *
   rw [g0,k0]
  ·rw [g3 x x0 x1]
   split
   ·rw [hi3,List.countP_cons]
    simp only [hh];cases e.has f 2 <;> simp <;> omega
   ·rename_i e3
    rw [k3 x x0 x1,if_neg e3]
  ·rw [g4 x x0 x1]
   split
   ·rw [k4 i q0 q1,if_pos rfl,List.any_cons]
    simp only [hh];rw [Bool.or_assoc]
   ·rename_i e3
    rw [k4 x x0 x1,if_neg e3]
theorem z9 (ht:TOk n m t) {e:En} (ho:e.opn=List.replicate n 0) (hc:e.clash=List.replicate n false):(dN (En.lay5 t) n 0 e)={ e with opn:=(dN (En.lay5 t) n 0 e).opn,clash:=(dN (En.lay5 t) n 0 e).clash }∧(dN (En.lay5 t) n 0 e).opn.length=n∧(dN (En.lay5 t) n 0 e).clash.length=n ∧
 (∀ (x:Int),0≤x→x < n→gi (dN (En.lay5 t) n 0 e).opn x=(((foT t x).countP (fun f=>!e.has f 2):Nat):Int))∧∀ (x:Int),0≤x→x < n→gb (dN (En.lay5 t) n 0 e).clash x=(foT t x).any (fun f=>e.has f 1):=by
 have:=co (f:=En.lay5 t) (fun i e2=>e2={ e with opn:=e2.opn,clash:=e2.clash }∧e2.opn.length=n∧e2.clash.length=n∧(∀ (x:Int),0≤x→x < n→gi e2.opn x=if x < i then (((foT t x).countP (fun f=>!e.has f 2):Nat):Int) else 0)∧∀ (x:Int),0≤x→x < n→gb e2.clash x=if x < i then (foT t x).any (fun f=>e.has f 1) else false) n 0 e (fun i e2 _ hi ⟨a,b,c,d,g⟩=>?_) ⟨rfl,by rw [ho];simp,by rw [hc];simp,fun x x0 x1=>by rw [if_neg (by omega),ho];exact qF,fun x x0 x1=>by rw [if_neg (by omega),hc];exact iD⟩
 ·rw [Nat.zero_add] at this
  obtain ⟨a,b,c,d,g⟩:=this;exact ⟨a,b,c,fun x x0 x1=>by rw [d x x0 x1,if_pos x1],fun x x0 x1=>by rw [g x x0 x1,if_pos x1]⟩
 ·have q0:(0:Int)≤i:=by omega
  have q1:(i:Int) < n:=by omega
  have hf:=(ht.foe q0 q1).1;have hi0:=d i q0 q1;rw [if_neg (by omega)] at hi0;have hi1:=g i q0 q1;rw [if_neg (by omega)] at hi1;have hm:e2.marks=e.marks:=by rw [a]
  have hh:∀ x j,e2.has x j=e.has x j:=fun x j=>cQ hm;obtain ⟨g0,g1,g2,g3,g4⟩:=qs (l:=ap (aH t) i) (e:=e2) (i:=i) (by omega) b c (by omega) (by omega);unfold En.lay5;generalize (ap (aH t) i).foldl (En.lay5f i) e2=e3 at *;refine ⟨by rw [g0,a],g1,g2,fun x x0 x1=>?_,fun x x0 x1=>?_⟩
  ·rw [g3 x x0 x1]
   by_cases ex:x=i
   ·subst ex
    rw [if_pos rfl,if_pos (by omega),hi0];simp only [hh];exact Int.zero_add _
   ·rw [if_neg ex,d x x0 x1]
    by_cases hx:x < i
    ·rw [if_pos hx,if_pos (by omega)]
    ·rw [if_neg hx,if_neg (by omega)]
  ·rw [g4 x x0 x1]
   by_cases ex:x=i
   ·subst ex
    rw [if_pos rfl,if_pos (by omega),hi1];simp only [hh,Bool.false_or]
   ·rw [if_neg ex,g x x0 x1]
    by_cases hx:x < i
    ·rw [if_pos hx,if_pos (by omega)]
    ·rw [if_neg hx,if_neg (by omega)]
structure L5 (n m:Nat) (t:ThV) (fact:Int→Bool) (e:En):Prop where
 ok:LOk n m e
 tm:TM n e
 h1:∀ (x:Int),0≤x→x < n→(e.has x 1=true↔fact x=true∨∃ (r:Int),(0≤r∧r < m)∧stT t r=true∧hdT t r=x∧bdT t r=[])
 h2:∀ (x:Int),0≤x→x < n→(e.has x 2=true↔fact x=false∧cN m (fun r=>stT t r&&(hdT t r == x))=0)
 h34:∀ (x j:Int),0≤x→x < n→3≤j→j≤4→e.has x j=false
 needD:∀ (r:Int),0≤r→r < m→gi e.needD r=((bdT t r).length:Nat)
 need:∀ (r:Int),0≤r→r < m→gi e.need r=((bdT t r).length:Nat)
 strict:∀ (q:Int),0≤q→q < n→gi e.strict q=if fact q=true then -1 else cN m (fun r=>stT t r&&(hdT t r == q))
 backs:∀ (q:Int),0≤q→q < n→gi e.backs q=cN m (fun r=>cZ t r&&(hdT t r == q))
 opn:∀ (q:Int),0≤q→q < n→gi e.opn q=(((foT t q).countP (fun f=>!e.has f 2):Nat):Int)
 clash:∀ (q:Int),0≤q→q < n→gb e.clash q=(foT t q).any (fun f=>e.has f 1)
 rest:e.deadD=List.replicate m false∧e.dead=List.replicate m false∧e.backed=List.replicate n false∧e.attacks=List.replicate n 0∧e.standing=List.replicate n false∧e.pairs=[]
theorem oY (ht:TOk n m t) (hfr:∀ q∈facts,0≤q∧q < n):L5 n m t (fun q=>decide (q∈facts)) (En.layE t n m facts):=by
 have hok:=rZ ht hfr;have a:=Ae (n:=n) (m:=m) (t:=t) ht;unfold En.layE at hok ⊢;generalize dN (En.lay1 t) m 0 (En.lay0 n m)=e1 at *;have ae:=a.eq;have hm1:e1.marks=List.replicate n 0:=by rw [ae];rfl
 have ht1:e1.told=[]:=by rw [ae];rfl
 obtain ⟨b1,b2,b3⟩:=tI (l:=facts) (e:=e1) hfr (TM.new hm1 ht1);generalize facts.foldl En.lay2 e1=e2 at *;obtain ⟨c1,c2,c3⟩:=Ad (t:=t) ht b1;generalize dN (En.lay3 t) m 0 e2=e3 at *;have hc3:e3.core=e1.core:=c2.trans b2;have hst:e3.strict=e1.strict:=congrArg Cr.strict hc3;obtain ⟨F,hF⟩:∃ F,F=facts.foldl En.lay2F (List.replicate n false):=⟨_,rfl⟩;obtain ⟨_,f2⟩:=qt (n:=n) (l:=facts) (L:=List.replicate n false) (by simp) hfr;rw [← hF] at f2 hok ⊢
 have hFf:∀ (x:Int),0≤x→x < n→gb F x=decide (x∈facts):=fun x x0 x1=>by
  refine Bool.eq_iff_iff.2 ?_;rw [f2 x x0 x1,decide_eq_true_iff];exact ⟨fun k=>k.elim (fun k=>by rw [iD] at k;cases k) id,.inr⟩
 obtain ⟨d1,d2,d3,d4,d5⟩:=Ac (F:=F) (e:=e3) (by rw [hst];exact a.ok.ok.strict) c1;generalize dN (En.lay4 F) n 0 e3=e4 at *;have hc4:e4.core={ e1.core with strict:=e4.strict }:=by rw [d2,hc3]
 have ho4:e4.opn=List.replicate n 0:=by
  have:=congrArg Cr.opn hc4;exact this.trans (by show e1.opn=_;rw [ae];rfl)
 have hcl4:e4.clash=List.replicate n false:=by
  have:=congrArg Cr.clash hc4;exact this.trans (by show e1.clash=_;rw [ae];rfl)
 obtain ⟨g0,g1,g2,g3,g4⟩:=z9 (t:=t) ht ho4 hcl4;generalize dN (En.lay5 t) n 0 e4=e5 at *;have hm5:e5.marks=e4.marks:=by rw [g0]
 have ht5:e5.told=e4.told:=by rw [g0]
 have hh5:∀ x j,e5.has x j=e4.has x j:=fun x j=>cQ hm5;have z:∀ x j,1≤j→j≤4→e1.has x j=false:=fun x j=>tP hm1;have y1:∀ (f:En→List Int) (g:Cr→List Int),(∀ e,g e.core=f e)→True:=fun _ _ _=>trivial;have w1:e5.needD=e1.needD:=by rw [g0];exact congrArg Cr.needD hc4
 have w2:e5.need=e1.need:=by rw [g0];exact congrArg Cr.need hc4
 have w3:e5.strict=e4.strict:=by rw [g0]
 have w4:e5.backs=e1.backs:=by rw [g0];exact congrArg Cr.backs hc4
 refine ⟨hok,d1.same hm5 ht5,fun x x0 x1=>?_,fun x x0 x1=>?_,fun x j x0 x1 j0 j1=>?_,fun r r0 r1=>by rw [w1];exact a.needD r r0 r1,fun r r0 r1=>by rw [w2];exact a.need r r0 r1,fun q q0 q1=>?_,fun q q0 q1=>by rw [w4];exact a.backs q q0 q1,fun q q0 q1=>by simp only [hh5];exact g3 q q0 q1,fun q q0 q1=>by simp only [hh5];exact g4 q q0 q1,?_⟩
 ·rw [hh5,d4 x 1 x0 x1 (by omega) (by omega),c3 x 1 x0 x1 (by omega) (by omega),b3 x 1 x0 x1 (by omega) (by omega),z x 1 (by omega) (by omega),decide_eq_true_iff]
  constructor
  ·rintro (((k | k) | k) | k)
   ·cases k
   ·exact .inl k.2
   ·exact .inr k.2
   ·omega
  ·rintro (k | k)
   ·exact .inl (.inl (.inr ⟨rfl,k⟩))
   ·exact .inl (.inr ⟨rfl,k⟩)
 ·rw [hh5,d4 x 2 x0 x1 (by omega) (by omega),c3 x 2 x0 x1 (by omega) (by omega),b3 x 2 x0 x1 (by omega) (by omega),z x 2 (by omega) (by omega),hFf x x0 x1,hst,a.strict x x0 x1]
  constructor
  ·rintro (((k | k) | k) | k)
   ·cases k
   ·omega
   ·omega
   ·exact k.2
  ·exact fun k=>.inr ⟨rfl,k⟩
 ·rw [hh5]
  refine Bool.eq_false_iff.2 fun k=>?_;rw [d4 x j x0 x1 (by omega) (by omega),c3 x j x0 x1 (by omega) (by omega),b3 x j x0 x1 (by omega) (by omega),z x j (by omega) (by omega)] at k;rcases k with ((k | k) | k) | k
  ·cases k
  ·omega
  ·omega
  ·omega
 ·rw [w3,d5 q q0 q1,hFf q q0 q1,hst,a.strict q q0 q1]
 ·have v:=hc4
  refine ⟨?_,?_,?_,?_,?_,?_⟩
  ·rw [g0];exact (congrArg Cr.deadD v).trans (by show e1.deadD=_;rw [ae];rfl)
  ·rw [g0];exact (congrArg Cr.dead v).trans (by show e1.dead=_;rw [ae];rfl)
  ·rw [g0];exact (congrArg Cr.backed v).trans (by show e1.backed=_;rw [ae];rfl)
  ·rw [g0];exact (congrArg Cr.attacks v).trans (by show e1.attacks=_;rw [ae];rfl)
  ·rw [g0];exact (congrArg Cr.standing v).trans (by show e1.standing=_;rw [ae];rfl)
  ·rw [g0];exact (congrArg Cr.pairs v).trans (by show e1.pairs=_;rw [ae];rfl)
end
end
end Go.Proofs.YtbcdgcodnkgdoaaGreat
