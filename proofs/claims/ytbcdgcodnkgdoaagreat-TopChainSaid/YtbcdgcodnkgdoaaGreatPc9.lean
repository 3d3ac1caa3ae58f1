/- Parts of the proof: The plain law of knots: each node's number is one of the knots'. · theory.Check, CheckFacts. · fast's given and Counted. · A chain of rules, as data: it may be; what follows of it. · A chain of rules: what fast tells of it, and in how many updates. · The calculus: in a statement whose order is open, an operation of a known value that stands apart may be taken first, at any time. · A runner for closed calls: a program's function at closed arguments is run by the kernel, on names in place of blocks. This text: the runner itself. · The runner for closed calls: what its names and tables say of a world. · The runner for closed calls: what its tables say of the heap, and how that is kept. · The runner for closed calls: plain operations and those that read. · The runner for closed calls: plain operations and those that read: each answers as the model. Conditions: none. -/
import Derived.Test.YtbcdgcodnkgdoaaGreatProg
import Derived.KernelRfl
import Derived.Test.YtbcdgcodnkgdoaaGreatPc8
/- The plain law of knots: each node's number is one of the knots'. Conditions: none. -/
set_option linter.unusedVariables false
set_option linter.unusedSimpArgs false
set_option maxRecDepth 10000
namespace Go.Proofs.YtbcdgcodnkgdoaaGreat
open Go Go.RowKit
theorem hdAt_set {l:List Int} {i j x:Int} (h0:0≤i) (h1:i.toNat < l.length) (hj:0≤j):hdAt (l.set i.toNat x) j=if i=j then x else hdAt l j:=by
 unfold hdAt
 by_cases h:i=j
 ·subst h
  rw [if_pos rfl,List.getElem?_set_self h1]
  rfl
 ·rw [if_neg h,List.getElem?_set_ne (by omega)]
theorem onAt_set {l:List Bool} {i j:Int} {x:Bool} (h0:0≤i) (h1:i.toNat < l.length) (hj:0≤j):onAt (l.set i.toNat x) j=if i=j then x else onAt l j:=by
 unfold onAt
 by_cases h:i=j
 ·subst h
  rw [if_pos rfl,List.getElem?_set_self h1]
  rfl
 ·rw [if_neg h,List.getElem?_set_ne (by omega)]
structure KLow (n:Nat) (c0:Int) (k:KN):Prop where
 on:∀ w:Int,0≤w→w < n→onAt k.on w=true→c0 < hdAt k.ix w
 lo:∀ w:Int,0≤w→w < n→c0 < hdAt k.ix w→c0 < hdAt k.lo w
 up:∀ w:Int,0≤w→w < n→hdAt k.ix w≠0→hdAt k.lo w≤hdAt k.ix w
 pos:∀ w:Int,0≤w→w < n→0≤hdAt k.ix w∧hdAt k.ix w≤k.ct
 ct:c0≤k.ct
theorem KLow.meet {n d:Nat} {c0:Int} {k:KN} {v:Int} (h:KLow n c0 k) (hk:KOk n d k) (v0:0≤v) (v1:v < n):KLow n c0 (k.meet v):=by
 have hc:=h.ct
 have h0:=hk.ct0
 have ex:∀ w:Int,0≤w→hdAt (k.meet v).ix w=if v=w then k.ct + 1 else hdAt k.ix w:=fun w hw=>hdAt_set v0 (by rw [hk.ix];omega) hw
 have el:∀ w:Int,0≤w→hdAt (k.meet v).lo w=if v=w then k.ct + 1 else hdAt k.lo w:=fun w hw=>hdAt_set v0 (by rw [hk.lo];omega) hw
 have eo:∀ w:Int,0≤w→onAt (k.meet v).on w=if v=w then true else onAt k.on w:=fun w hw=>onAt_set v0 (by rw [hk.on];omega) hw
 refine ⟨fun w w0 w1 hw=>?_,fun w w0 w1 hw=>?_,fun w w0 w1 hw=>?_,fun w w0 w1=>?_,by show c0≤k.ct + 1;omega⟩
 ·rw [ex w w0]
  rw [eo w w0] at hw
  split
  ·omega
  ·rename_i hn;rw [if_neg hn] at hw;exact h.on w w0 w1 hw
 ·rw [el w w0]
  rw [ex w w0] at hw
  split
  ·omega
  ·rename_i hn;rw [if_neg hn] at hw;exact h.lo w w0 w1 hw
 ·rw [el w w0,ex w w0]
  rw [ex w w0] at hw
  split
  ·omega
  ·rename_i hn;rw [if_neg hn] at hw;exact h.up w w0 w1 hw
 ·rw [ex w w0]
  have:=h.pos w w0 w1
  show 0≤_∧_≤k.ct + 1
  split <;> omega
theorem KLow.lower {n d:Nat} {c0 a:Int} {k:KN} {v:Int} (h:KLow n c0 k) (hk:KOk n d k) (v0:0≤v) (v1:v < n) (ha:c0 < a):KLow n c0 (k.lower v a):=by
 have el:∀ w:Int,0≤w→hdAt (k.lower v a).lo w=if v=w then minI (hdAt k.lo v) a else hdAt k.lo w:=fun w hw=>hdAt_set v0 (by rw [hk.lo];omega) hw
 refine ⟨h.on,fun w w0 w1 hw=>?_,fun w w0 w1 hw=>?_,h.pos,h.ct⟩
 ·rw [el w w0]
  split
  ·rename_i e
   subst e
   have:=h.lo v v0 v1 hw
   unfold minI
   split <;> omega
  ·exact h.lo w w0 w1 hw
 ·rw [el w w0]
  have:=h.up w w0 w1 hw
  show _≤hdAt k.ix w
  split
  ·rename_i e
   subst e
   unfold minI
   split <;> omega
  ·exact this
theorem KLow.pop {n d:Nat} {c0:Int} {k:KN} (h:KLow n c0 k) (hk:KOk n d k):KLow n c0 k.pop:=by
 refine ⟨fun w w0 w1 hw=>h.on w w0 w1 ?_,h.lo,h.up,h.pos,h.ct⟩
 by_cases he:k.st=[]
 ·have:k.pop.on=k.on.set 0 false∨True:=.inr trivial
  by_cases hx:w.toNat=(k.st.getLastD (-1)).toNat
  ·have e:onAt k.pop.on w=false:=by
    unfold onAt
    show (((k.on.set (k.st.getLastD (-1)).toNat false)[w.toNat]?).getD false)=false
    rw [← hx,List.getElem?_set_self (by rw [hk.on];omega)]
    rfl
   rw [e] at hw;cases hw
  ·unfold onAt at hw ⊢
   rw [show k.pop.on=k.on.set (k.st.getLastD (-1)).toNat false from rfl,List.getElem?_set_ne (fun e=>hx e.symm)] at hw
   exact hw
 ·by_cases hx:w.toNat=(k.st.getLastD (-1)).toNat
  ·have e:onAt k.pop.on w=false:=by
    unfold onAt
    show (((k.on.set (k.st.getLastD (-1)).toNat false)[w.toNat]?).getD false)=false
    rw [← hx,List.getElem?_set_self (by rw [hk.on];omega)]
    rfl
   rw [e] at hw;cases hw
  ·unfold onAt at hw ⊢
   rw [show k.pop.on=k.on.set (k.st.getLastD (-1)).toNat false from rfl,List.getElem?_set_ne (fun e=>hx e.symm)] at hw
   exact hw
theorem KLow.popGo {n d:Nat} {c0 v:Int}:∀ (f:Nat) {k:KN},KLow n c0 k→KOk n d k→KLow n c0 (popGo v f k)
 | 0,k,h,_=>h
 | f + 1,k,h,hk=>by
  unfold Go.Proofs.YtbcdgcodnkgdoaaGreat.popGo
  split
  ·exact h.pop hk
  ·exact KLow.popGo f (h.pop hk) hk.pop
theorem KLow.close {n d:Nat} {c0 v:Int} {k:KN} (h:KLow n c0 k) (hk:KOk n d k):KLow n c0 (k.close v):=by
 unfold KN.close
 split
 ·have h2:=KLow.popGo (v:=v) k.st.length h hk
  exact ⟨h2.on,h2.lo,h2.up,h2.pos,h2.ct⟩
 ·exact h
structure KKeep (n:Nat) (k k2:KN):Prop where
 ix:∀ w:Int,0≤w→w < n→hdAt k.ix w≠0→hdAt k2.ix w=hdAt k.ix w
 kn:k.kn≤k2.kn
 of:(∀ u∈k.of,0≤u∧(u < k.kn∨u=0))→∀ u∈k2.of,0≤u∧(u < k2.kn∨u=0)
theorem KKeep.refl {n:Nat} (k:KN):KKeep n k k:=⟨fun _ _ _ _=>rfl,Int.le_refl _,fun h=>h⟩
theorem KKeep.trans {n:Nat} {k k2 k3:KN} (h:KKeep n k k2) (h2:KKeep n k2 k3):KKeep n k k3:=
 ⟨fun w w0 w1 hw=>by have e:=h.ix w w0 w1 hw;rw [h2.ix w w0 w1 (by rw [e];exact hw),e],Int.le_trans h.kn h2.kn,fun ho=>h2.of (h.of ho)⟩
theorem popGo_of {v x:Int}:∀ (f:Nat) {k:KN},∀ u∈(popGo v f k).of,u∈k.of∨u=k.kn
 | 0,k,u,hu=>.inl hu
 | f + 1,k,u,hu=>by
  have hp:∀ u∈k.pop.of,u∈k.of∨u=k.kn:=fun u hu=>by
   rcases List.mem_or_eq_of_mem_set hu with h | h
   ·exact .inl h
   ·exact .inr h
  unfold popGo at hu
  split at hu
  ·exact hp u hu
  ·rcases popGo_of f (x:=x) u hu with h | h
   ·exact hp u h
   ·exact .inr h
theorem close_keep {n d:Nat} {k:KN} {v:Int} (hk:KOk n d k):KKeep n k (k.close v):=by
 have h0:=hk.kn0
 unfold KN.close
 split
 ·have e:=popGo_ix v k.st.length k
  refine ⟨fun w _ _ _=>by show hdAt (popGo v k.st.length k).ix w=_;rw [e.1],by show k.kn≤k.kn + 1;omega,fun ho u hu=>?_⟩
  rcases popGo_of (x:=0) _ u hu with h | h
  ·have:=ho u h
   exact ⟨this.1,by show u < k.kn + 1∨u=0;omega⟩
  ·subst h
   exact ⟨h0,.inl (by show k.kn < k.kn + 1;omega)⟩
 ·exact KKeep.refl k
theorem meet_keep {n d:Nat} {k:KN} {v:Int} (hk:KOk n d k) (v0:0≤v) (v1:v < n) (hz:hdAt k.ix v=0):KKeep n k (k.meet v):=
 ⟨fun w w0 w1 hw=>by rw [show hdAt (k.meet v).ix w=if v=w then k.ct + 1 else hdAt k.ix w from hdAt_set v0 (by rw [hk.ix];omega) w0,if_neg (fun e:v=w=>hw (by rw [← e];exact hz))],Int.le_refl _,fun h=>h⟩
theorem kids_low {n d z:Nat} {vis:KN→Int→KN} {v c0:Int} (v0:0≤v) (v1:v < n)
 (hv:∀ (k:KN) (w:Int),KOk n d k→KLow n c0 k→0≤w→w < n→hdAt k.ix w=0→zeros k.ix≤z→KOk n d (vis k w)∧KLater k (vis k w)∧KLow n c0 (vis k w)∧KKeep n k (vis k w)∧hdAt (vis k w).ix w=k.ct + 1):
 ∀ (l:List Int) (k:KN),(∀ w∈l,0≤w∧w < n)→KOk n d k→KLow n c0 k→zeros k.ix≤z→KOk n d (kidsGo vis v l k)∧KLow n c0 (kidsGo vis v l k)∧KKeep n k (kidsGo vis v l k)
 | [],k,_,h,hl,_=>⟨h,hl,KKeep.refl k⟩
 | w::r,k,hin,h,hl,hz=>by
  obtain ⟨w0,w1⟩:=hin w (List.mem_cons_self ..)
  have hr:∀ u∈r,0≤u∧u < (n:Int):=fun u hu=>hin u (List.mem_cons_of_mem _ hu)
  unfold kidsGo
  split
  ·rename_i h0
   obtain ⟨a1,a2,a3,a4,a5⟩:=hv k w h hl w0 w1 h0 hz
   have a6:c0 < hdAt (vis k w).lo w:=a3.lo w w0 w1 (by have:=hl.ct;omega)
   obtain ⟨b1,b2,b3⟩:=kids_low v0 v1 hv r _ hr a1.lower (a3.lower a1 v0 v1 a6) (Nat.le_trans a2.ze hz)
   exact ⟨b1,b2,a4.trans ⟨b3.ix,b3.kn,b3.of⟩⟩
  ·split
   ·rename_i ho
    obtain ⟨b1,b2,b3⟩:=kids_low v0 v1 hv r _ hr h.lower (hl.lower h v0 v1 (hl.on w w0 w1 ho)) hz
    exact ⟨b1,b2,⟨b3.ix,b3.kn,b3.of⟩⟩
   ·exact kids_low v0 v1 hv r k hr h hl hz
theorem visit_low {n:Nat} {nx:Int→List Int} {c0:Int} (hnx:∀ v:Int,0≤v→v < n→∀ w∈nx v,0≤w∧w < n):∀ (f d:Nat) (k:KN) (v:Int),KOk n d k→KLow n c0 k→0≤v→v < n→hdAt k.ix v=0→zeros k.ix≤f→
 KLow n c0 (visitD nx f k v)∧KKeep n k (visitD nx f k v)∧hdAt (visitD nx f k v).ix v=k.ct + 1∧((∀ w:Int,0≤w→w < n→onAt k.on w=false)→1≤(visitD nx f k v).kn)
 | 0,d,k,v,h,_,v0,v1,hz,hf=>by
  have:=meet_zeros h v0 v1 hz
  omega
 | f + 1,d,k,v,h,hl,v0,v1,hz,hf=>by
  have e:=meet_zeros h v0 v1 hz
  have hm:=h.meet v0 v1 hz
  have go:∀ c1,KLow n c1 k→KOk n (d + 1) (kidsGo (visitD nx f) v (nx v) (k.meet v))∧KLow n c1 (kidsGo (visitD nx f) v (nx v) (k.meet v))∧KKeep n (k.meet v) (kidsGo (visitD nx f) v (nx v) (k.meet v)):=fun c1 hc=>
   kids_low (z:=f) v0 v1 (fun k w hk hl w0 w1 h0 hz=>by
    obtain ⟨a1,a2⟩:=visit_ok hnx f (d + 1) k w hk w0 w1 h0 hz
    obtain ⟨a3,a4,a5,_⟩:=visit_low hnx f (d + 1) k w hk hl w0 w1 h0 hz
    exact ⟨a1,a2,a3,a4,a5⟩) (nx v) (k.meet v) (hnx v v0 v1) hm (hc.meet h v0 v1) (by omega)
  obtain ⟨b1,b2,b3⟩:=go c0 hl
  have hx:hdAt (k.meet v).ix v=k.ct + 1:=by rw [show hdAt (k.meet v).ix v=if v=v then k.ct + 1 else hdAt k.ix v from hdAt_set v0 (by rw [h.ix];omega) v0,if_pos rfl]
  have hx2:hdAt (kidsGo (visitD nx f) v (nx v) (k.meet v)).ix v=k.ct + 1:=by rw [b3.ix v v0 v1 (by rw [hx];have:=h.ct0;omega),hx]
  have hx3:=(close_keep (v:=v) b1).ix v v0 v1 (by rw [hx2];have:=h.ct0;omega)
  unfold visitD
  refine ⟨b2.close b1,((meet_keep h v0 v1 hz).trans b3).trans (close_keep b1),by rw [hx3,hx2],fun hoff=>?_⟩
  have hroot:KLow n k.ct k:=⟨fun w w0 w1 hw=>by rw [hoff w w0 w1] at hw;exact Bool.noConfusion hw,fun w w0 w1 hw=>by have:=(hl.pos w w0 w1).2;omega,hl.up,hl.pos,Int.le_refl _⟩
  obtain ⟨c1,c2,c3⟩:=go k.ct hroot
  have d1:=c2.lo v v0 v1 (by rw [hx2];omega)
  have d2:=c2.up v v0 v1 (by rw [hx2];have:=h.ct0;omega)
  generalize kidsGo (visitD nx f) v (nx v) (k.meet v)=k9 at *
  unfold KN.close
  rw [if_pos (by omega)]
  show 1≤k9.kn + 1
  have:=c1.kn0
  omega
theorem rep_at (n:Nat) (w:Int):hdAt (List.replicate n 0) w=0:=by
 unfold hdAt
 cases h:(List.replicate n (0:Int))[w.toNat]? with
 | none=>rfl
 | some x=>exact List.eq_of_mem_replicate (List.mem_of_getElem? h)
theorem repB_at (n:Nat) (w:Int):onAt (List.replicate n false) w=false:=by
 unfold onAt
 cases h:(List.replicate n false)[w.toNat]? with
 | none=>rfl
 | some x=>exact List.eq_of_mem_replicate (List.mem_of_getElem? h)
theorem new_low (n:Nat):KLow n 0 (KN.new n):=
 ⟨fun w _ _ hw=>by rw [show onAt (KN.new n).on w=false from repB_at n w] at hw;exact Bool.noConfusion hw,fun w _ _ hw=>by rw [show hdAt (KN.new n).ix w=0 from rep_at n w] at hw;omega,fun w _ _ hw=>absurd (rep_at n w) hw,fun w _ _=>by rw [show hdAt (KN.new n).ix w=0 from rep_at n w];exact ⟨Int.le_refl _,Int.le_refl _⟩,Int.le_refl _⟩
theorem knotGo_keep {n:Nat} {nx:Int→List Int} (hnx:∀ v:Int,0≤v→v < n→∀ w∈nx v,0≤w∧w < n):∀ (r i:Nat) (k:KN),i + r=n→KOk n 0 k→KLow n 0 k→KKeep n k (knotGo nx n r i k)∧(0 < r→hdAt k.ix i=0→(∀ w:Int,0≤w→w < n→onAt k.on w=false)→1≤(knotGo nx n r i k).kn)
 | 0,i,k,_,h,_=>⟨KKeep.refl k,fun h=>absurd h (Nat.lt_irrefl _)⟩
 | r + 1,i,k,hi,h,hl=>by
  have hk2:=knot_ok hnx h (i:=i) (by omega)
  unfold knotGo
  by_cases h0:hdAt k.ix i=0
  ·rw [if_pos h0] at hk2 ⊢
   obtain ⟨a1,a2,_,a4⟩:=visit_low hnx n 0 k i h hl (by omega) (by omega) h0 (by have:=zeros_le k.ix;have:=h.ix;omega)
   obtain ⟨b1,_⟩:=knotGo_keep hnx r (i + 1) _ (by omega) hk2 a1
   exact ⟨a2.trans b1,fun _ _ hoff=>by have:=a4 hoff;have:=b1.kn;omega⟩
  ·rw [if_neg h0] at hk2 ⊢
   obtain ⟨b1,_⟩:=knotGo_keep hnx r (i + 1) _ (by omega) hk2 hl
   exact ⟨b1,fun _ h1 _=>absurd h1 h0⟩
theorem knot_of {n:Nat} {nx:Int→List Int} (hnx:∀ v:Int,0≤v→v < n→∀ w∈nx v,0≤w∧w < n):∀ u∈(knotD nx n).of,0≤u∧u < (knotD nx n).kn:=by
 intro u hu
 obtain ⟨a,b⟩:=knotGo_keep hnx n 0 (KN.new n) (by omega) (KOk.new n) (new_low n)
 have h1:=a.of (fun u hu=>by rw [List.eq_of_mem_replicate hu];exact ⟨Int.le_refl _,.inr rfl⟩) u hu
 have hl:=(knotD_ok hnx).of
 have hn:0 < n:=by
  have:0 < (knotD nx n).of.length:=List.length_pos_of_mem hu
  omega
 have h2:1≤(knotD nx n).kn:=b hn (rep_at n _) (fun w _ _=>repB_at n w)
 have h3:u < (knotD nx n).kn∨u=0:=h1.2
 omega
end Go.Proofs.YtbcdgcodnkgdoaaGreat
namespace Go.Proofs.YtbcdgcodnkgdoaaGreat
open Go Go.RowKit
def rulesGo (n:Int):List RuleV→Int→Int
 | [],_=>-1
 | r::rs,i=>if ruleOk n r=true then rulesGo n rs (i + 1) else i
def checkD (t:ThV):Int × Int:=
 if t.1 < 0∨4096 < t.1 then (112,0)
 else if ((tFoes t).length:Int)≠t.1 then (121,0)
 else if 0≤foesD t then (121,foesD t)
 else if 4096 < ((tRules t).length:Int) then (111,0)
 else if 0≤rulesGo t.1 (tRules t) 0 then (122,rulesGo t.1 (tRules t) 0)
 else if 65536 < pairsD t then (113,0)
 else if ((tBeats t).length:Int)≠(tRules t).length then (123,0)
 else if 0≤beatsD t then (123,beatsD t)
 else if 0≤circleD t then (131,circleD t)
 else (0,0)
theorem foesGo_neg {t:ThV}:∀ {l:List (List Int)} {q:Int},0≤q→foesGo t l q < 0→∀ x∈l,∃ p,badFoe t p x=false
 | [],_,_,_,x,hx=>by cases hx
 | y::l,q,hq,h,x,hx=>by
  unfold foesGo at h
  by_cases hb:badFoe t q y=true
  ·rw [if_pos hb] at h;omega
  ·rw [if_neg hb] at h
   rcases List.mem_cons.1 hx with rfl | hx
   ·exact ⟨q,by simpa using hb⟩
   ·exact foesGo_neg (by omega) h x hx
theorem rulesGo_neg {n:Int}:∀ {l:List RuleV} {q:Int},0≤q→rulesGo n l q < 0→∀ x∈l,ruleOk n x=true
 | [],_,_,_,x,hx=>by cases hx
 | y::l,q,hq,h,x,hx=>by
  unfold rulesGo at h
  by_cases hb:ruleOk n y=true
  ·rw [if_pos hb] at h
   rcases List.mem_cons.1 hx with rfl | hx
   ·exact hb
   ·exact rulesGo_neg (by omega) h x hx
  ·rw [if_neg hb] at h;omega
theorem beatsGo_neg {t:ThV}:∀ {l:List (List Int)} {q:Int},0≤q→beatsGo t l q < 0→∀ x∈l,∃ p,badBeat t p x=false
 | [],_,_,_,x,hx=>by cases hx
 | y::l,q,hq,h,x,hx=>by
  unfold beatsGo at h
  by_cases hb:badBeat t q y=true
  ·rw [if_pos hb] at h;omega
  ·rw [if_neg hb] at h
   rcases List.mem_cons.1 hx with rfl | hx
   ·exact ⟨q,by simpa using hb⟩
   ·exact beatsGo_neg (by omega) h x hx
theorem ThOk.of {t:ThV} (h1:¬ (t.1 < 0∨4096 < t.1)) (h2:((tFoes t).length:Int)=t.1) (h3:¬ 0≤foesD t) (h4:¬ 4096 < ((tRules t).length:Int)) (h5:¬ 0≤rulesGo t.1 (tRules t) 0):ThOk t:=by
 refine ⟨h2.symm,by omega,fun l hl=>?_,by omega,rulesGo_neg (Int.le_refl _) (by omega)⟩
 obtain ⟨p,hp⟩:=foesGo_neg (t:=t) (Int.le_refl 0) (by show foesD t < 0;omega) l hl
 unfold badFoe at hp
 simp only [Bool.or_eq_false_iff,decide_eq_false_iff_not,Bool.not_eq_false'] at hp
 exact ⟨by omega,hp.1.1.2⟩
theorem beats_in {t:ThV} (hB:((tBeats t).length:Int)=(tRules t).length) (h:¬ 0≤beatsD t):∀ v:Int,0≤v→v < (tBeats t).length→∀ w∈beatAt t v,0≤w∧w < (tBeats t).length:=by
 intro v h0 h1 w hw
 have e:beatAt t v=(tBeats t)[v.toNat]'(by omega):=by unfold beatAt;rw [List.getElem?_eq_getElem (by omega)];rfl
 rw [e] at hw
 obtain ⟨p,hp⟩:=beatsGo_neg (t:=t) (Int.le_refl 0) (by show beatsD t < 0;omega) _ (List.getElem_mem (l:=tBeats t) (n:=v.toNat) (by omega))
 unfold badBeat at hp
 simp only [Bool.or_eq_false_iff,Bool.not_eq_false'] at hp
 have:=risingD_in hp.1 w hw
 omega
attribute [local irreducible] RW CW
set_option maxHeartbeats 16000000 in
theorem check_ret {t:ThV} {x:TC} {w:World} (h:ThOn (mem w (fun b=>¬ No b)) t x):
 Ret Tryz.prog 45 [.agg (x.th t).toArray] w (.tuple #[.int .i64 (checkD t).1,.int .i64 (checkD t).2]):=by
 have hle:Mem.le (mem w (fun b=>¬ No b)) (mem w (fun b=>¬ No b)):=Mem.le_refl _
 generalize hD:checkD t=D
 unfold checkD at hD
 refine Calls.enter Tryz.func45 rfl _ rfl rfl (S:=No) (H:=[]) trivial ?_
 refine CW.seqR ?_
 refine RW.box_agg (l:=x.th t) rfl rfl fun b1 _=>?_
 refine Jd ?_;refine Jd ?_;refine Jb ?_
 refine CW.seq ?_
 refine Ja ?_;refine Je ?_;refine JA ?_;refine Jk ?_;refine Jc ?_
 refine RW.splitD 12 rfl (fun h1=>?_) (fun h1=>?_)
 ·rw [if_pos (.inl h1)] at hD
  subst hD
  refine Jz ?_;refine Jz ?_;refine Jz ?_;refine Jv ?_;refine Jb ?_
  refine CW.ct rfl ?_
  refine Ja ?_;refine Jd ?_;refine Jd ?_;refine Jb ?_
  exact CW.rets (rs:=[.tmp 2,.tmp 3]) (vs:=[_,_]) rfl Tryz.results45 rfl (ResOK.tmp rfl (ResOK.tmp rfl ResOK.nil)) fun w hw=>⟨rfl,hw.kp⟩
 refine Jy ?_;refine Je ?_;refine Jy ?_;refine JA ?_;refine Jy ?_;refine Jm ?_;refine Jw ?_;refine Jb ?_
 refine CW.ite rfl (fun h2=>?_) (fun h2=>?_)
 ·rw [if_pos (.inr h2)] at hD
  subst hD
  refine Ja ?_;refine Jd ?_;refine Jd ?_;refine Jb ?_
  exact CW.rets (rs:=[.tmp 2,.tmp 3]) (vs:=[_,_]) rfl Tryz.results45 rfl (ResOK.tmp rfl (ResOK.tmp rfl ResOK.nil)) fun w hw=>⟨rfl,hw.kp⟩
 have h12:¬ (t.1 < 0∨4096 < t.1):=fun h=>h.elim h1 h2
 rw [if_neg h12] at hD
 refine CW.skip ?_
 refine PW.code ?_
 refine CW.seq ?_
 refine Ja ?_;refine Je ?_;refine JA ?_;refine Jg ?_;refine Je ?_;refine JA ?_;refine Jj ?_;refine Jb ?_
 refine CW.ite rfl (fun h3=>?_) (fun h3=>?_)
 ·rw [if_pos h3] at hD
  subst hD
  refine Ja ?_;refine Jd ?_;refine Jd ?_;refine Jb ?_
  exact CW.rets (rs:=[.tmp 2,.tmp 3]) (vs:=[_,_]) rfl Tryz.results45 rfl (ResOK.tmp rfl (ResOK.tmp rfl ResOK.nil)) fun w hw=>⟨rfl,hw.kp⟩
 rw [if_neg h3] at hD
 have h3':((tFoes t).length:Int)=t.1:=Decidable.of_not_not h3
 refine CW.skip ?_
 refine PW.code ?_
 refine CW.seq ?_
 refine Ja ?_;refine JE ?_
 refine RW.call Tryz.call73 rfl (fun w2 hw=>foes_ret (h.mono (ro_call hw)) h3'.symm) rfl ?_
 refine Jd ?_;refine Jb ?_;refine Ja ?_;refine Jc ?_;refine Jn ?_;refine Jb ?_
 refine CW.ite rfl (fun h4=>?_) (fun h4=>?_)
 ·rw [if_pos h4] at hD
  subst hD
  refine Ja ?_;refine Jc ?_;refine Jd ?_;refine Jd ?_;refine Jb ?_
  exact CW.rets (rs:=[.tmp 2,.tmp 3]) (vs:=[_,_]) rfl Tryz.results45 rfl (ResOK.tmp rfl (ResOK.tmp rfl ResOK.nil)) fun w hw=>⟨rfl,hw.kp⟩
 rw [if_neg h4] at hD
 refine CW.skip ?_
 refine PW.code ?_
 refine CW.seq ?_
 refine Ja ?_;refine Je ?_;refine JA ?_;refine Jg ?_;refine Jm ?_;refine Jb ?_
 refine CW.ite rfl (fun h5=>?_) (fun h5=>?_)
 ·rw [if_pos h5] at hD
  subst hD
  refine Ja ?_;refine Jd ?_;refine Jd ?_;refine Jb ?_
  exact CW.rets (rs:=[.tmp 2,.tmp 3]) (vs:=[_,_]) rfl Tryz.results45 rfl (ResOK.tmp rfl (ResOK.tmp rfl ResOK.nil)) fun w hw=>⟨rfl,hw.kp⟩
 rw [if_neg h5] at hD
 refine CW.skip ?_
 refine PW.code ?_
 refine CW.seq ?_
 refine Ja ?_;refine Je ?_;refine JA ?_;refine Jg ?_;refine Jc ?_;refine Jb ?_
 have hrs:=sl_small h.rules
 unfold reach at hrs
 refine CW.block ?_
 refine CW.loop (ι:={ q:Nat // q≤(tRules t).length∧rulesGo t.1 (tRules t) 0=rulesGo t.1 ((tRules t).drop q) q }) (fun q=>[(1,ptrV b1),(33,.slice x.A2 (tRules t).length x.c2),(34,.int .i64 (tRules t).length),(35,.int .i64 q.1)]) (fun _=>[blk b1 (x.th t) 25]) (fun q=>(tRules t).length - q.1) ⟨0,Nat.zero_le _,rfl⟩ ⟨rfl,rfl,rfl,rfl,trivial⟩ (fun h=>h) ?_
 intro ⟨q,hq,hS⟩
 dsimp only at hq hS ⊢
 refine Ja ?_;refine Jk ?_;refine Jb ?_
 refine CW.seq ?_
 refine CW.ite rfl (fun hlt=>?_) (fun hge=>?_)
 ·have hlt':q < (tRules t).length:=by omega
  rw [List.drop_eq_getElem_cons hlt',rulesGo] at hS
  obtain ⟨B,O,A2,c2,hA,hm,hl,_,_⟩:=rules_get h.rules (List.getElem?_eq_getElem hlt')
  generalize (tRules t)[q]=r at *
  refine CW.skip ?_
  refine PW.code ?_
  refine CW.seq ?_
  refine CW.block ?_
  refine Ja ?_;refine Jc ?_
  refine RW.indexAddrE hA rfl rfl (by omega) hlt rfl ?_
  refine RW.load_ros (cs:=ruleC r A2 c2) rfl hle (fun j v hj=>by have:=hm j v hj;simpa using this) rfl rfl (Nat.zero_lt_succ _) rfl ?_
  refine RW.alloc (c:=ruleC (0,0,[]) none 0) rfl rfl fun b6 _=>?_
  refine Jd ?_
  refine RW.store_whole [] rfl rfl (vs:=ruleC r A2 c2) rfl rfl rfl (by simp [Value.oneCell']) ?_
  refine Jb ?_;refine Ja ?_;refine JF ?_;refine JE ?_
  refine RW.call Tryz.call74 rfl (fun w2 hw=>rule_ret (hl.mono (ro_call hw))) rfl ?_
  refine Js ?_;refine Jb ?_
  cases h6:ruleOk t.1 r with
  | false=>
   rw [h6,if_neg (by decide)] at hS
   rw [hS,if_pos (by omega)] at hD
   subst hD
   refine CW.ct rfl ?_
   refine Ja ?_;refine Jc ?_;refine Jd ?_;refine Jd ?_;refine Jb ?_
   exact CW.rets (rs:=[.tmp 2,.tmp 3]) (vs:=[_,_]) rfl Tryz.results45 rfl (ResOK.tmp rfl (ResOK.tmp rfl ResOK.nil)) fun w hw=>⟨rfl,hw.kp⟩
  | true=>
  rw [h6,if_pos rfl] at hS
  refine CW.cf rfl ?_
  refine CW.skip ?_
  refine PW.code ?_
  refine CW.region ?_
  refine RW.add rfl rfl (w64 (by omega) (by omega)) rfl ?_
  refine Jc ?_
  refine RW.nil ?_
  exact PW.againT ⟨q + 1,hlt',hS⟩ [1] ⟨rfl,rfl,rfl,rfl,trivial⟩ rfl (by show (tRules t).length - (q + 1) < (tRules t).length - q;omega)
 have hge':(tRules t).length≤q:=by omega
 rw [List.drop_eq_nil_of_le hge',rulesGo] at hS
 have h6:¬ 0≤rulesGo t.1 (tRules t) 0:=by omega
 rw [if_neg h6] at hD
 have hok:=ThOk.of h12 h3' h4 h5 h6
 refine CW.exit rfl ?_
 refine PW.code ?_
 refine CW.seq ?_
 refine Ja ?_;refine JE ?_
 refine RW.call Tryz.call75 rfl (fun w2 hw=>pairs_ret (h.mono (ro_call hw)) hok) rfl ?_
 refine Jm ?_;refine Jb ?_
 refine CW.ite rfl (fun h7=>?_) (fun h7=>?_)
 ·rw [if_pos h7] at hD
  subst hD
  refine Ja ?_;refine Jd ?_;refine Jd ?_;refine Jb ?_
  exact CW.rets (rs:=[.tmp 2,.tmp 3]) (vs:=[_,_]) rfl Tryz.results45 rfl (ResOK.tmp rfl (ResOK.tmp rfl ResOK.nil)) fun w hw=>⟨rfl,hw.kp⟩
 rw [if_neg h7] at hD
 refine CW.skip ?_
 refine PW.code ?_
 refine CW.seq ?_
 refine Ja ?_;refine Je ?_;refine JA ?_;refine Jg ?_;refine Je ?_;refine JA ?_;refine Jg ?_;refine Jj ?_;refine Jb ?_
 refine CW.ite rfl (fun h8=>?_) (fun h8=>?_)
 ·rw [if_pos h8] at hD
  subst hD
  refine Ja ?_;refine Jd ?_;refine Jd ?_;refine Jb ?_
  exact CW.rets (rs:=[.tmp 2,.tmp 3]) (vs:=[_,_]) rfl Tryz.results45 rfl (ResOK.tmp rfl (ResOK.tmp rfl ResOK.nil)) fun w hw=>⟨rfl,hw.kp⟩
 rw [if_neg h8] at hD
 refine CW.skip ?_
 refine PW.code ?_
 refine CW.seq ?_
 refine Ja ?_;refine JE ?_
 have h8':((tBeats t).length:Int)=(tRules t).length:=Decidable.of_not_not h8
 refine RW.call Tryz.call76 rfl (fun w2 hw=>beats_ret (h.mono (ro_call hw)) hok (by omega)) rfl ?_
 refine Jd ?_;refine Jb ?_;refine Ja ?_;refine Jc ?_;refine Jn ?_;refine Jb ?_
 refine CW.ite rfl (fun h9=>?_) (fun h9=>?_)
 ·rw [if_pos h9] at hD
  subst hD
  refine Ja ?_;refine Jc ?_;refine Jd ?_;refine Jd ?_;refine Jb ?_
  exact CW.rets (rs:=[.tmp 2,.tmp 3]) (vs:=[_,_]) rfl Tryz.results45 rfl (ResOK.tmp rfl (ResOK.tmp rfl ResOK.nil)) fun w hw=>⟨rfl,hw.kp⟩
 rw [if_neg h9] at hD
 refine CW.skip ?_
 refine PW.code ?_
 refine CW.seq ?_
 refine Ja ?_;refine JE ?_
 have hin:=beats_in h8' h9
 refine RW.call Tryz.call77 rfl (fun w2 hw=>circle_ret (h.mono (ro_call hw)) (by omega) (by omega) hin (knot_of hin)) rfl ?_
 refine Jd ?_;refine Jb ?_;refine Ja ?_;refine Jc ?_;refine Jn ?_;refine Jb ?_
 refine CW.ite rfl (fun h10=>?_) (fun h10=>?_)
 ·rw [if_pos h10] at hD
  subst hD
  refine Ja ?_;refine Jc ?_;refine Jd ?_;refine Jd ?_;refine Jb ?_
  exact CW.rets (rs:=[.tmp 2,.tmp 3]) (vs:=[_,_]) rfl Tryz.results45 rfl (ResOK.tmp rfl (ResOK.tmp rfl ResOK.nil)) fun w hw=>⟨rfl,hw.kp⟩
 rw [if_neg h10] at hD
 subst hD
 refine JM ?_;refine Ja ?_;refine Jd ?_;refine Jd ?_;refine Jb ?_
 exact CW.rets (rs:=[.tmp 2,.tmp 3]) (vs:=[_,_]) rfl Tryz.results45 rfl (ResOK.tmp rfl (ResOK.tmp rfl ResOK.nil)) fun w hw=>⟨rfl,hw.kp⟩
theorem checkFacts_ret {t:ThV} {x:TC} {A:Option Addr} {c:Nat} {l:List Int} {w:World} (h:Rd kInts (mem w (fun b=>¬ No b)) [.slice A l.length c] l):Ret Tryz.prog 46 [.agg (x.th t).toArray,.slice A l.length c] w (.int .i64 (if risingD l t.1=true then 0 else 181)):=by
 refine Calls.enter Tryz.func46 rfl _ rfl rfl (S:=No) (H:=[]) trivial ?_
 refine CW.seqR ?_
 refine RW.box_agg (l:=x.th t) rfl rfl fun b2 _=>?_
 refine Jd ?_;refine Jb ?_
 refine CW.seq ?_
 refine Ja ?_;refine Jc ?_;refine Je ?_;refine JA ?_
 refine RW.call Tryz.call78 rfl (fun w2 hw=>rising_ret (h.mono (ro_call hw))) rfl ?_
 cases h1:risingD l t.1 with
 | false=>
  refine Js ?_;refine Jb ?_
  refine CW.ct rfl ?_
  refine Ja ?_;refine Jd ?_;refine Jb ?_
  exact CW.ret1 rfl Tryz.results46 rfl rfl fun w hw=>⟨rfl,hw.kp⟩
 | true=>
  refine Js ?_;refine Jb ?_
  refine CW.cf rfl ?_
  refine JM ?_;refine Ja ?_;refine Jd ?_;refine Jb ?_
  exact CW.ret1 rfl Tryz.results46 rfl rfl fun w hw=>⟨rfl,hw.kp⟩
end Go.Proofs.YtbcdgcodnkgdoaaGreat
namespace Go.Proofs.YtbcdgcodnkgdoaaGreat
open Go Go.RowKit
def givenD (t:ThV) (facts:List Int):Int:=if (checkD t).1≠0 then (checkD t).1 else if risingD facts t.1=true then 0 else 181
attribute [local irreducible] RW CW
theorem given_ret {t:ThV} {x:TC} {A:Option Addr} {c:Nat} {facts:List Int} {w:World} (h:ThOn (mem w (fun b=>¬ No b)) t x) (hL:Rd kLists (mem w (fun b=>¬ No b)) [.slice A 1 c] [facts]):
 Ret Tryz.prog 24 [.agg (x.th t).toArray,.slice A 1 c] w (.int .i64 (givenD t facts)):=by
 have hle:Mem.le (mem w (fun b=>¬ No b)) (mem w (fun b=>¬ No b)):=Mem.le_refl _
 obtain ⟨B,O,A2,c2,hA,hm,hl⟩:=lists_get hL (i:=0) rfl
 refine Calls.enter Tryz.func24 rfl _ rfl rfl (S:=No) (H:=[]) trivial ?_
 refine CW.seqR ?_
 refine RW.box_agg (l:=x.th t) rfl rfl fun b2 _=>?_
 refine Jd ?_;refine Jb ?_
 refine CW.seq ?_
 refine Ja ?_;refine JE ?_
 refine RW.call Tryz.call45 rfl (fun w2 hw=>check_ret (h.mono (ro_call hw))) rfl ?_
 refine Jc ?_;refine Jt ?_;refine Jt ?_;refine Jd ?_;refine Jd ?_;refine Jb ?_;refine Ja ?_;refine Jc ?_;refine Jj ?_;refine Jb ?_
 refine CW.ite rfl (fun h1=>?_) (fun h1=>?_)
 ·have hg:givenD t facts=(checkD t).1:=by unfold givenD;rw [if_pos h1]
  rw [hg]
  refine Ja ?_;refine Jc ?_;refine Jd ?_;refine Jb ?_
  exact CW.ret1 rfl Tryz.results24 rfl rfl fun w hw=>⟨rfl,hw.kp⟩
 have hg:givenD t facts=(if risingD facts t.1=true then 0 else 181):=by unfold givenD;rw [if_neg h1]
 rw [hg]
 refine JM ?_
 refine CW.seq ?_
 refine Ja ?_;refine Jc ?_;refine Jg ?_;refine Jc ?_;refine Jb ?_
 refine CW.block ?_
 refine CW.loop (ι:={ i:Nat // i≤1∧(i=1→risingD facts t.1=true) }) (fun i=>[(2,ptrV b2),(18,.slice A 1 c),(19,.int .i64 1),(20,.int .i64 i.1)]) (fun i=>[blk b2 (x.th t) 25]) (fun i=>1 - i.1) ⟨0,by omega,fun h=>by omega⟩ ⟨rfl,rfl,rfl,rfl,trivial⟩ (fun h=>h) ?_
 intro ⟨i,hi,hr⟩
 dsimp only at hi hr ⊢
 refine Ja ?_;refine Jk ?_;refine Jb ?_
 refine CW.seq ?_
 refine CW.ite rfl (fun hlt=>?_) (fun hge=>?_)
 rotate_left
 ·refine CW.exit rfl ?_
  refine PW.code ?_
  rw [if_pos (hr (by omega))]
  refine Ja ?_;refine Jd ?_;refine Jb ?_
  exact CW.ret1 rfl Tryz.results24 rfl rfl fun w hw=>⟨rfl,hw.kp⟩
 obtain rfl:i=0:=by omega
 refine JM ?_
 refine CW.cut (ι:={ _u:Unit // risingD facts t.1=true }) (fun _=>[(2,ptrV b2),(18,.slice A 1 c),(19,.int .i64 1),(20,.int .i64 0)]) (fun _=>[blk b2 (x.th t) 25]) ?_ (fun ⟨_,hr2⟩=>?_)
 ·refine CW.block ?_
  refine Ja ?_
  refine RW.indexAddrE hA rfl rfl (by omega) (by omega) rfl ?_
  refine RW.load_ro rfl hle (ints_at hm) rfl rfl ?_
  refine Jd ?_;refine Jb ?_;refine Ja ?_;refine JE ?_;refine Jc ?_
  refine RW.call Tryz.call46 rfl (fun w2 hw=>checkFacts_ret (hl.mono (ro_call hw))) rfl ?_
  cases h2:risingD facts t.1 with
  | false=>
   refine Jd ?_;refine Jb ?_;refine Ja ?_;refine Jc ?_;refine Jj ?_;refine Jb ?_
   refine CW.ct rfl ?_
   refine Ja ?_;refine Jc ?_;refine Jd ?_;refine Jb ?_
   exact CW.ret1 rfl Tryz.results24 rfl rfl fun w hw=>⟨rfl,hw.kp⟩
  | true=>
   refine Jd ?_;refine Jb ?_;refine Ja ?_;refine Jc ?_;refine Jj ?_;refine Jb ?_
   refine CW.cf rfl ?_
   refine CW.skip ?_
   exact PW.meet ⟨(),rfl⟩ ⟨rfl,rfl,rfl,rfl,trivial⟩ (fun h=>h)
 refine CW.region ?_
 refine RW.add rfl rfl (w64 (by omega) (by omega)) rfl ?_
 refine Jc ?_
 refine RW.nil ?_
 exact PW.again ⟨1,by omega,fun _=>hr2⟩ ⟨rfl,rfl,rfl,rfl,trivial⟩ (fun h=>h) (by show 1 - 1 < 1 - 0;omega)
section
variable {n m:Nat} {t:ThV} {x:TC} {fA:Option Addr} {fc:Nat} {facts:List Int}
structure CQ where
 b:Nat
set_option maxHeartbeats 8000000 in
theorem counted_ok (ht:TOk n m t) (hfr:∀ q∈facts,0≤q∧q < n) (hl:HLook t n m facts) (hg:givenD t facts=0) (w:World) (hT:ThOn (mem w (fun b=>¬ No b)) t x) (hF:Rd kInts (mem w (fun b=>¬ No b)) [.slice fA facts.length fc] facts):
 RetC Tryz.prog 13 [.agg (x.th t).toArray,.slice fA facts.length fc] w No (fun b:Nat=>.tuple #[slV b n,.agg #[.int .i64 (En.runD t n m facts).qd,.int .i64 (En.runD t n m facts).up],.int .i64 0])
  (fun b=>[ownHP 45 1 (slV b n) ((En.runD t n m facts).marks.map markE)]):=by
 refine Calls.enter Tryz.func13 rfl _ rfl rfl (S:=No) (H:=[]) trivial ?_
 refine CW.seqR ?_
 refine RW.box_agg (l:=x.th t) rfl rfl fun b2 _=>?_
 refine Jd ?_
 refine RW.alloc (c:=[.int .i64 0,.int .i64 0]) rfl rfl fun b5 _=>?_
 refine Jd ?_;refine Jb ?_
 refine CW.seq ?_
 refine Ja ?_;refine JF ?_;refine Jc ?_
 refine RW.buildSlice (e:=26) (c:=[.slice fA facts.length fc]) rfl (fun w=>by kernel_rfl) rfl fun b11 _=>?_
 refine RW.call Tryz.call24 rfl (fun w2 hw=>given_ret (hT.mono (ro_call hw)) (rdOne (fun j v hj=>blk_mem (fun h=>h) (St.blk (pre:=[]) hw) j v hj) (hF.mono (ro_call hw)) rfl)) rfl ?_
 rw [hg]
 refine Jd ?_;refine Jb ?_;refine Ja ?_;refine Jc ?_;refine Jj ?_;refine Jb ?_
 refine CW.ite rfl (fun h=>absurd rfl h) (fun _=>?_)
 refine CW.skip ?_
 refine PW.code ?_
 refine Ja ?_;refine JG ?_;refine Jc ?_
 refine RW.callN Tryz.call25 rfl (fun w hw=>run_ret ht hfr hl w (hT.mono (ro_call hw)) (hF.mono (ro_call hw))) rfl fun ⟨be,a,ib,ob,bb,pA,pc,sv⟩=>?_
 dsimp only
 refine Jd ?_;refine Jb ?_
 generalize (zL t x (En.layS t n m facts).inn (En.layS t n m facts).of (En.layS t n m facts).beats (En.layD t n m facts).told.length ib ob bb n m pA pc (En.layD t n m facts).pairs.length)=z
 refine CW.sep (enH be a z n m sv (En.runD t n m facts)++[blk b5 [.int .i64 0,.int .i64 0] 41,blk b2 (x.th t) 25]) (fun w A h=>Sep.take [0,1,2,3,4,5,6,7,8,9,10,11,12,13,14,16,17] h) ?_
 refine CW.keep [(8,ptrV be),(5,ptrV b5)] ⟨rfl,rfl,trivial⟩ ?_
 refine CW.seqL 4 (by kernel_rfl) rfl rfl rfl rfl rfl (by kernel_rfl) (by kernel_rfl) (by kernel_rfl) rfl ?_
 refine WA.anyV (by kernel_rfl) ?_
 refine AW.val rfl (fun _ _=>by refine Jc ?_;exact RW.done rfl) ?_;refine AW.val rfl (fun _ _=>by refine Jf ?_;exact RW.done rfl) ?_;refine AW.val rfl (fun _ _=>by refine Je ?_;exact RW.done rfl) ?_;refine AW.val rfl (fun _ _=>by refine EL.hdr rfl rfl rfl rfl ?_;exact RW.done rfl) ?_;refine AW.val rfl (fun _ _=>by refine Jc ?_;exact RW.done rfl) ?_;refine AW.val rfl (fun _ _=>by refine Jf ?_;exact RW.done rfl) ?_;refine AW.val rfl (fun _ _=>by refine Je ?_;exact RW.done rfl) ?_
 (apply AW.val rfl;· intro Gx X;(first | refine RW.yes rfl ?_ | skip);refine RW.load_part2 [] rfl rfl rfl rfl ?_;exact RW.done rfl)
 refine AW.val rfl (fun _ _=>by refine Jd ?_;exact RW.done rfl) ?_
 refine AW.stop (by kernel_rfl) (by kernel_rfl) fun bq=>?_
 refine RW.store_whole [_,_,_,_,_,_,_,_,_,_,_,_,_,_,_] (vs:=[.int .i64 (En.runD t n m facts).qd,.int .i64 (En.runD t n m facts).up]) rfl rfl rfl rfl rfl (by simp [Value.oneCell']) ?_
 refine Jd ?_;refine Jb ?_
 exact CW.rets (rs:=[.tmp 4,.cell 5 41,.tmp 6]) (vs:=[slV a.m n,.agg #[.int .i64 (En.runD t n m facts).qd,.int .i64 (En.runD t n m facts).up],.int .i64 0]) rfl Tryz.results13 rfl (.tmp rfl (.cell [_,_,_,_,_,_,_,_,_,_,_,_,_,_,_] rfl rfl rfl (.tmp rfl .nil))) fun w hw=>⟨a.m,rfl,St.take [1] hw⟩
end
end Go.Proofs.YtbcdgcodnkgdoaaGreat
namespace Go.Proofs.YtbcdgcodnkgdoaaGreat
open Go Go.RowKit
abbrev chR (n:Nat) (k:Int):List RuleV:=(List.range n).map (fun (i:Nat)=>(k,(i:Int) + 1,[(i:Int)]))
abbrev chT (n:Nat) (k:Int):ThV:=((n:Int) + 1,List.replicate (n + 1) [],chR n k,List.replicate n [])
section
variable {n:Nat} {k q r:Int}
theorem ch_rule (r0:0≤r) (r1:r < n):ruleAt (chT n k) r=(k,r + 1,[r]):=by
 unfold ruleAt
 show ((chR n k)[r.toNat]?).getD _=_
 rw [List.getElem?_map,List.getElem?_range (by omega)]
 show (k,((r.toNat:Nat):Int) + 1,[((r.toNat:Nat):Int)])=_
 rw [show ((r.toNat:Nat):Int)=r by omega]
theorem ch_foe:foT (chT n k) q=[]:=row_rep
theorem ch_beat:btT (chT n k) q=[]:=row_rep
theorem ch_th (hn:n≤4095):THk (n + 1) n (chT n k):=by
 refine ⟨⟨by show (n:Int) + 1=((n + 1:Nat):Int);omega,List.length_replicate,by show (chR n k).length=n;rw [List.length_map,List.length_range],List.length_replicate,by omega,fun l hl=>?_,fun x hx=>?_,fun l hl=>?_⟩,fun r r0 r1=>?_,fun q _ _=>?_,fun q _ _ f hf=>?_,fun r _ _=>?_,fun r _ _ x hx=>?_⟩
 ·rw [List.eq_of_mem_replicate hl]
  exact ⟨Nat.zero_le _,fun f hf=>by cases hf⟩
 ·obtain ⟨i,hi,rfl⟩:=List.mem_map.1 hx
  have:=List.mem_range.1 hi
  refine ⟨⟨by show (0:Int)≤(i:Int) + 1;omega,by show (i:Int) + 1 < ((n + 1:Nat):Int);omega⟩,by show 1≤16;omega,fun b hb=>?_⟩
  obtain rfl:=List.mem_singleton.1 hb
  omega
 ·rw [List.eq_of_mem_replicate hl]
  exact ⟨Nat.zero_le _,fun f hf=>by cases hf⟩
 ·show (ruleAt (chT n k) r).2.2.Nodup
  rw [ch_rule r0 r1];simp
 ·rw [ch_foe];exact List.nodup_nil
 ·rw [ch_foe] at hf;cases hf
 ·rw [ch_beat];exact List.nodup_nil
 ·rw [ch_beat] at hx;cases hx
/-! ### it passes the checks -/
theorem foesGo_none {t:ThV}:∀ {l:List (List Int)} {q:Int},(∀ x∈l,∀ q,badFoe t q x=false)→foesGo t l q=-1
 | [],_,_=>rfl
 | x::l,q,h=>by
  unfold foesGo
  rw [h x (List.mem_cons_self ..) q]
  exact foesGo_none (fun y hy=>h y (List.mem_cons_of_mem _ hy))
theorem beatsGo_none {t:ThV}:∀ {l:List (List Int)} {q:Int},(∀ x∈l,∀ q,badBeat t q x=false)→beatsGo t l q=-1
 | [],_,_=>rfl
 | x::l,q,h=>by
  unfold beatsGo
  rw [h x (List.mem_cons_self ..) q]
  exact beatsGo_none (fun y hy=>h y (List.mem_cons_of_mem _ hy))
theorem rulesGo_none {N:Int}:∀ {l:List RuleV} {q:Int},(∀ x∈l,ruleOk N x=true)→rulesGo N l q=-1
 | [],_,_=>rfl
 | x::l,q,h=>by
  unfold rulesGo
  rw [if_pos (h x (List.mem_cons_self ..))]
  exact rulesGo_none (fun y hy=>h y (List.mem_cons_of_mem _ hy))
theorem pairsGo_none {hd:List Int}:∀ {l:List (List Int)} {q n:Int},(∀ x∈l,x=[])→pairsGo hd l q n=n
 | [],_,_,_=>rfl
 | x::l,q,n,h=>by
  unfold pairsGo
  rw [h x (List.mem_cons_self ..),pairsIn]
  exact pairsGo_none (fun y hy=>h y (List.mem_cons_of_mem _ hy))
theorem idxGo_none {p:Int→Bool}:∀ {l:List Int} {i:Int},(∀ x∈l,p x=false)→idxGo p l i=-1
 | [],_,_=>rfl
 | x::l,i,h=>by
  unfold idxGo
  rw [h x (List.mem_cons_self ..)]
  exact idxGo_none (fun y hy=>h y (List.mem_cons_of_mem _ hy))
theorem sizesGo_at {w:Int}:∀ {l L:List Int},(∀ x∈l,0≤x∧x < L.length)→0≤w→w < L.length→hdAt (sizesGo l L) w=hdAt L w + ((l.count w:Nat):Int)
 | [],L,_,_,_=>by simp [sizesGo]
 | x::l,L,h,w0,w1=>by
  obtain ⟨x0,x1⟩:=h x (List.mem_cons_self ..)
  have hl:(incAt L x).length=L.length:=by unfold incAt;rw [List.length_set]
  unfold sizesGo
  rw [sizesGo_at (l:=l) (L:=incAt L x) (fun y hy=>by rw [hl];exact h y (List.mem_cons_of_mem _ hy)) w0 (by rw [hl];exact w1)]
  have e:hdAt (incAt L x) w=if x=w then hdAt L x + 1 else hdAt L w:=hdAt_set x0 (by omega) w0
  rw [e,List.count_cons]
  by_cases hx:x=w
  ·subst hx;rw [if_pos rfl];simp;omega
  ·rw [if_neg hx];simp [hx]
structure KZ (n i:Nat) (k:KN):Prop where
 ok:KOk n 0 k
 st:k.st=[]
 kn:k.kn=i
 ix:∀ (j:Int),(i:Int)≤j→j < n→hdAt k.ix j=0
 of:∀ (j:Int),0≤j→j < n→hdAt k.of j=if j < i then j else 0
theorem kz_step {nx:Int→List Int} {i f:Nat} {k:KN} (hnx:∀ v:Int,0≤v→v < n→nx v=[]) (hi:i < n) (h:KZ n i k):KZ n (i + 1) (if hdAt k.ix i=0 then visitD nx (f + 1) k i else k):=by
 have i0:(0:Int)≤i:=by omega
 have i1:(i:Int) < n:=by omega
 have hz:=h.ix i (Int.le_refl _) i1
 have hok:=h.ok.meet i0 i1 hz
 have e1:hdAt (k.meet i).ix i=k.ct + 1:=by rw [show hdAt (k.meet i).ix i=if (i:Int)=i then k.ct + 1 else hdAt k.ix i from hdAt_set i0 (by rw [h.ok.ix];omega) i0,if_pos rfl]
 have e2:hdAt (k.meet i).lo i=k.ct + 1:=by rw [show hdAt (k.meet i).lo i=if (i:Int)=i then k.ct + 1 else hdAt k.lo i from hdAt_set i0 (by rw [h.ok.lo];omega) i0,if_pos rfl]
 have est:(k.meet i).st=[(i:Int)]:=by show k.st++[(i:Int)]=_;rw [h.st];rfl
 have ev:visitD nx (f + 1) k i={ (k.meet i).pop with kn:=k.kn + 1 }:=by
  unfold visitD
  rw [hnx i i0 i1]
  show (k.meet i).close i=_
  unfold KN.close
  rw [if_pos (by rw [e1,e2]),est]
  show ({ (if (k.meet i).st.getLastD (-1)=(i:Int) then (k.meet i).pop else popGo (i:Int) 0 (k.meet i).pop) with kn:=k.kn + 1 }:KN)=_
  rw [show (k.meet i).st.getLastD (-1)=(i:Int) by rw [est];rfl,if_pos rfl]
 have hok2:KOk n 0 (visitD nx (f + 1) k i):=by
  have:=KOk.close (v:=(i:Int)) hok
  have e3:(k.meet i).close i=visitD nx (f + 1) k i:=by
   unfold visitD
   rw [hnx i i0 i1];rfl
  rw [← e3];exact this
 rw [if_pos hz]
 refine ⟨hok2,?_,?_,fun j j0 j1=>?_,fun j j0 j1=>?_⟩
 ·rw [ev]
  show (k.meet i).st.dropLast=[]
  rw [est];rfl
 ·rw [ev]
  show k.kn + 1=_
  rw [h.kn];omega
 ·rw [ev]
  show hdAt (k.meet i).ix j=0
  rw [show hdAt (k.meet i).ix j=if (i:Int)=j then k.ct + 1 else hdAt k.ix j from hdAt_set i0 (by rw [h.ok.ix];omega) (by omega),if_neg (by omega)]
  exact h.ix j (by omega) j1
 ·rw [ev]
  show hdAt ((k.meet i).of.set ((k.meet i).st.getLastD (-1)).toNat (k.meet i).kn) j=_
  rw [est]
  show hdAt (k.of.set (i:Int).toNat k.kn) j=_
  rw [hdAt_set i0 (by rw [h.ok.of];omega) j0,h.kn,h.of j j0 j1]
  by_cases e:(i:Int)=j
  ·rw [if_pos e,if_pos (by omega)];omega
  ·rw [if_neg e]
   by_cases e4:j < i
   ·rw [if_pos e4,if_pos (by omega)]
   ·rw [if_neg e4,if_neg (by omega)]
theorem kz_go {nx:Int→List Int} {f:Nat} (hnx:∀ v:Int,0≤v→v < n→nx v=[]):∀ (r i:Nat) (k:KN),i + r=n→KZ n i k→KZ n n (knotGo nx (f + 1) r i k)
 | 0,i,k,hi,h=>by
  obtain rfl:i=n:=by omega
  exact h
 | r + 1,i,k,hi,h=>by
  unfold knotGo
  exact kz_go hnx r (i + 1) _ (by omega) (kz_step hnx (by omega) h)
theorem kz_all {nx:Int→List Int} (hnx:∀ v:Int,0≤v→v < n→nx v=[]):KZ n n (knotD nx n):=by
 have h0:KZ n 0 (KN.new n):=⟨KOk.new n,rfl,rfl,fun j _ _=>rep_at n j,fun j _ _=>by rw [show hdAt (KN.new n).of j=0 from rep_at n j,if_neg (by omega)]⟩
 unfold knotD
 cases n with
 | zero=>exact h0
 | succ n=>exact kz_go hnx (n + 1) 0 _ (by omega) h0
theorem circle_none {t:ThV} (h:∀ v:Int,0≤v→v < (tBeats t).length→beatAt t v=[]):circleD t=-1:=by
 have hz:=kz_all h
 unfold circleD idxF
 generalize (tBeats t).length=N at *
 generalize knotD (beatAt t) N=kn at *
 have hof:kn.of=(List.range N).map (fun (j:Nat)=>(j:Int)):=by
  apply List.ext_getElem?
  intro j
  by_cases hj:j < N
  ·have:=hz.of j (by omega) (by omega)
   unfold hdAt at this
   rw [if_pos (by omega),show ((j:Int)).toNat=j by omega] at this
   rw [List.getElem?_map,List.getElem?_range hj,List.getElem?_eq_getElem (by rw [hz.ok.of];exact hj)]
   rw [List.getElem?_eq_getElem (by rw [hz.ok.of];exact hj)] at this
   exact congrArg some this
  ·rw [List.getElem?_eq_none (by rw [hz.ok.of];omega),List.getElem?_eq_none (by simp;omega)]
 refine idxGo_none fun x hx=>?_
 have hx2:=hx
 rw [hof] at hx2
 obtain ⟨j,hj,rfl⟩:=List.mem_map.1 hx2
 have hjN:=List.mem_range.1 hj
 have hkn:kn.kn.toNat=N:=by rw [hz.kn];omega
 unfold sizesD
 rw [hkn]
 rw [sizesGo_at (by
  intro y hy
  rw [hof] at hy
  obtain ⟨j2,hj2,rfl⟩:=List.mem_map.1 hy
  have:=List.mem_range.1 hj2
  rw [List.length_replicate];omega) (by omega) (by rw [List.length_replicate];omega),rep_at]
 have hnd:kn.of.Nodup:=by
  rw [hof]
  exact List.Pairwise.map _ (fun a b hab=>by omega) List.nodup_range
 have:=List.nodup_iff_count.1 hnd (j:Int)
 refine decide_eq_false ?_
 omega
theorem ch_check (hn:n≤4095) (k1:1≤k) (k3:k≤3):checkD (chT n k)=(0,0):=by
 unfold checkD
 have hf:foesD (chT n k)=-1:=foesGo_none fun x hx q=>by
  rw [List.eq_of_mem_replicate hx]
  rfl
 have hr:rulesGo (chT n k).1 (tRules (chT n k)) 0=-1:=rulesGo_none fun x hx=>by
  obtain ⟨i,hi,rfl⟩:=List.mem_map.1 hx
  have:=List.mem_range.1 hi
  unfold ruleOk risingD risingGo risingGo
  simp
  omega
 have hp:pairsD (chT n k)=0:=pairsGo_none fun x hx=>List.eq_of_mem_replicate hx
 have hb:beatsD (chT n k)=-1:=beatsGo_none fun x hx q=>by
  rw [List.eq_of_mem_replicate hx]
  rfl
 have hc:circleD (chT n k)=-1:=circle_none fun v _ _=>row_rep
 rw [hf,hr,hp,hb,hc]
 rw [if_neg (by show ¬ ((n:Int) + 1 < 0∨4096 < (n:Int) + 1);omega),if_neg (by show ¬ (((List.replicate (n + 1) ([]:List Int)).length:Int)≠(n:Int) + 1);rw [List.length_replicate];omega),if_neg (by omega),if_neg (by show ¬ (4096 < ((chR n k).length:Int));rw [List.length_map,List.length_range];omega),if_neg (by omega),if_neg (by omega),if_neg (by show ¬ (((List.replicate n ([]:List Int)).length:Int)≠(chR n k).length);rw [List.length_replicate,List.length_map,List.length_range];omega),if_neg (by omega),if_neg (by omega)]
theorem ch_given (hn:n≤4095) (k1:1≤k) (k3:k≤3) {facts:List Int} (hf:facts=[]∨facts=[0]):givenD (chT n k) facts=0:=by
 unfold givenD
 rw [ch_check hn k1 k3,if_neg (by decide)]
 have:risingD facts (chT n k).1=true:=by
  rcases hf with rfl | rfl
  ·rfl
  ·unfold risingD risingGo risingGo
   have:(0:Int) < (n:Int) + 1:=by omega
   simp [this]
 rw [if_pos this]
end
end Go.Proofs.YtbcdgcodnkgdoaaGreat
namespace Go.Proofs.YtbcdgcodnkgdoaaGreat
open Go Go.RowKit
def chW (k:Int) (fact:Bool) (q:Int):Int:=if fact=true then (if q=0∨k=1 then 5 else 6) else 10
abbrev chF (fact:Bool):List Int:=if fact=true then [0] else []
section
variable {n:Nat} {k q j r:Int} {fact:Bool}
theorem ch_hd (r0:0≤r) (r1:r < n):hdT (chT n k) r=r + 1:=by unfold hdT;rw [ch_rule r0 r1]
theorem ch_bd (r0:0≤r) (r1:r < n):bdT (chT n k) r=[r]:=by unfold bdT;rw [ch_rule r0 r1]
theorem ch_st (r0:0≤r) (r1:r < n):stT (chT n k) r=(k == 1):=by unfold stT;rw [ch_rule r0 r1]
theorem ch_sup (hk:k=1∨k=2) (r0:0≤r) (r1:r < n):supD (chT n k) r=true:=by
 unfold supD
 rw [ch_rule r0 r1]
 rcases hk with rfl | rfl <;> rfl
abbrev chL (n:Nat) (k:Int) (fact:Bool):Int→Int→Prop:=Lf (chT n k) (n + 1) n (factB (chF fact))
theorem ch_fact0:factB (chF true) 0=true:=by decide
theorem ch_factN {q:Int} (hq:q≠0):factB (chF fact) q=false:=by
 cases fact with
 | true=>exact decide_eq_false (fun h=>hq (List.mem_singleton.1 h))
 | false=>exact decide_eq_false (fun h=>by cases h)
theorem ch_none:factB (chF false) q=false:=decide_eq_false (fun h=>by cases h)
theorem ch_says (hk:k=1∨k=2):∀ (i:Nat),i≤n→(if fact=true then (if i=0∨k=1 then chL n k fact i 1 else chL n k fact i 2)∧chL n k fact i 3 else chL n k fact i 2∧chL n k fact i 4)
 | 0,_=>by
  have hno:∀ (r:Int),0≤r→r < n→hdT (chT n k) r≠0:=fun r r0 r1=>by rw [ch_hd r0 r1];omega
  cases fact with
  | true=>
   rw [if_pos rfl,if_pos (.inl rfl)]
   have h1:chL n k true 0 1:=lf_closed.k1 0 (by omega) (by omega) (.inl ch_fact0)
   exact ⟨h1,lf_closed.k3 0 (by omega) (by omega) (.inl h1)⟩
  | false=>
   rw [if_neg (by decide)]
   have h2:chL n k false 0 2:=lf_closed.k2 0 (by omega) (by omega) ⟨ch_none,fun r r0 r1 _ hr=>absurd hr (hno r r0 r1)⟩
   exact ⟨h2,lf_closed.k4 0 (by omega) (by omega) ⟨h2,.inl fun r r0 r1 _ hr=>absurd hr (hno r r0 r1)⟩⟩
 | i + 1,hi=>by
  have ih:=ch_says hk i (by omega)
  have i0:(0:Int)≤i:=by omega
  have i1:(i:Int) < n:=by omega
  have q0:(0:Int)≤((i + 1:Nat):Int):=by omega
  have q1:((i + 1:Nat):Int) < ((n + 1:Nat):Int):=by omega
  have hhd:hdT (chT n k) i=((i + 1:Nat):Int):=by rw [ch_hd i0 i1];omega
  have hone:∀ (r:Int),0≤r→r < n→hdT (chT n k) r=((i + 1:Nat):Int)→r=i:=fun r r0 r1 hr=>by rw [ch_hd r0 r1] at hr;omega
  have hnf:factB (chF fact) ((i + 1:Nat):Int)=false:=ch_factN (by omega)
  cases fact with
  | true=>
   rw [if_pos rfl] at ih ⊢
   have h3:chL n k true ((i + 1:Nat):Int) 3:=by
    refine lf_closed.k3 _ q0 q1 (.inr ⟨⟨i,⟨i0,i1⟩,ch_sup hk i0 i1,hhd,fun b hb=>?_⟩,fun f hf=>?_,fun s s0 s1 hs=>?_⟩)
    ·rw [ch_bd i0 i1] at hb
     rw [List.mem_singleton.1 hb]
     exact ih.2
    ·rw [ch_foe] at hf;cases hf
    ·rw [ch_foe] at hs;cases hs
   refine ⟨?_,h3⟩
   rcases hk with rfl | rfl
   ·rw [if_pos (.inr rfl)] at ih ⊢
    refine lf_closed.k1 _ q0 q1 (.inr ⟨i,⟨i0,i1⟩,by rw [ch_st i0 i1];rfl,hhd,fun b hb=>?_⟩)
    rw [ch_bd i0 i1] at hb
    rw [List.mem_singleton.1 hb]
    exact ih.1
   ·rw [if_neg (by omega)]
    refine lf_closed.k2 _ q0 q1 ⟨hnf,fun r r0 r1 hs _=>?_⟩
    rw [ch_st r0 r1] at hs
    cases hs
  | false=>
   rw [if_neg (by decide)] at ih ⊢
   have h2:chL n k false ((i + 1:Nat):Int) 2:=by
    refine lf_closed.k2 _ q0 q1 ⟨hnf,fun r r0 r1 hs hr=>⟨i,?_,ih.1⟩⟩
    rw [hone r r0 r1 hr,ch_bd i0 i1]
    exact List.mem_singleton.2 rfl
   refine ⟨h2,lf_closed.k4 _ q0 q1 ⟨h2,.inl fun r r0 r1 hs hr=>⟨i,?_,ih.2⟩⟩⟩
   rw [hone r r0 r1 hr,ch_bd i0 i1]
   exact List.mem_singleton.2 rfl
def Mk16 (x:Nat):Bool:=(x:Int) == (cond (En.bit x 1) 1 0) + (cond (En.bit x 2) 2 0) + (cond (En.bit x 3) 4 0) + (cond (En.bit x 4) 8 0)
set_option maxRecDepth 100000 in
theorem mk16:((List.range 16).all Mk16)=true:=by decide +kernel
theorem marks_bits {x:Int} (x0:0≤x) (x1:x < 16):x=(cond (En.bit x 1) 1 0) + (cond (En.bit x 2) 2 0) + (cond (En.bit x 3) 4 0) + (cond (En.bit x 4) 8 0):=by
 have h:=List.all_eq_true.1 mk16 x.toNat (List.mem_range.2 (by omega))
 unfold Mk16 at h
 rw [show ((x.toNat:Nat):Int)=x by omega] at h
 exact eq_of_beq h
theorem ch_has (hn:n≤4095) (hk:k=1∨k=2) (i:Nat) (hi:i≤n):popP (En.runD (chT n k) (n + 1) n (chF fact)).has i=2∧(En.runD (chT n k) (n + 1) n (chF fact)).marks.getD i 0=chW k fact i:=by
 have hfr:∀ q∈chF fact,0≤q∧q < ((n + 1:Nat):Int):=fun q hq=>by
  cases fact with
  | true=>have:=List.mem_singleton.1 hq;omega
  | false=>cases hq
 obtain ⟨h,_⟩:=runD_mo (ch_th (k:=k) hn) hfr
 have q0:(0:Int)≤i:=by omega
 have q1:(i:Int) < ((n + 1:Nat):Int):=by omega
 have hs:=ch_says (fact:=fact) hk i hi
 have hall:=fun k=>h.all i k q0 q1
 generalize En.runD (chT n k) (n + 1) n (chF fact)=e at *
 have hno:∀ (a b:Int),(a=1∧b=2∨a=2∧b=1∨a=3∧b=4∨a=4∧b=3)→chL n k fact i a→e.has i b=false:=fun a b hab ha=>by
  refine Bool.eq_false_iff.2 fun hb=>?_
  have hb2:=(hall b (by omega) (by omega)).1 hb
  have hc:=lf_coh ha
  rcases hab with ⟨rfl,rfl⟩ | ⟨rfl,rfl⟩ | ⟨rfl,rfl⟩ | ⟨rfl,rfl⟩
  ·exact hc.1 rfl hb2
  ·exact hc.2.1 rfl hb2
  ·exact hc.2.2.1 rfl hb2
  ·exact hc.2.2.2 rfl hb2
 have hm:=h.inv.ok.mks _ (getD_mem (d:=0) h.inv.ok.marks q0 q1)
 have hbits:=marks_bits hm.1 hm.2
 change e.marks.getD (i:Int).toNat 0=(cond (e.has i 1) 1 0) + (cond (e.has i 2) 2 0) + (cond (e.has i 3) 4 0) + (cond (e.has i 4) 8 0) at hbits
 rw [show ((i:Int)).toNat=i by omega] at hbits
 rw [hbits]
 unfold popP chW
 cases fact with
 | true=>
  rw [if_pos rfl] at hs ⊢
  have h3:e.has i 3=true:=(hall 3 (by omega) (by omega)).2 hs.2
  have h4:=hno 3 4 (by omega) hs.2
  rw [h3,h4]
  by_cases hb:i=0∨k=1
  ·rw [if_pos hb] at hs
   have h1:e.has i 1=true:=(hall 1 (by omega) (by omega)).2 hs.1
   have h2:=hno 1 2 (by omega) hs.1
   rw [h1,h2,if_pos (by omega)]
   exact ⟨rfl,rfl⟩
  ·rw [if_neg hb] at hs
   have h1:e.has i 2=true:=(hall 2 (by omega) (by omega)).2 hs.1
   have h2:=hno 2 1 (by omega) hs.1
   rw [h1,h2,if_neg (by omega)]
   exact ⟨rfl,rfl⟩
 | false=>
  rw [if_neg (by decide)] at hs ⊢
  have h2:e.has i 2=true:=(hall 2 (by omega) (by omega)).2 hs.1
  have h1:=hno 2 1 (by omega) hs.1
  have h4:e.has i 4=true:=(hall 4 (by omega) (by omega)).2 hs.2
  have h3:=hno 4 3 (by omega) hs.2
  rw [h1,h2,h3,h4]
  exact ⟨rfl,rfl⟩
structure ChOk (n:Nat) (k:Int) (fact:Bool) (e:En):Prop where
 len:e.marks.length=n + 1
 mrk:∀ (i:Nat),i≤n→e.marks[i]?=some (chW k fact i)
 qd:e.qd=2 * (n + 1)
 up:e.up≤4 * (n + 1 + n)
theorem ch_all (hn:n≤4095) (hk:k=1∨k=2):ChOk n k fact (En.runD (chT n k) (n + 1) n (chF fact)):=by
 have hfr:∀ q∈chF fact,0≤q∧q < ((n + 1:Nat):Int):=fun q hq=>by
  cases fact with
  | true=>have:=List.mem_singleton.1 hq;omega
  | false=>cases hq
 have hth:=ch_th (k:=k) hn
 obtain ⟨h,_⟩:=runD_mo hth hfr
 have hup:=(runD_up hth hfr).2
 have hh:=fun i=>ch_has (fact:=fact) hn hk i
 have hok:=h.inv.ok
 refine ⟨hok.marks,fun i hi=>?_,?_,?_⟩
 ·have:=(hh i hi).2
  rw [List.getD_eq_getElem?_getD] at this
  rw [List.getElem?_eq_getElem (by rw [hok.marks];omega)] at this ⊢
  exact congrArg some this
 ·rw [hok.qd,told_sm hok]
  have:sm (n + 1) (popP (En.runD (chT n k) (n + 1) n (chF fact)).has)=sm (n + 1) (fun _=>2):=sm_congr fun q q0 q1=>by
   have:=(hh q.toNat (by omega)).1
   rw [show ((q.toNat:Nat):Int)=q by omega] at this
   exact this
  rw [this,sm_const]
  omega
 ·have hB:sizeB n (En.layS (chT n k) (n + 1) n (chF fact))=n:=by
   have:sizeB n (En.layS (chT n k) (n + 1) n (chF fact))=sm n (fun _=>1):=sm_congr fun r r0 r1=>by
    show (((bdT (chT n k) r).length:Nat):Int)=1
    rw [ch_bd r0 r1];rfl
   rw [this,sm_const]
   omega
  have hP:sizeP (n + 1) n (En.layS (chT n k) (n + 1) n (chF fact))=0:=sm_zero' fun q q0 q1=>by
   have:cntF n (En.layS (chT n k) (n + 1) n (chF fact)) q=0:=by
    unfold cntF
    show lsum (foT (chT n k) q) _=0
    rw [ch_foe];rfl
   rw [this]
   omega
  rw [hB,hP] at hup
  omega
end
end Go.Proofs.YtbcdgcodnkgdoaaGreat
namespace Go.Proofs.YtbcdgcodnkgdoaaGreat
open Go Go.RowKit
section
variable {P:Program} {E:Env} {Q:Pst} {G:List (Nat × Value)} {H:List HP} {l:List Oper} {L:List Bool}
theorem WT.first (i:Nat) {o:Oper} {d:Nat} {v:Value} {fn:Func} {R:Ending→World→Prop} (ho:l[i]?=some o) (hd:o.dst=some d) (hg:o.guard=none) (hL:L[i]?=some false) (hs:Region.noSelect l.toArray=true) (hf:Region.free .any l.toArray L.toArray i=true)
 (hr:(Region.ready .any l.toArray L.toArray).contains i=true) (hQ:Q.pan=PanP P fn R) (hN:Nat.blt d E.N=true) (hrun:∀ a w,Fr E.N E.ds a G→(execOp a.eval o).run P w=.ok (.value v) w) (h:WT P E l Q (L.set i true) ((d,v)::G) H):WT P E l Q L G H:=fun a w hfr hw=>by
 have hla:l.toArray[i]?=some o:=by simpa using ho
 have hy:Yields P l.toArray o v a:=.inl ⟨by simp [Region.wanted,hg],fun w=>hrun a w hfr⟩
 rw [← set_count hL]
 have hr0:i∈Region.ready .any l.toArray L.toArray:=by simpa using hr
 refine wpAny_first hla (Region.noSelect_spec hs) (fun c a w hp=>?_) _ _ a w (Region.free_spec hla hf) hr0 hy ?_
 ·show Q.pan c a w
  have hp:Q.pan c (a.put o.dst v) w:=hp
  rw [hQ] at hp ⊢
  refine ⟨?_⟩
  have:=hp.out
  rw [hd] at this
  exact this
 ·have e:L.toArray.setIfInBounds i true=(L.set i true).toArray:=by simp
  rw [e,hd]
  exact h (a.put (some d) v) w (hfr.put hN v) hw
theorem WT.move (i:Nat) {x:Operand} {d:Nat} {v:Value} {ty:TypeId} {pos:String} {af:Array Edge} {fn:Func} {R:Ending→World→Prop} (ho:l[i]?=some ⟨some d,.move x,ty,pos,af,none⟩) (hL:L[i]?=some false) (hs:Region.noSelect l.toArray=true) (hf:Region.free .any l.toArray L.toArray i=true)
 (hr:(Region.ready .any l.toArray L.toArray).contains i=true) (hQ:Q.pan=PanP P fn R) (hN:Nat.blt d E.N=true) (hx:ev G x=some v) (h:WT P E l Q (L.set i true) ((d,v)::G) H):WT P E l Q L G H:=
 WT.first i ho rfl rfl hL hs hf hr hQ hN (fun a w hf=>by simp [execOp,hf.eval hx]) h
theorem WT.add (i:Nat) {x y:Operand} {d:Nat} {k:IntKind} {p q c:Int} {t ty':TypeId} {ty:TypeId} {pos:String} {af:Array Edge} {fn:Func} {R:Ending→World→Prop} (ho:l[i]?=some ⟨some d,.binOp .add t x y ty',ty,pos,af,none⟩) (hL:L[i]?=some false) (hs:Region.noSelect l.toArray=true) (hf:Region.free .any l.toArray L.toArray i=true)
 (hr:(Region.ready .any l.toArray L.toArray).contains i=true) (hQ:Q.pan=PanP P fn R) (hN:Nat.blt d E.N=true) (hx:ev G x=some (.int k p)) (hy:ev G y=some (.int k q)) (hw:k.wrap (p + q)=c) (h:WT P E l Q (L.set i true) ((d,.int k c)::G) H):WT P E l Q L G H:=
 WT.first i ho rfl rfl hL hs hf hr hQ hN (fun a w hf=>by simp [execOp,hf.eval hx,hf.eval hy,run_eqGuard_int,binOp,Op.intArith,hw]) h
end
section
variable {P:Program} {E:Env} {ops:Array Oper} {Q:Pst} {rest:List Oper} {G:List (Nat × Value)} {H:List HP}
variable {dst:Nat} {ty:TypeId} {pos:String} {af:Array Edge} {t ty':TypeId} {x y:Operand} {a b:Int} {k:IntKind}
theorem RW.rem (hx:ev G x=some (.int k a)) (hy:ev G y=some (.int k b)) (hb:¬ b=0) (hN:Nat.blt dst E.N=true) (kk:RW P E ops Q rest ((dst,.int k (a.tmod b))::G) H):
 RW P E ops Q (⟨some dst,.binOp .rem t x y ty',ty,pos,af,none⟩::rest) G H:=
 RW.val hN (fun f w hf _=>by simp [execOp,hf.eval hx,hf.eval hy,run_eqGuard_int,binOp,Op.intDiv,hb]) kk
end
end Go.Proofs.YtbcdgcodnkgdoaaGreat
namespace Go.Proofs.YtbcdgcodnkgdoaaGreat.Run
open Go
noncomputable abbrev PG:Program:=Tryz.prog
def et (t:TypeId):Bool:=Nat.beq t 111 || Nat.beq t 95
/-! ### tables by number -/
inductive T (α:Type) where
 | e
 | lf (v:α)
 | nd (l r:T α)
noncomputable def T.at {α:Type} (t:T α):Nat→Option α:=
 T.rec (motive:=fun _=>Nat→Option α) (fun _=>none) (fun v _=>some v) (fun _ _ gl gr k=>Bool.rec (motive:=fun _=>Option α) (gr (Nat.div k 2)) (gl (Nat.div k 2)) (Nat.beq (Nat.mod k 2) 0)) t
noncomputable def T.fst {α:Type} (t:T α):T α:=T.rec (motive:=fun _=>T α) .e (fun _=>.e) (fun l _ _ _=>l) t
noncomputable def T.snd {α:Type} (t:T α):T α:=T.rec (motive:=fun _=>T α) .e (fun _=>.e) (fun _ r _ _=>r) t
noncomputable def T.put {α:Type} (d:Nat):T α→Nat→T α→T α:=
 Nat.rec (motive:=fun _=>T α→Nat→T α→T α) (fun _ _ v=>v) (fun _ ih t k v=>
  Bool.rec (motive:=fun _=>T α) (.nd t.fst (ih t.snd (Nat.div k 2) v)) (.nd (ih t.fst (Nat.div k 2) v) t.snd) (Nat.beq (Nat.mod k 2) 0)) d
noncomputable def iteB {α:Type} (b:Bool) (x y:α):α:=Bool.rec (motive:=fun _=>α) y x b
/-! ### answers -/
inductive R (α:Type) where
 | ok (x:α)
 | er (l:List Nat)
noncomputable def R.bind {α β:Type} (r:R α) (f:α→R β):R β:=R.rec (motive:=fun _=>R β) f (fun l=>.er l) r
noncomputable def R.of {α:Type} (k:Nat) (o:Option α):R α:=Option.rec (motive:=fun _=>R α) (.er [k]) (fun x=>.ok x) o
noncomputable def R.tag {α:Type} (k:Nat) (r:R α):R α:=R.rec (motive:=fun _=>R α) (fun x=>.ok x) (fun l=>.er (k::l)) r
noncomputable def R.when {α:Type} (k:Nat) (b:Bool) (r:R α):R α:=Bool.rec (motive:=fun _=>R α) (.er [k]) r b
/-! ### values and objects -/
inductive V where
 | b (x:Bool)
 | i (k:IntKind) (n:Int)
 | s (x:ByteArray)
 | p0
 | p (m o:Nat)
 | l0
 | l (m off o n:Nat)
 | m0
 | m (m:Nat)
 | f0
 | f (g:FuncId) (pre caps:List V)
 | y (m:Nat)
 | i0
 | a (l:List V)
 | t (l:List V)
inductive B where
 | cells (c:List V) (t:TypeId)
 | buf (c:List V) (t:TypeId)
 | map (es:List (V × V))
 | loop (ready:Bool) (fr:T V) (N:Nat) (ps:List Nat) (asg body:Code) (fn:FuncId) (d:Nat)
 | dfr
structure Hp where
 t:T B
 n:Nat
inductive Df where
 | fn (g:FuncId) (caps args:List V)
 | mark (m:Nat)
structure X where
 fr:T V
 h:Hp
 ds:List Df
inductive Xt where
 | nrm
 | ret
 | exi (id:Nat)
structure A where
 v:V
 h:Hp
noncomputable def fget (N:Nat) (t:T V) (k:Nat):Option V:=iteB (Nat.blt k N) (t.at k) none
noncomputable def fset (N:Nat) (t:T V) (k:Nat) (v:V):T V:=t.put (Nat.succ (Nat.log2 N)) k (.lf v)
noncomputable def Hp.get (h:Hp) (k:Nat):Option B:=Hp.rec (motive:=fun _=>Option B) (fun t _=>iteB (Nat.blt k 4096) (t.at k) none) h
noncomputable def hput (t:T B) (k:Nat) (b:T B):T B:=iteB (Nat.blt k 4096) (t.put 12 k b) t
noncomputable def Hp.set (h:Hp) (k:Nat) (b:B):Hp:=Hp.rec (motive:=fun _=>Hp) (fun t n=>⟨hput t k (.lf b),n⟩) h
noncomputable def Hp.del (h:Hp) (k:Nat):Hp:=Hp.rec (motive:=fun _=>Hp) (fun t n=>⟨hput t k .e,n⟩) h
noncomputable def Hp.new (h:Hp) (b:B):Hp:=Hp.rec (motive:=fun _=>Hp) (fun t n=>⟨hput t n (.lf b),Nat.succ n⟩) h
def ofV1:Value→Option V
 | .bool b=>some (.b b)
 | .int k n=>some (.i k n)
 | .string s=>some (.s s)
 | .pointer none=>some .p0
 | .slice none 0 0=>some .l0
 | .map none=>some .m0
 | .nilFunc=>some .f0
 | .nilIface=>some .i0
 | _=>none
def ofVs:List Value→Option (List V)
 | []=>some []
 | v::r=>match ofV1 v with
  | some x=>match ofVs r with
   | some l=>some (x::l)
   | none=>none
  | none=>none
def ofV:Value→Option V
 | .agg cs=>match ofVs cs.toList with
  | some l=>some (.a l)
  | none=>none
 | .tuple cs=>match cs.toList with
  | []=>some (.t [])
  | _=>none
 | .func (.func g) pre caps=>match pre.toList,caps.toList with
  | [],[]=>some (.f g [] [])
  | _,_=>none
 | v=>ofV1 v
def V.flat:V→List V
 | .a c=>c
 | x=>[x]
def V.one:V→Bool
 | .a _=>false
 | .t _=>false
 | _=>true
noncomputable def xe (N:Nat) (fr:T V) (x:Operand):Option V:=Operand.rec (motive:=fun _=>Option V) (fun t=>fget N fr t) (fun v=>ofV v) (fun _=>none) (fun f=>some (.f f [] [])) x
noncomputable def xes (N:Nat) (fr:T V) (l:List Operand):Option (List V):=
 List.rec (motive:=fun _=>Option (List V)) (some []) (fun x _ ih=>Option.rec (motive:=fun _=>Option (List V)) none (fun v=>Option.rec (motive:=fun _=>Option (List V)) none (fun vs=>some (v::vs)) ih) (xe N fr x)) l
noncomputable def zcs (t:TypeId):Option (List V):=match PG.info? t with
 | some i=>match i.zero with
  | some z=>ofVs z.cells.toList
  | none=>none
 | none=>none
noncomputable def zvt (t:TypeId):Option V:=match PG.info? t with
 | some i=>match i.zero with
  | some z=>ofV z
  | none=>none
 | none=>none
noncomputable def szt (t:TypeId):Option Nat:=match PG.info? t with
 | some i=>match i.zero with
  | some _=>some i.size
  | none=>none
 | none=>none
noncomputable def byt (t:TypeId):Option Nat:=match PG.info? t with
 | some i=>some i.bytes
 | none=>none
noncomputable def rdt (t:TypeId):Option (Option Nat):=match PG.underlying t with
 | some d=>match isAggD d with
  | true=>match szt t with
   | some n=>some (some n)
   | none=>none
  | false=>some none
 | none=>none
/-! ### memory -/
noncomputable def Hp.row (h:Hp) (m:Nat):Option (List V):=Option.rec (motive:=fun _=>Option (List V)) none (fun b=>B.rec (motive:=fun _=>Option (List V)) (fun c _=>some c) (fun c _=>some c) (fun _=>none) (fun _ _ _ _ _ _ _ _=>none) none b) (h.get m)
noncomputable def Hp.setRow (h:Hp) (m:Nat) (c:List V):Hp:=match h.get m with
 | some (.cells _ t)=>h.set m (.cells c t)
 | some (.buf _ t)=>h.set m (.buf c t)
 | _=>h
noncomputable def rdC (q:Option (Option Nat)) (c:List V) (o:Nat):R V:=Option.rec (motive:=fun _=>R V) (.er [14]) (fun q=>Option.rec (motive:=fun _=>R V) (R.of 13 c[o]?)
 (fun sz=>R.when 11 (Nat.ble (o + sz) c.length) (.ok (.a ((c.drop o).take sz)))) q) q
noncomputable def rd (h:Hp) (t:TypeId) (v:V):R V:=match v with
 | .p m o=>Option.rec (motive:=fun _=>R V) (.er [15,m]) (fun c=>rdC (rdt t) c o) (h.row m)
 | _=>.er [16]
def over (c:List V) (o:Nat) (vs:List V):List V:=match vs with
 | [v]=>c.set o v
 | vs=>c.take o++vs++c.drop (o + vs.length)
noncomputable def wr2 (h:Hp) (sz m o:Nat) (c:List V) (vs:List V):R Hp:=
 R.when 20 (Nat.beq vs.length sz&&Nat.ble (o + sz) c.length&&vs.all V.one) (.ok (h.setRow m (over c o vs)))
noncomputable def wr (h:Hp) (t:TypeId) (a v:V):R Hp:=match a with
 | .p m o=>match h.row m,szt t with
  | some c,some sz=>wr2 h sz m o c v.flat
  | _,_=>.er [22,m]
 | _=>.er [23]
def fillV (place:Nat→Option (Nat × Nat)) (c:List V):List (Nat × V)→Option (List V)
 | []=>some c
 | (i,v)::r=>match place i with
  | some (off,sz)=>match Nat.beq v.flat.length sz&&Nat.ble (off + v.flat.length) c.length with
   | true=>fillV place (over c off v.flat) r
   | false=>none
  | none=>none
noncomputable def xps (N:Nat) (fr:T V):List (Nat × Operand)→Option (List (Nat × V))
 | []=>some []
 | (i,x)::r=>match xe N fr x with
  | some v=>match xps N fr r with
   | some vs=>some ((i,v)::vs)
   | none=>none
  | none=>none
noncomputable def reps (n:Nat) (c:List V):List V:=Nat.rec (motive:=fun _=>List V) [] (fun _ l=>c++l) n
noncomputable def placeS (fs:Array Field) (i:Nat):Option (Nat × Nat):=match fs[i]? with
 | some f=>match szt f.type with
  | some sz=>some (f.offset,sz)
  | none=>none
 | none=>none
/-! ### numbers -/
def arith (op:BinOp) (k:IntKind) (a b:Int):R V:=match op with
 | .add=>.ok (.i k (k.wrap (a + b)))
 | .sub=>.ok (.i k (k.wrap (a - b)))
 | .mul=>.ok (.i k (k.wrap (a * b)))
 | .quo=>match decide (b=0) with
  | true=>.er [30]
  | false=>.ok (.i k (k.wrap (a.tdiv b)))
 | .rem=>match decide (b=0) with
  | true=>.er [31]
  | false=>.ok (.i k (a.tmod b))
 | .and=>.ok (.i k (k.wrap (BitVec.ofInt k.bits a &&& BitVec.ofInt k.bits b).toNat))
 | .or=>.ok (.i k (k.wrap (BitVec.ofInt k.bits a ||| BitVec.ofInt k.bits b).toNat))
 | .xor=>.ok (.i k (k.wrap (BitVec.ofInt k.bits a ^^^ BitVec.ofInt k.bits b).toNat))
 | .eql=>.ok (.b (decide (a=b)))
 | .neq=>.ok (.b (!decide (a=b)))
 | .lss=>.ok (.b (decide (a < b)))
 | .leq=>.ok (.b (decide (a≤b)))
 | .gtr=>.ok (.b (decide (b < a)))
 | .geq=>.ok (.b (decide (b≤a)))
 | _=>.er [32]
def shl1 (k:IntKind) (a b:Int):R V:=match decide (b < 0) with
 | true=>.er [33]
 | false=>.ok (.i k (k.wrap (a * 2 ^ (min b.toNat k.bits))))
def shr1 (k:IntKind) (a b:Int):R V:=match decide (b < 0) with
 | true=>.er [34]
 | false=>.ok (.i k (a.fdiv (2 ^ (min b.toNat k.bits))))
def eqInts:List V→List V→Option Bool
 | [],[]=>some true
 | .i k a::r,.i k' b::q=>match decide (k=k') with
  | true=>match eqInts r q with
   | some c=>some (decide (a=b)&&c)
   | none=>none
  | false=>none
 | _,_=>none
noncomputable def eqA (t:TypeId) (x y:List V):Option Bool:=match et t,szt t with
 | true,some sz=>match Nat.beq x.length sz&&Nat.beq y.length sz with
  | true=>eqInts x y
  | false=>none
 | _,_=>none
noncomputable def eqV (t:TypeId) (u v:V):Option Bool:=match PG.underlying t,u,v with
 | some .bool,.b x,.b y=>some (x == y)
 | some (.pointer _),.p0,.p0=>some true
 | some (.pointer _),.p0,.p _ _=>some false
 | some (.pointer _),.p _ _,.p0=>some false
 | some (.slice _),.l0,.l0=>some true
 | some (.slice _),.l0,.l _ _ _ _=>some false
 | some (.slice _),.l _ _ _ _,.l0=>some false
 | some (.map _ _),.m0,.m0=>some true
 | some (.map _ _),.m0,.m _=>some false
 | some (.map _ _),.m _,.m0=>some false
 | some (.func _ _ _),.f0,.f0=>some true
 | some (.func _ _ _),.f0,.f _ _ _=>some false
 | some (.func _ _ _),.f _ _ _,.f0=>some false
 | some _,.a x,.a y=>eqA t x y
 | _,_,_=>none
def isConst0:Operand→Bool
 | .const .nilIface=>true
 | _=>false
noncomputable def isIf (t:TypeId):Bool:=match PG.underlying t with
 | some (.interface _)=>true
 | _=>false
def bopN (op:BinOp) (k k':IntKind) (a b:Int):R V:=match op with
 | .shl=>shl1 k a b
 | .shr=>shr1 k a b
 | op=>match decide (k=k') with
  | true=>arith op k a b
  | false=>.er [35]
noncomputable def bopE (op:BinOp) (t:TypeId) (y:Operand) (u v:V):R V:=match u,v with
 | .i0,.i0=>match isConst0 y&&isIf t,op with
  | true,.eql=>.ok (.b true)
  | true,.neq=>.ok (.b false)
  | _,_=>.er [36]
 | u,v=>match op with
  | .eql=>match eqV t u v with
   | some c=>.ok (.b c)
   | none=>.er [37,t]
  | .neq=>match eqV t u v with
   | some c=>.ok (.b (!c))
   | none=>.er [38,t]
  | _=>.er [39]
noncomputable def bop (op:BinOp) (t:TypeId) (y:Operand) (u v:V):R V:=match u,v with
 | .i k a,.i k' b=>bopN op k k' a b
 | u,v=>bopE op t y u v
/-! ### maps: keys are numbers, or rows of numbers -/
noncomputable def eqK (kt:TypeId) (d:TypeDesc):V→V→Option Bool
 | .i k a,.i k' b=>match d,decide (k=k') with
  | .int _,true=>some (decide (a=b))
  | _,_=>none
 | .a x,.a y=>match d with
  | .struct _=>eqA kt x y
  | _=>none
 | _,_=>none
noncomputable def findK (kt:TypeId) (d:TypeDesc) (k:V):List (V × V)→Option (Option V)
 | []=>some none
 | e::r=>match eqK kt d k e.1 with
  | some true=>some (some e.2)
  | some false=>findK kt d k r
  | none=>none
noncomputable def setK (kt:TypeId) (d:TypeDesc) (k v:V):List (V × V)→Option (List (V × V))
 | []=>some [(k,v)]
 | e::r=>match eqK kt d k e.1 with
  | some true=>some ((k,v)::r)
  | some false=>match setK kt d k v r with
   | some l=>some (e::l)
   | none=>none
  | none=>none
noncomputable def keyOk (kt:TypeId) (d:TypeDesc) (k:V):Bool:=match eqK kt d k k with
 | some true=>true
 | _=>false
/-! ### operations -/
noncomputable def makeSl (h:Hp) (t:TypeId) (a b:V):R A:=match a,b with
 | .i _ a,.i _ b=>match PG.underlying t with
  | some (.slice e)=>match szt e,byt e,zcs e with
   | some sz,some by_,some z=>R.when 40 (decide (0≤a)&&decide (a=b)&&decide (b≤1000000)&&Nat.ble by_ 1000&&Nat.beq z.length sz&&!(Nat.beq sz 0)) (.ok ⟨.l h.n 0 0 a.toNat,h.new (.buf (reps a.toNat z) e)⟩)
   | _,_,_=>.er [41]
  | _=>.er [42]
 | _,_=>.er [43]
noncomputable def roomOk (h:Hp) (e sz m off o n:Nat):Bool:=match h.get m with
 | some (.buf c e')=>Nat.beq e e'&&Nat.beq off (o * sz)&&Nat.ble (off + n * sz) c.length&&Nat.blt 0 sz
 | some (.cells c _)=>Nat.beq sz 1&&Nat.beq off o&&Nat.ble (o + n) c.length
 | _=>false
noncomputable def sliceV (h:Hp) (t:TypeId) (x:V) (lo hi:Option V):R V:=match x with
 | .l m off o n=>match PG.underlying t with
  | some (.slice e)=>match szt e with
   | some sz=>match lo,hi with
    | none,some (.i _ b)=>R.when 44 (decide (0≤b)&&Nat.ble b.toNat n&&roomOk h e sz m off o n) (.ok (.l m off o b.toNat))
    | some (.i _ a),none=>R.when 45 (decide (0≤a)&&Nat.blt a.toNat n&&roomOk h e sz m off o n) (.ok (.l m (off + a.toNat * sz) (o + a.toNat) (n - a.toNat)))
    | _,_=>.er [46]
   | none=>.er [47]
  | _=>.er [48]
 | .l0=>match PG.underlying t with
  | some (.slice e)=>match lo,hi with
   | none,some (.i _ b)=>R.when 49 (decide (b=0)&&(szt e).isSome) (.ok .l0)
   | _,_=>.er [50]
  | _=>.er [51]
 | .p m o=>match PG.underlying t with
  | some (.array n e)=>match szt e,lo,hi,h.get m with
   | some sz,none,none,some (.cells c _)=>R.when 52 (Nat.beq o 0&&Nat.beq sz 1&&Nat.beq c.length n&&Nat.blt 0 n) (.ok (.l m 0 0 n))
   | _,_,_,_=>.er [53]
  | _=>.er [54]
 | _=>.er [55]
noncomputable def sliceCells (h:Hp) (e:TypeId) (x:V):R (List V × Nat):=match x with
 | .l0=>.ok ([],0)
 | .l m off _ n=>match szt e,h.row m with
  | some sz,some c=>R.when 56 (Nat.ble (off + n * sz) c.length) (.ok ((c.drop off).take (n * sz),n))
  | _,_=>.er [57,m]
 | _=>.er [58]
noncomputable def appendV (h:Hp) (t t2:TypeId) (x y:V):R A:=match PG.underlying t,Nat.beq t t2 with
 | some (.slice e),true=>(sliceCells h e y).bind fun q=>match szt e,byt e,zcs e with
  | some sz,some by_,some z=>match q.2 with
   | 0=>match x with
    | .l0=>.ok ⟨.l0,h⟩
    | .l m off o n=>R.when 59 (roomOk h e sz m off o n) (.ok ⟨.l m off o n,h⟩)
    | _=>.er [59]
   | k + 1=>match x with
    | .l0=>R.when 60 (Nat.ble by_ 1000&&Nat.beq z.length sz&&Nat.ble q.2 100000&&q.1.all V.one) (.ok ⟨.l h.n 0 0 q.2,h.new (.buf q.1 e)⟩)
    | .l m off o n=>match h.get m with
     | some (.buf c e')=>R.when 61 (Nat.beq off 0&&Nat.beq o 0&&Nat.beq (n * sz) c.length&&Nat.beq e e'&&Nat.ble by_ 1000&&Nat.beq z.length sz&&Nat.ble (n + q.2) 100000&&q.1.all V.one) (.ok ⟨.l h.n 0 0 (n + q.2),(h.del m).new (.buf (c++q.1) e)⟩)
     | _=>.er [62,m]
    | _=>.er [63]
  | _,_,_=>.er [64]
 | _,_=>.er [65]
noncomputable def mapEs (h:Hp) (x:V):Option (List (V × V)):=match x with
 | .m0=>some []
 | .m m=>match h.get m with
  | some (.map es)=>some es
  | _=>none
 | _=>none
def lookR (ok:Bool) (z:V) (r:Option (Option V)):R V:=match r with
 | some (some v)=>.ok (match ok with | true=>.t [v,.b true] | false=>v)
 | some none=>.ok (match ok with | true=>.t [z,.b false] | false=>z)
 | none=>.er [72]
noncomputable def lookupV (h:Hp) (t:TypeId) (x k:V) (ok:Bool):R V:=match PG.underlying t with
 | some (.map kt e)=>match PG.underlying kt,zvt e,mapEs h x with
  | some d,some z,some es=>R.when 70 (keyOk kt d k) (lookR ok z (findK kt d k es))
  | _,_,_=>.er [74]
 | _=>.er [75]
noncomputable def updateV (h:Hp) (t:TypeId) (x k v:V):R A:=match PG.underlying t,x with
 | some (.map kt _),.m m=>match PG.underlying kt,h.get m with
  | some d,some (.map es)=>R.when 76 (keyOk kt d k) (match setK kt d k v es with
   | some es'=>.ok ⟨.t [],h.set m (.map es')⟩
   | none=>.er [77])
  | _,_=>.er [78]
 | _,_=>.er [79]
noncomputable def with_ (h:Hp) (r:R V):R A:=r.bind fun v=>.ok ⟨v,h⟩
noncomputable def o1 (h:Hp) (k:Nat) (v:Option V):R A:=Option.rec (motive:=fun _=>R A) (.er [k]) (fun v=>.ok ⟨v,h⟩) v
noncomputable def oPick (N:Nat) (fr:T V) (h:Hp) (c x y:Operand):R A:=match xe N fr c with
 | some (.b true)=>o1 h 82 (xe N fr x)
 | some (.b false)=>o1 h 83 (xe N fr y)
 | _=>.er [84]
noncomputable def oAlloc (h:Hp) (t:TypeId):R A:=match zcs t with
 | some z=>.ok ⟨.p h.n 0,h.new (.cells z t)⟩
 | none=>.er [85]
noncomputable def oBox (h:Hp) (t:TypeId) (v:Option V):R A:=match v with
 | some v=>R.when 86 (v.flat.all V.one) (.ok ⟨.p h.n 0,h.new (.cells v.flat t)⟩)
 | none=>.er [87]
noncomputable def placeOf (t:TypeId):Option (Nat→Option (Nat × Nat)):=match PG.underlying t with
 | some (.struct fs)=>match fs.toList.all (fun f=>(szt f.type).isSome) with
  | true=>some (placeS fs)
  | false=>none
 | some (.array _ e)=>match szt e with
  | some sz=>some (fun i=>some (i * sz,sz))
  | none=>none
 | _=>none
noncomputable def oBuild (h:Hp) (t:TypeId) (ps:Option (List (Nat × V))):R A:=match placeOf t,zcs t,ps with
 | some pl,some z,some ps=>match fillV pl z ps with
  | some c=>.ok ⟨.a c,h⟩
  | none=>.er [88]
 | _,_,_=>.er [91]
noncomputable def oBuildSl2 (h:Hp) (e:TypeId) (n:Nat) (ps:List (Nat × V)):R A:=match szt e,zcs e with
 | some sz,some z=>match fillV (fun i=>some (i * sz,sz)) (reps n z) ps with
  | some c=>R.when 92 (Nat.beq z.length sz&&!(Nat.beq sz 0)&&Nat.ble (n * sz) 100000&&c.all V.one) (.ok ⟨.l h.n 0 0 n,h.new (.buf c e)⟩)
  | none=>.er [93]
 | _,_=>.er [94]
noncomputable def oBuildSl (h:Hp) (t:TypeId) (n:Nat) (ps:Option (List (Nat × V))):R A:=match PG.underlying t,ps with
 | some (.slice e),some ps=>oBuildSl2 h e n ps
 | _,_=>.er [95]
noncomputable def oLoad (h:Hp) (t:TypeId) (v:Option V):R A:=Option.rec (motive:=fun _=>R A) (.er [96]) (fun v=>with_ h (rd h t v)) v
noncomputable def oStore (h:Hp) (t:TypeId) (a v:Option V):R A:=match a,v with
 | some a,some v=>(wr h t a v).bind fun h'=>.ok ⟨.t [],h'⟩
 | _,_=>.er [97]
noncomputable def oNil (h:Hp) (v:Option V):R A:=match v with
 | some (.p m o)=>.ok ⟨.p m o,h⟩
 | some (.f g pre caps)=>.ok ⟨.f g pre caps,h⟩
 | _=>.er [98]
noncomputable def oBin (h:Hp) (op:BinOp) (t:TypeId) (y:Operand) (u v:Option V):R A:=match u,v with
 | some u,some v=>with_ h (bop op t y u v)
 | _,_=>.er [99]
noncomputable def oUn (h:Hp) (op:UnOp) (v:Option V):R A:=match op,v with
 | .not,some (.b c)=>.ok ⟨.b (!c),h⟩
 | .neg,some (.i k a)=>.ok ⟨.i k (k.wrap (0 - a)),h⟩
 | .xor,some (.i k a)=>with_ h (arith .xor k (if k.signed then -1 else k.max) a)
 | _,_=>.er [100]
noncomputable def oConv (h:Hp) (src dst:TypeId) (v:Option V):R A:=match PG.underlying src,PG.underlying dst,v with
 | some _,some (.int k),some (.i _ a)=>.ok ⟨.i k (k.wrap a),h⟩
 | some (.slice _),some (.slice e),some (.l m off o n)=>match Nat.beq src dst,PG.underlying e with
  | true,some (.int .u8)=>R.when 105 (h.row m).isSome (.ok ⟨.l m off o n,h⟩)
  | _,_=>.er [104]
 | _,_,_=>.er [103]
noncomputable def oFunc (h:Hp) (f:Fn) (p c:Option (List V)):R A:=match f,p,c with
 | .func g,some p,some c=>.ok ⟨.f g p c,h⟩
 | _,_,_=>.er [104]
noncomputable def oMakeMap (h:Hp) (r:Option Operand):R A:=match r with
 | none=>.ok ⟨.m h.n,h.new (.map [])⟩
 | some _=>.er [135]
noncomputable def oMakeSl (h:Hp) (t:TypeId) (a b:Option V):R A:=match a,b with
 | some a,some b=>makeSl h t a b
 | _,_=>.er [105]
noncomputable def oSlice (N:Nat) (fr:T V) (h:Hp) (t:TypeId) (v:Option V) (lo hi mx:Option Operand):R A:=match v,lo,hi,mx with
 | some v,none,none,none=>with_ h (sliceV h t v none none)
 | some v,some l,none,none=>match xe N fr l with
  | some a=>with_ h (sliceV h t v (some a) none)
  | none=>.er [106]
 | some v,none,some l,none=>match xe N fr l with
  | some a=>with_ h (sliceV h t v none (some a))
  | none=>.er [107]
 | _,_,_,_=>.er [108]
noncomputable def fieldOff (s:TypeId) (i:Nat):Option Nat:=match PG.underlying s with
 | some (.struct fs)=>match placeS fs i with
  | some (off,_ + 1)=>some off
  | _=>none
 | _=>none
noncomputable def oFieldA (h:Hp) (q:Option Nat) (v:Option V):R A:=match q,v with
 | some off,some (.p m o)=>.ok ⟨.p m (o + off),h⟩
 | _,_=>.er [112]
noncomputable def oField (h:Hp) (s:TypeId) (i:Nat) (v:Option V):R A:=match PG.underlying s,v with
 | some (.struct fs),some (.a c)=>match fs[i]? with
  | some f=>with_ h (rdC (rdt f.type) c f.offset)
  | none=>.er [113]
 | _,_=>.er [114]
noncomputable def oIdxA2 (h:Hp) (e:TypeId) (m off n:Nat) (a:Int):R A:=match szt e with
 | some sz=>R.when 115 (decide (0≤a)&&Nat.blt a.toNat n) (.ok ⟨.p m (off + a.toNat * sz),h⟩)
 | none=>.er [116]
noncomputable def oIdxA (h:Hp) (d:Option TypeDesc) (u v:Option V):R A:=match d,u,v with
 | some (.slice e),some (.l m off _ n),some (.i _ a)=>oIdxA2 h e m off n a
 | some (.array n e),some (.p m o),some (.i _ a)=>oIdxA2 h e m o n a
 | _,_,_=>.er [119]
noncomputable def oIdx (h:Hp) (t:TypeId) (u v:Option V):R A:=match PG.underlying t,u,v with
 | some .string,some (.s s),some (.i _ a)=>R.when 120 (decide (0≤a)) (match s.data.toList[a.toNat]? with
  | some c=>.ok ⟨.i .u8 c.toNat,h⟩
  | none=>.er [121])
 | some (.array n e),some (.a c),some (.i _ a)=>match szt e with
  | some sz=>R.when 122 (decide (0≤a)&&Nat.blt a.toNat n) (with_ h (rdC (rdt e) c (a.toNat * sz)))
  | none=>.er [123]
 | _,_,_=>.er [124]
noncomputable def oLook (h:Hp) (t:TypeId) (m k:Option V) (ok:Bool):R A:=match m,k with
 | some m,some k=>with_ h (lookupV h t m k ok)
 | _,_=>.er [125]
noncomputable def oUpd (h:Hp) (t:TypeId) (m k v:Option V):R A:=match m,k,v with
 | some m,some k,some v=>R.when 126 v.one (updateV h t m k v)
 | _,_,_=>.er [127]
noncomputable def oExt (h:Hp) (i:Nat) (v:Option V):R A:=match v with
 | some (.t l)=>o1 h 128 l[i]?
 | _=>.er [129]
noncomputable def oLen (h:Hp) (t:TypeId) (v:V):R A:=match v,PG.underlying t with
 | .l _ _ _ n,some (.slice _)=>.ok ⟨.i .i64 n,h⟩
 | .l0,some (.slice _)=>.ok ⟨.i .i64 0,h⟩
 | .s s,some .string=>.ok ⟨.i .i64 s.data.toList.length,h⟩
 | _,_=>.er [130]
noncomputable def oBuiltin (h:Hp) (bt:Builtin) (vs:Option (List V)) (ats:List TypeId):R A:=match bt,vs,ats with
 | .len,some [v],t::_=>oLen h t v
 | .append,some [x,y],[t,t2]=>appendV h t t2 x y
 | .min,some [.i k a,.i _ b],_=>.ok ⟨.i k (if b < a then b else a),h⟩
 | _,_,_=>.er [133]
noncomputable def oCall (N:Nat) (fr:T V) (h:Hp) (c:Call):R A:=match c with
 | ⟨.builtin bt,args,ats⟩=>oBuiltin h bt (xes N fr args.toList) ats.toList
 | _=>.er [136]
noncomputable def opL (N:Nat) (fr:T V) (h:Hp) (op:Op):R A:=Op.rec (motive:=fun _=>R A)
 (fun x=>o1 h 80 (xe N fr x))
 (fun x=>o1 h 81 (xe N fr x))
 (fun c x y=>oPick N fr h c x y)
 (fun t=>oAlloc h t)
 (fun t x=>oBox h t (xe N fr x))
 (fun t ps=>oBuild h t (xps N fr ps.toList))
 (fun t n ps=>oBuildSl h t n (xps N fr ps.toList))
 (fun _ _ _ _=>.er [201])
 (fun t x=>oLoad h t (xe N fr x))
 (fun t x y=>oStore h t (xe N fr x) (xe N fr y))
 (fun _=>.er [202])
 (fun _=>.er [203])
 (fun x=>oNil h (xe N fr x))
 (fun op t x y _=>oBin h op t y (xe N fr x) (xe N fr y))
 (fun op _ x=>oUn h op (xe N fr x))
 (fun src dst x=>oConv h src dst (xe N fr x))
 (fun _ _=>.er [204])
 (fun _ _=>.er [205])
 (fun f pre caps=>oFunc h f (xes N fr pre.toList) (xes N fr caps.toList))
 (fun _ r=>oMakeMap h r)
 (fun _ _=>.er [206])
 (fun t l c=>oMakeSl h t (xe N fr l) (xe N fr c))
 (fun t x lo hi mx=>oSlice N fr h t (xe N fr x) lo hi mx)
 (fun s x i=>oFieldA h (fieldOff s i) (xe N fr x))
 (fun s x i=>oField h s i (xe N fr x))
 (fun t x y=>oIdxA h (PG.underlying t) (xe N fr x) (xe N fr y))
 (fun t x y=>oIdx h t (xe N fr x) (xe N fr y))
 (fun t x k ok=>oLook h t (xe N fr x) (xe N fr k) ok)
 (fun t x k v=>oUpd h t (xe N fr x) (xe N fr k) (xe N fr v))
 (fun _ _ _=>.er [207])
 (fun _ _ _ _=>.er [208])
 (fun _ _=>.er [209])
 (fun _ _=>.er [210])
 (fun _=>.er [211])
 (fun _ _ _ _=>.er [212])
 (fun x i=>oExt h i (xe N fr x))
 (fun c=>oCall N fr h c)
 (fun _=>.er [213])
 (fun _=>.er [214])
 (fun _=>.er [215])
 (fun _ _=>.er [216])
 (fun _ _ _=>.er [217])
 (fun _ _=>.er [218]) op
/-! ### calls, code -/
abbrev CF:=FuncId→List V→Hp→R A
abbrev RC:=Nat→Code→X→R (Xt × X)
noncomputable def putD (N:Nat) (fr:T V) (d:Option Nat) (v:V):R (T V):=Option.rec (motive:=fun _=>R (T V)) (.ok fr) (fun d=>R.when 140 (Nat.blt d N) (.ok (fset N fr d v))) d
noncomputable def putAll (N:Nat):List Nat→List V→T V→R (T V)
 | [],[],fr=>.ok fr
 | d::ds,v::vs,fr=>R.when 141 (Nat.blt d N) (putAll N ds vs (fset N fr d v))
 | _,_,_=>.er [142]
noncomputable def yield3 (m:Nat) (q:Xt × X):R A:=match q.1,q.2.h.get m with
 | .nrm,some (.loop false fr N ps asg body fn d)=>.ok ⟨.b true,q.2.h.set m (.loop true fr N ps asg body fn d)⟩
 | _,_=>.er [143]
noncomputable def yield2 (rc:RC) (m:Nat) (N0:Nat) (body0:Code) (q:Xt × X):R A:=match q.1,q.2.h.get m with
 | .nrm,some (.loop true fr N ps asg body fn d)=>(rc N0 body0 ⟨q.2.fr,q.2.h.set m (.loop false fr N ps asg body fn d),q.2.ds⟩).bind (yield3 m)
 | _,_=>.er [145]
noncomputable def yieldV (rc:RC) (m:Nat) (vs:List V) (h:Hp):R A:=match h.get m with
 | some (.loop true fr N ps asg body fn d)=>(putAll N ps vs fr).bind fun fr1=>(rc N asg ⟨fr1,h,[]⟩).bind (yield2 rc m N body)
 | _=>.er [147]
structure AD where
 v:V
 h:Hp
 ds:List Df
noncomputable def withD (ds:List Df) (r:R A):R AD:=r.bind fun q=>A.rec (motive:=fun _=>R AD) (fun v h=>.ok ⟨v,h,ds⟩) q
noncomputable def callV (cf:CF) (rc:RC) (h:Hp) (f:Option V) (vs:Option (List V)):R A:=match f,vs with
 | some (.f g pre caps),some vs=>cf g (pre++vs++caps) h
 | some (.y m),some vs=>yieldV rc m vs h
 | _,_=>.er [150]
noncomputable def oCallS (cf:CF) (rc:RC) (N:Nat) (fr:T V) (h:Hp) (ds:List Df) (c:Call):R AD:=match c with
 | ⟨.value f,args,_⟩=>withD ds (callV cf rc h (xe N fr f) (xes N fr args.toList))
 | c=>withD ds (oCall N fr h c)
noncomputable def oDefer (rnd:Bool) (N:Nat) (fr:T V) (h:Hp) (ds:List Df) (c:Call):R AD:=match c with
 | ⟨.value f,args,_⟩=>match rnd,xe N fr f,xes N fr args.toList with
  | false,some (.f g [] caps),some vs=>.ok ⟨.t [],h,.fn g caps vs::ds⟩
  | _,_,_=>.er [151]
 | _=>.er [151]
def kindB:Builtin→Nat
 | .append=>3
 | _=>0
def kindC (c:Call):Nat:=match c.callee with
 | .value _=>4
 | .builtin b=>kindB b
 | _=>0
def kindCv:Option TypeDesc→Nat
 | some (.int _)=>0
 | _=>3
noncomputable def kindOp:Op→Nat
 | .load _ _=>1
 | .lookup _ _ _ _=>1
 | .slice _ _ _ _ _=>1
 | .alloc _=>2
 | .box _ _=>2
 | .buildSlice _ _ _=>2
 | .convert src _ _=>kindCv (PG.underlying src)
 | .makeMap _ _=>2
 | .makeSlice _ _ _=>2
 | .store _ _ _=>3
 | .mapUpdate _ _ _ _=>3
 | .call c=>kindC c
 | .defer _=>5
 | _=>0
noncomputable def opS (cf:CF) (rc:RC) (rnd:Bool) (N:Nat) (fr:T V) (h:Hp) (ds:List Df) (op:Op):R AD:=match op with
 | .call c=>oCallS cf rc N fr h ds c
 | .defer c=>oDefer rnd N fr h ds c
 | op=>withD ds (opL N fr h op)
structure Dg where
 o:Oper
 g:Option (Option Nat × Bool)
 k:Nat
 m:Nat
def maskOf (acc:List Nat) (o:Oper):Nat:=o.after.toList.foldl (fun s e=>if Region.binds .any e then s ||| 2 ^ e.on ||| acc.getD e.on 0 else s) 0
def guardOf (ops:List Oper) (o:Oper):Option (Option Nat × Bool):=match o.guard with
 | none=>none
 | some (j,w)=>match ops[j]? with
  | some o'=>some (o'.dst,w)
  | none=>some (none,w)
noncomputable def dig (ops:List Oper):List Oper→List Nat→List Dg
 | [],_=>[]
 | o::r,acc=>⟨o,guardOf ops o,kindOp o.op,maskOf acc o⟩::dig ops r (acc++[maskOf acc o])
noncomputable def wants (N:Nat) (fr:T V) (g:Option (Option Nat × Bool)):Option Bool:=match g with
 | none=>some true
 | some (some d,w)=>match fget N fr d with
  | some (.b x)=>some (x == w)
  | some (.t _)=>some false
  | _=>none
 | some (none,_)=>none
structure VX where
 v:V
 x:X
noncomputable def stepA (N:Nat) (fr:T V) (d:Option Nat) (r:R AD):R VX:=r.bind fun q=>AD.rec (motive:=fun _=>R VX) (fun v h ds=>(putD N fr d v).bind fun fr=>.ok ⟨v,⟨fr,h,ds⟩⟩) q
noncomputable def stepO (cf:CF) (rc:RC) (rnd:Bool) (N:Nat) (g:Option (Option Nat × Bool)) (d:Option Nat) (op:Op) (x:X):R VX:=
 X.rec (motive:=fun _=>R VX) (fun fr h ds=>Option.rec (motive:=fun _=>R VX) (.er [152]) (fun b=>Bool.rec (motive:=fun _=>R VX) (stepA N fr d (.ok ⟨.t [],h,ds⟩)) (stepA N fr d (opS cf rc rnd N fr h ds op)) b) (wants N fr g)) x
noncomputable def exO (cf:CF) (rc:RC) (rnd:Bool) (N:Nat) (l:List Dg):X→R X:=
 List.rec (motive:=fun _=>X→R X) (fun x=>.ok x) (fun g _ ih x=>(R.tag (match g.o.dst with | some d=>1000 + d | none=>999) (stepO cf rc rnd N g.g g.o.dst g.o.op x)).bind fun q=>VX.rec (motive:=fun _=>R X) (fun _ x=>ih x) q) l
/-! ### a statement in open order -/
def eq1:V→V→Bool
 | .b x,.b y=>x == y
 | .i k a,.i k' b=>decide (k=k')&&decide (a=b)
 | .s x,.s y=>x.data.toList == y.data.toList
 | .p0,.p0=>true
 | .p m o,.p m' o'=>Nat.beq m m'&&Nat.beq o o'
 | .l0,.l0=>true
 | .l m f o n,.l m' f' o' n'=>Nat.beq m m'&&Nat.beq f f'&&Nat.beq o o'&&Nat.beq n n'
 | .m0,.m0=>true
 | .m m,.m m'=>Nat.beq m m'
 | .f0,.f0=>true
 | .f g [] [],.f g' [] []=>Nat.beq g g'
 | .y m,.y m'=>Nat.beq m m'
 | .i0,.i0=>true
 | _,_=>false
def eqL:List V→List V→Bool
 | [],[]=>true
 | x::r,y::q=>eq1 x y&&eqL r q
 | _,_=>false
def eqW:V→V→Bool
 | .a l,.a l'=>eqL l l'
 | .t l,.t l'=>eqL l l'
 | x,y=>eq1 x y
structure Rs where
 i:Nat
 op:Op
 fr:T V
 v:V
structure An where
 i:Nat
 tm:Nat
 am:Nat
 ht:Hp
 th:List (Nat × Hp)
 rs:List Rs
 x:X
def within (a b:Nat):Bool:=Nat.beq (a &&& b) a
noncomputable def same (N:Nat) (fr:T V) (h:Hp) (op:Op) (v:V):Bool:=R.rec (motive:=fun _=>Bool) (fun q=>A.rec (motive:=fun _=>Bool) (fun u _=>eqW u v) q) (fun _=>false) (opL N fr h op)
noncomputable def thOk (N:Nat) (m:Nat) (fr:T V) (op:Op) (v:V) (th:List (Nat × Hp)):Bool:=List.rec (motive:=fun _=>Bool) true (fun r _ ih=>iteB (m.testBit r.1) ih (iteB (same N fr r.2 op v) ih false)) th
noncomputable def rsOk (N:Nat) (m:Nat) (h:Hp) (rs:List Rs):Bool:=List.rec (motive:=fun _=>Bool) true (fun r _ ih=>iteB (m.testBit r.i) ih (iteB (same N r.fr h r.op r.v) ih false)) rs
def isSome1:Option Bool→Bool
 | some true=>true
 | _=>false
noncomputable def exP (N:Nat) (fr:T V) (d:Option Nat) (op:Op) (b:Bool) (ht:Hp):R VX:=(Bool.rec (motive:=fun _=>R A) (.ok ⟨.t [],ht⟩) (opL N fr ht op) b).bind fun q=>A.rec (motive:=fun _=>R VX) (fun v _=>(putD N fr d v).bind fun fr'=>.ok ⟨v,⟨fr',ht,[]⟩⟩) q
noncomputable def exA1 (cf:CF) (rc:RC) (rnd:Bool) (N:Nat) (d:Option Nat) (op:Op) (b:Bool) (k m:Nat) (i tm am:Nat) (ht:Hp) (th:List (Nat × Hp)) (rs:List Rs) (fr:T V) (h:Hp) (ds:List Df):R An:=match k with
 | 0=>(exP N fr d op b ht).bind fun q=>.ok ⟨Nat.succ i,tm,am,ht,th,rs,⟨q.x.fr,h,ds⟩⟩
 | 1=>(exP N fr d op b ht).bind fun q=>R.when 162 (Bool.rec (motive:=fun _=>Bool) true (thOk N m fr op q.v th) b) (.ok ⟨Nat.succ i,tm,am,ht,th,Bool.rec (motive:=fun _=>List Rs) rs (⟨i,op,fr,q.v⟩::rs) b,⟨q.x.fr,h,ds⟩⟩)
 | 2=>(stepA N fr d (Bool.rec (motive:=fun _=>R AD) (.ok ⟨.t [],h,ds⟩) (withD ds (opL N fr h op)) b)).bind fun q=>R.when 161 (within tm m) (.ok ⟨Nat.succ i,tm,am ||| 2 ^ i,ht,th,rs,q.x⟩)
 | _=>(stepA N fr d (Bool.rec (motive:=fun _=>R AD) (.ok ⟨.t [],h,ds⟩) (opS cf rc rnd N fr h ds op) b)).bind fun q=>R.when 160 (within (tm ||| am) m&&rsOk N m q.x.h rs) (.ok ⟨Nat.succ i,tm ||| 2 ^ i,am,q.x.h,(i,ht)::th,rs,q.x⟩)
noncomputable def exA2 (cf:CF) (rc:RC) (rnd:Bool) (N:Nat) (d:Option Nat) (op:Op) (g:Option (Option Nat × Bool)) (k m:Nat) (i tm am:Nat) (ht:Hp) (th:List (Nat × Hp)) (rs:List Rs) (x:X):R An:=
 X.rec (motive:=fun _=>R An) (fun fr h ds=>Option.rec (motive:=fun _=>R An) (.er [163]) (fun b=>R.tag (match d with | some d=>2000 + d | none=>1999) (exA1 cf rc rnd N d op b k m i tm am ht th rs fr h ds)) (wants N fr g)) x
noncomputable def exA (cf:CF) (rc:RC) (rnd:Bool) (N:Nat) (l:List Dg):An→R An:=
 List.rec (motive:=fun _=>An→R An) (fun s=>.ok s) (fun g _ ih s=>(Dg.rec (motive:=fun _=>R An) (fun o g k m=>An.rec (motive:=fun _=>R An) (fun i tm am ht th rs x=>exA2 cf rc rnd N o.dst o.op g k m i tm am ht th rs x) s) g).bind ih) l
def tmpsO:List Operand→List Nat
 | []=>[]
 | .tmp t::r=>t::tmpsO r
 | _::r=>tmpsO r
def Dg.looks (g:Dg):List Nat:=(match g.g with
 | some (some d,_)=>[d]
 | _=>[])++tmpsO g.o.op.operands.toList
def hasN (l:List Nat) (d:Option Nat):Bool:=match d with
 | some d=>l.any fun t=>Nat.beq t d
 | none=>false
def prevOk (g:Dg) (lk:List Nat):List (Nat × Dg × List Nat)→Bool
 | []=>true
 | (j,p,lp)::r=>(g.m.testBit j || !(hasN lk p.o.dst || hasN lp g.o.dst || hasN g.o.dst.toList p.o.dst))&&prevOk g lk r
def backOk (i:Nat):List Edge→Bool
 | []=>true
 | e::r=>(!Region.binds .any e || Nat.blt e.on i)&&backOk i r
def tmpsOk:List Dg→Nat→List (Nat × Dg × List Nat)→Bool
 | [],_,_=>true
 | g::r,i,acc=>backOk i g.o.after.toList&&prevOk g g.looks acc&&tmpsOk r (i + 1) ((i,g,g.looks)::acc)
abbrev EC:=Bool→Nat→FuncId→Code→X→R (Xt × X)
noncomputable def cSeq (ih:EC) (rnd:Bool) (N:Nat) (fn:FuncId) (b:Code) (q:Xt × X):R (Xt × X):=
 Prod.rec (motive:=fun _=>R (Xt × X)) (fun e x=>Xt.rec (motive:=fun _=>R (Xt × X)) (ih rnd N fn b x) (.ok (.ret,x)) (fun j=>.ok (.exi j,x)) e) q
noncomputable def cCond (ih:EC) (rnd:Bool) (N:Nat) (fn:FuncId) (v:Option V) (a b:Code) (x:X):R (Xt × X):=match v with
 | some (.b true)=>ih rnd N fn a x
 | some (.b false)=>ih rnd N fn b x
 | _=>.er [171]
noncomputable def cBlock (id:Nat) (q:Xt × X):R (Xt × X):=
 Prod.rec (motive:=fun _=>R (Xt × X)) (fun e x=>Xt.rec (motive:=fun _=>R (Xt × X)) (.ok (.nrm,x)) (.ok (.ret,x)) (fun j=>.ok (iteB (Nat.beq j id) .nrm (.exi j),x)) e) q
noncomputable def cRange2 (k:Nat) (x:X) (q:A):R (Xt × X):=match q.h.get (Nat.succ k) with
 | some (.loop true _ _ _ _ _ _ _)=>.ok (.nrm,⟨x.fr,q.h.del (Nat.succ k),.mark k::x.ds⟩)
 | _=>.er [173]
noncomputable def cRange (cf:CF) (rnd:Bool) (N:Nat) (fn:FuncId) (v:Option V) (ps:Array Tmp) (asg body:Code) (x:X):R (Xt × X):=match rnd,v with
 | false,some (.f g pre caps)=>(cf g (pre++[.y (Nat.succ x.h.n)]++caps) ((x.h.new .dfr).new (.loop true x.fr N ps.toList asg body fn x.h.n))).bind fun q=>cRange2 x.h.n x q
 | _,_=>.er [174]
noncomputable def cReg (cf:CF) (rc:RC) (rnd:Bool) (N:Nat) (l:List Dg) (dr:Bool) (x:X):R (Xt × X):=
 Bool.rec (motive:=fun _=>R (Xt × X)) ((exO cf rc rnd N l x).bind fun x=>.ok (.nrm,x)) (R.when 164 (tmpsOk l 0 []) ((exA cf rc rnd N l ⟨0,0,0,x.h,[],[],x⟩).bind fun s=>.ok (.nrm,s.x))) dr
noncomputable def exC1 (cf:CF) (ih:EC) (rnd:Bool) (N:Nat) (fn:FuncId) (c:Code) (x:X):R (Xt × X):=Code.casesOn (motive:=fun _=>R (Xt × X)) c
 (.ok (.nrm,x))
 (fun id ops dr=>R.tag (10000 + id) (cReg cf (fun N c x=>ih true N fn c x) rnd N (dig ops.toList ops.toList []) dr x))
 (fun a b=>(ih rnd N fn a x).bind (cSeq ih rnd N fn b))
 (fun c a b=>cCond ih rnd N fn (xe N x.fr c) a b x)
 (fun id c=>(ih rnd N fn c x).bind (cBlock id))
 (fun c=>(ih rnd N fn c x).bind (cSeq ih rnd N fn (.loop c)))
 (fun f ps asg body=>cRange cf rnd N fn (xe N x.fr f) ps asg body x)
 (fun id=>.ok (.exi id,x))
 (fun _=>.er [175])
 (fun _=>.ok (.nrm,x))
 (fun _=>.er [176])
 (.ok (.ret,x))
 (fun _=>.er [177])
noncomputable def exC (cf:CF) (fuel:Nat):EC:=
 Nat.rec (motive:=fun _=>EC) (fun _ _ _ _ _=>.er [170]) (fun _ ih=>exC1 cf ih) fuel
noncomputable def resV (N:Nat) (fr:T V) (h:Hp):List ResultVar→R (List V)
 | []=>.ok []
 | .tmp t::r=>match fget N fr t with
  | some v=>(resV N fr h r).bind fun l=>.ok (v::l)
  | none=>.er [178]
 | .cell a t::r=>match fget N fr a with
  | some p=>(rd h t p).bind fun v=>(resV N fr h r).bind fun l=>.ok (v::l)
  | none=>.er [179]
def tupV:List V→V
 | [v]=>v
 | l=>.t l
noncomputable def args0 (N:Nat):Nat→List V→T V→T V
 | _,[],t=>t
 | i,v::r,t=>args0 N (Nat.succ i) r (fset N t i v)
noncomputable def exD2 (q:Xt × X):R Hp:=match q.1,q.2.ds with
 | .nrm,[]=>.ok q.2.h
 | .ret,[]=>.ok q.2.h
 | _,_=>.er [181]
noncomputable def exD1 (cf:CF) (fuel:Nat) (g N:Nat) (ops:List Oper) (y:Code) (args:List V) (h:Hp):R Hp:=match ops with
 | [⟨some d0,.call ⟨.builtin .recover,as0,_⟩,_,_,_,none⟩,⟨some d1,.assign (.tmp d2),_,_,_,none⟩]=>
  R.when 180 (Nat.beq d0 d2&&Nat.blt d0 N&&Nat.blt d1 N&&Nat.ble args.length N&&(match as0.toList with | []=>true | _=>false)) ((exC cf fuel false N g y ⟨fset N (fset N (args0 N 0 args .e) d0 .i0) d1 .i0,h,[]⟩).bind exD2)
 | _=>.er [182]
noncomputable def exD0 (cf:CF) (fuel:Nat) (g N:Nat) (c:Option Code) (rs:List ResultVar) (args:List V) (h:Hp):R Hp:=match c,rs with
 | some (.seq (.region _ ops false) y),[]=>exD1 cf fuel g N ops.toList y args h
 | _,_=>.er [183]
noncomputable def exD (cf:CF) (fuel:Nat) (g:FuncId) (args:List V) (h:Hp):R Hp:=match PG.funcs[g]? with
 | some fn => R.when 184 (!(fn.name == "runtime.NumGoroutine")) (exD0 cf fuel g fn.ntmps fn.body fn.results.toList args h)
 | none=>.er [184]
noncomputable def leave (cf:CF) (fuel:Nat):List Df→Hp→R Hp
 | [],h=>.ok h
 | .fn g caps args::ds,h=>(exD cf fuel g (args++caps) h).bind fun h'=>leave cf fuel ds h'
 | .mark m::ds,h=>match h.get m with
  | some .dfr=>leave cf fuel ds (h.del m)
  | _=>.er [185]
noncomputable def leave1 (cf:CF) (fuel:Nat) (q:Xt × X):R Hp:=match q.1 with
 | .exi _=>.er [192]
 | _=>leave cf fuel q.2.ds q.2.h
noncomputable def exF (cf:CF) (fuel:Nat) (g:FuncId) (nm:String) (N:Nat) (rs:List ResultVar) (c:Code) (args:List V) (h:Hp):R A:=
 R.when 191 (!(nm == "runtime.NumGoroutine") && Nat.ble args.length N) ((exC cf fuel false N g c ⟨args0 N 0 args .e, h, []⟩).bind fun q => (leave1 cf fuel q).bind fun h' => (resV N q.2.fr h' rs).bind fun vs => .ok ⟨tupV vs, h'⟩)
noncomputable def exF1 (cf:CF) (fuel:Nat) (g:FuncId) (o:Option Func) (args:List V) (h:Hp):R A:=match o with
 | some fn=>match fn.body with
  | some c=>exF cf fuel g fn.name fn.ntmps fn.results.toList c args h
  | none=>.er [193]
 | none=>.er [194]
noncomputable def exN (fuel:Nat) (d:Nat):CF:=
 Nat.rec (motive:=fun _=>CF) (fun _ _ _=>.er [190]) (fun _ ih g args h=>R.tag (100000 + g) (exF1 ih fuel g PG.funcs[g]? args h)) d
end Go.Proofs.YtbcdgcodnkgdoaaGreat.Run
namespace Go.Proofs.YtbcdgcodnkgdoaaGreat.Run
open Go Go.RowKit
/-! ### tables -/
theorem T.at_put {α:Type} {s:T α} {x:α}:∀ (d:Nat) (t:T α) (k j:Nat),k < 2 ^ d→j < 2 ^ d→(t.put d k s).at j=some x→(j=k∧s.at 0=some x)∨(j≠k∧t.at j=some x):=by
 intro d
 induction d with
 | zero=>
  intro t k j hk hj h
  have hk0:k=0:=by omega
  have hj0:j=0:=by omega
  subst hk0;subst hj0
  exact .inl ⟨rfl,h⟩
 | succ d ih=>
  intro t k j hk hj h
  have e2:2 ^ (d + 1)=2 ^ d * 2:=Nat.pow_succ 2 d
  have hk2:k / 2 < 2 ^ d:=by omega
  have hj2:j / 2 < 2 ^ d:=by omega
  have hat:∀ (l r:T α),(T.nd l r).at j=Bool.rec (motive:=fun _=>Option α) (r.at (Nat.div j 2)) (l.at (Nat.div j 2)) (Nat.beq (Nat.mod j 2) 0):=fun _ _=>rfl
  have hput:t.put (d + 1) k s=Bool.rec (motive:=fun _=>T α) (.nd t.fst (t.snd.put d (Nat.div k 2) s)) (.nd (t.fst.put d (Nat.div k 2) s) t.snd) (Nat.beq (Nat.mod k 2) 0):=rfl
  have ed:∀ a,Nat.div a 2=a / 2:=fun _=>rfl
  have em:∀ a,Nat.mod a 2=a % 2:=fun _=>rfl
  have hfst:∀ y,t.fst.at (j / 2)=some y→j % 2=0→t.at j=some y:=fun y hy hm=>by
   cases t with
   | e=>cases hy
   | lf v=>cases hy
   | nd l r=>
    have hb:Nat.beq (Nat.mod j 2) 0=true:=by rw [em,hm];rfl
    rw [hat,hb];exact hy
  have hsnd:∀ y,t.snd.at (j / 2)=some y→j % 2≠0→t.at j=some y:=fun y hy hm=>by
   cases t with
   | e=>cases hy
   | lf v=>cases hy
   | nd l r=>
    have hb:Nat.beq (Nat.mod j 2) 0=false:=by rw [em,(by omega:j % 2=1)];rfl
    rw [hat,hb];exact hy
  rw [hput] at h
  by_cases hkm:k % 2=0
  ·have hbk:Nat.beq (Nat.mod k 2) 0=true:=by rw [em,hkm];rfl
   rw [hbk] at h
   by_cases hjm:j % 2=0
   ·have hbj:Nat.beq (Nat.mod j 2) 0=true:=by rw [em,hjm];rfl
    rw [show (Bool.rec (motive:=fun _=>T α) (.nd t.fst (t.snd.put d (Nat.div k 2) s)) (.nd (t.fst.put d (Nat.div k 2) s) t.snd) true:T α)=.nd (t.fst.put d (Nat.div k 2) s) t.snd from rfl,hat,hbj] at h
    rcases ih t.fst (k / 2) (j / 2) hk2 hj2 h with ⟨h1,h2⟩ | ⟨h1,h2⟩
    ·exact .inl ⟨by omega,h2⟩
    ·exact .inr ⟨by omega,hfst _ h2 hjm⟩
   ·have hbj:Nat.beq (Nat.mod j 2) 0=false:=by rw [em,(by omega:j % 2=1)];rfl
    rw [show (Bool.rec (motive:=fun _=>T α) (.nd t.fst (t.snd.put d (Nat.div k 2) s)) (.nd (t.fst.put d (Nat.div k 2) s) t.snd) true:T α)=.nd (t.fst.put d (Nat.div k 2) s) t.snd from rfl,hat,hbj] at h
    exact .inr ⟨by omega,hsnd _ h hjm⟩
  ·have hbk:Nat.beq (Nat.mod k 2) 0=false:=by rw [em,(by omega:k % 2=1)];rfl
   rw [hbk] at h
   by_cases hjm:j % 2=0
   ·have hbj:Nat.beq (Nat.mod j 2) 0=true:=by rw [em,hjm];rfl
    rw [show (Bool.rec (motive:=fun _=>T α) (.nd t.fst (t.snd.put d (Nat.div k 2) s)) (.nd (t.fst.put d (Nat.div k 2) s) t.snd) false:T α)=.nd t.fst (t.snd.put d (Nat.div k 2) s) from rfl,hat,hbj] at h
    exact .inr ⟨by omega,hfst _ h hjm⟩
   ·have hbj:Nat.beq (Nat.mod j 2) 0=false:=by rw [em,(by omega:j % 2=1)];rfl
    rw [show (Bool.rec (motive:=fun _=>T α) (.nd t.fst (t.snd.put d (Nat.div k 2) s)) (.nd (t.fst.put d (Nat.div k 2) s) t.snd) false:T α)=.nd t.fst (t.snd.put d (Nat.div k 2) s) from rfl,hat,hbj] at h
    rcases ih t.snd (k / 2) (j / 2) hk2 hj2 h with ⟨h1,h2⟩ | ⟨h1,h2⟩
    ·exact .inl ⟨by omega,h2⟩
    ·exact .inr ⟨by omega,hsnd _ h2 hjm⟩
theorem iteB_none {α:Type} {b:Bool} {o:Option α} {x:α} (h:iteB b o none=some x):b=true∧o=some x:=by
 cases b with
 | true=>exact ⟨rfl,h⟩
 | false=>cases h
theorem blt_lt {a b:Nat} (h:Nat.blt a b=true):a < b:=by simpa [Nat.blt_eq] using h
theorem fget_set {N:Nat} {t:T V} {k j:Nat} {v x:V} (hk:k < N) (h:fget N (fset N t k v) j=some x):(j=k∧x=v)∨(j≠k∧fget N t j=some x):=by
 obtain ⟨hb,h⟩:=iteB_none h
 have hj:=blt_lt hb
 have hp:N < 2 ^ (Nat.log2 N + 1):=Nat.lt_log2_self
 rcases T.at_put (Nat.succ (Nat.log2 N)) t k j (Nat.lt_trans hk hp) (Nat.lt_trans hj hp) h with ⟨h1,h2⟩ | ⟨h1,h2⟩
 ·exact .inl ⟨h1,(Option.some.inj h2).symm⟩
 ·refine .inr ⟨h1,?_⟩
  unfold fget
  rw [hb]
  exact h2
theorem hput_at {t s:T B} {k j:Nat} {x:B} (hj:j < 4096) (h:(hput t k s).at j=some x):(j=k∧s.at 0=some x)∨(j≠k∧t.at j=some x):=by
 unfold hput at h
 cases hb:Nat.blt k 4096 with
 | true=>
  rw [hb] at h
  exact T.at_put 12 t k j (blt_lt hb) hj h
 | false=>
  rw [hb] at h
  refine .inr ⟨fun e=>?_,h⟩
  subst e
  have:Nat.blt j 4096=true:=by simpa [Nat.blt_eq] using hj
  rw [this] at hb
  cases hb
theorem Hp.get_eq (h:Hp) (k:Nat):h.get k=iteB (Nat.blt k 4096) (h.t.at k) none:=rfl
theorem Hp.get_set {h:Hp} {k j:Nat} {b x:B} (e:(h.set k b).get j=some x):(j=k∧x=b)∨(j≠k∧h.get j=some x):=by
 rw [Hp.get_eq] at e
 obtain ⟨hb,e⟩:=iteB_none e
 rcases hput_at (blt_lt hb) e with ⟨h1,h2⟩ | ⟨h1,h2⟩
 ·exact .inl ⟨h1,(Option.some.inj h2).symm⟩
 ·exact .inr ⟨h1,by rw [Hp.get_eq,hb];exact h2⟩
theorem Hp.get_del {h:Hp} {k j:Nat} {x:B} (e:(h.del k).get j=some x):j≠k∧h.get j=some x:=by
 rw [Hp.get_eq] at e
 obtain ⟨hb,e⟩:=iteB_none e
 rcases hput_at (blt_lt hb) e with ⟨h1,h2⟩ | ⟨h1,h2⟩
 ·cases h2
 ·exact ⟨h1,by rw [Hp.get_eq,hb];exact h2⟩
theorem Hp.get_new {h:Hp} {j:Nat} {b x:B} (e:(h.new b).get j=some x):(j=h.n∧x=b)∨(j≠h.n∧h.get j=some x):=by
 rw [Hp.get_eq] at e
 obtain ⟨hb,e⟩:=iteB_none e
 rcases hput_at (blt_lt hb) e with ⟨h1,h2⟩ | ⟨h1,h2⟩
 ·exact .inl ⟨h1,(Option.some.inj h2).symm⟩
 ·exact .inr ⟨h1,by rw [Hp.get_eq,hb];exact h2⟩
@[simp] theorem Hp.n_set (h:Hp) (k:Nat) (b:B):(h.set k b).n=h.n:=rfl
@[simp] theorem Hp.n_del (h:Hp) (k:Nat):(h.del k).n=h.n:=rfl
@[simp] theorem Hp.n_new (h:Hp) (b:B):(h.new b).n=h.n + 1:=rfl
/-! ### names -/
abbrev Sg:=Nat→Option (Nat × Nat)
def Sg.le (σ τ:Sg):Prop:=∀ k q,σ k=some q→τ k=some q
theorem Sg.le.refl (σ:Sg):σ.le σ:=fun _ _ h=>h
theorem Sg.le.trans {σ τ ρ:Sg} (h:σ.le τ) (k:τ.le ρ):σ.le ρ:=fun i q e=>k i q (h i q e)
def Sg.add (σ:Sg) (k:Nat) (q:Nat × Nat):Sg:=fun j=>if j=k then some q else σ j
theorem Sg.le_add {σ:Sg} {k:Nat} {q:Nat × Nat} (h:σ k=none):σ.le (σ.add k q):=fun j r e=>by
 unfold Sg.add
 split
 ·rename_i hj;rw [hj,h] at e;cases e
 ·exact e
theorem Sg.add_self (σ:Sg) (k:Nat) (q:Nat × Nat):σ.add k q k=some q:=by simp [Sg.add]
mutual
def den (σ:Sg):V→Option Value
 | .b x=>some (.bool x)
 | .i k n=>some (.int k n)
 | .s x=>some (.string x)
 | .p0=>some (.pointer none)
 | .p m o=>match σ m with
  | some q=>some (.pointer (some ⟨q.1,o,none⟩))
  | none=>none
 | .l0=>some (.slice none 0 0)
 | .l m off o n=>match σ m with
  | some q=>some (.slice (some ⟨q.1,off,none⟩) n (q.2 - o))
  | none=>none
 | .m0=>some (.map none)
 | .m m=>match σ m with
  | some q=>some (.map (some q.1))
  | none=>none
 | .f0=>some .nilFunc
 | .f g pre caps=>match denL σ pre with
  | some a=>match denL σ caps with
   | some b=>some (.func (.func g) a.toArray b.toArray)
   | none=>none
  | none=>none
 | .y m=>match σ m with
  | some q=>some (.func (.yield q.1) #[] #[])
  | none=>none
 | .i0=>some .nilIface
 | .a l=>match denL σ l with
  | some c=>some (.agg c.toArray)
  | none=>none
 | .t l=>match denL σ l with
  | some c=>some (.tuple c.toArray)
  | none=>none
def denL (σ:Sg):List V→Option (List Value)
 | []=>some []
 | v::r=>match den σ v with
  | some x=>match denL σ r with
   | some l=>some (x::l)
   | none=>none
  | none=>none
end
theorem denL_eq (σ:Sg) (v:V) (r:List V):denL σ (v::r)=(match den σ v with
 | some x=>match denL σ r with
  | some l=>some (x::l)
  | none=>none
 | none=>none):=by rw [denL]
theorem denL_cons {σ:Sg} {v:V} {r:List V} {l:List Value}:denL σ (v::r)=some l↔∃ x a,den σ v=some x∧denL σ r=some a∧l=x::a:=by
 rw [denL_eq]
 constructor
 ·intro h
  cases hv:den σ v with
  | none=>rw [hv] at h;cases h
  | some x=>
   rw [hv] at h
   cases hr:denL σ r with
   | none=>rw [hr] at h;cases h
   | some a=>rw [hr] at h;exact ⟨x,a,rfl,rfl,(Option.some.inj h).symm⟩
 ·rintro ⟨x,a,h1,h2,rfl⟩
  rw [h1,h2]
@[simp] theorem denL_nil {σ:Sg}:denL σ []=some []:=by rw [denL]
mutual
theorem den_mono {σ τ:Sg} (h:σ.le τ):∀ (v:V) (x:Value),den σ v=some x→den τ v=some x
 | .b _,_,e=>e
 | .i _ _,_,e=>e
 | .s _,_,e=>e
 | .p0,_,e=>e
 | .l0,_,e=>e
 | .m0,_,e=>e
 | .f0,_,e=>e
 | .i0,_,e=>e
 | .p m o,x,e=>by
  unfold den at e ⊢
  cases hm:σ m with
  | none=>rw [hm] at e;cases e
  | some q=>rw [hm] at e;rw [h m q hm];exact e
 | .l m off o n,x,e=>by
  unfold den at e ⊢
  cases hm:σ m with
  | none=>rw [hm] at e;cases e
  | some q=>rw [hm] at e;rw [h m q hm];exact e
 | .m m,x,e=>by
  unfold den at e ⊢
  cases hm:σ m with
  | none=>rw [hm] at e;cases e
  | some q=>rw [hm] at e;rw [h m q hm];exact e
 | .y m,x,e=>by
  unfold den at e ⊢
  cases hm:σ m with
  | none=>rw [hm] at e;cases e
  | some q=>rw [hm] at e;rw [h m q hm];exact e
 | .f g pre caps,x,e=>by
  unfold den at e ⊢
  cases h1:denL σ pre with
  | none=>rw [h1] at e;cases e
  | some a=>
   rw [h1] at e
   cases h2:denL σ caps with
   | none=>rw [h2] at e;cases e
   | some b=>
    rw [h2] at e
    rw [denL_mono h pre a h1,denL_mono h caps b h2]
    exact e
 | .a l,x,e=>by
  unfold den at e ⊢
  cases h1:denL σ l with
  | none=>rw [h1] at e;cases e
  | some a=>rw [h1] at e;rw [denL_mono h l a h1];exact e
 | .t l,x,e=>by
  unfold den at e ⊢
  cases h1:denL σ l with
  | none=>rw [h1] at e;cases e
  | some a=>rw [h1] at e;rw [denL_mono h l a h1];exact e
theorem denL_mono {σ τ:Sg} (h:σ.le τ):∀ (l:List V) (a:List Value),denL σ l=some a→denL τ l=some a
 | [],_,e=>by simpa using e
 | v::r,a,e=>by
  obtain ⟨x,b,h1,h2,rfl⟩:=denL_cons.1 e
  exact denL_cons.2 ⟨x,b,den_mono h v x h1,denL_mono h r b h2,rfl⟩
end
theorem denL_len {σ:Sg}:∀ {l:List V} {a:List Value},denL σ l=some a→a.length=l.length:=by
 intro l
 induction l with
 | nil=>intro a h;simp at h;simp [← h]
 | cons v r ih=>intro a h;obtain ⟨x,b,_,h2,rfl⟩:=denL_cons.1 h;simp [ih h2]
theorem denL_at {σ:Sg}:∀ {l:List V} {a:List Value} {i:Nat} {v:V},denL σ l=some a→l[i]?=some v→∃ x,a[i]?=some x∧den σ v=some x:=by
 intro l
 induction l with
 | nil=>intro a i v _ h;simp at h
 | cons u r ih=>
  intro a i v h hi
  obtain ⟨x,b,h1,h2,rfl⟩:=denL_cons.1 h
  cases i with
  | zero=>simp at hi;subst hi;exact ⟨x,by simp,h1⟩
  | succ i=>simpa using ih h2 (by simpa using hi)
theorem denL_append {σ:Sg}:∀ {l m:List V} {a b:List Value},denL σ l=some a→denL σ m=some b→denL σ (l++m)=some (a++b):=by
 intro l
 induction l with
 | nil=>intro m a b h k;simp at h;subst h;simpa using k
 | cons v r ih=>intro m a b h k;obtain ⟨x,c,h1,h2,rfl⟩:=denL_cons.1 h;exact denL_cons.2 ⟨x,c++b,h1,ih h2 k,rfl⟩
theorem denL_take {σ:Sg} (n:Nat):∀ {l:List V} {a:List Value},denL σ l=some a→denL σ (l.take n)=some (a.take n):=by
 induction n with
 | zero=>intro l a h;simp
 | succ n ih=>
  intro l a h
  cases l with
  | nil=>simp at h;subst h;simp
  | cons v r=>obtain ⟨x,c,h1,h2,rfl⟩:=denL_cons.1 h;exact denL_cons.2 ⟨x,c.take n,h1,ih h2,rfl⟩
theorem denL_drop {σ:Sg} (n:Nat):∀ {l:List V} {a:List Value},denL σ l=some a→denL σ (l.drop n)=some (a.drop n):=by
 induction n with
 | zero=>intro l a h;simpa using h
 | succ n ih=>
  intro l a h
  cases l with
  | nil=>simp at h;subst h;simp
  | cons v r=>obtain ⟨x,c,h1,h2,rfl⟩:=denL_cons.1 h;simpa using ih h2
theorem over_eq {c vs:List V} {o:Nat} (h:o + vs.length≤c.length):over c o vs=c.take o++vs++c.drop (o + vs.length):=by
 unfold over
 split
 ·rename_i v
  simp only [List.length_cons,List.length_nil] at h ⊢
  rw [List.set_eq_take_append_cons_drop,if_pos (by omega)]
  simp
 ·rfl
theorem denL_over {σ:Sg} {c vs:List V} {o:Nat} {c' vs':List Value} (h:o + vs.length≤c.length) (h1:denL σ c=some c') (h2:denL σ vs=some vs'):denL σ (over c o vs)=some (c'.take o++vs'++c'.drop (o + vs'.length)):=by
 rw [over_eq h,denL_len h2]
 exact denL_append (denL_append (denL_take _ h1) h2) (denL_drop _ h1)
theorem over_length {c vs:List V} {o:Nat} (h:o + vs.length≤c.length):(over c o vs).length=c.length:=by
 rw [over_eq h];simp;omega
theorem ofV1_den {σ:Sg} {x:Value} {v:V} (h:ofV1 x=some v):den σ v=some x:=by
 unfold ofV1 at h
 split at h <;> first | (cases h;done) | (obtain rfl:=Option.some.inj h;simp [den])
theorem ofVs_den {σ:Sg}:∀ {l:List Value} {c:List V},ofVs l=some c→denL σ c=some l:=by
 intro l
 induction l with
 | nil=>intro c h;simp [ofVs] at h;subst h;simp
 | cons x r ih=>
  intro c h
  unfold ofVs at h
  cases h1:ofV1 x with
  | none=>rw [h1] at h;cases h
  | some v=>
   rw [h1] at h
   cases h2:ofVs r with
   | none=>rw [h2] at h;cases h
   | some d=>
    rw [h2] at h
    obtain rfl:=Option.some.inj h
    exact denL_cons.2 ⟨x,r,ofV1_den h1,ih h2,rfl⟩
theorem ofV_den {σ:Sg} {x:Value} {v:V} (h:ofV x=some v):den σ v=some x:=by
 unfold ofV at h
 split at h
 ·rename_i cs
  cases h1:ofVs cs.toList with
  | none=>rw [h1] at h;cases h
  | some l=>rw [h1] at h;obtain rfl:=Option.some.inj h;simp [den,ofVs_den h1]
 ·rename_i cs
  split at h
  ·rename_i hc;obtain rfl:=Option.some.inj h;simp [den];rw [← Array.toList_inj];simp [hc]
  ·cases h
 ·rename_i g pre caps
  split at h
  ·rename_i h1 h2
   obtain rfl:=Option.some.inj h
   simp [den]
   constructor
   ·rw [← Array.toList_inj];simp [h1]
   ·rw [← Array.toList_inj];simp [h2]
  ·cases h
 ·exact ofV1_den h
theorem one_den {σ:Sg} {v:V} {x:Value} (h:den σ v=some x) (h1:v.one=true):x.oneCell'=true:=by
 cases v <;> first
  | (simp [V.one] at h1;done)
  | (unfold den at h;revert h;first | (intro h;obtain rfl:=Option.some.inj h;rfl) | (split <;> intro h <;> first | (cases h;done) | (obtain rfl:=Option.some.inj h;rfl) | (revert h;split <;> intro h <;> first | (cases h;done) | (obtain rfl:=Option.some.inj h;rfl))))
theorem ones_den {σ:Sg}:∀ {l:List V} {a:List Value},denL σ l=some a→l.all V.one=true→∀ x∈a,x.oneCell'=true:=by
 intro l
 induction l with
 | nil=>intro a h _ x hx;simp at h;subst h;simp at hx
 | cons v r ih=>
  intro a h h1 x hx
  obtain ⟨y,b,h2,h3,rfl⟩:=denL_cons.1 h
  simp only [List.all_cons,Bool.and_eq_true] at h1
  rcases List.mem_cons.1 hx with rfl | hx
  ·exact one_den h2 h1.1
  ·exact ih h3 h1.2 x hx
end Go.Proofs.YtbcdgcodnkgdoaaGreat.Run
namespace Go.Proofs.YtbcdgcodnkgdoaaGreat.Run
open Go Go.RowKit
def fzOk (fz:Nat × Nat) (n:Nat):Prop:=fz.1=fz.2∨n≤fz.1
structure FrR (σ:Sg) (N:Nat) (fr:T V) (tmps:Array Value):Prop where
 size:tmps.size=N
 at_:∀ k v,fget N fr k=some v→∃ x,den σ v=some x∧tmps[k]?=some x
theorem FrR.mono {σ τ:Sg} {N:Nat} {fr:T V} {tmps:Array Value} (h:FrR σ N fr tmps) (le:σ.le τ):FrR τ N fr tmps:=
 ⟨h.size,fun k v hk=>let ⟨x,h1,h2⟩:=h.at_ k v hk;⟨x,den_mono le v x h1,h2⟩⟩
theorem FrR.put {σ:Sg} {N:Nat} {fr:T V} {tmps:Array Value} (h:FrR σ N fr tmps) {d:Nat} {v:V} {x:Value} (hd:d < N) (hv:den σ v=some x):FrR σ N (fset N fr d v) (tmps.setIfInBounds d x):=by
 refine ⟨by simp [h.size],fun k u hk=>?_⟩
 rcases fget_set hd hk with ⟨rfl,rfl⟩ | ⟨hne,hk⟩
 ·exact ⟨x,hv,by simp [h.size,hd]⟩
 ·obtain ⟨y,h1,h2⟩:=h.at_ k u hk
  exact ⟨y,h1,by rw [Array.getElem?_setIfInBounds_ne (Ne.symm hne)];exact h2⟩
def ents (σ:Sg):List (V × V)→List MapEntry→Prop
 | [],[]=>True
 | e::r,m::q=>den σ e.1=some m.key∧den σ e.2=some m.val∧ents σ r q
 | _,_=>False
theorem ents.mono {σ τ:Sg} (le:σ.le τ):∀ {es:List (V × V)} {ms:List MapEntry},ents σ es ms→ents τ es ms:=by
 intro es
 induction es with
 | nil=>intro ms h;cases ms <;> exact h
 | cons e r ih=>
  intro ms h
  cases ms with
  | nil=>exact h.elim
  | cons m q=>exact ⟨den_mono le _ _ h.1,den_mono le _ _ h.2.1,ih h.2.2⟩
def obj (σ:Sg):B→Nat × Nat→Obj→Prop
 | .cells c t,q,o=>∃ c' fz,denL σ c=some c'∧o=.cells c'.toArray t fz∧fzOk fz c'.length∧q.2=c.length
 | .buf c t,q,o=>∃ c' rest fz sz,szt t=some sz∧denL σ c=some c'∧o=.cells (c'++rest).toArray t fz∧fzOk fz (c'++rest).length∧(c'++rest).length=q.2 * sz∧q.2≤maxN
 | .map es,q,o=>∃ ms clock,ents σ es ms∧o=.map ms.toArray clock
 | .loop ready fr N ps asg body _ d,q,o=>∃ tmps dq fn,FrR σ N fr tmps∧σ d=some dq∧o=.loop { state:=if ready then .ready else .busy,pending:=none,fn:=fn,tmps:=tmps,params:=ps.toArray,assign:=asg,body:=body,defers:=dq.1 }
 | .dfr,q,o=>o=.deferred (some [])
theorem obj.mono {σ τ:Sg} (le:σ.le τ):∀ {b:B} {q:Nat × Nat} {o:Obj},obj σ b q o→obj τ b q o
 | .cells c t,q,o,⟨c',fz,h1,h2⟩=>⟨c',fz,denL_mono le _ _ h1,h2⟩
 | .buf c t,q,o,⟨c',rest,fz,sz,h0,h1,h2⟩=>⟨c',rest,fz,sz,h0,denL_mono le _ _ h1,h2⟩
 | .map es,q,o,⟨ms,clock,h1,h2⟩=>⟨ms,clock,h1.mono le,h2⟩
 | .loop ..,q,o,⟨tmps,dq,fn,h1,h2,h3⟩=>⟨tmps,dq,fn,h1.mono le,le _ _ h2,h3⟩
 | .dfr,q,o,h=>h
structure DenG (w0:World) (σ:Sg) (g:Nat→Option B) (w:World):Prop where
 kp:Keeps No w0 w
 low:∀ k q,σ k=some q→w0.heap.size≤q.1∧q.1 < w.heap.size
 obj:∀ k b,g k=some b→∃ q o,σ k=some q∧w.heap[q.1]?=some o∧Run.obj σ b q o
 inj:∀ j k a b q r,g j=some a→g k=some b→σ j=some q→σ k=some r→q.1=r.1→j=k
structure Den (w0:World) (σ:Sg) (h:Hp) (w:World):Prop where
 g:DenG w0 σ h.get w
 up:∀ k,h.n≤k→σ k=none
theorem DenG.sub {w0 w:World} {σ:Sg} {g g':Nat→Option B} (H:DenG w0 σ g w) (hs:∀ k b,g' k=some b→g k=some b):DenG w0 σ g' w:=
 ⟨H.kp,H.low,fun k b hk=>H.obj k b (hs k b hk),fun j k a b q r hj hk=>H.inj j k a b q r (hs _ _ hj) (hs _ _ hk)⟩
structure Turns (w w':World) (b:Nat) (o:Obj):Prop where
 os:w'.os=w.os
 tape:w'.tape=w.tape
 output:w'.output=w.output
 size:w'.heap.size=w.heap.size
 at_:w'.heap[b]?=some o
 block:∀ i,i≠b→w'.heap[i]?=w.heap[i]?
theorem DenG.turn {w0 w w':World} {σ:Sg} {g g':Nat→Option B} {k:Nat} {b b':B} {q:Nat × Nat} {o:Obj} (H:DenG w0 σ g w) (hk:g k=some b) (hq:σ k=some q) (ht:Turns w w' q.1 o) (ho:Run.obj σ b' q o)
 (hg:∀ j c,g' j=some c→(j=k∧c=b')∨(j≠k∧g j=some c)):DenG w0 σ g' w':=by
 have hlow:=H.low k q hq
 refine ⟨⟨ht.os.trans H.kp.os,ht.tape.trans H.kp.tape,ht.output.trans H.kp.output,by rw [ht.size];exact H.kp.size,fun i hi hn=>by rw [ht.block i (by omega)];exact H.kp.block i hi hn⟩,fun j r hr=>by rw [ht.size];exact H.low j r hr,fun j c hj=>?_,fun i j a c r s hi hj hr hs e=>?_⟩
 ·rcases hg j c hj with ⟨rfl,rfl⟩ | ⟨hne,hj⟩
  ·exact ⟨q,o,hq,ht.at_,ho⟩
  ·obtain ⟨r,o',h1,h2,h3⟩:=H.obj j c hj
   refine ⟨r,o',h1,?_,h3⟩
   rw [ht.block r.1 (fun e=>hne (H.inj j k c b r q hj hk h1 hq e))]
   exact h2
 ·have key:∀ i a,g' i=some a→∃ a',g i=some a':=fun i a hi=>by
   rcases hg i a hi with ⟨rfl,_⟩ | ⟨_,hi⟩
   ·exact ⟨b,hk⟩
   ·exact ⟨a,hi⟩
  obtain ⟨a',ha⟩:=key i a hi
  obtain ⟨c',hc⟩:=key j c hj
  exact H.inj i j a' c' r s ha hc hr hs e
theorem Den.turn {w0 w w':World} {σ:Sg} {h:Hp} {k:Nat} {b b':B} {q:Nat × Nat} {o:Obj} (H:Den w0 σ h w) (hk:h.get k=some b) (hq:σ k=some q) (ht:Turns w w' q.1 o) (ho:Run.obj σ b' q o):Den w0 σ (h.set k b') w':=
 ⟨H.g.turn hk hq ht ho (fun _ _=>Hp.get_set),H.up⟩
theorem Den.del {w0 w:World} {σ:Sg} {h:Hp} (H:Den w0 σ h w) (k:Nat):Den w0 σ (h.del k) w:=
 ⟨H.g.sub (fun j c hj=>(Hp.get_del hj).2),H.up⟩
theorem DenG.drew {w0 w:World} {σ:Sg} {g:Nat→Option B} (H:DenG w0 σ g w):DenG w0 σ g w.drew:=
 ⟨H.kp.trans (Keeps.drew No w) (fun _ hb=>hb.elim),H.low,H.obj,H.inj⟩
theorem Den.drew {w0 w:World} {σ:Sg} {h:Hp} (H:Den w0 σ h w):Den w0 σ h w.drew:=⟨H.g.drew,H.up⟩
theorem heap_alloc_old (w:World) (o:Obj) {i:Nat} (h:i < w.heap.size):(w.alloc o).heap[i]?=w.heap[i]?:=by
 show (w.heap.push o)[i]?=_
 rw [Array.getElem?_push];simp [Nat.ne_of_lt h]
theorem heap_alloc_new (w:World) (o:Obj):(w.alloc o).heap[w.heap.size]?=some o:=by
 show (w.heap.push o)[w.heap.size]?=some o
 simp
theorem heap_alloc_size (w:World) (o:Obj):(w.alloc o).heap.size=w.heap.size + 1:=by
 show (w.heap.push o).size=_
 simp
theorem DenG.new {w0 w:World} {σ:Sg} {g g':Nat→Option B} {n:Nat} {b:B} {o:Obj} {cap:Nat} (H:DenG w0 σ g w) (hn:σ n=none) (ho:Run.obj (σ.add n (w.heap.size,cap)) b (w.heap.size,cap) o)
 (hg:∀ j c,g' j=some c→(j=n∧c=b)∨(j≠n∧g j=some c)):DenG w0 (σ.add n (w.heap.size,cap)) g' (w.alloc o):=by
 have le:=Sg.le_add (q:=(w.heap.size,cap)) hn
 have hsz:=heap_alloc_size w o
 refine ⟨H.kp.trans (Keeps.alloc No w o) (fun _ hb=>hb.elim),fun k q hq=>?_,fun j c hj=>?_,fun i j a c q r hi hj hq hr e=>?_⟩
 ·unfold Sg.add at hq
  split at hq
  ·obtain rfl:=Option.some.inj hq
   exact ⟨H.kp.size,by rw [hsz];exact Nat.lt_succ_self _⟩
  ·have:=H.low k q hq
   exact ⟨this.1,by rw [hsz];omega⟩
 ·rcases hg j c hj with ⟨rfl,rfl⟩ | ⟨hne,hj⟩
  ·exact ⟨(w.heap.size,cap),o,Sg.add_self _ _ _,heap_alloc_new w o,ho⟩
  ·obtain ⟨q,o',h1,h2,h3⟩:=H.obj j c hj
   exact ⟨q,o',le _ _ h1,by rw [heap_alloc_old w o (H.low j q h1).2];exact h2,h3.mono le⟩
 ·have key:∀ i a q,g' i=some a→(σ.add n (w.heap.size,cap)) i=some q→(i=n∧q.1=w.heap.size)∨(i≠n∧g i=some a∧σ i=some q∧q.1 < w.heap.size):=fun i a q hi hq=>by
   rcases hg i a hi with ⟨rfl,rfl⟩ | ⟨hne,hi⟩
   ·rw [Sg.add_self] at hq
    obtain rfl:=Option.some.inj hq
    exact .inl ⟨rfl,rfl⟩
   ·unfold Sg.add at hq
    rw [if_neg hne] at hq
    exact .inr ⟨hne,hi,hq,(H.low i q hq).2⟩
  rcases key i a q hi hq with ⟨h1,h2⟩ | ⟨h1,h2,h3,h4⟩ <;> rcases key j c r hj hr with ⟨k1,k2⟩ | ⟨k1,k2,k3,k4⟩
  ·rw [h1,k1]
  ·omega
  ·omega
  ·exact H.inj i j a c q r h2 k2 h3 k3 e
theorem Den.new {w0 w:World} {σ:Sg} {h:Hp} {b:B} {o:Obj} {cap:Nat} (H:Den w0 σ h w) (ho:Run.obj (σ.add h.n (w.heap.size,cap)) b (w.heap.size,cap) o):
 σ.le (σ.add h.n (w.heap.size,cap))∧Den w0 (σ.add h.n (w.heap.size,cap)) (h.new b) (w.alloc o):=by
 have hn:σ h.n=none:=H.up h.n (Nat.le_refl _)
 refine ⟨Sg.le_add hn,H.g.new hn ho (fun _ _=>Hp.get_new),fun k hk=>?_⟩
 simp at hk
 unfold Sg.add
 rw [if_neg (by omega)]
 exact H.up k (by omega)
/-! ### rows -/
theorem row_of {h:Hp} {m:Nat} {c:List V} (e:h.row m=some c):∃ t,h.get m=some (.cells c t)∨h.get m=some (.buf c t):=by
 unfold Hp.row at e
 cases hg:h.get m with
 | none=>rw [hg] at e;cases e
 | some b=>
  rw [hg] at e
  cases b with
  | cells d t=>obtain rfl:=Option.some.inj e;exact ⟨t,.inl rfl⟩
  | buf d t=>obtain rfl:=Option.some.inj e;exact ⟨t,.inr rfl⟩
  | map _=>cases e
  | loop=>cases e
  | dfr=>cases e
theorem DenG.row {w0 w:World} {σ:Sg} {h:Hp} {m:Nat} {c:List V} (H:DenG w0 σ h.get w) (e:h.row m=some c):
 ∃ q c' rest t fz,σ m=some q∧denL σ c=some c'∧w.heap[q.1]?=some (.cells (c'++rest).toArray t fz)∧fzOk fz (c'++rest).length:=by
 obtain ⟨t,hg | hg⟩:=row_of e
 ·obtain ⟨q,o,h1,h2,c',fz,h3,rfl,h4,_⟩:=H.obj m _ hg
  exact ⟨q,c',[],t,fz,h1,h3,by simpa using h2,by simpa using h4⟩
 ·obtain ⟨q,o,h1,h2,c',rest,fz,sz,_,h3,rfl,h4,_⟩:=H.obj m _ hg
  exact ⟨q,c',rest,t,fz,h1,h3,h2,h4⟩
theorem cell_row {w:World} {b:Nat} {l:List Value} {t:TypeId} {fz:Nat × Nat} (h:w.heap[b]?=some (.cells l.toArray t fz)) (o:Nat):w.cell? ⟨b,o,none⟩=l[o]?:=by
 simp [World.cell?,h]
theorem cells_row {w:World} {b:Nat} {l r:List Value} {t:TypeId} {fz:Nat × Nat} (h:w.heap[b]?=some (.cells (l++r).toArray t fz)) (o:Nat):CellsAt w b o (l.drop o):=fun i v hv=>by
 rw [cell_row h,List.getElem?_append_left]
 ·rw [List.getElem?_drop] at hv;exact hv
 ·rw [List.getElem?_drop] at hv;exact (List.getElem?_eq_some_iff.1 hv).1
theorem unfrozen_row {w:World} {b:Nat} {l:List Value} {t:TypeId} {fz:Nat × Nat} (h:w.heap[b]?=some (.cells l.toArray t fz)) (hf:fzOk fz l.length) (o:Nat) (ho:o < l.length):w.frozen? ⟨b,o,none⟩=false:=by
 simp only [World.frozen?,h]
 rcases hf with hf | hf
 ·rw [Bool.and_eq_false_iff]
  by_cases h1:fz.1≤o
  ·exact .inr (by simp;omega)
  ·exact .inl (by simpa using h1)
 ·rw [Bool.and_eq_false_iff]
  exact .inl (by simp;omega)
theorem heap_setCells {b:Nat} {t:TypeId} {fz:Nat × Nat}:∀ (vs:List Value) (o:Nat) (w:World) (l:List Value),w.heap[b]?=some (.cells l.toArray t fz)→o + vs.length≤l.length→
 (w.setCells b o vs).heap[b]?=some (.cells (l.take o++vs++l.drop (o + vs.length)).toArray t fz):=by
 intro vs
 induction vs with
 | nil=>intro o w l h _;simpa [World.setCells] using h
 | cons v vs ih=>
  intro o w l h hl
  simp only [List.length_cons] at hl
  have h1:(w.setCell ⟨b,o,none⟩ v).heap[b]?=some (.cells (l.set o v).toArray t fz):=by simp [World.setCell,Array.getElem?_modify,h]
  rw [World.setCells,ih (o + 1) _ (l.set o v) h1 (by simp;omega)]
  congr 3
  rw [List.drop_set_of_lt (by omega),List.take_set,List.take_succ_eq_append_getElem (by omega),List.set_append_right _ _ (by simp;omega)]
  simp [Nat.min_eq_left (show o≤l.length by omega),Nat.add_assoc,Nat.add_comm 1]
theorem size_setCells' (b:Nat):∀ (vs:List Value) (o:Nat) (w:World),(w.setCells b o vs).heap.size=w.heap.size:=by
 intro vs
 induction vs with
 | nil=>intro o w;rfl
 | cons v vs ih=>intro o w;rw [World.setCells,ih,heap_set_size]
theorem other_setCells (b:Nat):∀ (vs:List Value) (o:Nat) (w:World) (i:Nat),i≠b→(w.setCells b o vs).heap[i]?=w.heap[i]?:=by
 intro vs
 induction vs with
 | nil=>intro o w i _;rfl
 | cons v vs ih=>intro o w i hi;rw [World.setCells,ih _ _ _ hi,heap_set_ne _ _ _ _ hi]
theorem quiet_setCells (b:Nat):∀ (vs:List Value) (o:Nat) (w:World),(w.setCells b o vs).os=w.os∧(w.setCells b o vs).tape=w.tape∧(w.setCells b o vs).output=w.output:=by
 intro vs
 induction vs with
 | nil=>intro o w;exact ⟨rfl,rfl,rfl⟩
 | cons v vs ih=>intro o w;exact ih _ _
theorem turns_setCells {b:Nat} {t:TypeId} {fz:Nat × Nat} {vs:List Value} {o:Nat} {w:World} {l:List Value} (h:w.heap[b]?=some (.cells l.toArray t fz)) (hl:o + vs.length≤l.length):
 Turns w (w.setCells b o vs) b (.cells (l.take o++vs++l.drop (o + vs.length)).toArray t fz):=
 ⟨(quiet_setCells b vs o w).1,(quiet_setCells b vs o w).2.1,(quiet_setCells b vs o w).2.2,size_setCells' b vs o w,heap_setCells vs o w l h hl,other_setCells b vs o w⟩
theorem Den.write {w0 w:World} {σ:Sg} {h:Hp} {m o:Nat} {c vs:List V} {vs':List Value} {q:Nat × Nat} (H:Den w0 σ h w) (e:h.row m=some c) (hq:σ m=some q) (hv:denL σ vs=some vs') (hl:o + vs.length≤c.length):
 Den w0 σ (h.setRow m (over c o vs)) (w.setCells q.1 o vs'):=by
 have hvl:=denL_len hv
 obtain ⟨t,hg | hg⟩:=row_of e
 ·obtain ⟨q',o',h1,h2,c',fz,h3,rfl,h4,h5⟩:=H.g.obj m _ hg
  rw [hq] at h1;obtain rfl:=Option.some.inj h1
  have hcl:=denL_len h3
  have hs:h.setRow m (over c o vs)=h.set m (.cells (over c o vs) t):=by unfold Hp.setRow;rw [hg]
  rw [hs]
  refine H.turn hg hq (turns_setCells h2 (by omega)) ⟨_,fz,denL_over hl h3 hv,rfl,?_,by rw [over_length hl];exact h5⟩
  have:(c'.take o++vs'++c'.drop (o + vs'.length)).length=c'.length:=by simp;omega
  rw [this];exact h4
 ·obtain ⟨q',o',h1,h2,c',rest,fz,sz,h0,h3,rfl,h4,h5,h6⟩:=H.g.obj m _ hg
  rw [hq] at h1;obtain rfl:=Option.some.inj h1
  have hcl:=denL_len h3
  have hs:h.setRow m (over c o vs)=h.set m (.buf (over c o vs) t):=by unfold Hp.setRow;rw [hg]
  rw [hs]
  have e1:(c'++rest).take o++vs'++(c'++rest).drop (o + vs'.length)=(c'.take o++vs'++c'.drop (o + vs'.length))++rest:=by
   rw [List.take_append_of_le_length (by omega),List.drop_append_of_le_length (by omega)]
   simp
  have e2:(c'.take o++vs'++c'.drop (o + vs'.length)).length=c'.length:=by simp;omega
  refine H.turn hg hq (turns_setCells h2 (by simp;omega)) ⟨_,rest,fz,sz,h0,denL_over hl h3 hv,by rw [e1],?_,?_,h6⟩
  ·rw [List.length_append,e2,← List.length_append];exact h4
  ·rw [List.length_append,e2,← List.length_append];exact h5
theorem Den.stores {w0 w:World} {σ:Sg} {h:Hp} {m o:Nat} {c:List V} {vs':List Value} {q:Nat × Nat} (H:Den w0 σ h w) (e:h.row m=some c) (hq:σ m=some q) (hl:o + vs'.length≤c.length) (h1:∀ x∈vs',x.oneCell'=true):
 (storeCells ⟨q.1,o,none⟩ vs').run PG w=.ok () (w.setCells q.1 o vs'):=by
 obtain ⟨q',c',rest,t,fz,h2,h3,h4,h5⟩:=H.g.row e
 rw [hq] at h2;obtain rfl:=Option.some.inj h2
 have hcl:=denL_len h3
 have:=run_storeCells_cells (P:=PG) q.1 o vs' 0 w (fun j hj=>by rw [Nat.add_zero,cell_row h4];simp;omega) (fun j hj=>unfrozen_row h4 h5 _ (by simp;omega)) h1
 simpa using this
end Go.Proofs.YtbcdgcodnkgdoaaGreat.Run
namespace Go.Proofs.YtbcdgcodnkgdoaaGreat.Run
open Go Go.RowKit
/-! ### answers -/
theorem bind_ok {α β:Type} {r:R α} {f:α→R β} {y:β} (h:r.bind f=.ok y):∃ x,r=.ok x∧f x=.ok y:=by
 cases r with
 | ok x=>exact ⟨x,rfl,h⟩
 | er l=>cases h
theorem when_ok {α:Type} {k:Nat} {b:Bool} {r:R α} {y:α} (h:R.when k b r=.ok y):b=true∧r=.ok y:=by
 cases b with
 | true=>exact ⟨rfl,h⟩
 | false=>cases h
theorem of_ok {α:Type} {k:Nat} {o:Option α} {y:α} (h:R.of k o=.ok y):o=some y:=by
 cases o with
 | none=>cases h
 | some x=>exact congrArg some (R.ok.inj h)
theorem tag_ok {α:Type} {k:Nat} {r:R α} {y:α} (h:R.tag k r=.ok y):r=.ok y:=by
 cases r with
 | ok x=>exact h
 | er l=>cases h
theorem o1_ok {h:Hp} {k:Nat} {o:Option V} {q:A} (e:o1 h k o=.ok q):∃ v,o=some v∧q=⟨v,h⟩:=by
 cases o with
 | none=>cases e
 | some v=>exact ⟨v,rfl,(R.ok.inj e).symm⟩
theorem with_ok {h:Hp} {r:R V} {q:A} (e:with_ h r=.ok q):∃ v,r=.ok v∧q=⟨v,h⟩:=by
 obtain ⟨v,h1,h2⟩:=bind_ok e
 exact ⟨v,h1,(R.ok.inj h2).symm⟩
/-! ### types -/
theorem szt_info {t:TypeId} {sz:Nat} (h:szt t=some sz):∃ i z,PG.info? t=some i∧i.zero=some z∧i.size=sz:=by
 unfold szt at h
 cases hi:PG.info? t with
 | none=>rw [hi] at h;cases h
 | some i=>
  rw [hi] at h
  simp only at h
  cases hz:i.zero with
  | none=>rw [hz] at h;cases h
  | some z=>rw [hz] at h;exact ⟨i,z,rfl,hz,Option.some.inj h⟩
theorem run_sz {t:TypeId} {sz:Nat} (h:szt t=some sz) (w:World):(sizeOf t).run PG w=.ok sz w:=by
 obtain ⟨i,z,hi,_,hs⟩:=szt_info h
 simp [sizeOf,typeInfo,hi,hs]
theorem zcs_info {t:TypeId} {c:List V} (h:zcs t=some c):∃ i z,PG.info? t=some i∧i.zero=some z∧ofVs z.cells.toList=some c:=by
 unfold zcs at h
 cases hi:PG.info? t with
 | none=>rw [hi] at h;cases h
 | some i=>
  rw [hi] at h
  simp only at h
  cases hz:i.zero with
  | none=>rw [hz] at h;cases h
  | some z=>rw [hz] at h;exact ⟨i,z,rfl,hz,h⟩
theorem run_agg {t:TypeId} {d:TypeDesc} (h:PG.underlying t=some d) (w:World):(isAgg t).run PG w=.ok (isAggD d) w:=by
 cases d <;> simp [isAgg,run_underlying h,isAggD]
theorem rdt_none {t:TypeId} (h:rdt t=some none):∃ d,PG.underlying t=some d∧isAggD d=false:=by
 unfold rdt at h
 cases hd:PG.underlying t with
 | none=>rw [hd] at h;cases h
 | some d=>
  rw [hd] at h
  simp only at h
  cases ha:isAggD d with
  | false=>exact ⟨d,rfl,ha⟩
  | true=>
   rw [ha] at h
   simp only at h
   cases hs:szt t with
   | none=>rw [hs] at h;cases h
   | some n=>rw [hs] at h;cases h
theorem rdt_some {t:TypeId} {n:Nat} (h:rdt t=some (some n)):∃ d,PG.underlying t=some d∧isAggD d=true∧szt t=some n:=by
 unfold rdt at h
 cases hd:PG.underlying t with
 | none=>rw [hd] at h;cases h
 | some d=>
  rw [hd] at h
  simp only at h
  cases ha:isAggD d with
  | false=>rw [ha] at h;cases h
  | true=>
   rw [ha] at h
   simp only at h
   cases hs:szt t with
   | none=>rw [hs] at h;cases h
   | some m=>rw [hs] at h;exact ⟨d,rfl,ha,by rw [← Option.some.inj (Option.some.inj h)]⟩
theorem rdC_ok {t:TypeId} {c:List V} {o:Nat} {v:V} (h:rdC (rdt t) c o=.ok v):
 (∃ d,PG.underlying t=some d∧isAggD d=false∧c[o]?=some v)∨(∃ d n,PG.underlying t=some d∧isAggD d=true∧szt t=some n∧o + n≤c.length∧v=.a ((c.drop o).take n)):=by
 cases hr:rdt t with
 | none=>rw [hr] at h;cases h
 | some q=>
  rw [hr] at h
  cases q with
  | none=>
   obtain ⟨d,h1,h2⟩:=rdt_none hr
   exact .inl ⟨d,h1,h2,of_ok h⟩
  | some n=>
   obtain ⟨d,h1,h2,h3⟩:=rdt_some hr
   obtain ⟨h4,h5⟩:=when_ok h
   exact .inr ⟨d,n,h1,h2,h3,by simpa [Nat.ble_eq] using h4,(R.ok.inj h5).symm⟩
theorem part_ok {σ:Sg} {t:TypeId} {c:List V} {c':List Value} {o:Nat} {v:V} (h:rdC (rdt t) c o=.ok v) (hc:denL σ c=some c'):∃ x,den σ v=some x∧∀ w,(part t c'.toArray o).run PG w=.ok x w:=by
 rcases rdC_ok h with ⟨d,h1,h2,h3⟩ | ⟨d,n,h1,h2,h3,h4,rfl⟩
 ·obtain ⟨x,h4,h5⟩:=denL_at hc h3
  exact ⟨x,h5,fun w=>by simp [part,run_agg h1,h2,h4,Result.andThen]⟩
 ·refine ⟨.agg ((c'.drop o).take n).toArray,by rw [den,denL_take n (denL_drop o hc)],fun w=>?_⟩
  simp [part,run_agg h1,h2,run_sz h3,Result.andThen,List.extract_eq_take_drop]
theorem rd_ok {w0 w:World} {σ:Sg} {h:Hp} {t:TypeId} {u v:V} {x:Value} (H:DenG w0 σ h.get w) (e:rd h t u=.ok v) (hu:den σ u=some x):∃ A y,x=.pointer (some A)∧den σ v=some y∧(loadVar t A).run PG w=.ok y w:=by
 unfold rd at e
 split at e
 ·rename_i m o
  cases hr:h.row m with
  | none=>rw [hr] at e;cases e
  | some c=>
   rw [hr] at e
   obtain ⟨q,c',rest,te,fz,h1,h2,h3,h4⟩:=H.row hr
   have hx:x=.pointer (some ⟨q.1,o,none⟩):=by rw [den,h1] at hu;exact (Option.some.inj hu).symm
   refine ⟨⟨q.1,o,none⟩,?_⟩
   rcases rdC_ok e with ⟨d,k1,k2,k3⟩ | ⟨d,n,k1,k2,k3,k4,rfl⟩
   ·obtain ⟨y,h5,h6⟩:=denL_at h2 k3
    refine ⟨y,hx,h6,?_⟩
    have hc:w.cell? ⟨q.1,o,none⟩=some y:=by
     rw [cell_row h3,List.getElem?_append_left (List.getElem?_eq_some_iff.1 h5).1];exact h5
    simp [loadVar,run_agg k1,k2,hc,Result.andThen]
   ·refine ⟨.agg ((c'.drop o).take n).toArray,hx,by rw [den,denL_take n (denL_drop o h2)],?_⟩
    have hl:=denL_len h2
    have hcs:CellsAt w q.1 o ((c'.drop o).take n):=fun i v hv=>cells_row h3 o i v (by
     rw [List.getElem?_take] at hv
     split at hv
     ·exact hv
     ·cases hv)
    have hn:((c'.drop o).take n).length=n:=by simp;omega
    have:=run_loadCells (P:=PG) hcs
    rw [hn] at this
    simp [loadVar,run_agg k1,k2,run_sz k3,this,Result.andThen]
 ·cases e
/-! ### equality -/
theorem eqInts_cons {u v:V} {x y:List V} {c:Bool} (h:eqInts (u::x) (v::y)=some c):∃ k a b c',u=.i k a∧v=.i k b∧eqInts x y=some c'∧c=(decide (a=b)&&c'):=by
 unfold eqInts at h
 split at h
 ·rename_i h1;cases h1
 ·rename_i k a r k' b q h1 h2
  obtain ⟨rfl,rfl⟩:=List.cons.inj h1
  obtain ⟨rfl,rfl⟩:=List.cons.inj h2
  split at h
  ·rename_i hk
   obtain rfl:=of_decide_eq_true hk
   split at h
   ·rename_i c' hc
    exact ⟨k,a,b,c',rfl,rfl,hc,(Option.some.inj h).symm⟩
   ·cases h
  ·cases h
 ·cases h
theorem eqInts_nil {c:Bool} (h:eqInts [] []=some c):c=true:=(Option.some.inj h).symm
theorem denI {σ:Sg} {k:IntKind} {a:Int} {x:Value} (h:den σ (.i k a)=some x):x=.int k a:=by rw [den] at h;exact (Option.some.inj h).symm
theorem equal_pair (w:World) (k k2:IntKind) (a b a' b':Int):(Op.equalIn 10000 111 (.agg #[.int k a,.int k2 b]) (.agg #[.int k a',.int k2 b'])).run PG w=.ok (decide (a=a')&&decide (b=b')) w:=by
 rw [run_equalIn_agg w 9999 111 _ _ (by simp [Program.fieldsOf,Tryz.underlying111]) Tryz.stoodInHeld111]
 have h3:PG.underlying 3=some (.int .i64):=Tryz.underlying3
 have p:∀ (xs:Array Value) (o:Nat) (v:Value),xs[o]?=some v→(part 3 xs o).run PG w=.ok v w:=fun xs o v h=>by simp [part,run_agg h3,isAggD,h,Result.andThen]
 have q:∀ (d:Nat) (k:IntKind) (a b:Int),(Op.equalIn (d + 1) 3 (.int k a) (.int k b)).run PG w=.ok (a == b) w:=fun d k a b=>run_equalIn_int w d 3 k .i64 a b h3
 have p1:=p #[.int k a,.int k2 b] 0 (.int k a) rfl
 have p2:=p #[.int k a,.int k2 b] 1 (.int k2 b) rfl
 have p3:=p #[.int k a',.int k2 b'] 0 (.int k a') rfl
 have p4:=p #[.int k a',.int k2 b'] 1 (.int k2 b') rfl
 have q1:=q 9998 k a a'
 have q2:=q 9998 k2 b b'
 simp [Program.fieldsOf,Tryz.underlying111,Op.eqFields,p1,p2,p3,p4,q1,q2,Result.andThen]
 by_cases h1:a=a' <;> by_cases h2:b=b' <;> simp [h1,h2]
theorem equal_four (w:World) (k0 k1 k2 k3:IntKind) (a0 a1 a2 a3 b0 b1 b2 b3:Int):(Op.equalIn 10000 95 (.agg #[.int k0 a0,.int k1 a1,.int k2 a2,.int k3 a3]) (.agg #[.int k0 b0,.int k1 b1,.int k2 b2,.int k3 b3])).run PG w=
 .ok (decide (a0=b0)&&(decide (a1=b1)&&(decide (a2=b2)&&decide (a3=b3)))) w:=by
 have h95:PG.underlying 95=some (.array 4 5):=Tryz.underlying95
 have h5:PG.underlying 5=some (.int .u8):=Tryz.underlying5
 obtain ⟨i,z,hi,_,hs⟩:=szt_info (t:=5) (sz:=1) (by kernel_rfl)
 rw [run_equalIn_array w 9999 _ _ h95 hi]
 have hcell:PG.cellsOf 5=1:=by kernel_rfl
 have p:∀ (xs:Array Value) (o:Nat) (v:Value),xs[o]?=some v→(part 5 xs o).run PG w=.ok v w:=fun xs o v h=>by simp [part,run_agg h5,isAggD,h,Result.andThen]
 have q:∀ (d:Nat) (k:IntKind) (a b:Int),(Op.equalIn (d + 1) 5 (.int k a) (.int k b)).run PG w=.ok (a == b) w:=fun d k a b=>run_equalIn_int w d 5 k .u8 a b h5
 have p0:=p #[.int k0 a0,.int k1 a1,.int k2 a2,.int k3 a3] 0 _ rfl
 have p1:=p #[.int k0 a0,.int k1 a1,.int k2 a2,.int k3 a3] 1 _ rfl
 have p2:=p #[.int k0 a0,.int k1 a1,.int k2 a2,.int k3 a3] 2 _ rfl
 have p3:=p #[.int k0 a0,.int k1 a1,.int k2 a2,.int k3 a3] 3 _ rfl
 have r0:=p #[.int k0 b0,.int k1 b1,.int k2 b2,.int k3 b3] 0 _ rfl
 have r1:=p #[.int k0 b0,.int k1 b1,.int k2 b2,.int k3 b3] 1 _ rfl
 have r2:=p #[.int k0 b0,.int k1 b1,.int k2 b2,.int k3 b3] 2 _ rfl
 have r3:=p #[.int k0 b0,.int k1 b1,.int k2 b2,.int k3 b3] 3 _ rfl
 have q0:=q 9998 k0 a0 b0
 have q1:=q 9998 k1 a1 b1
 have q2:=q 9998 k2 a2 b2
 have q3:=q 9998 k3 a3 b3
 simp [Op.eqItems,hcell,List.range_succ,p0,p1,p2,p3,r0,r1,r2,r3,q0,q1,q2,q3,Result.andThen]
 by_cases h0:a0=b0 <;> by_cases h1:a1=b1 <;> by_cases h2:a2=b2 <;> by_cases h3:a3=b3 <;> simp [h0,h1,h2,h3]
theorem eqA_ok {σ:Sg} {t:TypeId} {x y:List V} {xs ys:List Value} {c:Bool} (h:eqA t x y=some c) (hx:denL σ x=some xs) (hy:denL σ y=some ys):
 PG.eqGuardType PG.depth t=false∧∀ w,(Op.equalIn 10000 t (.agg xs.toArray) (.agg ys.toArray)).run PG w=.ok c w:=by
 unfold eqA at h
 split at h
 ·rename_i sz het hsz
  split at h
  ·rename_i hl
   simp only [Bool.and_eq_true,Nat.beq_eq] at hl
   have ht:t=111∨t=95:=by
    unfold et at het
    simpa using het
   rcases ht with rfl | rfl
   ·have:sz=2:=by rw [show szt 111=some 2 from by kernel_rfl] at hsz;exact (Option.some.inj hsz).symm
    subst this
    refine ⟨Tryz.eqGuardType111,fun w=>?_⟩
    match x,y,hl with
    | [u1,u2],[v1,v2],_=>
     obtain ⟨k,a,b,c1,rfl,rfl,h1,rfl⟩:=eqInts_cons h
     obtain ⟨k2,a2,b2,c2,rfl,rfl,h2,rfl⟩:=eqInts_cons h1
     obtain rfl:=eqInts_nil h2
     obtain ⟨x1,r1,e1,hx1,rfl⟩:=denL_cons.1 hx
     obtain ⟨x2,r2,e2,hx2,rfl⟩:=denL_cons.1 hx1
     obtain ⟨y1,s1,f1,hy1,rfl⟩:=denL_cons.1 hy
     obtain ⟨y2,s2,f2,hy2,rfl⟩:=denL_cons.1 hy1
     simp only [denL_nil,Option.some.injEq] at hx2 hy2
     subst hx2;subst hy2
     obtain rfl:=denI e1;obtain rfl:=denI e2;obtain rfl:=denI f1;obtain rfl:=denI f2
     rw [equal_pair]
     simp
   ·have:sz=4:=by rw [show szt 95=some 4 from by kernel_rfl] at hsz;exact (Option.some.inj hsz).symm
    subst this
    refine ⟨Tryz.eqGuardType95,fun w=>?_⟩
    match x,y,hl with
    | [u1,u2,u3,u4],[v1,v2,v3,v4],_=>
     obtain ⟨k,a,b,c1,rfl,rfl,h1,rfl⟩:=eqInts_cons h
     obtain ⟨k2,a2,b2,c2,rfl,rfl,h2,rfl⟩:=eqInts_cons h1
     obtain ⟨k3,a3,b3,c3,rfl,rfl,h3,rfl⟩:=eqInts_cons h2
     obtain ⟨k4,a4,b4,c4,rfl,rfl,h4,rfl⟩:=eqInts_cons h3
     obtain rfl:=eqInts_nil h4
     obtain ⟨x1,r1,e1,hx1,rfl⟩:=denL_cons.1 hx
     obtain ⟨x2,r2,e2,hx2,rfl⟩:=denL_cons.1 hx1
     obtain ⟨x3,r3,e3,hx3,rfl⟩:=denL_cons.1 hx2
     obtain ⟨x4,r4,e4,hx4,rfl⟩:=denL_cons.1 hx3
     obtain ⟨y1,s1,f1,hy1,rfl⟩:=denL_cons.1 hy
     obtain ⟨y2,s2,f2,hy2,rfl⟩:=denL_cons.1 hy1
     obtain ⟨y3,s3,f3,hy3,rfl⟩:=denL_cons.1 hy2
     obtain ⟨y4,s4,f4,hy4,rfl⟩:=denL_cons.1 hy3
     simp only [denL_nil,Option.some.injEq] at hx4 hy4
     subst hx4;subst hy4
     obtain rfl:=denI e1;obtain rfl:=denI e2;obtain rfl:=denI e3;obtain rfl:=denI e4
     obtain rfl:=denI f1;obtain rfl:=denI f2;obtain rfl:=denI f3;obtain rfl:=denI f4
     rw [equal_four]
     simp
  ·cases h
 ·cases h
end Go.Proofs.YtbcdgcodnkgdoaaGreat.Run
namespace Go.Proofs.YtbcdgcodnkgdoaaGreat.Run
open Go Go.RowKit
def EvO (σ:Sg) (N:Nat) (fr:T V) (ρ:Operand→Value) (l:Array Operand):Prop:=∀ x∈l,∀ v,xe N fr x=some v→den σ v=some (ρ x)
theorem xes_cons {N:Nat} {fr:T V} {x:Operand} {r:List Operand} {c:List V} (h:xes N fr (x::r)=some c):∃ v vs,xe N fr x=some v∧xes N fr r=some vs∧c=v::vs:=by
 have e:xes N fr (x::r)=Option.rec (motive:=fun _=>Option (List V)) none (fun v=>Option.rec (motive:=fun _=>Option (List V)) none (fun vs=>some (v::vs)) (xes N fr r)) (xe N fr x):=rfl
 rw [e] at h
 cases hx:xe N fr x with
 | none=>rw [hx] at h;cases h
 | some v=>
  rw [hx] at h
  cases hr:xes N fr r with
  | none=>rw [hr] at h;cases h
  | some vs=>rw [hr] at h;exact ⟨v,vs,rfl,rfl,(Option.some.inj h).symm⟩
theorem EvO.list {σ:Sg} {N:Nat} {fr:T V} {ρ:Operand→Value}:∀ {l:List Operand} {c:List V},(∀ x∈l,∀ v,xe N fr x=some v→den σ v=some (ρ x))→xes N fr l=some c→denL σ c=some (l.map ρ):=by
 intro l
 induction l with
 | nil=>intro c _ h;obtain rfl:=Option.some.inj (show some []=some c from h);simp
 | cons x r ih=>
  intro c he h
  obtain ⟨v,vs,h1,h2,rfl⟩:=xes_cons h
  exact denL_cons.2 ⟨ρ x,r.map ρ,he x (by simp) v h1,ih (fun y hy=>he y (by simp [hy])) h2,rfl⟩
theorem den_b {σ:Sg} {b:Bool} {x:Value} (h:den σ (.b b)=some x):x=.bool b:=by rw [den] at h;exact (Option.some.inj h).symm
theorem den_i {σ:Sg} {k:IntKind} {n:Int} {x:Value} (h:den σ (.i k n)=some x):x=.int k n:=by rw [den] at h;exact (Option.some.inj h).symm
theorem den_s {σ:Sg} {s:ByteArray} {x:Value} (h:den σ (.s s)=some x):x=.string s:=by rw [den] at h;exact (Option.some.inj h).symm
theorem den_p {σ:Sg} {m o:Nat} {x:Value} (h:den σ (.p m o)=some x):∃ q,σ m=some q∧x=.pointer (some ⟨q.1,o,none⟩):=by
 rw [den] at h
 cases hm:σ m with
 | none=>rw [hm] at h;cases h
 | some q=>rw [hm] at h;exact ⟨q,rfl,(Option.some.inj h).symm⟩
theorem den_l {σ:Sg} {m off o n:Nat} {x:Value} (h:den σ (.l m off o n)=some x):∃ q,σ m=some q∧x=.slice (some ⟨q.1,off,none⟩) n (q.2 - o):=by
 rw [den] at h
 cases hm:σ m with
 | none=>rw [hm] at h;cases h
 | some q=>rw [hm] at h;exact ⟨q,rfl,(Option.some.inj h).symm⟩
theorem den_l0 {σ:Sg} {x:Value} (h:den σ .l0=some x):x=.slice none 0 0:=by rw [den] at h;exact (Option.some.inj h).symm
theorem den_m {σ:Sg} {m:Nat} {x:Value} (h:den σ (.m m)=some x):∃ q,σ m=some q∧x=.map (some q.1):=by
 rw [den] at h
 cases hm:σ m with
 | none=>rw [hm] at h;cases h
 | some q=>rw [hm] at h;exact ⟨q,rfl,(Option.some.inj h).symm⟩
theorem den_f {σ:Sg} {g:FuncId} {p c:List V} {x:Value} (h:den σ (.f g p c)=some x):∃ a b,denL σ p=some a∧denL σ c=some b∧x=.func (.func g) a.toArray b.toArray:=by
 rw [den] at h
 cases h1:denL σ p with
 | none=>rw [h1] at h;cases h
 | some a=>
  rw [h1] at h
  cases h2:denL σ c with
  | none=>rw [h2] at h;cases h
  | some b=>rw [h2] at h;exact ⟨a,b,rfl,rfl,(Option.some.inj h).symm⟩
theorem den_a {σ:Sg} {l:List V} {x:Value} (h:den σ (.a l)=some x):∃ a,denL σ l=some a∧x=.agg a.toArray:=by
 rw [den] at h
 cases h1:denL σ l with
 | none=>rw [h1] at h;cases h
 | some a=>rw [h1] at h;exact ⟨a,rfl,(Option.some.inj h).symm⟩
theorem den_t {σ:Sg} {l:List V} {x:Value} (h:den σ (.t l)=some x):∃ a,denL σ l=some a∧x=.tuple a.toArray:=by
 rw [den] at h
 cases h1:denL σ l with
 | none=>rw [h1] at h;cases h
 | some a=>rw [h1] at h;exact ⟨a,rfl,(Option.some.inj h).symm⟩
section
variable {w0 w:World} {σ:Sg} {h:Hp} {N:Nat} {fr:T V} {ρ:Operand→Value} {q:A} {dst:Option Nat} {ty:TypeId} {pos:String} {af:Array Edge} {g:Option (Nat × Bool)}
def Says (σ:Sg) (w:World) (ρ:Operand→Value) (o:Oper) (v:V):Prop:=∃ x,(execOp ρ o).run PG w=.ok (.value x) w∧den σ v=some x
theorem pMove {x:Operand} (e:o1 h 80 (xe N fr x)=.ok q) (he:EvO σ N fr ρ #[x]):Says σ w ρ ⟨dst,.move x,ty,pos,af,g⟩ q.v:=by
 obtain ⟨v,h1,rfl⟩:=o1_ok e
 exact ⟨ρ x,by simp [execOp],he x (by simp) v h1⟩
theorem pAssign {x:Operand} (e:o1 h 81 (xe N fr x)=.ok q) (he:EvO σ N fr ρ #[x]):Says σ w ρ ⟨dst,.assign x,ty,pos,af,g⟩ q.v:=by
 obtain ⟨v,h1,rfl⟩:=o1_ok e
 exact ⟨ρ x,by simp [execOp],he x (by simp) v h1⟩
theorem pPick {c x y:Operand} (e:oPick N fr h c x y=.ok q) (he:EvO σ N fr ρ #[c,x,y]):Says σ w ρ ⟨dst,.pick c x y,ty,pos,af,g⟩ q.v:=by
 unfold oPick at e
 split at e
 ·rename_i hc
  obtain ⟨v,h1,rfl⟩:=o1_ok e
  have:=den_b (he c (by simp) _ hc)
  exact ⟨ρ x,by simp [execOp,this,asBool,Result.andThen],he x (by simp) v h1⟩
 ·rename_i hc
  obtain ⟨v,h1,rfl⟩:=o1_ok e
  have:=den_b (he c (by simp) _ hc)
  exact ⟨ρ y,by simp [execOp,this,asBool,Result.andThen],he y (by simp) v h1⟩
 ·cases e
theorem pLoad {t:TypeId} {x:Operand} (e:oLoad h t (xe N fr x)=.ok q) (he:EvO σ N fr ρ #[x]) (H:DenG w0 σ h.get w):Says σ w ρ ⟨dst,.load t x,ty,pos,af,g⟩ q.v:=by
 cases hx:xe N fr x with
 | none=>rw [hx] at e;cases e
 | some u=>
  rw [hx] at e
  obtain ⟨v,h1,rfl⟩:=with_ok e
  obtain ⟨A,y,h2,h3,h4⟩:=rd_ok H h1 (he x (by simp) u hx)
  exact ⟨y,by simp [execOp,Instr.loadAt,Instr.sureAddr,h2,h4,Result.andThen],h3⟩
theorem pNil {x:Operand} (e:oNil h (xe N fr x)=.ok q) (he:EvO σ N fr ρ #[x]):Says σ w ρ ⟨dst,.nilCheck x,ty,pos,af,g⟩ q.v:=by
 unfold oNil at e
 split at e
 ·rename_i m o hx
  obtain rfl:=R.ok.inj e
  have hd:=he x (by simp) _ hx
  obtain ⟨r,h1,h2⟩:=den_p hd
  exact ⟨ρ x,by simp [execOp,h2],hd⟩
 ·rename_i f p c hx
  obtain rfl:=R.ok.inj e
  have hd:=he x (by simp) _ hx
  obtain ⟨a,b,h1,h2,h3⟩:=den_f hd
  exact ⟨ρ x,by simp [execOp,h3],hd⟩
 ·cases e
theorem fieldOff_ok {s:TypeId} {i off:Nat} (h:fieldOff s i=some off):∃ fs f n,PG.underlying s=some (.struct fs)∧fs[i]?=some f∧f.offset=off∧szt f.type=some (n + 1):=by
 unfold fieldOff at h
 split at h
 ·rename_i fs hs
  split at h
  ·rename_i off' n hp
   obtain rfl:=Option.some.inj h
   unfold placeS at hp
   split at hp
   ·rename_i f hf
    split at hp
    ·rename_i sz hsz
     simp only [Option.some.injEq,Prod.mk.injEq] at hp
     exact ⟨fs,f,n,hs,hf,hp.1,by rw [hsz,hp.2]⟩
    ·cases hp
   ·cases hp
  ·cases h
 ·cases h
theorem pFieldA {s:TypeId} {x:Operand} {i:Nat} (e:oFieldA h (fieldOff s i) (xe N fr x)=.ok q) (he:EvO σ N fr ρ #[x]):Says σ w ρ ⟨dst,.fieldAddr s x i,ty,pos,af,g⟩ q.v:=by
 unfold oFieldA at e
 split at e
 ·rename_i off m o hq hx
  obtain rfl:=R.ok.inj e
  obtain ⟨fs,f,n,h1,h2,h3,h4⟩:=fieldOff_ok hq
  obtain ⟨r,h5,h6⟩:=den_p (he x (by simp) _ hx)
  refine ⟨.pointer (some ⟨r.1,o + off,none⟩),?_,by simp [den,h5]⟩
  simp [execOp,h6,Instr.fieldAt,run_underlying h1,h2,Instr.sureAddr,fieldPlace,run_sz h4,Result.andThen,add_at,h3]
 ·cases e
theorem pField {s:TypeId} {x:Operand} {i:Nat} (e:oField h s i (xe N fr x)=.ok q) (he:EvO σ N fr ρ #[x]):Says σ w ρ ⟨dst,.field s x i,ty,pos,af,g⟩ q.v:=by
 unfold oField at e
 split at e
 ·rename_i fs c hs hx
  split at e
  ·rename_i f hf
   obtain ⟨v,h1,rfl⟩:=with_ok e
   obtain ⟨a,h2,h3⟩:=den_a (he x (by simp) _ hx)
   obtain ⟨y,h4,h5⟩:=part_ok h1 h2
   exact ⟨y,by simp [execOp,h3,Instr.field,run_underlying hs,hf,asAgg,h5,Result.andThen],h4⟩
  ·cases e
 ·cases e
theorem pIdxA2 {e':TypeId} {m off n:Nat} {a:Int} (e:oIdxA2 h e' m off n a=.ok q):∃ sz,szt e'=some sz∧0≤a∧a < n∧q=⟨.p m (off + a.toNat * sz),h⟩:=by
 unfold oIdxA2 at e
 split at e
 ·rename_i sz hs
  obtain ⟨h1,h2⟩:=when_ok e
  simp only [Bool.and_eq_true,decide_eq_true_eq] at h1
  have:=blt_lt h1.2
  exact ⟨sz,hs,h1.1,by omega,(R.ok.inj h2).symm⟩
 ·cases e
theorem pIdxA {t:TypeId} {x y:Operand} (e:oIdxA h (PG.underlying t) (xe N fr x) (xe N fr y)=.ok q) (he:EvO σ N fr ρ #[x,y]):Says σ w ρ ⟨dst,.indexAddr t x y,ty,pos,af,g⟩ q.v:=by
 unfold oIdxA at e
 split at e
 ·rename_i e' m off o n k a ht hx hy
  obtain ⟨sz,h1,h2,h3,rfl⟩:=pIdxA2 e
  obtain ⟨r,h4,h5⟩:=den_l (he x (by simp) _ hx)
  have h6:=den_i (he y (by simp) _ hy)
  exact ⟨.pointer (some ⟨r.1,off + a.toNat * sz,none⟩),by simp [execOp,h5,h6,Instr.indexAt,asIntOf,run_underlying ht,h2,h3,run_sz h1,add_at,Result.andThen],by simp [den,h4]⟩
 ·rename_i n e' m o k a ht hx hy
  obtain ⟨sz,h1,h2,h3,rfl⟩:=pIdxA2 e
  obtain ⟨r,h4,h5⟩:=den_p (he x (by simp) _ hx)
  have h6:=den_i (he y (by simp) _ hy)
  exact ⟨.pointer (some ⟨r.1,o + a.toNat * sz,none⟩),by simp [execOp,h5,h6,Instr.indexAt,asIntOf,run_underlying ht,h2,h3,run_sz h1,add_at,Result.andThen,Instr.sureAddr],by simp [den,h4]⟩
 ·cases e
theorem pIdx {t:TypeId} {x y:Operand} (e:oIdx h t (xe N fr x) (xe N fr y)=.ok q) (he:EvO σ N fr ρ #[x,y]):Says σ w ρ ⟨dst,.index t x y,ty,pos,af,g⟩ q.v:=by
 unfold oIdx at e
 split at e
 ·rename_i s k a ht hx hy
  obtain ⟨h1,h2⟩:=when_ok e
  simp only [decide_eq_true_eq] at h1
  split at h2
  ·rename_i c hc
   obtain rfl:=R.ok.inj h2
   have h5:=den_s (he x (by simp) _ hx)
   have h6:=den_i (he y (by simp) _ hy)
   have hc':s[a.toNat]?=some c:=by
    obtain ⟨hlt,hg⟩:=List.getElem?_eq_some_iff.1 hc
    have hlt':a.toNat < s.size:=by rw [Array.length_toList] at hlt;exact hlt
    rw [getElem?_pos s a.toNat hlt',← hg]
    rfl
   exact ⟨.int .u8 c.toNat,by simp [execOp,h5,h6,Instr.index,asIntOf,run_underlying ht,h1,hc',Result.andThen],by simp [den]⟩
  ·cases h2
 ·rename_i n e' c k a ht hx hy
  split at e
  ·rename_i sz hs
   obtain ⟨h1,h2⟩:=when_ok e
   simp only [Bool.and_eq_true,decide_eq_true_eq] at h1
   have hlt:=blt_lt h1.2
   obtain ⟨v,h3,rfl⟩:=with_ok h2
   obtain ⟨l,h4,h5⟩:=den_a (he x (by simp) _ hx)
   have h6:=den_i (he y (by simp) _ hy)
   obtain ⟨u,h7,h8⟩:=part_ok h3 h4
   exact ⟨u,by simp [execOp,h5,h6,Instr.index,asIntOf,run_underlying ht,h1.1,show a < n by omega,run_sz hs,h8,Result.andThen],h7⟩
  ·cases e
 ·cases e
theorem pExt {x:Operand} {i:Nat} (e:oExt h i (xe N fr x)=.ok q) (he:EvO σ N fr ρ #[x]):Says σ w ρ ⟨dst,.extract x i,ty,pos,af,g⟩ q.v:=by
 unfold oExt at e
 split at e
 ·rename_i l hx
  obtain ⟨v,h1,rfl⟩:=o1_ok e
  obtain ⟨a,h2,h3⟩:=den_t (he x (by simp) _ hx)
  obtain ⟨y,h4,h5⟩:=denL_at h2 h1
  exact ⟨y,by simp [execOp,h3,Instr.extract,h4,Result.andThen],h5⟩
 ·cases e
theorem pFunc {f:Fn} {p c:Array Operand} (e:oFunc h f (xes N fr p.toList) (xes N fr c.toList)=.ok q) (he:EvO σ N fr ρ (p++c)):Says σ w ρ ⟨dst,.makeFunc f p c,ty,pos,af,g⟩ q.v:=by
 unfold oFunc at e
 split at e
 ·rename_i k a b hp hc
  obtain rfl:=R.ok.inj e
  have h1:=EvO.list (fun x hx=>he x (by simp at hx ⊢;exact .inl hx)) hp
  have h2:=EvO.list (fun x hx=>he x (by simp at hx ⊢;exact .inr hx)) hc
  refine ⟨.func (.func k) (p.map ρ) (c.map ρ),by simp [execOp,Instr.makeFunc,Result.andThen],?_⟩
  simp only [den,h1,h2]
  congr 2
  ·rw [← Array.toList_inj];simp
  ·rw [← Array.toList_inj];simp
 ·cases e
theorem pUn {op:UnOp} {t:TypeId} {x:Operand} (e:oUn h op (xe N fr x)=.ok q) (he:EvO σ N fr ρ #[x]):Says σ w ρ ⟨dst,.unOp op t x,ty,pos,af,g⟩ q.v:=by
 unfold oUn at e
 split at e
 ·rename_i c hx
  obtain rfl:=R.ok.inj e
  have h1:=den_b (he x (by simp) _ hx)
  exact ⟨.bool (!c),by simp [execOp,h1,Op.unary,Result.andThen],by simp [den]⟩
 ·rename_i k a hx
  obtain rfl:=R.ok.inj e
  have h1:=den_i (he x (by simp) _ hx)
  exact ⟨.int k (k.wrap (0 - a)),by simp only [execOp,h1,Op.unary,Op.intArith];rfl,by simp [den]⟩
 ·rename_i k a hx
  obtain ⟨v,h2,rfl⟩:=with_ok e
  have h1:=den_i (he x (by simp) _ hx)
  obtain rfl:=R.ok.inj h2
  exact ⟨_,by simp only [execOp,h1,Op.unary,Op.intBits];rfl,by simp [den]⟩
 ·cases e
theorem pConv {src dst':TypeId} {x:Operand} (hk:kindCv (PG.underlying src)=0) (e:oConv h src dst' (xe N fr x)=.ok q) (he:EvO σ N fr ρ #[x]):Says σ w ρ ⟨dst,.convert src dst' x,ty,pos,af,g⟩ q.v:=by
 unfold oConv at e
 split at e
 ·rename_i d k k' a h1 h2 hx
  obtain rfl:=R.ok.inj e
  have h3:=den_i (he x (by simp) _ hx)
  exact ⟨.int k (k.wrap a),by simp [execOp,h3,convert,run_underlying h1,run_underlying h2,Conv.intToInt,Result.andThen],by simp [den]⟩
 ·rename_i h1 h2 hx
  rw [h1] at hk
  simp [kindCv] at hk
 ·cases e
end
end Go.Proofs.YtbcdgcodnkgdoaaGreat.Run
