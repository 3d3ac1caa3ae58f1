/- Parts of the proof: The runner for cU calls: operations that turn memory. · The runner for cU calls: maps that are written to; all operations that turn memory. · The runner for cU calls: one operation, an ordered statement. · The runner for cU calls: an ordered statement. · The runner for cU calls: a statement in open order, what its run tells. · The runner for cU calls: a statement in open order: its operations in whatever order. · The runner for cU calls: a statement in open order, step by step. · The runner for cU calls: statements in open order, whole; code; calls. · The runner for cU calls: code. · The runner for cU calls: leaving, calls, the whole. · The runner at alive. · TopChain, walked. · TopLinear, walked. Conditions: none. -/
import Derived.RangeFuncRecord
import Derived.TacticsIn
import Derived.OrdersIn
import Derived.RecoverIn
import Derived.Sort.LoopGhostIn
import Derived.Test.YtbcdgcodnkgdoaaGreatPr10
/- The runner for cU calls: operations that turn memory. Conditions: none. -/
set_option linter.unusedVariables false
set_option linter.unusedSimpArgs false
set_option maxRecDepth 10000
namespace Go.Proofs.YtbcdgcodnkgdoaaGreat.Run
open Go Go.RowKit
theorem gN.move {w0 w w':World} {σ:Sg} {g g':Nat→Option B} {m n:Nat} {b b':B} {r:Nat × Nat} {o:Obj} (H:gN w0 σ g w) (hm:g m=some b) (hr:σ m=some r) (hn:σ n=none) (ht:rb w w' r.1 o) (ho:Run.obj (σ.add n r) b' r o)
 (hg:∀ j c,g' j=some c→(j=n∧c=b')∨(j≠n∧j≠m∧g j=some c)):gN w0 (σ.add n r) g' w':=by
 have hlow:=H.low m r hr;have le:=cW (q:=r) hn;refine ⟨⟨ht.os.trans H.kp.os,ht.tape.trans H.kp.tape,ht.output.trans H.kp.output,by rw [ht.size];exact H.kp.size,fun i hi hnn=>by rw [ht.block i (by omega)];exact H.kp.block i hi hnn⟩,fun j q hq=>?_,fun j c hj=>?_,fun i j a c p q hi hj hp hq e=>?_⟩
 ·rw [ht.size]
  unfold Sg.add at hq;split at hq
  ·obtain rfl:=Option.some.inj hq;exact hlow
  ·exact H.low j q hq
 ·rcases hg j c hj with ⟨rfl,rfl⟩ | ⟨hne,hnm,hj⟩
  ·exact ⟨r,o,bN _ _ _,ht.at_,ho⟩
  ·obtain ⟨q,o',h1,h2,h3⟩:=H.obj j c hj
   refine ⟨q,o',le _ _ h1,?_,h3.mono le⟩;rw [ht.block q.1 (fun e=>hnm (H.inj j m c b q r hj hm h1 hr e))];exact h2
 ·have key:∀ i a q,g' i=some a→(σ.add n r) i=some q→(i=n∧q=r)∨(i≠n∧i≠m∧g i=some a∧σ i=some q):=fun i a q hi hq=>by
   rcases hg i a hi with ⟨rfl,rfl⟩ | ⟨hne,hnm,hi⟩
   ·rw [bN] at hq
    exact .inl ⟨rfl,(Option.some.inj hq).symm⟩
   ·unfold Sg.add at hq
    rw [if_neg hne] at hq;exact .inr ⟨hne,hnm,hi,hq⟩
  rcases key i a p hi hp with ⟨h1,h2⟩ | ⟨h1,h2,h3,h4⟩ <;> rcases key j c q hj hq with ⟨k1,k2⟩ | ⟨k1,k2,k3,k4⟩
  ·rw [h1,k1]
  ·subst h2;exact absurd (H.inj j m c b q _ k3 hm k4 hr e.symm) k2
  ·subst k2;exact absurd (H.inj i m a b p _ h3 hm h4 hr e) h2
  ·exact H.inj i j a c p q h3 k3 h4 k4 e
inductive Yl (r:Result Next) (x:Value) (w':World):Prop where
 | val (h:r=.ok (.value x) w')
 | skip (h:r=.ok .skip w') (hx:x=undef)
def mN (w0:World) (N:Nat) (fr:T V) (h:Hp) (op:Op) (q:A):Prop:=∀ {σ:Sg} {ρ:Operand→Value} {w:World} {dst:Option Nat} {ty:TypeId} {pos:String} {af:Array Edge} {g:Option (Nat × Bool)},EvO σ N fr ρ op.operands→Den w0 σ h w→
 ∃ σ' x w',σ.le σ'∧Yl ((execOp ρ ⟨dst,op,ty,pos,af,g⟩).run PG w) x w'∧den σ' q.v=some x∧Den w0 σ' q.h w'
theorem fE {σ:Sg}:den σ (.t [])=some undef:=by simp [den,undef]
section
variable {w0:World} {h:Hp} {N:Nat} {fr:T V} {q:A}
theorem D1 {t:TypeId} {x y:Operand} (e:wV h t (xe N fr x) (xe N fr y)=.ok q):mN w0 N fr h (.store t x y) q:=by
 unfold wV at e;split at e
 ·rename_i a v hx hy
  obtain ⟨h',e1,e2⟩:=bn e;obtain rfl:=R.ok.inj e2;unfold wr at e1;split at e1
  ·rename_i m o
   split at e1
   ·rename_i c sz hr hs
    unfold wr2 at e1;obtain ⟨h1,h2⟩:=bx e1;simp only [Bool.and_eq_true,Nat.beq_eq,Nat.ble_eq] at h1;obtain ⟨⟨rfl,h3⟩,h4⟩:=h1;obtain rfl:=R.ok.inj h2;intro σ ρ w dst ty pos af g he H;obtain ⟨r,h5,h6⟩:=su (he x (by simp [Op.operands]) _ hx);have h7:=mA (he y (by simp [Op.operands]) v hy);have h8:=cy h7;have h9:=H.stores (o:=o) hr h5 (vs':=(ρ y).cells.toList) (by omega) (tu h7 h4);refine ⟨σ,undef,w.setCells r.1 o (ρ y).cells.toList,Sg.le.refl σ,.skip ?_ rfl,fE,H.write hr h5 h7 h3⟩;have hsz:(ρ y).cells.size=v.flat.length:=by simpa using h8
    simp [execOp,Instr.storeAt,Instr.sureAddr,h6,storeVar,fu hs,hsz,h9,Result.andThen]
   ·cases e1
  ·cases e1
 ·cases e
theorem AJ {w:World} {σ:Sg} {el:TypeId} {y:V} {c:List V} {n:Nat} {b:Value} (H:gN w0 σ h.get w) (e:kx h el y=.ok (c,n)) (hb:den σ y=some b):
 ∃ sz news A cp,b=.slice A n cp∧dI σ c=some news∧(n=0∨∃ B O,A=some ⟨B,O,none⟩∧szt el=some sz∧news.length=n * sz∧bj w B O news):=by
 unfold kx at e;split at e
 ·obtain ⟨rfl,rfl⟩:=Prod.mk.inj (R.ok.inj e)
  obtain rfl:=jT hb;exact ⟨0,[],none,0,rfl,by simp,.inl rfl⟩
 ·rename_i m off o k
  split at e
  ·rename_i sz c' hs hr
   obtain ⟨h1,h2⟩:=bx e;simp only [Nat.ble_eq] at h1;obtain ⟨rfl,rfl⟩:=Prod.mk.inj (R.ok.inj h2);obtain ⟨r,h3,rfl⟩:=o8 hb;obtain ⟨q',c'',rest,t,fz,k1,k2,k3,k4⟩:=H.row hr;rw [h3] at k1;obtain rfl:=Option.some.inj k1;have hl:=cy k2
   refine ⟨sz,(c''.drop off).take (k * sz),_,_,rfl,jU _ (jV _ k2),.inr ⟨r.1,off,rfl,hs,by simp;omega,fun i v hv=>mK k3 off i v (by
    rw [List.getElem?_take] at hv;split at hv
    ·exact hv
    ·cases hv)⟩⟩
  ·cases e
 ·cases e
theorem Co {t t2:TypeId} {u v:V} {args:Array Operand} {ats:Array TypeId} {r:List TypeId} (e:sM h t t2 u v=.ok q) (ha:xes N fr args.toList=some [u,v]) (ht:ats.toList=t::t2::r) (hr:r=[]):mN w0 N fr h (.call ⟨.builtin .append,args,ats⟩) q:=by
 intro σ ρ w dst ty pos af g he H;subst hr;have hd:=fZ (fun x hx=>he x (by simp [Op.operands,Call.operands];simpa using hx)) ha;obtain ⟨a,l1,h1,hd2,h3⟩:=aO.1 hd;obtain ⟨b,l2,h2,hd3,rfl⟩:=aO.1 hd2;simp only [dX,Option.some.injEq] at hd3;subst hd3;unfold sM at e;split at e
 ·rename_i el hu ht2
  obtain rfl:=Nat.eq_of_beq_eq_true ht2;have e1:args.map ρ=#[a,b]:=by rw [← Array.toList_inj];simpa using h3
  have e2:ats=#[t,t]:=by rw [← Array.toList_inj];simpa using ht
  have run:∀ x w',(Builtin.append_ #[t,t] ty #[a,b]).run PG w=.ok x w'→(execOp ρ ⟨dst,.call ⟨.builtin .append,args,ats⟩,ty,pos,af,g⟩).run PG w=.ok (.value x) w':=fun x w' hw=>by
   simp [execOp,resolve,invoke,builtin,e1,e2,hw,Result.andThen]
  obtain ⟨⟨c,n⟩,e3,e4⟩:=bn e;obtain ⟨sz1,news,Aa,cp,rfl,hnews,hsrc⟩:=AJ H.g e3 h2;simp only at e4;split at e4
  ·rename_i sz by_ z hs hby hz
   obtain ⟨i,zv,k1,k2,k3⟩:=jq hz;obtain ⟨i',z',k1',k2',k4⟩:=ll hs;rw [k1] at k1';obtain rfl:=Option.some.inj k1';have k5:i.bytes=by_:=by unfold byt at hby;rw [k1] at hby;exact Option.some.inj hby
   have hzd:=iO (σ:=σ) k3;have hzl:zv.cells.size=z.length:=by have:=cy hzd;simpa using this
   have hrs:∀ w,(sizeOf el).run PG w=.ok sz w:=fu hs;cases n with
   | zero=>
    have h0:(Builtin.firstCells sz 0 (.slice Aa 0 cp)).run PG w=.ok #[] w:=by
     cases Aa with
     | none=>rfl
     | some a=>simp [Builtin.firstCells,loadCells,loadCellsFrom]
    have h00:(Builtin.lenOf (.slice Aa 0 cp)).run PG w=.ok 0 w:=rfl;simp only at e4;split at e4
    ·obtain rfl:=R.ok.inj e4
     obtain rfl:=jT h1;refine ⟨σ,_,w,Sg.le.refl σ,.val (run (.slice none 0 0) w ?_),by simp [den],H⟩;simp [Builtin.append_,run_underlying hu,hrs,h0,h00,Result.andThen]
    ·rename_i m off o n'
     obtain ⟨h5,h6⟩:=bx e4;obtain rfl:=R.ok.inj h6;obtain ⟨r,h7,rfl⟩:=o8 h1;have hroom:=rF H.g h5 hs h7;refine ⟨σ,_,w,Sg.le.refl σ,.val (run (.slice (some ⟨r.1,off,none⟩) n' (r.2 - o)) w ?_),by simp [den,h7],H⟩;have hle:n'≤r.2 - o:=by omega
     simp [Builtin.append_,run_underlying hu,hrs,h0,h00,hle,storeCells,Result.andThen]
    ·cases e4
   | succ n=>
    rcases hsrc with hsrc | ⟨Bs,Os,rfl,hs1,hnl,hcs⟩
    ·omega
    rw [hs] at hs1;obtain rfl:=Option.some.inj hs1;have hcs':=lB hcs;simp only at e4;have zflat:=f7 (z:=zv) (zc:=zv.cells.toList) (by simp);split at e4
    ·obtain ⟨h5,h6⟩:=bx e4
     simp only [Bool.and_eq_true,Nat.beq_eq,Nat.ble_eq] at h5;obtain ⟨⟨⟨h5,h7⟩,h8⟩,hone0⟩:=h5;obtain rfl:=R.ok.inj h6;obtain rfl:=jT h1
     have hb2:(n + 1) * i.bytes≤281474976710656:=by
      rw [k5];have:(n + 1) * by_≤100000 * 1000:=Nat.mul_le_mul h8 h5;omega
     have hr:=run_append_nil (P:=PG) w t ty el i zv hu k1 k2 ⟨Bs,Os,none⟩ (n + 1) cp news (by rw [k4];exact hnl) hcs' (by omega) (by omega) hb2;obtain ⟨tl,htl,htll⟩:=zflat (grownCap w (n + 1) 0 el - (n + 1));have hg:=grownCap_ge w (n + 1) 0 el;have hg2:=grownCap_le_maxLen w (n + 1) 0 el (by unfold maxLen;omega);have e5:news.toArray++tl.toArray=(news++tl).toArray:=by simp
     rw [htl,e5] at hr
     have hlen:(news++tl).length=grownCap w (n + 1) 0 el * sz:=by
      rw [List.length_append,hnl,htll];have:zv.cells.toList.length=sz:=by rw [Array.length_toList,hzl,h7]
      rw [this,← Nat.add_mul];congr 1;omega
     have hden:=H.drew.new (b:=.buf c el) (o:=.cells (news++tl).toArray el) (cap:=grownCap w (n + 1) 0 el)
      ⟨news,tl,(0,0),sz,hs,bT (cW (H.up _ (Nat.le_refl _))) _ _ hnews,rfl,fz0 _,hlen,by unfold dK;unfold maxLen at hg2;exact hg2⟩
     exact ⟨_,_,_,hden.1,.val (run _ _ hr),by simp [den,bN],hden.2⟩
    ·rename_i m off o n'
     split at e4
     ·rename_i c0 el' hg
      obtain ⟨h5,h6⟩:=bx e4;simp only [Bool.and_eq_true,Nat.beq_eq,Nat.ble_eq] at h5;obtain ⟨⟨⟨⟨⟨⟨⟨rfl,rfl⟩,hc0⟩,rfl⟩,h5⟩,h7⟩,h8⟩,hone0⟩:=h5;obtain rfl:=R.ok.inj h6;obtain ⟨r,hm,rfl⟩:=o8 h1;obtain ⟨q',o',g1,g2,c',rest,fz,sz',g3,g4,rfl,g5,g6,g7⟩:=H.g.obj _ _ hg;rw [hm] at g1;obtain rfl:=Option.some.inj g1;rw [hs] at g3;obtain rfl:=Option.some.inj g3;have hcl:=cy g4;rw [List.length_append] at g6;simp only [Nat.sub_zero] at *;by_cases hroom:n' + (n + 1)≤r.2
      ·have hfit:n' * sz + news.length≤(c'++rest).length:=by
        rw [hnl,List.length_append,g6,← Nat.add_mul];exact Nat.mul_le_mul_right _ hroom
       have hone:∀ u∈news,u.oneCell'=true:=tu hnews hone0
       have hr:=run_append_room_cells (P:=PG) w t ty el i hu k1 r.1 0 n' r.2 ⟨Bs,Os,none⟩ (n + 1) cp news (by rw [k4];exact hnl) hcs' hone hroom
        (fun j hj=>by rw [lC g2];simp;rw [k4];rw [List.length_append] at hfit;omega) (fun j hj=>kV g2 g5 _ (by rw [k4];omega))
       rw [Nat.zero_add,k4] at hr;have ht:=f9 (o:=n' * sz) (vs:=news) g2 hfit
       have e6:(c'++rest).take (n' * sz)++news++(c'++rest).drop (n' * sz + news.length)=(c'++news)++rest.drop news.length:=by
        rw [hc0,← hcl,List.take_left,List.drop_append,List.drop_of_length_le (by omega),List.nil_append,Nat.add_sub_cancel_left]
       rw [e6] at ht;have hn0:=H.up h.n (Nat.le_refl _);have le:=cW (q:=r) hn0;refine ⟨σ.add h.n r,_,_,le,.val (run _ _ hr),by simp [den,bN],⟨H.g.move (b':=.buf (c0++c) el) hg hm hn0 ht ⟨c'++news,rest.drop news.length,fz,sz,hs,cK (bT le _ _ g4) (bT le _ _ hnews),rfl,?_,?_,g7⟩ (fun j d hj=>?_),fun k hk=>?_⟩⟩
       ·have:(c'++news++rest.drop news.length).length=(c'++rest).length:=by simp at hfit ⊢;omega
        rw [this];exact g5
       ·simp at hfit ⊢;omega
       ·rcases kS hj with ⟨h9,h10⟩ | ⟨h9,h10⟩
        ·exact .inl ⟨h9,h10⟩
        ·exact .inr ⟨h9,kT h10⟩
       ·simp at hk
        unfold Sg.add;rw [if_neg (by omega)];exact H.up k (by omega)
      ·have hb2:(n' + (n + 1)) * i.bytes≤140737488355328:=by
        rw [k5];have:(n' + (n + 1)) * by_≤100000 * 1000:=Nat.mul_le_mul h8 h5;omega
       have hold:bj w r.1 0 c':=by simpa using mK g2 0
       have hr:=run_append_grow (P:=PG) w t ty el i zv hu k1 k2 ⟨r.1,0,none⟩ n' r.2 c' (by rw [k4,hcl,hc0]) (lB hold) ⟨Bs,Os,none⟩ (n + 1) cp news (by rw [k4];exact hnl) hcs' (by omega) (by omega) (growslice_fits (by omega) hb2);obtain ⟨tl,htl,htll⟩:=zflat (grownCap w (n' + (n + 1)) r.2 el - (n' + (n + 1)));have hg3:=grownCap_ge w (n' + (n + 1)) r.2 el;have hg2:=grownCap_le_maxLen w (n' + (n + 1)) r.2 el (by unfold maxLen;omega);have e5:c'.toArray++news.toArray++tl.toArray=(c'++news++tl).toArray:=by simp
       rw [htl,e5] at hr
       have hlen:(c'++news++tl).length=grownCap w (n' + (n + 1)) r.2 el * sz:=by
        rw [List.length_append,List.length_append,hnl,htll,hcl,← hc0];have:zv.cells.toList.length=sz:=by rw [Array.length_toList,hzl,h7]
        rw [this,← Nat.add_mul,← Nat.add_mul];congr 1;omega
       have hden:=(H.del m).drew.new (b:=.buf (c0++c) el) (o:=.cells (c'++news++tl).toArray el) (cap:=grownCap w (n' + (n + 1)) r.2 el)
        ⟨c'++news,tl,(0,0),sz,hs,bT (cW (H.up _ (Nat.le_refl _))) _ _ (cK g4 hnews),rfl,fz0 _,hlen,by unfold dK;unfold maxLen at hg2;exact hg2⟩
       exact ⟨_,_,_,hden.1,.val (run _ _ hr),by simp [den,bN],hden.2⟩
     ·cases e4
    ·cases e4
  ·cases e4
 ·cases e
end
end Go.Proofs.YtbcdgcodnkgdoaaGreat.Run
namespace Go.Proofs.YtbcdgcodnkgdoaaGreat.Run
open Go Go.RowKit
theorem d8 {w:World} {b:Nat} {o:Obj} (h:b < w.heap.size):rb w { w with heap:=w.heap.setIfInBounds b o } b o:=
 ⟨rfl,rfl,rfl,by simp,by simp [h],fun i hi=>by simp [Array.getElem?_setIfInBounds_ne (Ne.symm hi)]⟩
theorem x9 {σ:Sg} {k v:V} {a x:Value} {c:Nat} (hk:den σ k=some a) (hv:den σ v=some x):∀ {es:List (V × V)} {ms:List MapEntry},vL σ es ms→vL σ (es++[(k,v)]) (ms++[⟨a,x,c⟩]):=by
 intro es;induction es with
 | nil=>intro ms h;cases ms with
  | nil=>exact ⟨hk,hv,trivial⟩
  | cons m q=>exact h.elim
 | cons e r ih=>intro ms h;cases ms with
  | nil=>exact h.elim
  | cons m q=>exact ⟨h.1,h.2.1,ih h.2.2⟩
theorem Cq {σ:Sg} {kt:TypeId} {d:TypeDesc} {k v:V} {a x:Value} (hd:PG.underlying kt=some d) (hk:den σ k=some a) (hv:den σ v=some x):∀ {es es':List (V × V)} {ms:List MapEntry},Fj kt d k v es=some es'→vL σ es ms→
 (mB kt d k es=some none∧es'=es++[(k,v)])∨(∃ u,mB kt d k es=some (some u)∧∀ i,∃ j m,ms[j]?=some m∧(a=m.key∧Instr.sameBits 10000 a a=true)∧(∀ y,(Instr.findNow d a ms i=some (some y)→y.1=i + j))∧(∀ w y,(Instr.findAsking kt a ms i).run PG w=.ok (some y) w→y.1=i + j) ∧
  vL σ es' (ms.set j (⟨a,x,m.born⟩:MapEntry))):=by
 intro es;induction es with
 | nil=>intro es' ms h he;obtain rfl:=Option.some.inj h;exact .inl ⟨rfl,rfl⟩
 | cons e r ih=>
  intro es' ms h he;cases ms with
  | nil=>exact he.elim
  | cons m q=>
   obtain ⟨h1,h2,h3⟩:=he;unfold Fj at h;split at h
   ·rename_i hq
    obtain rfl:=Option.some.inj h;obtain ⟨h4,h5,h6⟩:=t6 hd hq hk h1;refine .inr ⟨e.2,by simp [mB,hq],fun i=>⟨0,m,rfl,h6 rfl,fun y hy=>?_,fun w y hy=>?_,⟨hk,hv,h3⟩⟩⟩
    ·rcases h4 with h4 | h4
     ·simp [Instr.findNow,h4] at hy;rw [← hy];rfl
     ·simp [Instr.findNow,h4] at hy
    ·simp [Instr.findAsking,h5,Result.andThen] at hy;rw [← hy];rfl
   ·rename_i hq
    obtain ⟨h4,h5,h6⟩:=t6 hd hq hk h1;split at h
    ·rename_i l hl
     obtain rfl:=Option.some.inj h;rcases ih hl h3 with ⟨h7,rfl⟩ | ⟨u,h7,h8⟩
     ·exact .inl ⟨by simp [mB,hq,h7],rfl⟩
     ·refine .inr ⟨u,by simp [mB,hq,h7],fun i=>?_⟩
      obtain ⟨j,m',g1,g2,g3,g4,g5⟩:=h8 (i + 1);refine ⟨j + 1,m',by simpa using g1,g2,fun y hy=>?_,fun w y hy=>?_,⟨h1,h2,g5⟩⟩
      ·rcases h4 with h4 | h4
       ·simp [Instr.findNow,h4] at hy
        have:=g3 y hy;omega
       ·simp [Instr.findNow,h4] at hy
      ·simp [Instr.findAsking,h5,Result.andThen] at hy
       have:=g4 w y hy;omega
    ·cases h
   ·cases h
section
variable {w0:World} {h:Hp} {N:Nat} {fr:T V} {q:A}
theorem Cn {t:TypeId} {x k y:Operand} (e:FX h t (xe N fr x) (xe N fr k) (xe N fr y)=.ok q):mN w0 N fr h (.mapUpdate t x k y) q:=by
 unfold FX at e;split at e
 ·rename_i mv kv vv hx hk hy
  obtain ⟨h1,e1⟩:=bx e;intro σ ρ w dst ty pos af g he H;unfold vY at e1;split at e1
  ·rename_i kt el m hu
   split at e1
   ·rename_i d es hd hg
    obtain ⟨h2,e2⟩:=bx e1;split at e2
    ·rename_i es' hs
     obtain rfl:=R.ok.inj e2;have dk:=he k (by simp [Op.operands]) _ hk;have dv:=he y (by simp [Op.operands]) _ hy;obtain ⟨r,hm,hmx⟩:=AA (he x (by simp [Op.operands]) _ hx);obtain ⟨q',o,g1,g2,ms,clock,g3,rfl⟩:=H.g.obj _ _ hg;rw [hm] at g1;obtain rfl:=Option.some.inj g1;have hlow:=H.g.low _ _ hm;have h6:=tM hd h2 dk;rcases Cq (ms:=ms) hd dk dv hs g3 with ⟨h7,rfl⟩ | ⟨u,h7,h8⟩
     ·obtain ⟨z,h9,h10⟩:=ot hd dk h7 g3 w
      have hz:z=none:=by
       rcases h10 with ⟨_,h⟩ | ⟨v,j,y',h,_⟩
       ·exact h
       ·cases h
      subst hz;refine ⟨σ,undef,{ w with heap:=w.heap.setIfInBounds r.1 (.map (ms++[(⟨ρ k,ρ y,clock⟩:MapEntry)]).toArray (clock + 1)) },Sg.le.refl σ,.skip ?_ rfl,fE,H.turn (b':=.map (es++[(kv,vv)])) hg hm (d8 hlow.2) (show Run.obj σ (.map (es++[(kv,vv)])) r (.map (ms++[(⟨ρ k,ρ y,clock⟩:MapEntry)]).toArray (clock + 1)) from ⟨ms++[(⟨ρ k,ρ y,clock⟩:MapEntry)],clock + 1,x9 dk dv g3,rfl⟩)⟩;simp [execOp,hmx,Instr.mapUpdate,run_underlying hu,Go.MapKept.run_getObj_map g2,h6,h9,Go.MapKept.run_setObj_map _ g2,Result.andThen]
     ·obtain ⟨j,m',k1,k2,k3,k4,k5⟩:=h8 0
      obtain ⟨f1,f2⟩:=tY hd dk h7 g3 0
      have hfind:∃ yv,(Instr.findKey kt (ρ k) ms).run PG w=.ok (some (j,yv)) w:=by
       rcases f1 with f1 | ⟨z,f1,f3⟩
       ·obtain ⟨z,f4,f5⟩:=f2 w
        rcases f5 with ⟨f5,_⟩ | ⟨v',j',y',_,_,rfl⟩
        ·cases f5
        ·have:=k4 w _ f4
         simp at this;subst this;exact ⟨y',by simp [Instr.findKey,run_underlying hd,f1,f4,Result.andThen]⟩
       ·rcases f3 with ⟨f3,_⟩ | ⟨v',j',y',_,_,rfl⟩
        ·cases f3
        ·have:=k3 _ f1
         simp at this;subst this;exact ⟨y',by simp [Instr.findKey,run_underlying hd,f1,Result.andThen]⟩
      obtain ⟨yv,hfind⟩:=hfind
      have hstay:∀ w,(Instr.keyThatStays m'.key (ρ k)).run PG w=.ok (ρ k) w:=fun w=>by
       have:Instr.sameBits 10000 m'.key (ρ k)=true:=by rw [← k2.1];exact k2.2
       simp [Instr.keyThatStays,this]
      have hmod:ms.toArray.modify j (fun e=>{ e with key:=ρ k,val:=ρ y })=(ms.set j (⟨ρ k,ρ y,m'.born⟩:MapEntry)).toArray:=by
       rw [← Array.toList_inj];simp [List.modify_eq_set,k1]
      refine ⟨σ,undef,{ w with heap:=w.heap.setIfInBounds r.1 (.map (ms.set j (⟨ρ k,ρ y,m'.born⟩:MapEntry)).toArray clock) },Sg.le.refl σ,.skip ?_ rfl,fE,H.turn (b':=.map es') hg hm (d8 hlow.2) ⟨_,clock,k5,rfl⟩⟩;have hkey:((ms.toArray[j]?).map (·.key)).getD (ρ k)=m'.key:=by simp [k1]
      simp only [execOp,hmx,Instr.mapUpdate,Sem.run_bind,run_underlying hu,Go.MapKept.run_getObj_map g2,h6,hfind,hkey,hstay,hmod,Go.MapKept.run_setObj_map _ g2,Result.andThen,Sem.run_pure]
    ·cases e2
   ·cases e1
  ·cases e1
 ·cases e
theorem FG {src dst':TypeId} {x:Operand} (hk:bD (.convert src dst' x)=3) (e:rU h src dst' (xe N fr x)=.ok q):mN w0 N fr h (.convert src dst' x) q:=by
 unfold rU at e;split at e
 ·rename_i d k k' a h1 h2 hx
  obtain rfl:=R.ok.inj e;intro σ ρ w dst ty pos af g he H;have h3:=e7 (he x (by simp [Op.operands]) _ hx);exact ⟨σ,.int k (k.wrap a),w,Sg.le.refl σ,.val (by simp [execOp,h3,convert,run_underlying h1,run_underlying h2,Conv.intToInt,Result.andThen]),by simp [den],H⟩
 ·rename_i e1 el m off o n h1 h2 hx
  split at e
  ·rename_i hsd hel
   obtain rfl:=Nat.eq_of_beq_eq_true hsd;obtain ⟨h3,h4⟩:=bx e;obtain rfl:=R.ok.inj h4;obtain rfl:e1=el:=by rw [h1] at h2;simpa using h2
   intro σ ρ w dst ty pos af g he H;obtain ⟨r,hm,hx'⟩:=o8 (he x (by simp [Op.operands]) _ hx);cases hr:h.row m with
   | none=>rw [hr] at h3;cases h3
   | some c=>
    obtain ⟨q',c',rest,te,fz,g1,g2,g3,g4⟩:=H.g.row hr;rw [hm] at g1;obtain rfl:=Option.some.inj g1;have hlow:=H.g.low _ _ hm;obtain ⟨te',hg⟩:=wu hr;have hsh:w.shape? r.1=some (te,(c'++rest).length):=by simp [World.shape?,g3]
    let fz':Nat × Nat:=if fz.1 == fz.2 then ((c'++rest).length,(c'++rest).length + 1) else (min fz.1 (c'++rest).length,max fz.2 ((c'++rest).length + 1))
    have hfz:DS fz' (c'++rest).length:=by
     show fz'.1=fz'.2∨_;rcases g4 with g4 | g4
     ·right
      have:fz'=((c'++rest).length,(c'++rest).length + 1):=by show (if _ then _ else _)=_;rw [if_pos (by simpa using g4)]
      rw [this];exact Nat.le_refl _
     ·right
      show _≤(if fz.1 == fz.2 then ((c'++rest).length,(c'++rest).length + 1) else (min fz.1 (c'++rest).length,max fz.2 ((c'++rest).length + 1))).1;split
      ·exact Nat.le_refl _
      ·show _≤min _ _;omega
    have ht:rb w (w.freeze ⟨r.1,(c'++rest).length,none⟩ 1) r.1 (.cells (c'++rest).toArray te fz'):=by
     refine ⟨rfl,rfl,rfl,by simp [World.freeze],?_,fun i hi=>by simp [World.freeze,Array.getElem?_modify,Ne.symm hi]⟩;simp [World.freeze,Array.getElem?_modify,g3,fz']
    refine ⟨σ,ρ x,w.freeze ⟨r.1,(c'++rest).length,none⟩ 1,Sg.le.refl σ,.val ?_,he x (by simp [Op.operands]) _ hx,⟨?_,H.up⟩⟩
    ·simp [execOp,hx',convert,run_underlying h1,run_underlying hel,markStringish,hsh,Result.andThen]
    ·rcases hg with hg | hg
     ·obtain ⟨q',o',k1,k2,c2,fz2,k3,rfl,k4,k5⟩:=H.g.obj _ _ hg
      rw [hm] at k1;obtain rfl:=Option.some.inj k1;rw [g3] at k2;simp only [Option.some.injEq,Obj.cells.injEq] at k2;obtain ⟨k6,rfl,rfl⟩:=k2;have k7:c'++rest=c2:=by simpa using congrArg Array.toList k6
      exact H.g.turn (b':=.cells c te) hg hm ht ⟨c2,fz',k3,by rw [k7],by rw [← k7];exact hfz,k5⟩ (fun j d hj=>by
       by_cases hjm:j=m
       ·subst hjm;rw [hg] at hj;exact .inl ⟨rfl,(Option.some.inj hj).symm⟩
       ·exact .inr ⟨hjm,hj⟩)
     ·obtain ⟨q',o',k1,k2,c2,rest2,fz2,sz,k0,k3,rfl,k4,k5,k8⟩:=H.g.obj _ _ hg
      rw [hm] at k1;obtain rfl:=Option.some.inj k1;rw [g3] at k2;simp only [Option.some.injEq,Obj.cells.injEq] at k2;obtain ⟨k6,rfl,rfl⟩:=k2;have k7:c'++rest=c2++rest2:=by simpa using congrArg Array.toList k6
      exact H.g.turn (b':=.buf c te) hg hm ht ⟨c2,rest2,fz',sz,k0,k3,by rw [k7],by rw [← k7];exact hfz,k5,k8⟩ (fun j d hj=>by
       by_cases hjm:j=m
       ·subst hjm;rw [hg] at hj;exact .inl ⟨rfl,(Option.some.inj hj).symm⟩
       ·exact .inr ⟨hjm,hj⟩)
  ·cases e
 ·cases e
theorem zn {op:Op} (hk:bD op=3) (e:opL N fr h op=.ok q):mN w0 N fr h op q:=by
 cases op <;> first
  | (cases e;done)
  | (exact D1 e)
  | (exact Cn e)
  | (exact FG hk e)
  | (simp [bD] at hk;done)
  | skip
 ·rename_i c
  obtain ⟨cl,args,ats⟩:=c;cases cl with
  | value f=>simp [bD,jI] at hk
  | invoke r m=>cases e
  | builtin bt=>
   change gT h bt (xes N fr args.toList) ats.toList=.ok q at e;unfold gT at e;split at e
   ·simp [bD,jI,qA] at hk
   ·rename_i x y t t2 hl ht
    exact Co e hl ht rfl
   ·simp [bD,jI,qA] at hk
   ·cases e
end
end Go.Proofs.YtbcdgcodnkgdoaaGreat.Run
namespace Go.Proofs.YtbcdgcodnkgdoaaGreat.Run
open Go Go.RowKit
def FW (r:Option Nat):Fence:={ Fence.wide with round:=r }
theorem kG (r:Option Nat) (f:FuncId):(FW r).fn f:=trivial
def DsR (σ:Sg):List Df→List Deferred→Prop
 | [],[]=>True
 | .fn g caps args::r,d::q=>(∃ c a,dI σ caps=some c∧dI σ args=some a∧d={ target:=.fn (.func g) c.toArray,args:=a.toArray })∧DsR σ r q
 | .mark m::r,d::q=>(∃ p,σ m=some p∧d={ target:=.collected p.1,args:=#[] })∧DsR σ r q
 | _,_=>False
theorem DsR.mono {σ τ:Sg} (le:σ.le τ):∀ {ds:List Df} {dd:List Deferred},DsR σ ds dd→DsR τ ds dd:=by
 intro ds;induction ds with
 | nil=>intro dd h;cases dd <;> exact h
 | cons d r ih=>
  intro dd h;cases dd with
  | nil=>cases d <;> exact h.elim
  | cons e q=>
   cases d with
   | fn g caps args=>obtain ⟨⟨c,a,h1,h2,h3⟩,h4⟩:=h;exact ⟨⟨c,a,bT le _ _ h1,bT le _ _ h2,h3⟩,ih h4⟩
   | mark m=>obtain ⟨⟨p,h1,h3⟩,h4⟩:=h;exact ⟨⟨p,le _ _ h1,h3⟩,ih h4⟩
def xt:Xt→Exit
 | .nrm=>.normal
 | .ret=>.ret
 | .exi j=>.exit j
def rp (w0:World) (r:Option Nat) (N:Nat) (c:Code) (x:X) (q:Xt × X):Prop:=∀ (n:Nat) (σ:Sg) (a:Act) (w:World) (Q:Exit→Act→World→Prop),FrR σ N x.fr a.tmps→DsR σ x.ds a.defers→Den w0 σ x.h w→
 (∀ σ' a' w',σ.le σ'→FrR σ' N q.2.fr a'.tmps→DsR σ' q.2.ds a'.defers→Den w0 σ' q.2.h w'→Q (xt q.1) a' w')→c.wpIn (FW r) n PG Q a w
def vP (w0:World) (cf:CF):Prop:=∀ g args h q,cf g args h=.ok q→(∀ args w,(callFunc g args).run PG w=.ok (.enter g args) w) ∧
 ∀ (n:Nat) (σ:Sg) (w:World) (args':List Value) (R:Ending→World→Prop),dI σ args=some args'→Den w0 σ h w→(∀ σ' x w',σ.le σ'→den σ' q.v=some x→Den w0 σ' q.h w'→R (.returned x) w')→CallsIn Fence.wide n PG g args'.toArray w R
def DA (w0:World) (rc:RC):Prop:=∀ N c x q,rc N c x=.ok q→∀ l,rp w0 (some l) N c x q
def Gs (w0:World) (r:Option Nat) (N:Nat) (fr:T V) (h:Hp) (ds:List Df) (op:Op) (q:AD):Prop:=∀ (n:Nat) (σ:Sg) (a:Act) (w:World) (K:Act→World→Prop) (Q:Exit→Act→World→Prop) (dst:Option Nat) (ty:TypeId) (pos:String) (af:Array Edge) (g:Option (Nat × Bool)),
 EvO σ N fr a.eval op.operands→DsR σ ds a.defers→Den w0 σ h w→(∀ σ' x w' dd,σ.le σ'→den σ' q.v=some x→DsR σ' q.ds dd→Den w0 σ' q.h w'→K (({ a with defers:=dd }:Act).put dst x) w')→(⟨dst,op,ty,pos,af,g⟩:Oper).wpIn (FW r) n PG a w K Q
theorem FrR.ev {σ:Sg} {N:Nat} {fr:T V} {a:Act} (h:FrR σ N fr a.tmps) (l:Array Operand):EvO σ N fr a.eval l:=by
 intro x _ v hv;cases x with
 | tmp t=>
  obtain ⟨y,h1,h2⟩:=h.at_ t v hv;simp [Act.eval,Array.getD_eq_getD_getElem?,h2,h1]
 | const c=>exact rS hv
 | global g=>cases hv
 | func f=>
  obtain rfl:=Option.some.inj (show some (V.f f [] [])=some v from hv);simp [den,Act.eval]
theorem lV {r:Option Nat} {ρ:Operand→Value} {o:Oper} (h:∀ c,o.op≠.defer c):Oper.semAt (FW r).round ρ o=execOp ρ o:=by
 cases r with
 | none=>exact Oper.semAt_none _ _
 | some l=>exact Oper.semAt_some l ρ o h
theorem lJ {r:Option Nat} {n:Nat} {o:Oper} {a:Act} {w w':World} {K:Act→World→Prop} {Q:Exit→Act→World→Prop} {x:Value} (h:∀ c,o.op≠.defer c) (hy:Yl ((execOp a.eval o).run PG w) x w') (k:K (a.put o.dst x) w'):o.wpIn (FW r) n PG a w K Q:=by
 refine ⟨fun f _=>kG r f,?_⟩;rw [lV h];rcases hy with hy | ⟨hy,rfl⟩
 ·rw [hy];exact k
 ·rw [hy];exact k
theorem Ea {N:Nat} {fr:T V} {h:Hp} {op:Op} {q:A} (hk:bD op=0∨bD op=1) (e:opL N fr h op=.ok q):q.h=h:=by
 have w_:∀ {r:R V} {q:A},lK h r=.ok q→q.h=h:=fun e=>by obtain ⟨v,_,rfl⟩:=f8 e;rfl
 have o_:∀ {k:Nat} {r:Option V} {q:A},o1 h k r=.ok q→q.h=h:=fun e=>by obtain ⟨v,_,rfl⟩:=uU e;rfl
 cases op <;> first
  | (cases e;done)
  | (exact o_ e)
  | (simp [bD] at hk;done)
  | skip
 ·change wW N fr h _ _ _=_ at e
  unfold wW at e;split at e
  ·exact o_ e
  ·exact o_ e
  ·cases e
 ·change qh h _ _=_ at e
  unfold qh at e;split at e
  ·split at e
   ·obtain rfl:=R.ok.inj e;rfl
   ·cases e
  ·cases e
 ·rename_i t x
  change CL h t (xe N fr x)=_ at e;cases hx:xe N fr x with
  | none=>rw [hx] at e;cases e
  | some u=>rw [hx] at e;exact w_ e
 ·change Ej h _=_ at e
  unfold Ej at e;split at e
  ·obtain rfl:=R.ok.inj e;rfl
  ·obtain rfl:=R.ok.inj e;rfl
  ·cases e
 ·change Ep h _ _ _ _ _=_ at e
  unfold Ep at e;split at e
  ·exact w_ e
  ·cases e
 ·change oUn h _ _=_ at e
  unfold oUn at e;split at e
  ·obtain rfl:=R.ok.inj e;rfl
  ·obtain rfl:=R.ok.inj e;rfl
  ·exact w_ e
  ·cases e
 ·change rU h _ _ _=_ at e
  unfold rU at e;split at e
  ·obtain rfl:=R.ok.inj e;rfl
  ·split at e
   ·obtain ⟨_,e⟩:=bx e;obtain rfl:=R.ok.inj e;rfl
   ·cases e
  ·cases e
 ·change wZ h _ _ _=_ at e
  unfold wZ at e;split at e
  ·obtain rfl:=R.ok.inj e;rfl
  ·cases e
 ·change qe N fr h _ _ _ _ _=_ at e
  unfold qe at e;split at e
  ·exact w_ e
  ·split at e
   ·exact w_ e
   ·cases e
  ·split at e
   ·exact w_ e
   ·cases e
  ·cases e
 ·change mf h _ _=_ at e
  unfold mf at e;split at e
  ·obtain rfl:=R.ok.inj e;rfl
  ·cases e
 ·change qf h _ _ _=_ at e
  unfold qf at e;split at e
  ·split at e
   ·exact w_ e
   ·cases e
  ·cases e
 ·change wY h _ _ _=_ at e
  unfold wY at e;split at e
  ·obtain ⟨_,_,_,_,rfl⟩:=tp e;rfl
  ·obtain ⟨_,_,_,_,rfl⟩:=tp e;rfl
  ·cases e
 ·change Ek h _ _ _=_ at e
  unfold Ek at e;split at e
  ·obtain ⟨_,e⟩:=bx e
   split at e
   ·obtain rfl:=R.ok.inj e;rfl
   ·cases e
  ·split at e
   ·obtain ⟨_,e⟩:=bx e;exact w_ e
   ·cases e
  ·cases e
 ·change wX h _ _ _ _=_ at e
  unfold wX at e;split at e
  ·exact w_ e
  ·cases e
 ·change Em h _ _=_ at e
  unfold Em at e;split at e
  ·exact o_ e
  ·cases e
 ·rename_i c
  obtain ⟨cl,args,ats⟩:=c;cases cl with
  | value f=>simp [bD,jI] at hk
  | invoke r m=>cases e
  | builtin bt=>
   change gT h bt (xes N fr args.toList) ats.toList=.ok q at e;unfold gT at e;split at e
   ·unfold Fk at e
    split at e
    ·obtain rfl:=R.ok.inj e;rfl
    ·obtain rfl:=R.ok.inj e;rfl
    ·obtain rfl:=R.ok.inj e;rfl
    ·cases e
   ·simp [bD,jI,qA] at hk
   ·obtain rfl:=R.ok.inj e;rfl
   ·cases e
theorem Bo {w0:World} {r:Option Nat} {N:Nat} {fr:T V} {h:Hp} {ds:List Df} {op:Op} {q:A} (hd:∀ c,op≠.defer c) (hk:bD op≤3) (e:opL N fr h op=.ok q):Gs w0 r N fr h ds op ⟨q.v,q.h,ds⟩:=by
 intro n σ a w K Q dst ty pos af g he hds H k;have hself:({ a with defers:=a.defers }:Act)=a:=rfl;rcases (show (bD op=0∨bD op=1)∨bD op=2∨bD op=3 by omega) with h0 | h2 | h3
 ·obtain ⟨x,h1,h2⟩:=wE (dst:=dst) (ty:=ty) (pos:=pos) (af:=af) (g:=g) h0 e he (fun c=>rfl) (fun _=>H.g)
  exact lJ hd (.val h1) (k σ x w a.defers (Sg.le.refl σ) h2 hds (by rw [Ea h0 e];exact H))
 ·obtain ⟨b,hb,hl⟩:=Bt h2 e
  obtain ⟨cap,x,o,h1,h3,h4⟩:=hl (w:=w) (dst:=dst) (ty:=ty) (pos:=pos) (af:=af) (g:=g) he (H.up _ (Nat.le_refl _));obtain ⟨le,hden⟩:=H.new h4;exact lJ hd (.val h1) (k _ x _ a.defers le h3 (hds.mono le) (by show Den w0 _ q.h _;rw [hb];exact hden))
 ·obtain ⟨σ',x,w',le,h1,h4,h5⟩:=zn (w0:=w0) h3 e (dst:=dst) (ty:=ty) (pos:=pos) (af:=af) (g:=g) he H
  exact lJ hd h1 (k σ' x w' a.defers le h4 (hds.mono le) h5)
theorem lj {ds:List Df} {r:R A} {q:AD} (e:uw ds r=.ok q):∃ p,r=.ok p∧q=⟨p.v,p.h,ds⟩:=by
 obtain ⟨p,h1,h2⟩:=bn e;exact ⟨p,h1,(R.ok.inj h2).symm⟩
theorem Gj {σ:Sg} {m:Nat} {x:Value} (h:den σ (.y m)=some x):∃ q,σ m=some q∧x=.func (.yield q.1) #[] #[]:=by
 rw [den] at h;cases hm:σ m with
 | none=>rw [hm] at h;cases h
 | some q=>rw [hm] at h;exact ⟨q,rfl,(Option.some.inj h).symm⟩
theorem wB {σ:Sg} {N:Nat}:∀ {ps:List Nat} {vs:List V} {fr fr1:T V} {tmps:Array Value} {xs:List Value},wD N ps vs fr=.ok fr1→FrR σ N fr tmps→dI σ vs=some xs→
 ps.length=vs.length∧FrR σ N fr1 ((ps.zip xs).foldl (fun tmps (x:Nat × Value)=>tmps.setIfInBounds x.1 x.2) tmps):=by
 intro ps;induction ps with
 | nil=>
  intro vs fr fr1 tmps xs e H hx;cases vs with
  | nil=>obtain rfl:=R.ok.inj e;exact ⟨rfl,by simpa using H⟩
  | cons v r=>cases e
 | cons d ps ih=>
  intro vs fr fr1 tmps xs e H hx;cases vs with
  | nil=>cases e
  | cons v r=>
   obtain ⟨h1,h2⟩:=bx e;obtain ⟨x,b,h3,h4,rfl⟩:=aO.1 hx;obtain ⟨h5,h6⟩:=ih h2 (H.put (fF h1) h3) h4;exact ⟨by simp [h5],h6⟩
theorem Dd {w0:World} {r:Option Nat} {N:Nat} {fr:T V} {h:Hp} {ds:List Df} {cf:CF} {rc:RC} {f:Operand} {args:Array Operand} {ats:Array TypeId} {q:A} (hcf:vP w0 cf) (hrc:DA w0 rc)
 (e:De cf rc h (xe N fr f) (xes N fr args.toList)=.ok q):Gs w0 r N fr h ds (.call ⟨.value f,args,ats⟩) ⟨q.v,q.h,ds⟩:=by
 intro n σ a w K Q dst ty pos af g he hds H k;unfold De at e;split at e
 ·rename_i gf pre caps vs hf hvs
  obtain ⟨h1,h2⟩:=hcf _ _ _ _ e;obtain ⟨pa,ca,h3,h4,h5⟩:=vh (he f (by simp [Op.operands,Call.operands]) _ hf);have h6:=fZ (fun x hx=>he x (by simp [Op.operands,Call.operands];exact .inr (by simpa using hx))) hvs;refine ⟨fun f _=>kG r f,?_⟩;rw [lV (by intro c hc;cases hc)]
  have hrun:(execOp a.eval ⟨dst,.call ⟨.value f,args,ats⟩,ty,pos,af,g⟩).run PG w=.ok (.enter gf (pa++args.toList.map a.eval++ca).toArray) w:=by
   have:pa.toArray++args.map a.eval++ca.toArray=(pa++args.toList.map a.eval++ca).toArray:=by rw [← Array.toList_inj];simp
   simp [execOp,resolve,h5,Deferred.ofValue,invoke,h1,this]
  rw [hrun];refine ⟨fun hh=>(by cases hh),?_⟩
  have:=h2 (n - 1) σ w _ (fun
   | .returned v,w''=>K (a.put dst v) w''
   | .panicked chain,w''=>Q (.panic chain) a w''
   | .outgrown,_=>LetsOut Q) (cK (cK h3 h6) h4) H (fun σ' x w' le hx hd=>k σ' x w' a.defers le hx (hds.mono le) hd)
  exact this
 ·rename_i m vs hf hvs
  have h6:=fZ (fun x hx=>he x (by simp [Op.operands,Call.operands];exact .inr (by simpa using hx))) hvs;obtain ⟨p,hm,h5⟩:=Gj (he f (by simp [Op.operands,Call.operands]) _ hf);unfold Bc at e;split at e
  ·rename_i frl Nl ps asg body fn d hg
   obtain ⟨fr1,e1,e⟩:=bn e;obtain ⟨q1,e2,e⟩:=bn e;obtain ⟨p',o,g1,g2,tmps,dq,fnl,g3,g4,rfl⟩:=H.g.obj _ _ hg;rw [hm] at g1;obtain rfl:=Option.some.inj g1;obtain ⟨hl,hfr⟩:=wB e1 g3 h6;refine ⟨fun f _=>kG r f,?_⟩;rw [lV (by intro c hc;cases hc)]
   have hsz:(args.map a.eval).size=ps.toArray.size:=by
    have:=cy h6;simp at this ⊢;omega
   have hy:=run_yield (P:=PG) (args:=args.map a.eval) g2 hsz
   have hrun:(execOp a.eval ⟨dst,.call ⟨.value f,args,ats⟩,ty,pos,af,g⟩).run PG w=(Instr.yield p.1 (args.map a.eval)).run PG w:=by
    simp only [execOp,resolve,h5,Deferred.ofValue,invoke,Sem.run_bind,Sem.run_pure,Result.andThen];rw [show (#[]:Array Value)++args.map a.eval=args.map a.eval from by simp]
   rw [hrun,hy];refine ⟨fun hh=>(by cases hh),roundIn_of_wpIn (F:=FW r) (kG r _) ?_⟩
   have e3:(ps.toArray.zip (args.map a.eval)).foldl (fun tmps (x:Tmp × Value)=>tmps.setIfInBounds x.1 x.2) tmps=(ps.zip (args.toList.map a.eval)).foldl (fun tmps (x:Nat × Value)=>tmps.setIfInBounds x.1 x.2) tmps:=by
    rw [← Array.foldl_toList];simp
   refine hrc _ _ _ _ e2 p.1 (n - 1) σ { tmps:=_,defers:=[] } w _ (by show FrR σ Nl fr1 ((ps.toArray.zip (args.map a.eval)).foldl (fun tmps (x:Tmp × Value)=>tmps.setIfInBounds x.1 x.2) tmps);rw [e3];exact hfr) trivial H ?_;intro σ1 a1 w1 le1 hfr1 hds1 H1;unfold Be at e;split at e
   ·rename_i fr2 N2 ps2 asg2 body2 fn2 d2 hq1 hg2
    obtain ⟨q2,e4,e⟩:=bn e;obtain ⟨p1,o1,k1,k2,tmps2,dq2,fnl2,k3,k4,rfl⟩:=H1.g.obj _ _ hg2;have hm1:=le1 _ _ hm;rw [hm1] at k1;obtain rfl:=Option.some.inj k1;have hlow1:=(H1.g.low _ _ hm1).2;rw [hq1];refine ⟨_,run_beginRound k2 rfl,?_⟩;have H2:=H1.turn (b':=.loop false fr2 N2 ps2 asg2 body2 fn2 d2) hg2 hm1 (d8 (o:=.loop { state:=.busy,pending:=none,fn:=fnl2,tmps:=tmps2,params:=ps2.toArray,assign:=asg2,body:=body2,defers:=dq2.1 }) hlow1) ⟨tmps2,dq2,fnl2,k3,k4,rfl⟩;refine hrc _ _ _ _ e4 p.1 (n - 1) σ1 a1 _ _ hfr1 hds1 H2 ?_;intro σ2 a2 w2 le2 hfr2 hds2 H3;unfold Bd at e;split at e
    ·rename_i fr3 N3 ps3 asg3 body3 fn3 d3 hq2 hg3
     obtain rfl:=R.ok.inj e;obtain ⟨p2,o2,m1,m2,tmps3,dq3,fnl3,m3,m4,rfl⟩:=H3.g.obj _ _ hg3;have hm2:=le2 _ _ hm1;rw [hm2] at m1;obtain rfl:=Option.some.inj m1;have hlow2:=(H3.g.low _ _ hm2).2;rw [hq2];refine ⟨_,_,run_endRound none m2,?_⟩;have H4:=H3.turn (b':=.loop true fr3 N3 ps3 asg3 body3 fn3 d3) hg3 hm2 (d8 (o:=.loop { state:=.ready,pending:=none,fn:=fnl3,tmps:=tmps3,params:=ps3.toArray,assign:=asg3,body:=body3,defers:=dq3.1 }) hlow2) ⟨tmps3,dq3,fnl3,m3,m4,rfl⟩;exact k σ2 (.bool true) _ a.defers (le1.trans le2) mF (hds.mono (le1.trans le2)) H4
    ·cases e
   ·cases e
  ·cases e
 ·cases e
theorem Ah (c:Call) (hc:∀ f args ats,c=⟨.value f,args,ats⟩→False):bD (.call c)≤3:=by
 obtain ⟨cl,args,ats⟩:=c;cases cl with
 | value f=>exact (hc f args ats rfl).elim
 | invoke r m=>simp [bD,jI]
 | builtin bt=>simp only [bD,jI];cases bt <;> simp [qA]
theorem Bn {w0:World} {r:Option Nat} {rnd:Bool} {N:Nat} {fr:T V} {h:Hp} {ds:List Df} {cf:CF} {rc:RC} {op:Op} {q:AD} (hr:rnd=r.isSome) (hcf:vP w0 cf) (hrc:DA w0 rc) (hk:bD op≤5)
 (e:opS cf rc rnd N fr h ds op=.ok q):Gs w0 r N fr h ds op q:=by
 unfold opS at e;split at e
 ·rename_i c
  unfold Bq at e;split at e
  ·obtain ⟨p,e1,rfl⟩:=lj e
   exact Dd hcf hrc e1
  ·rename_i c hc
   obtain ⟨p,e1,rfl⟩:=lj e;exact Bo (by intro c hcc;cases hcc) (Ah _ hc) e1
 ·rename_i c
  unfold Bp at e;split at e
  ·rename_i f args ats
   split at e
   ·rename_i gf caps vs hf hvs
    obtain rfl:=R.ok.inj e;intro n σ a w K Q dst ty pos af g he hds H k;cases r with
    | some l=>cases hr
    | none=>
     obtain ⟨pa,ca,h3,h4,h5⟩:=vh (he f (by simp [Op.operands,Call.operands]) _ hf);simp only [dX,Option.some.injEq] at h3;subst h3;have h6:=fZ (fun x hx=>he x (by simp [Op.operands,Call.operands];exact .inr (by simpa using hx))) hvs;refine ⟨fun f _=>kG none f,?_⟩
     have hrun:(Oper.semAt (FW none).round a.eval ⟨dst,.defer ⟨.value f,args,ats⟩,ty,pos,af,g⟩).run PG w=.ok (.defer { target:=.fn (.func gf) ca.toArray,args:=(args.toList.map a.eval).toArray }) w:=by
      rw [show (FW none).round=none from rfl,Oper.semAt_none];simp [execOp,resolve,h5,Deferred.ofValue,Result.andThen];rw [← Array.toList_inj];simp
     rw [hrun];exact k σ undef w _ (Sg.le.refl σ) fE ⟨⟨ca,_,h4,h6,rfl⟩,hds⟩ H
   ·cases e
  ·cases e
 ·rename_i hc hd
  obtain ⟨p,e1,rfl⟩:=lj e;refine Bo hd ?_ e1
  revert hc hd
  cases op <;> simp [bD]
  ·simp only [mp];split <;> simp
end Go.Proofs.YtbcdgcodnkgdoaaGreat.Run
namespace Go.Proofs.YtbcdgcodnkgdoaaGreat.Run
open Go Go.RowKit
theorem qz (op:Op):bD op≤5:=by
 cases op <;> simp [bD]
 ·simp only [mp];split <;> simp
 ·rename_i c
  obtain ⟨cl,args,ats⟩:=c;cases cl with
  | value f=>simp [jI]
  | invoke r m=>simp [jI]
  | builtin bt=>simp only [jI];cases bt <;> simp [qA]
theorem rL {N:Nat} {fr fr':T V} {d:Option Nat} {v:V} (e:putD N fr d v=.ok fr'):(d=none∧fr'=fr)∨∃ k,d=some k∧k < N∧fr'=BE N fr k v:=by
 cases d with
 | none=>exact .inl ⟨rfl,(R.ok.inj e).symm⟩
 | some k=>
  obtain ⟨h1,h2⟩:=bx e;exact .inr ⟨k,rfl,fF h1,(R.ok.inj h2).symm⟩
theorem FrR.putD {σ:Sg} {N:Nat} {fr fr':T V} {a:Act} {d:Option Nat} {v:V} {x:Value} (h:FrR σ N fr a.tmps) (e:Run.putD N fr d v=.ok fr') (hv:den σ v=some x):FrR σ N fr' (a.put d x).tmps:=by
 rcases rL e with ⟨rfl,rfl⟩ | ⟨k,rfl,hk,rfl⟩
 ·exact h
 ·exact h.put hk hv
theorem iM (a:Act) (d:Option Nat) (x:Value):(a.put d x).defers=a.defers:=by cases d <;> rfl
def At (σ:Sg) (N:Nat) (fr:T V) (tmps:Array Value) (k:Nat):Prop:=∀ v,mC N fr k=some v→∃ x,den σ v=some x∧tmps[k]?=some x
theorem oH {σ:Sg} {N:Nat} {fr:T V} {tmps:Array Value} {ops:List Oper} {o:Oper} {b:Bool} (h:lL N fr (jh ops o)=some b) (ha:∀ k j,jh ops o=some (some k,j)→At σ N fr tmps k):Region.wanted o (yielded ops.toArray tmps)=b:=by
 unfold jh at h ha;unfold Region.wanted;split at h
 ·rename_i hg
  rw [hg];exact Option.some.inj h
 ·rename_i j wn hg
  rw [hg] at ha ⊢;simp only at ha ⊢;cases ho:ops[j]? with
  | none=>rw [ho] at h;cases h
  | some o'=>
   rw [ho] at h ha;simp only at h ha;cases hd:o'.dst with
   | none=>rw [hd] at h;cases h
   | some d=>
    rw [hd] at h ha;have ha':=ha d wn rfl;unfold lL at h;simp only at h;cases hf:mC N fr d with
    | none=>rw [hf] at h;cases h
    | some v=>
     rw [hf] at h;obtain ⟨x,h1,h2⟩:=ha' v hf
     have hy:yielded ops.toArray tmps j=(match x with | .bool b=>some b | _=>none):=by
      unfold yielded;simp only [List.getElem?_toArray,ho,Option.bind_some,hd,h2];cases x <;> rfl
     rw [hy];cases v with
     | b c=>
      obtain rfl:=qP h1;obtain rfl:=Option.some.inj h;cases c <;> cases wn <;> rfl
     | t l=>
      obtain ⟨a,_,rfl⟩:=EP h1;obtain rfl:=Option.some.inj h;cases wn <;> rfl
     | _=>cases h
theorem zs {cf:CF} {rc:RC} {rnd:Bool} {N:Nat} {g:Option (Option Nat × Bool)} {d:Option Nat} {op:Op} {x:X} {q:VX} (e:zt cf rc rnd N g d op x=.ok q):
 (lL N x.fr g=some false∧putD N x.fr d (.t [])=.ok q.x.fr∧q.v=.t []∧q.x.h=x.h∧q.x.ds=x.ds) ∨
 (lL N x.fr g=some true∧∃ p:AD,opS cf rc rnd N x.fr x.h x.ds op=.ok p∧putD N x.fr d p.v=.ok q.x.fr∧q.v=p.v∧q.x.h=p.h∧q.x.ds=p.ds):=by
 obtain ⟨fr,h,ds⟩:=x;have e0:zt cf rc rnd N g d op ⟨fr,h,ds⟩=Option.rec (motive:=fun _=>R VX) (.er [152]) (fun b=>Bool.rec (motive:=fun _=>R VX) (rC N fr d (.ok ⟨.t [],h,ds⟩)) (rC N fr d (opS cf rc rnd N fr h ds op)) b) (lL N fr g):=rfl;rw [e0] at e;cases hw:lL N fr g with
 | none=>rw [hw] at e;cases e
 | some b=>
  rw [hw] at e;cases b with
  | false=>
   obtain ⟨p,e1,e2⟩:=bn (show (R.ok (⟨.t [],h,ds⟩:AD)).bind _=.ok q from e);obtain rfl:=R.ok.inj e1;obtain ⟨fr',e3,e4⟩:=bn (show (putD N fr d (.t [])).bind _=.ok q from e2);obtain rfl:=R.ok.inj e4;exact .inl ⟨rfl,e3,rfl,rfl,rfl⟩
  | true=>
   obtain ⟨p,e1,e2⟩:=bn (show (opS cf rc rnd N fr h ds op).bind _=.ok q from e);obtain ⟨v,h',ds'⟩:=p;obtain ⟨fr',e3,e4⟩:=bn (show (putD N fr d v).bind _=.ok q from e2);obtain rfl:=R.ok.inj e4;exact .inr ⟨rfl,_,e1,e3,rfl,rfl,rfl⟩
theorem EH {w0:World} {r:Option Nat} {rnd:Bool} {N:Nat} {cf:CF} {rc:RC} (hr:rnd=r.isSome) (hcf:vP w0 cf) (hrc:DA w0 rc) {ops:List Oper}:∀ {l:List Oper} {acc:List Nat} {x q:X},exO cf rc rnd N (dig ops l acc) x=.ok q→
 ∀ (n:Nat) (σ:Sg) (a:Act) (w:World) (Q:Exit→Act→World→Prop),FrR σ N x.fr a.tmps→DsR σ x.ds a.defers→Den w0 σ x.h w→
 (∀ σ' a' w',σ.le σ'→FrR σ' N q.fr a'.tmps→DsR σ' q.ds a'.defers→Den w0 σ' q.h w'→Q .normal a' w')→wpListIn (FW r) n PG ops.toArray Q l a w:=by
 intro l;induction l with
 | nil=>
  intro acc x q e n σ a w Q hf hd H k;obtain rfl:=R.ok.inj (show R.ok x=.ok q from e);exact k σ a w (Sg.le.refl σ) hf hd H
 | cons o l ih=>
  intro acc x q e n σ a w Q hf hd H k;have e0:exO cf rc rnd N (dig ops (o::l) acc) x=(pu (match o.dst with | some d=>1000 + d | none=>999) (zt cf rc rnd N (jh ops o) o.dst o.op x)).bind fun q=>VX.rec (motive:=fun _=>R X) (fun _ x=>exO cf rc rnd N (dig ops l (acc++[n7 acc o])) x) q:=rfl;rw [e0] at e;obtain ⟨p,e1,e2⟩:=bn e;obtain ⟨pv,px⟩:=p
  replace e1:=sW e1
  unfold wpListIn;rcases zs e1 with ⟨h1,h2,h3,h4,h5⟩ | ⟨h1,p,h2,h3,h4,h5,h6⟩
  ·rw [if_neg (by rw [oH h1 (fun k _ _=>hf.at_ k)];simp)]
   refine ⟨fun f _=>kG r f,?_⟩;simp only at h2 h3 h4 h5;refine ih e2 n σ _ w Q (hf.putD h2 fE) ?_ (by rw [h4];exact H) k;rw [iM,h5];exact hd
  ·rw [if_pos (by rw [oH h1 (fun k _ _=>hf.at_ k)])]
   simp only at h3 h4 h5 h6;obtain ⟨dst,op,ty,pos,af,g⟩:=o;refine Bn hr hcf hrc (qz _) h2 n σ a w _ Q dst ty pos af g (hf.ev _) hd H ?_;intro σ' y w' dd le hy hdd H';refine ih e2 n σ' _ w' Q ?_ ?_ (by rw [h5];exact H') (fun σ2 a2 w2 le2=>k σ2 a2 w2 (le.trans le2))
   ·exact FrR.putD (a:={ a with defers:=dd }) (hf.mono le) h3 hy
   ·rw [iM,h6];exact hdd
end Go.Proofs.YtbcdgcodnkgdoaaGreat.Run
namespace Go.Proofs.YtbcdgcodnkgdoaaGreat.Run
open Go Go.RowKit
theorem BK {u v:V} (h:eq1 u v=true):u=v:=by
 unfold eq1 at h
 split at h <;> first
  | (cases h;done)
  | rfl
  | (simp only [Bool.and_eq_true,Nat.beq_eq,decide_eq_true_eq] at h;obtain ⟨⟨⟨rfl,rfl⟩,rfl⟩,rfl⟩:=h;rfl)
  | (simp only [Bool.and_eq_true,Nat.beq_eq,decide_eq_true_eq] at h;obtain ⟨rfl,rfl⟩:=h;rfl)
  | (simp only [Nat.beq_eq] at h;subst h;rfl)
  | (have:=eq_of_beq h;subst this;rfl)
  | (have h2:=eq_of_beq h
     rename_i x y
     congr 1
     obtain ⟨a⟩:=x;obtain ⟨b⟩:=y
     congr 1
     exact Array.toList_inj.1 h2)
theorem BI:∀ {x y:List V},eqL x y=true→x=y:=by
 intro x;induction x with
 | nil=>intro y h;cases y with
  | nil=>rfl
  | cons v r=>cases h
 | cons u r ih=>intro y h;cases y with
  | nil=>cases h
  | cons v q=>
   simp only [eqL,Bool.and_eq_true] at h;rw [BK h.1,ih h.2]
theorem EN {u v:V} (h:eqW u v=true):u=v:=by
 unfold eqW at h;split at h
 ·rw [BI h]
 ·rw [BI h]
 ·exact BK h
theorem kr {a b j:Nat} (h:nw a b=true) (ha:a.testBit j=true):b.testBit j=true:=by
 unfold nw at h;rw [Nat.beq_eq] at h;rw [← h] at ha;rw [Nat.testBit_and] at ha;simp only [Bool.and_eq_true] at ha;exact ha.2
structure Ev where
 g:Dg
 b:Bool
 v:V
 fr:T V
 h:Hp
 h':Hp
 ht:Hp
 ds:List Df
 ds':List Df
 blk:B
def Ev.tch (e:Ev):Bool:=Nat.ble 3 e.g.k
structure Own (cf:CF) (rc:RC) (rnd:Bool) (N:Nat) (e:Ev):Prop where
 wn:lL N e.fr e.g.g=some e.b
 no:e.b=false→e.v=.t []∧e.h'=e.h∧e.ds'=e.ds
 c1:e.g.k≤1→e.b=true→e.h'=e.h∧e.ds'=e.ds∧∃ q,opL N e.fr e.ht e.g.o.op=.ok q∧q.v=e.v
 c2:e.g.k=2→e.b=true→e.h'=e.h.new e.blk∧e.ds'=e.ds∧(bD e.g.o.op=2→DG N e.fr e.h.n e.g.o.op e.v e.blk)
 c3:3≤e.g.k→e.b=true→∃ q:AD,opS cf rc rnd N e.fr e.h e.ds e.g.o.op=.ok q∧q.v=e.v∧q.h=e.h'∧q.ds=e.ds'
def Lnk (cf:CF) (rc:RC) (rnd:Bool) (N:Nat):T V→Hp→Hp→List Df→List Ev→T V × Hp × Hp × List Df→Prop
 | fr,h,ht,ds,[],out=>out=(fr,h,ht,ds)
 | fr,h,ht,ds,e::r,out=>e.fr=fr∧e.h=h∧e.ht=ht∧e.ds=ds∧Own cf rc rnd N e∧∃ fr',putD N fr e.g.o.dst e.v=.ok fr'∧Lnk cf rc rnd N fr' e.h' (if e.tch then e.h' else ht) e.ds' r out
theorem Lnk.append {cf:CF} {rc:RC} {rnd:Bool} {N:Nat} {e:List Ev}:∀ {l:List Ev} {fr h ht ds} {m:T V × Hp × Hp × List Df} {out},Lnk cf rc rnd N fr h ht ds l m→Lnk cf rc rnd N m.1 m.2.1 m.2.2.1 m.2.2.2 e out→Lnk cf rc rnd N fr h ht ds (l++e) out:=by
 intro l;induction l with
 | nil=>intro fr h ht ds m out h1 h2;obtain rfl:m=_:=h1;exact h2
 | cons x l ih=>intro fr h ht ds m out h1 h2;obtain ⟨a,b,c,d,o,fr',p,h1⟩:=h1;exact ⟨a,b,c,d,o,fr',p,ih h1 h2⟩
structure Two (N:Nat) (j:Nat) (a c:Ev):Prop where
 tt:a.tch=true→c.tch=true→c.g.m.testBit j=true
 at_:a.g.k=2→c.tch=true→c.g.m.testBit j=true
 ta:a.tch=true→c.g.k=2→c.g.m.testBit j=true
 tr:a.tch=true→c.g.k=1→c.b=true→c.g.m.testBit j=false→∃ q,opL N c.fr a.ht c.g.o.op=.ok q∧q.v=c.v
 rt:a.g.k=1→a.b=true→c.tch=true→c.g.m.testBit j=false→∃ q,opL N a.fr c.h' a.g.o.op=.ok q∧q.v=a.v
def vF (N:Nat) (pre:List Ev):Prop:=∀ i c,pre[i]?=some c→∀ j a,j < i→pre[j]?=some a→Two N j a c
structure Pre (pre:List Ev) (s:An):Prop where
 i:s.i=pre.length
 tm:∀ j e,pre[j]?=some e→e.tch=true→s.tm.testBit j=true
 am:∀ j e,pre[j]?=some e→e.g.k=2→s.am.testBit j=true
 th:∀ j e,pre[j]?=some e→e.tch=true→(j,e.ht)∈s.th
 rs:∀ j e,pre[j]?=some e→e.g.k=1→e.b=true→(⟨j,e.g.o.op,e.fr,e.v⟩:Rs)∈s.rs
theorem wk {N:Nat} {fr:T V} {h:Hp} {op:Op} {v:V} (e:same N fr h op v=true):∃ q,opL N fr h op=.ok q∧q.v=v:=by
 have e0:same N fr h op v=R.rec (motive:=fun _=>Bool) (fun q=>A.rec (motive:=fun _=>Bool) (fun u _=>eqW u v) q) (fun _=>false) (opL N fr h op):=rfl;rw [e0] at e;cases hq:opL N fr h op with
 | er l=>rw [hq] at e;cases e
 | ok q=>rw [hq] at e;obtain ⟨u,h'⟩:=q;exact ⟨_,rfl,EN e⟩
theorem Ck {N m:Nat} {fr:T V} {op:Op} {v:V}:∀ {th:List (Nat × Hp)},Cm N m fr op v th=true→∀ r∈th,m.testBit r.1=false→∃ q,opL N fr r.2 op=.ok q∧q.v=v:=by
 intro th;induction th with
 | nil=>intro _ r hr;simp at hr
 | cons x th ih=>
  intro e r hr hm;have e0:Cm N m fr op v (x::th)=qB (m.testBit x.1) (Cm N m fr op v th) (qB (same N fr x.2 op v) (Cm N m fr op v th) false):=rfl;rw [e0] at e
  have key:Cm N m fr op v th=true∧(m.testBit x.1=false→same N fr x.2 op v=true):=by
   cases hb:m.testBit x.1 with
   | true=>rw [hb] at e;exact ⟨e,fun h=>by cases h⟩
   | false=>
    rw [hb] at e;cases hs:same N fr x.2 op v with
    | true=>rw [hs] at e;exact ⟨e,fun _=>rfl⟩
    | false=>rw [hs] at e;cases e
  rcases List.mem_cons.1 hr with rfl | hr
  ·exact wk (key.2 hm)
  ·exact ih key.1 r hr hm
theorem Cu {N m:Nat} {h:Hp}:∀ {rs:List Rs},Cv N m h rs=true→∀ r∈rs,m.testBit r.i=false→∃ q,opL N r.fr h r.op=.ok q∧q.v=r.v:=by
 intro rs;induction rs with
 | nil=>intro _ r hr;simp at hr
 | cons x rs ih=>
  intro e r hr hm;have e0:Cv N m h (x::rs)=qB (m.testBit x.i) (Cv N m h rs) (qB (same N x.fr h x.op x.v) (Cv N m h rs) false):=rfl;rw [e0] at e
  have key:Cv N m h rs=true∧(m.testBit x.i=false→same N x.fr h x.op x.v=true):=by
   cases hb:m.testBit x.i with
   | true=>rw [hb] at e;exact ⟨e,fun h=>by cases h⟩
   | false=>
    rw [hb] at e;cases hs:same N x.fr h x.op x.v with
    | true=>rw [hs] at e;exact ⟨e,fun _=>rfl⟩
    | false=>rw [hs] at e;cases e
  rcases List.mem_cons.1 hr with rfl | hr
  ·exact wk (key.2 hm)
  ·exact ih key.1 r hr hm
theorem ew {α:Type} {l:List α} {x y:α} {i:Nat} (h:(l++[x])[i]?=some y):(i < l.length∧l[i]?=some y)∨(i=l.length∧y=x):=by
 by_cases hi:i < l.length
 ·rw [List.getElem?_append_left hi] at h;exact .inl ⟨hi,h⟩
 ·rw [List.getElem?_append_right (by omega)] at h
  have:=(List.getElem?_eq_some_iff.1 h).1;simp at this;have hi2:i=l.length:=by omega
  subst hi2;simp at h;exact .inr ⟨rfl,h.symm⟩
theorem sZ {N:Nat} {fr:T V} {d:Option Nat} {r:R AD} {q:VX} (e:rC N fr d r=.ok q):∃ p:AD,r=.ok p∧putD N fr d p.v=.ok q.x.fr∧q.v=p.v∧q.x.h=p.h∧q.x.ds=p.ds:=by
 obtain ⟨p,e1,e2⟩:=bn e;obtain ⟨v,h',ds'⟩:=p;obtain ⟨fr',e3,e4⟩:=bn (show (putD N fr d v).bind _=.ok q from e2);obtain rfl:=R.ok.inj e4;exact ⟨_,e1,e3,rfl,rfl,rfl⟩
theorem BG {N:Nat} {fr:T V} {d:Option Nat} {op:Op} {b:Bool} {ht:Hp} {q:VX} (e:exP N fr d op b ht=.ok q):putD N fr d q.v=.ok q.x.fr∧(b=false→q.v=.t [])∧(b=true→∃ p,opL N fr ht op=.ok p∧p.v=q.v):=by
 obtain ⟨p,e1,e2⟩:=bn e;obtain ⟨v,h'⟩:=p;obtain ⟨fr',e3,e4⟩:=bn (show (putD N fr d v).bind _=.ok q from e2);obtain rfl:=R.ok.inj e4;refine ⟨e3,fun hb=>?_,fun hb=>?_⟩
 ·subst hb
  have:=R.ok.inj (show (R.ok ⟨.t [],ht⟩:R A)=.ok ⟨v,h'⟩ from e1);simp only [A.mk.injEq] at this;exact this.1.symm
 ·subst hb
  exact ⟨_,e1,rfl⟩
theorem DZ {cf:CF} {rc:RC} {rnd:Bool} {N:Nat} {g:Dg} {s s':An} {pre:List Ev} {fr0:T V} {h0 ht0:Hp} {ds0:List Df} (hk:g.k=bD g.o.op)
 (e:Fq cf rc rnd N g.o.dst g.o.op g.g g.k g.m s.i s.tm s.am s.ht s.th s.rs s.x=.ok s') (hp:Pre pre s) (hpp:vF N pre) (hl:Lnk cf rc rnd N fr0 h0 ht0 ds0 pre (s.x.fr,s.x.h,s.ht,s.x.ds)):
 ∃ ev:Ev,ev.g=g∧Pre (pre++[ev]) s'∧vF N (pre++[ev])∧Lnk cf rc rnd N fr0 h0 ht0 ds0 (pre++[ev]) (s'.x.fr,s'.x.h,s'.ht,s'.x.ds):=by
 obtain ⟨i,tm,am,ht,th,rs,x⟩:=s;obtain ⟨fr,h,ds⟩:=x;simp only at e hl;have e0:Fq cf rc rnd N g.o.dst g.o.op g.g g.k g.m i tm am ht th rs ⟨fr,h,ds⟩=Option.rec (motive:=fun _=>R An) (.er [163]) (fun b=>pu (match g.o.dst with | some d=>2000 + d | none=>1999) (Gg cf rc rnd N g.o.dst g.o.op b g.k g.m i tm am ht th rs fr h ds)) (lL N fr g.g):=rfl;rw [e0] at e;cases hw:lL N fr g.g with
 | none=>rw [hw] at e;cases e
 | some b=>
 rw [hw] at e
 replace e:=sW e
 unfold Gg at e;have hpi:i=pre.length:=hp.i
 -- what is common: the lists
 have mk:∀ (ev:Ev) (s':An),ev.g=g→ev.fr=fr→ev.h=h→ev.ht=ht→ev.ds=ds→Own cf rc rnd N ev→putD N fr g.o.dst ev.v=.ok s'.x.fr→s'.x.h=ev.h'→s'.ht=(if ev.tch then ev.h' else ht)→s'.x.ds=ev.ds'→s'.i=i + 1→
  (ev.tch=true→s'.tm=tm ||| 2 ^ i∧s'.am=am∧s'.th=(i,ht)::th∧s'.rs=rs∧nw (tm ||| am) g.m=true∧Cv N g.m ev.h' rs=true)→
  (ev.g.k=2→s'.tm=tm∧s'.am=am ||| 2 ^ i∧s'.th=th∧s'.rs=rs∧nw tm g.m=true)→
  (ev.g.k=1→s'.tm=tm∧s'.am=am∧s'.th=th∧(b=true→s'.rs=⟨i,g.o.op,fr,ev.v⟩::rs∧Cm N g.m fr g.o.op ev.v th=true)∧(b=false→s'.rs=rs))→
  (ev.g.k=0→s'.tm=tm∧s'.am=am∧s'.th=th∧s'.rs=rs)→ev.b=b→
  Pre (pre++[ev]) s'∧vF N (pre++[ev])∧Lnk cf rc rnd N fr0 h0 ht0 ds0 (pre++[ev]) (s'.x.fr,s'.x.h,s'.ht,s'.x.ds):=by
  intro ev s' hg hfr hh hht hds own iZ hh' hht' hds' hi k3 k2 k1 k0 hb
  have hkk:ev.g.k=0∨ev.g.k=1∨ev.g.k=2∨ev.tch=true:=by
   unfold Ev.tch;by_cases hle:3≤ev.g.k
   ·exact .inr (.inr (.inr (by simpa [Nat.ble_eq] using hle)))
   ·omega
  have htm:∀ j,tm.testBit j=true→s'.tm.testBit j=true:=fun j hj=>by
   rcases hkk with q | q | q | q
   ·rw [(k0 q).1];exact hj
   ·rw [(k1 q).1];exact hj
   ·rw [(k2 q).1];exact hj
   ·rw [(k3 q).1,Nat.testBit_or,hj];rfl
  have ham:∀ j,am.testBit j=true→s'.am.testBit j=true:=fun j hj=>by
   rcases hkk with q | q | q | q
   ·rw [(k0 q).2.1];exact hj
   ·rw [(k1 q).2.1];exact hj
   ·rw [(k2 q).2.1,Nat.testBit_or,hj];rfl
   ·rw [(k3 q).2.1];exact hj
  have hth:∀ r,r∈th→r∈s'.th:=fun r hr=>by
   rcases hkk with q | q | q | q
   ·rw [(k0 q).2.2.1];exact hr
   ·rw [(k1 q).2.2.1];exact hr
   ·rw [(k2 q).2.2.1];exact hr
   ·rw [(k3 q).2.2.1];exact List.mem_cons_of_mem _ hr
  have hrs:∀ r,r∈rs→r∈s'.rs:=fun r hr=>by
   rcases hkk with q | q | q | q
   ·rw [(k0 q).2.2.2];exact hr
   ·cases b with
    | true=>rw [((k1 q).2.2.2.1 rfl).1];exact List.mem_cons_of_mem _ hr
    | false=>rw [(k1 q).2.2.2.2 rfl];exact hr
   ·rw [(k2 q).2.2.2.1];exact hr
   ·rw [(k3 q).2.2.2.1];exact hr
  refine ⟨⟨by rw [hi,hpi];simp,fun j e hj ht'=>?_,fun j e hj ha=>?_,fun j e hj ht'=>?_,fun j e hj hr hbb=>?_⟩,fun c ec hc j a hjc ha=>?_,?_⟩
  ·rcases ew hj with ⟨_,hj⟩ | ⟨rfl,rfl⟩
   ·exact htm j (hp.tm j e hj ht')
   ·rw [(k3 ht').1,Nat.testBit_or,← hpi,Nat.testBit_two_pow_self];simp
  ·rcases ew hj with ⟨_,hj⟩ | ⟨rfl,rfl⟩
   ·exact ham j (hp.am j e hj ha)
   ·rw [(k2 ha).2.1,Nat.testBit_or,← hpi,Nat.testBit_two_pow_self];simp
  ·rcases ew hj with ⟨_,hj⟩ | ⟨rfl,rfl⟩
   ·exact hth _ (hp.th j e hj ht')
   ·rw [(k3 ht').2.2.1,← hpi,hht];exact List.mem_cons_self ..
  ·rcases ew hj with ⟨_,hj⟩ | ⟨rfl,rfl⟩
   ·exact hrs _ (hp.rs j e hj hr hbb)
   ·rw [((k1 hr).2.2.2.1 (hb ▸ hbb)).1,← hpi,hfr,hg];exact List.mem_cons_self ..
  ·rcases ew hc with ⟨hlt,hc⟩ | ⟨rfl,rfl⟩
   ·rw [List.getElem?_append_left (by omega)] at ha
    exact hpp c ec hc j a hjc ha
   ·rw [List.getElem?_append_left hjc] at ha
    refine ⟨fun h1 h2=>?_,fun h1 h2=>?_,fun h1 h2=>?_,fun h1 h2 h3 h4=>?_,fun h1 h2 h3 h4=>?_⟩
    ·rw [hg];exact kr (k3 h2).2.2.2.2.1 (by rw [Nat.testBit_or,hp.tm j a ha h1];rfl)
    ·rw [hg];exact kr (k3 h2).2.2.2.2.1 (by rw [Nat.testBit_or,hp.am j a ha h1];simp)
    ·rw [hg];exact kr (k2 h2).2.2.2.2 (hp.tm j a ha h1)
    ·have:=Ck ((k1 h2).2.2.2.1 (hb ▸ h3)).2 _ (hp.th j a ha h1) (by rw [← hg];exact h4)
     rw [hfr,hg];exact this
    ·exact Cu (k3 h3).2.2.2.2.2 _ (hp.rs j a ha h1 h2) (by rw [← hg];exact h4)
  ·refine Lnk.append hl ⟨hfr,hh,hht,hds,own,_,by rw [hg];exact iZ,?_⟩
   show _=_;rw [hh',hht',hds']
 split at e
 ·rename_i hk0
  obtain ⟨q,e1,e2⟩:=bn e;obtain rfl:=R.ok.inj e2;obtain ⟨p1,p2,p3⟩:=BG e1;refine ⟨⟨g,b,q.v,fr,h,h,ht,ds,ds,.dfr⟩,rfl,mk _ _ rfl rfl rfl rfl rfl ⟨hw,fun hb=>⟨p2 hb,rfl,rfl⟩,fun _ hb=>⟨rfl,rfl,p3 hb⟩,fun hh _=>?_,fun hh _=>?_⟩ p1 rfl ?_ rfl rfl ?_ ?_ ?_ ?_ rfl⟩
  ·simp only at hh;omega
  ·simp only at hh;omega
  ·rw [if_neg];simp [Ev.tch];omega
  ·intro hh;simp [Ev.tch] at hh;omega
  ·intro hh;simp only at hh;omega
  ·intro hh;simp only at hh;omega
  ·intro _;exact ⟨rfl,rfl,rfl,rfl⟩
 ·rename_i hk1
  obtain ⟨q,e1,e2⟩:=bn e;obtain ⟨e3,e4⟩:=bx e2;obtain rfl:=R.ok.inj e4;obtain ⟨p1,p2,p3⟩:=BG e1;refine ⟨⟨g,b,q.v,fr,h,h,ht,ds,ds,.dfr⟩,rfl,mk _ _ rfl rfl rfl rfl rfl ⟨hw,fun hb=>⟨p2 hb,rfl,rfl⟩,fun _ hb=>⟨rfl,rfl,p3 hb⟩,fun hh _=>?_,fun hh _=>?_⟩ p1 rfl ?_ rfl rfl ?_ ?_ ?_ ?_ rfl⟩
  ·simp only at hh;omega
  ·simp only at hh;omega
  ·rw [if_neg];simp [Ev.tch];omega
  ·intro hh;simp [Ev.tch] at hh;omega
  ·intro hh;simp only at hh;omega
  ·intro _
   refine ⟨rfl,rfl,rfl,fun hb=>?_,fun hb=>?_⟩
   ·subst hb;exact ⟨rfl,e3⟩
   ·subst hb;rfl
  ·intro hh;simp only at hh;omega
 ·rename_i hk2
  obtain ⟨q,e1,e2⟩:=bn e;obtain ⟨e3,e4⟩:=bx e2;obtain rfl:=R.ok.inj e4;obtain ⟨p,p1,p2,p3,p4,p5⟩:=sZ e1;cases b with
  | false=>
   obtain rfl:=R.ok.inj (show (R.ok ⟨.t [],h,ds⟩:R AD)=.ok p from p1);simp only at p2 p3 p4 p5;refine ⟨⟨g,false,.t [],fr,h,h,ht,ds,ds,.dfr⟩,rfl,mk _ _ rfl rfl rfl rfl rfl ⟨hw,fun _=>⟨rfl,rfl,rfl⟩,fun _ hb=>(by cases hb),fun _ hb=>(by cases hb),fun _ hb=>(by cases hb)⟩ p2 p4 ?_ p5 rfl ?_ ?_ ?_ ?_ rfl⟩
   ·rw [if_neg];simp [Ev.tch];omega
   ·intro hh;simp [Ev.tch] at hh;omega
   ·intro _;exact ⟨rfl,rfl,rfl,rfl,e3⟩
   ·intro hh;simp only at hh;omega
   ·intro hh;simp only at hh;omega
  | true=>
   obtain ⟨r,r1,rfl⟩:=lj (show uw ds (opL N fr h g.o.op)=.ok p from p1);obtain ⟨bl,b1,b2⟩:=Bt (by rw [← hk];exact hk2) r1;simp only at p2 p3 p4 p5;refine ⟨⟨g,true,r.v,fr,h,r.h,ht,ds,ds,bl⟩,rfl,mk _ _ rfl rfl rfl rfl rfl ⟨hw,fun hb=>(by cases hb),fun hh _=>?_,fun _ _=>⟨b1,rfl,fun _=>b2⟩,fun hh _=>?_⟩ p2 p4 ?_ p5 rfl ?_ ?_ ?_ ?_ rfl⟩
   ·simp only at hh;omega
   ·simp only at hh;omega
   ·rw [if_neg];simp [Ev.tch];omega
   ·intro hh;simp [Ev.tch] at hh;omega
   ·intro _;exact ⟨rfl,rfl,rfl,rfl,e3⟩
   ·intro hh;simp only at hh;omega
   ·intro hh;simp only at hh;omega
 ·rename_i n0 n1 n2
  obtain ⟨q,e1,e2⟩:=bn e;obtain ⟨e3,e4⟩:=bx e2;simp only [Bool.and_eq_true] at e3;obtain rfl:=R.ok.inj e4;obtain ⟨p,p1,p2,p3,p4,p5⟩:=sZ e1
  have hk3:3≤g.k:=by
   rcases Nat.lt_or_ge g.k 3 with hlt | hge
   ·exfalso
    have:g.k=0∨g.k=1∨g.k=2:=by omega
    rcases this with h | h | h
    ·exact n0 h
    ·exact n1 h
    ·exact n2 h
   ·exact hge
  refine ⟨⟨g,b,p.v,fr,h,p.h,ht,ds,p.ds,.dfr⟩,rfl,mk _ _ rfl rfl rfl rfl rfl ⟨hw,fun hb=>?_,fun hh _=>?_,fun hh _=>?_,fun _ hb=>?_⟩ p2 p4 ?_ p5 rfl ?_ ?_ ?_ ?_ rfl⟩
  ·subst hb
   obtain rfl:=R.ok.inj (show (R.ok ⟨.t [],h,ds⟩:R AD)=.ok p from p1);exact ⟨rfl,rfl,rfl⟩
  ·simp only at hh;omega
  ·simp only at hh;omega
  ·subst hb
   exact ⟨p,p1,rfl,rfl,rfl⟩
  ·rw [if_pos]
   ·exact p4
   ·simp [Ev.tch];exact hk3
  ·intro _;exact ⟨rfl,rfl,rfl,rfl,e3.1,by rw [← p4];exact e3.2⟩
  ·intro hh;simp only at hh;omega
  ·intro hh;simp only at hh;omega
  ·intro hh;simp only at hh;omega
theorem zm {cf:CF} {rc:RC} {rnd:Bool} {N:Nat} {ops:List Oper} {fr0:T V} {h0 ht0:Hp} {ds0:List Df}:∀ {l:List Dg} {s s':An} {pre:List Ev},(∀ g∈l,g.k=bD g.o.op)→exA cf rc rnd N l s=.ok s'→Pre pre s→vF N pre→
 Lnk cf rc rnd N fr0 h0 ht0 ds0 pre (s.x.fr,s.x.h,s.ht,s.x.ds)→∃ tr:List Ev,tr.map (·.g)=l∧vF N (pre++tr)∧Lnk cf rc rnd N fr0 h0 ht0 ds0 (pre++tr) (s'.x.fr,s'.x.h,s'.ht,s'.x.ds):=by
 intro l;induction l with
 | nil=>
  intro s s' pre _ e hp hpp hl;obtain rfl:=R.ok.inj (show R.ok s=.ok s' from e);exact ⟨[],rfl,by simpa using hpp,by simpa using hl⟩
 | cons g l ih=>
  intro s s' pre hk e hp hpp hl;obtain ⟨s1,e1,e2⟩:=bn (show (_:R An).bind _=.ok s' from e);have e1':Fq cf rc rnd N g.o.dst g.o.op g.g g.k g.m s.i s.tm s.am s.ht s.th s.rs s.x=.ok s1:=e1;obtain ⟨ev,h1,h2,h3,h4⟩:=DZ (hk g (by simp)) e1' hp hpp hl;obtain ⟨tr,h5,h6,h7⟩:=ih (fun g hg=>hk g (by simp [hg])) e2 h2 h3 h4;exact ⟨ev::tr,by simp [h1,h5],by simpa using h6,by simpa using h7⟩
end Go.Proofs.YtbcdgcodnkgdoaaGreat.Run
namespace Go.Proofs.YtbcdgcodnkgdoaaGreat.Run
open Go Go.RowKit
/-! ### what is known when some have been done -/
def ff (L:Nat→Bool):Nat→(Nat→Option V)→List Ev→(Nat→Option V)
 | _,g,[]=>g
 | i,g,e::r=>ff L (i + 1) (if L i then (fun t=>if e.g.o.dst=some t then some e.v else g t) else g) r
noncomputable def gf (L:Nat→Bool):Nat→(Nat→Option B)→List Ev→(Nat→Option B)
 | _,g,[]=>g
 | i,g,e::r=>gf L (i + 1) (if L i then (if e.tch then e.h'.get else if e.g.k=2∧e.b=true then (fun k=>if k=e.h.n then some e.blk else g k) else g) else g) r
def htf (L:Nat→Bool):Nat→Hp→List Ev→Hp
 | _,h,[]=>h
 | i,h,e::r=>htf L (i + 1) (if L i then (if e.tch then e.h' else h) else h) r
def df (L:Nat→Bool):Nat→List Df→List Ev→List Df
 | _,d,[]=>d
 | i,d,e::r=>df L (i + 1) (if L i then (if e.tch then e.ds' else d) else d) r
theorem EG {L:Nat→Bool} {l:List Ev}:∀ {m:List Ev} {i:Nat} {g:Nat→Option V},ff L i g (m++l)=ff L (i + m.length) (ff L i g m) l:=by
 intro m;induction m with
 | nil=>intro i g;rfl
 | cons e m ih=>intro i g;simp only [List.cons_append,ff,ih,List.length_cons];rw [show i + 1 + m.length=i + (m.length + 1) by omega]
theorem EB {L:Nat→Bool} {l:List Ev}:∀ {m:List Ev} {i:Nat} {g:Nat→Option B},gf L i g (m++l)=gf L (i + m.length) (gf L i g m) l:=by
 intro m;induction m with
 | nil=>intro i g;rfl
 | cons e m ih=>intro i g;simp only [List.cons_append,gf,ih,List.length_cons];rw [show i + 1 + m.length=i + (m.length + 1) by omega]
theorem C2 {L:Nat→Bool} {l:List Ev}:∀ {m:List Ev} {i:Nat} {g:Hp},htf L i g (m++l)=htf L (i + m.length) (htf L i g m) l:=by
 intro m;induction m with
 | nil=>intro i g;rfl
 | cons e m ih=>intro i g;simp only [List.cons_append,htf,ih,List.length_cons];rw [show i + 1 + m.length=i + (m.length + 1) by omega]
theorem EO {L:Nat→Bool} {l:List Ev}:∀ {m:List Ev} {i:Nat} {g:List Df},df L i g (m++l)=df L (i + m.length) (df L i g m) l:=by
 intro m;induction m with
 | nil=>intro i g;rfl
 | cons e m ih=>intro i g;simp only [List.cons_append,df,ih,List.length_cons];rw [show i + 1 + m.length=i + (m.length + 1) by omega]
theorem x8 {L L':Nat→Bool}:∀ {l:List Ev} {i:Nat},(∀ j,j < l.length→L (i + j)=L' (i + j))→(∀ g,ff L i g l=ff L' i g l)∧(∀ g,gf L i g l=gf L' i g l)∧(∀ g,htf L i g l=htf L' i g l)∧(∀ g,df L i g l=df L' i g l):=by
 intro l;induction l with
 | nil=>intro i _;exact ⟨fun _=>rfl,fun _=>rfl,fun _=>rfl,fun _=>rfl⟩
 | cons e l ih=>
  intro i h;have h0:=h 0 (by simp);simp only [Nat.add_zero] at h0;obtain ⟨a,b,c,d⟩:=ih (i:=i + 1) (fun j hj=>by have:=h (j + 1) (by simp;omega);rwa [show i + (j + 1)=i + 1 + j by omega] at this);exact ⟨fun g=>by simp only [ff,h0,a],fun g=>by simp only [gf,h0,b],fun g=>by simp only [htf,h0,c],fun g=>by simp only [df,h0,d]⟩
/-! ### in order -/
section
variable {cf:CF} {rc:RC} {rnd:Bool} {N:Nat}
theorem jz {e:Ev} (o:Own cf rc rnd N e) (h:e.tch=false):e.ds'=e.ds∧(e.g.k=2∧e.b=true∨e.h'=e.h):=by
 have hk:e.g.k≤2:=by
  rcases Nat.lt_or_ge e.g.k 3 with h1 | h1
  ·omega
  ·exfalso
   have:e.tch=true:=by simpa [Ev.tch,Nat.ble_eq] using h1
   rw [this] at h;cases h
 cases hb:e.b with
 | false=>have:=o.no hb;exact ⟨this.2.2,.inr this.2.1⟩
 | true=>
  rcases (show e.g.k≤1∨e.g.k=2 by omega) with h1 | h1
  ·have:=o.c1 h1 hb;exact ⟨this.2.1,.inr this.1⟩
  ·exact ⟨(o.c2 h1 hb).2.1,.inl ⟨h1,rfl⟩⟩
theorem Lnk.split {e:Ev} {B:List Ev}:∀ {A:List Ev} {fr h ht ds out},Lnk cf rc rnd N fr h ht ds (A++e::B) out→∃ m:T V × Hp × Hp × List Df,Lnk cf rc rnd N fr h ht ds A m∧Lnk cf rc rnd N m.1 m.2.1 m.2.2.1 m.2.2.2 (e::B) out:=by
 intro A;induction A with
 | nil=>intro fr h ht ds out hl;exact ⟨(fr,h,ht,ds),rfl,hl⟩
 | cons x A ih=>
  intro fr h ht ds out hl;obtain ⟨a,b,c,d,o,fr',p,hl⟩:=hl;obtain ⟨m,h1,h2⟩:=ih hl;exact ⟨m,⟨a,b,c,d,o,fr',p,h1⟩,h2⟩
theorem ub {L:Nat→Bool} {t:Nat}:∀ {l:List Ev} {fr h ht ds out} {i:Nat} {g:Nat→Option V},Lnk cf rc rnd N fr h ht ds l out→(∀ v,mC N fr t=some v→g t=some v)→(∀ j e,l[j]?=some e→e.g.o.dst=some t→L (i + j)=true)→
 ∀ v,mC N out.1 t=some v→ff L i g l t=some v:=by
 intro l;induction l with
 | nil=>intro fr h ht ds out i g hl hg _ v hv;obtain rfl:out=_:=hl;exact hg v hv
 | cons e l ih=>
  intro fr h ht ds out i g hl hg hL v hv;obtain ⟨a,b,c,d,o,fr',p,hl⟩:=hl;refine ih hl (fun u hu=>?_) (fun j e' he hd=>by have:=hL (j + 1) e' (by simpa using he) hd;rwa [show i + (j + 1)=i + 1 + j by omega] at this) v hv;rcases rL p with ⟨hd,rfl⟩ | ⟨k,hd,hk,rfl⟩
  ·have:(if L i=true then (fun t=>if e.g.o.dst=some t then some e.v else g t) else g) t=g t:=by
    split
    ·show (if e.g.o.dst=some t then some e.v else g t)=g t
     rw [if_neg (by rw [hd];simp)]
    ·rfl
   rw [this];exact hg u hu
  ·rcases tZ hk hu with ⟨rfl,rfl⟩ | ⟨hne,hu⟩
   ·have h0:=hL 0 e (by simp) hd
    simp only [Nat.add_zero] at h0;rw [if_pos h0];show (if e.g.o.dst=some t then some e.v else g t)=_;rw [if_pos hd]
   ·have:(if L i=true then (fun t=>if e.g.o.dst=some t then some e.v else g t) else g) t=g t:=by
     split
     ·show (if e.g.o.dst=some t then some e.v else g t)=g t
      rw [if_neg (by rw [hd];intro hh;exact hne (Option.some.inj hh).symm)]
     ·rfl
    rw [this];exact hg u hu
theorem lD {L:Nat→Bool}:∀ {l:List Ev} {fr h ht ds out} {i:Nat},Lnk cf rc rnd N fr h ht ds l out→(∀ j e,l[j]?=some e→e.tch=true→L (i + j)=true)→htf L i ht l=out.2.2.1∧df L i ds l=out.2.2.2:=by
 intro l;induction l with
 | nil=>intro fr h ht ds out i hl _;obtain rfl:out=_:=hl;exact ⟨rfl,rfl⟩
 | cons e l ih=>
  intro fr h ht ds out i hl hL;obtain ⟨a,b,c,d,o,fr',p,hl⟩:=hl;have:=ih (i:=i + 1) hl (fun j e' he ht=>by have:=hL (j + 1) e' (by simpa using he) ht;rwa [show i + (j + 1)=i + 1 + j by omega] at this);rw [← this.1,← this.2];simp only [htf,df];cases ht':e.tch with
  | true=>
   have h0:=hL 0 e (by simp) ht';simp only [Nat.add_zero] at h0;simp [h0]
  | false=>
   have hds:=(jz o ht').1;rw [hds,d];simp
theorem sG {L:Nat→Bool}:∀ {l:List Ev} {fr h ht ds out} {i:Nat} {g:Nat→Option B},Lnk cf rc rnd N fr h ht ds l out→(∀ k b,h.get k=some b→g k=some b)→(∀ j e,l[j]?=some e→(e.tch=true∨e.g.k=2)→L (i + j)=true)→
 ∀ k b,out.2.1.get k=some b→gf L i g l k=some b:=by
 intro l;induction l with
 | nil=>intro fr h ht ds out i g hl hg _ k b hv;obtain rfl:out=_:=hl;exact hg k b hv
 | cons e l ih=>
  intro fr h ht ds out i g hl hg hL k b hv;obtain ⟨a,b',c,d,o,fr',p,hl⟩:=hl;refine ih hl (fun k b hb=>?_) (fun j e' he hd=>by have:=hL (j + 1) e' (by simpa using he) hd;rwa [show i + (j + 1)=i + 1 + j by omega] at this) k b hv;cases ht':e.tch with
  | true=>
   have h0:=hL 0 e (by simp) (.inl ht');simp only [Nat.add_zero] at h0;simp only [h0,if_true];exact hb
  | false=>
   rcases (jz o ht').2 with ⟨h2,h3⟩ | h4
   ·have h0:=hL 0 e (by simp) (.inr h2)
    simp only [Nat.add_zero] at h0;simp only [h0,if_true,h2,h3,and_self,Bool.false_eq_true,if_false];rw [(o.c2 h2 h3).1] at hb;rcases kS hb with ⟨h5,h6⟩ | ⟨h5,h6⟩
    ·rw [if_pos h5,h6]
    ·rw [if_neg h5];rw [b'] at h6;exact hg k b h6
   ·rw [h4,b'] at hb
    have hgk:=hg k b hb;split
    ·rw [if_neg (by simp)]
     split
     ·rename_i h5
      exfalso
      have:=(o.c2 h5.1 h5.2).1;rw [h4] at this;have hn:=congrArg Hp.n this;simp at hn
     ·exact hgk
    ·exact hgk
theorem D5:∀ {l:List Ev} {fr h ht ds out},Lnk cf rc rnd N fr h ht ds l out→(∀ (j:Nat) (e:Ev),l[j]?=some e→e.tch=false)→h.n≤out.2.1.n:=by
 intro l;induction l with
 | nil=>intro fr h ht ds out hl _;obtain rfl:out=_:=hl;exact Nat.le_refl _
 | cons e l ih=>
  intro fr h ht ds out hl hn;obtain ⟨a,b,c,d,o,fr',p,hl⟩:=hl;refine Nat.le_trans ?_ (ih hl (fun j e' he=>hn (j + 1) e' (by simpa using he)));rcases (jz o (hn 0 e (by simp))).2 with ⟨h2,h3⟩ | h4
  ·rw [(o.c2 h2 h3).1,b];simp
  ·rw [h4,b];exact Nat.le_refl _
theorem Fp:∀ {l:List Ev} {fr h ht ds out},Lnk cf rc rnd N fr h ht ds l out→ht.n≤h.n→out.2.2.1.n≤out.2.1.n:=by
 intro l;induction l with
 | nil=>intro fr h ht ds out hl hle;obtain rfl:out=_:=hl;exact hle
 | cons e l ih=>
  intro fr h ht ds out hl hle;obtain ⟨a,b,c,d,o,fr',p,hl⟩:=hl;refine ih hl ?_;cases ht':e.tch with
  | true=>simp
  | false=>
   simp only [Bool.false_eq_true,if_false];refine Nat.le_trans hle ?_;rcases (jz o ht').2 with ⟨h2,h3⟩ | h4
   ·rw [(o.c2 h2 h3).1,b];simp
   ·rw [h4,b];exact Nat.le_refl _
theorem tL {l:List Ev} {fr h ht ds out} (hl:Lnk cf rc rnd N fr h ht ds l out) {j:Nat} {e:Ev} (he:l[j]?=some e) (hk:e.g.k=2) (hb:e.b=true) (hn:∀ (j':Nat) (e':Ev),j < j'→l[j']?=some e'→e'.tch=false):e.h.n < out.2.1.n:=by
 obtain ⟨hj,hg⟩:=List.getElem?_eq_some_iff.1 he
 have hsp:l=l.take j++e::l.drop (j + 1):=by
  rw [← hg,List.getElem_cons_drop hj,List.take_append_drop]
 rw [hsp] at hl;obtain ⟨m,h1,h2⟩:=hl.split;obtain ⟨a,b,c,d,o,fr',p,h3⟩:=h2;have:=D5 h3 (fun j' e' he'=>hn (j + 1 + j') e' (by omega) (by rw [List.getElem?_drop] at he';exact he'));rw [(o.c2 hk hb).1] at this;simp at this;omega
end
/-! ### when nothing is done -/
theorem gU {L:Nat→Bool}:∀ {l:List Ev} {i:Nat} {g:Hp},(∀ j e,l[j]?=some e→e.tch=true→L (i + j)=false)→htf L i g l=g:=by
 intro l;induction l with
 | nil=>intro i g _;rfl
 | cons e l ih=>
  intro i g h;simp only [htf];rw [ih (fun j e' he ht=>by have:=h (j + 1) e' (by simpa using he) ht;rwa [show i + (j + 1)=i + 1 + j by omega] at this)];cases ht:e.tch with
  | true=>have h0:=h 0 e (by simp) ht;simp only [Nat.add_zero] at h0;simp [h0]
  | false=>simp
theorem mD {L:Nat→Bool}:∀ {l:List Ev} {i:Nat} {g:List Df},(∀ j e,l[j]?=some e→e.tch=true→L (i + j)=false)→df L i g l=g:=by
 intro l;induction l with
 | nil=>intro i g _;rfl
 | cons e l ih=>
  intro i g h;simp only [df];rw [ih (fun j e' he ht=>by have:=h (j + 1) e' (by simpa using he) ht;rwa [show i + (j + 1)=i + 1 + j by omega] at this)];cases ht:e.tch with
  | true=>have h0:=h 0 e (by simp) ht;simp only [Nat.add_zero] at h0;simp [h0]
  | false=>simp
theorem my {L:Nat→Bool}:∀ {l:List Ev} {i:Nat} {g:Nat→Option B},(∀ j e,l[j]?=some e→(e.tch=true∨e.g.k=2)→L (i + j)=false)→gf L i g l=g:=by
 intro l;induction l with
 | nil=>intro i g _;rfl
 | cons e l ih=>
  intro i g h;simp only [gf];rw [ih (fun j e' he ht=>by have:=h (j + 1) e' (by simpa using he) ht;rwa [show i + (j + 1)=i + 1 + j by omega] at this)];cases hL:L i with
  | false=>simp
  | true=>
   have h1:e.tch=false:=by
    cases ht:e.tch with
    | true=>have h0:=h 0 e (by simp) (.inl ht);simp only [Nat.add_zero] at h0;rw [hL] at h0;cases h0
    | false=>rfl
   have h2:¬ e.g.k=2:=fun hk=>by have h0:=h 0 e (by simp) (.inr hk);simp only [Nat.add_zero] at h0;rw [hL] at h0;cases h0
   simp [h1,h2]
theorem EA {L:Nat→Bool} {n:Nat} {b:B}:∀ {l:List Ev} {i:Nat} {g:Nat→Option B},(∀ j e,l[j]?=some e→L (i + j)=true→e.tch=false∧(e.g.k=2→e.b=true→e.h.n≠n))→
 ∀ k c,gf L i (fun k=>if k=n then some b else g k) l k=some c→(k=n∧c=b)∨(k≠n∧gf L i g l k=some c):=by
 intro l;induction l with
 | nil=>
  intro i g _ k c h;simp only [gf] at h ⊢;by_cases hk:k=n
  ·rw [if_pos hk] at h;exact .inl ⟨hk,(Option.some.inj h).symm⟩
  ·rw [if_neg hk] at h;exact .inr ⟨hk,h⟩
 | cons e l ih=>
  intro i g hL k c h;have hL':∀ j e',l[j]?=some e'→L (i + 1 + j)=true→e'.tch=false∧(e'.g.k=2→e'.b=true→e'.h.n≠n):=fun j e' he hh=>hL (j + 1) e' (by simpa using he) (by rwa [show i + (j + 1)=i + 1 + j by omega]);simp only [gf] at h ⊢;cases hLi:L i with
  | false=>simp only [hLi,Bool.false_eq_true,if_false] at h ⊢;exact ih hL' k c h
  | true=>
   obtain ⟨h1,h2⟩:=hL 0 e (by simp) (by simpa using hLi);simp only [hLi,if_true,h1,Bool.false_eq_true,if_false] at h ⊢;by_cases hk:e.g.k=2∧e.b=true
   ·simp only [hk,and_self,if_true] at h ⊢
    have hne:=h2 hk.1 hk.2
    have:(fun k=>if k=e.h.n then some e.blk else if k=n then some b else g k)=(fun k=>if k=n then some b else if k=e.h.n then some e.blk else g k):=by
     funext k
     by_cases h3:k=e.h.n <;> by_cases h4:k=n
     ·exfalso;exact hne (h3 ▸ h4)
     ·simp [h3];intro h;exact absurd h hne
     ·simp [h4];intro h;exact absurd h.symm hne
     ·simp [h3,h4]
    rw [this] at h;exact ih hL' k c h
   ·rw [if_neg hk] at h ⊢
    exact ih hL' k c h
theorem C5 {L:Nat→Bool} {t:Nat}:∀ {l:List Ev} {i:Nat} {g:Nat→Option V},(∀ j e,l[j]?=some e→e.g.o.dst=some t→L (i + j)=false)→ff L i g l t=g t:=by
 intro l;induction l with
 | nil=>intro i g _;rfl
 | cons e l ih=>
  intro i g h;simp only [ff];rw [ih (fun j e' he ht=>by have:=h (j + 1) e' (by simpa using he) ht;rwa [show i + (j + 1)=i + 1 + j by omega] at this)];by_cases hd:e.g.o.dst=some t
  ·have h0:=h 0 e (by simp) hd;simp only [Nat.add_zero] at h0;simp [h0]
  ·split
   ·show (if e.g.o.dst=some t then some e.v else g t)=g t
    rw [if_neg hd]
   ·rfl
theorem Ay {L:Nat→Bool} {t:Nat}:∀ {l:List Ev} {i:Nat} {g g':Nat→Option V},g t=g' t→ff L i g l t=ff L i g' l t:=by
 intro l;induction l with
 | nil=>intro i g g' h;exact h
 | cons e l ih=>
  intro i g g' h;simp only [ff];refine ih ?_;split
  ·show (if _ then _ else _)=(if _ then _ else _)
   rw [h]
  ·exact h
theorem Ao {L:Nat→Bool}:∀ {l:List Ev} {i:Nat} {g:Hp},htf L i g l=g∧(∀ j e,l[j]?=some e→e.tch=true→L (i + j)=false)∨∃ j e,l[j]?=some e∧e.tch=true∧L (i + j)=true∧htf L i g l=e.h':=by
 intro l;induction l with
 | nil=>intro i g;exact .inl ⟨rfl,fun j e h=>by simp at h⟩
 | cons e l ih=>
  intro i g;simp only [htf];rcases ih (i:=i + 1) (g:=if L i then (if e.tch then e.h' else g) else g) with ⟨h1,h2⟩ | ⟨j,e',h1,h2,h3,h4⟩
  ·cases hL:L i with
   | false=>
    rw [hL] at h1;refine .inl ⟨by simpa using h1,fun j e' he ht=>?_⟩;cases j with
    | zero=>simpa using hL
    | succ j=>rw [show i + (j + 1)=i + 1 + j by omega];exact h2 j e' (by simpa using he) ht
   | true=>
    cases ht:e.tch with
    | true=>rw [hL,ht] at h1;exact .inr ⟨0,e,by simp,ht,by simpa using hL,by simpa using h1⟩
    | false=>
     rw [hL,ht] at h1;refine .inl ⟨by simpa using h1,fun j e' he ht'=>?_⟩;cases j with
     | zero=>simp at he;subst he;rw [ht] at ht';cases ht'
     | succ j=>rw [show i + (j + 1)=i + 1 + j by omega];exact h2 j e' (by simpa using he) ht'
  ·exact .inr ⟨j + 1,e',by simpa using h1,h2,by rw [show i + (j + 1)=i + 1 + j by omega];exact h3,h4⟩
theorem Al {cf:CF} {rc:RC} {rnd:Bool} {N:Nat} {L:Nat→Bool}:∀ {l:List Ev} {fr h ht ds out} {i:Nat},Lnk cf rc rnd N fr h ht ds l out→(∀ j j' a c,j < j'→l[j]?=some a→l[j']?=some c→a.tch=true→c.tch=true→L (i + j')=true→L (i + j)=true)→
 htf L i ht l=out.2.2.1∨∃ j e,l[j]?=some e∧e.tch=true∧L (i + j)=false∧e.ht=htf L i ht l:=by
 intro l;induction l with
 | nil=>intro fr h ht ds out i hl _;obtain rfl:out=_:=hl;exact .inl rfl
 | cons e l ih=>
  intro fr h ht ds out i hl hc;obtain ⟨a,b,c,d,o,fr',p,hl⟩:=hl
  have hc':∀ j j' a c,j < j'→l[j]?=some a→l[j']?=some c→a.tch=true→c.tch=true→L (i + 1 + j')=true→L (i + 1 + j)=true:=fun j j' a c h1 h2 h3 h4 h5 h6=>by
   have:=hc (j + 1) (j' + 1) a c (by omega) (by simpa using h2) (by simpa using h3) h4 h5 (by rwa [show i + (j' + 1)=i + 1 + j' by omega])
   rwa [show i + (j + 1)=i + 1 + j by omega] at this
  simp only [htf];cases ht':e.tch with
  | true=>
   cases hL:L i with
   | true=>
    simp only [if_true];rw [ht',if_pos rfl] at hl;rcases ih (i:=i + 1) hl hc' with h1 | ⟨j,e',h1,h2,h3,h4⟩
    ·exact .inl h1
    ·exact .inr ⟨j + 1,e',by simpa using h1,h2,by rw [show i + (j + 1)=i + 1 + j by omega];exact h3,h4⟩
   | false=>
    simp only [Bool.false_eq_true,if_false];refine .inr ⟨0,e,by simp,ht',by simpa using hL,?_⟩;rw [gU (fun j e' he ht''=>?_)]
    ·exact c
    ·cases hh:L (i + 1 + j) with
     | false=>rfl
     | true=>
      have:=hc 0 (j + 1) e e' (by omega) (by simp) (by simpa using he) ht' ht'' (by rwa [show i + (j + 1)=i + 1 + j by omega]);simp only [Nat.add_zero] at this;rw [hL] at this;cases this
  | false=>
   simp only [Bool.false_eq_true,if_false];rw [ht',if_neg (by simp)] at hl;have:(if L i=true then ht else ht)=ht:=by split <;> rfl
   rw [this];rcases ih (i:=i + 1) hl hc' with h1 | ⟨j,e',h1,h2,h3,h4⟩
   ·exact .inl h1
   ·exact .inr ⟨j + 1,e',by simpa using h1,h2,by rw [show i + (j + 1)=i + 1 + j by omega];exact h3,h4⟩
end Go.Proofs.YtbcdgcodnkgdoaaGreat.Run
namespace Go.Proofs.YtbcdgcodnkgdoaaGreat.Run
open Go Go.RowKit
/-! ### what the digest says -/
theorem ye {ops:List Oper}:∀ {l:List Oper} {acc:List Nat} {i:Nat} {g:Dg},(dig ops l acc)[i]?=some g→l[i]?=some g.o∧g.g=jh ops g.o∧g.k=bD g.o.op ∧
 ∃ acc':List Nat,g.m=n7 acc' g.o∧acc'.length=acc.length + i∧(∀ j,j < acc.length→acc'[j]?=acc[j]?)∧∀ (j:Nat) (g':Dg),j < i→(dig ops l acc)[j]?=some g'→acc'[acc.length + j]?=some g'.m:=by
 intro l;induction l with
 | nil=>intro acc i g h;simp [dig] at h
 | cons o l ih=>
  intro acc i g h;simp only [dig] at h ⊢;cases i with
  | zero=>
   simp at h;subst h;exact ⟨rfl,rfl,rfl,acc,rfl,rfl,fun _ _=>rfl,fun j g' hj _=>by omega⟩
  | succ i=>
   simp only [List.getElem?_cons_succ] at h;obtain ⟨h1,h2,h3,acc',h4,h5,h6,h7⟩:=ih h;refine ⟨by simpa using h1,h2,h3,acc',h4,by simp at h5;omega,fun j hj=>?_,fun j g' hj hg=>?_⟩
   ·rw [h6 j (by simp;omega),List.getElem?_append_left hj]
   ·cases j with
    | zero=>
     simp at hg;subst hg;rw [h6 (acc.length + 0) (by simp),List.getElem?_append_right (by omega)];simp
    | succ j=>
     simp only [List.getElem?_cons_succ] at hg;have:=h7 j g' (by omega) hg
     simpa [Nat.add_assoc,Nat.add_comm 1] using this
theorem zX {acc:List Nat} {o:Oper} {j:Nat} (h:(n7 acc o).testBit j=true):∃ e∈o.after.toList,Region.binds .any e=true∧(e.on=j∨(acc.getD e.on 0).testBit j=true):=by
 unfold n7 at h
 have key:∀ (l:List Edge) (s:Nat),(l.foldl (fun s e=>if Region.binds .any e then s ||| 2 ^ e.on ||| acc.getD e.on 0 else s) s).testBit j=true→s.testBit j=true∨∃ e∈l,Region.binds .any e=true∧(e.on=j∨(acc.getD e.on 0).testBit j=true):=by
  intro l;induction l with
  | nil=>intro s h;exact .inl h
  | cons e l ih=>
   intro s h;rw [List.foldl_cons] at h;rcases ih _ h with h1 | ⟨e',h1,h2⟩
   ·split at h1
    ·rename_i hb
     rw [Nat.testBit_or,Nat.testBit_or,Bool.or_eq_true,Bool.or_eq_true] at h1;rcases h1 with (h1 | h1) | h1
     ·exact .inl h1
     ·refine .inr ⟨e,by simp,hb,.inl ?_⟩
      rw [Nat.testBit_two_pow] at h1;exact of_decide_eq_true h1
     ·exact .inr ⟨e,by simp,hb,.inr h1⟩
    ·exact .inl h1
   ·exact .inr ⟨e',by simp [h1],h2⟩
 rcases key _ _ h with h | h
 ·simp at h
 ·exact h
theorem kF {l:List Nat} {d:Nat} (h:BD l (some d)=false):d∉l:=by
 intro hm;unfold BD at h;simp only at h;have:=List.any_eq_false.1 h d hm;simp at this
def E9 (g p:Dg):Prop:=BD g.looks p.o.dst=false∧BD p.looks g.o.dst=false∧BD g.o.dst.toList p.o.dst=false
theorem wF {g:Dg}:∀ {acc:List (Nat × Dg × List Nat)},tb g g.looks acc=true→(∀ q∈acc,q.2.2=q.2.1.looks)→∀ q∈acc,g.m.testBit q.1=true∨E9 g q.2.1:=by
 intro acc;induction acc with
 | nil=>intro _ _ q hq;simp at hq
 | cons x acc ih=>
  intro h hl q hq;obtain ⟨j,p,lp⟩:=x;simp only [tb,Bool.and_eq_true,Bool.or_eq_true] at h;rcases List.mem_cons.1 hq with rfl | hq
  ·rcases h.1 with h1 | h1
   ·exact .inl h1
   ·have hlp:=hl (j,p,lp) (by simp)
    simp only at hlp;subst hlp;simp only [Bool.not_eq_true',Bool.or_eq_false_iff] at h1;exact .inr ⟨h1.1.1,h1.1.2,h1.2⟩
  ·exact ih h.2 (fun q hq=>hl q (by simp [hq])) q hq
theorem pH:∀ {l:List Dg} {i0:Nat} {acc:List (Nat × Dg × List Nat)},pI l i0 acc=true→(∀ q∈acc,q.2.2=q.2.1.looks)→∀ i g,l[i]?=some g→q8 (i0 + i) g.o.after.toList=true∧(∀ q∈acc,g.m.testBit q.1=true∨E9 g q.2.1)∧∀ j p,j < i→l[j]?=some p→g.m.testBit (i0 + j)=true∨E9 g p:=by
 intro l;induction l with
 | nil=>intro i0 acc _ _ i g h;simp at h
 | cons x l ih=>
  intro i0 acc h hl i g hg;simp only [pI,Bool.and_eq_true] at h;have hl':∀ q∈((i0,x,x.looks)::acc:List (Nat × Dg × List Nat)),q.2.2=q.2.1.looks:=fun q hq=>(List.mem_cons.1 hq).elim (fun h=>by rw [h]) (hl q);cases i with
  | zero=>
   simp at hg;subst hg;exact ⟨h.1.1,wF h.1.2 hl,fun j p hj _=>by omega⟩
  | succ i=>
   obtain ⟨h1,h2,h3⟩:=ih h.2 hl' i g (by simpa using hg);refine ⟨by rwa [show i0 + (i + 1)=i0 + 1 + i by omega],fun q hq=>h2 q (by simp [hq]),fun j p hj hp=>?_⟩;cases j with
   | zero=>simp at hp;subst hp;exact h2 (i0,x,x.looks) (by simp)
   | succ j=>rw [show i0 + (j + 1)=i0 + 1 + j by omega];exact h3 j p (by omega) (by simpa using hp)
theorem yz {i:Nat}:∀ {l:List Edge},q8 i l=true→∀ e∈l,Region.binds .any e=true→e.on < i:=by
 intro l;induction l with
 | nil=>intro _ e he;simp at he
 | cons x l ih=>
  intro h e he hb;simp only [q8,Bool.and_eq_true,Bool.or_eq_true] at h;rcases List.mem_cons.1 he with rfl | he
  ·rcases h.1 with h1 | h1
   ·rw [hb] at h1;cases h1
   ·exact fF h1
  ·exact ih h.2 e he hb
theorem xh {l:List Operand} {t:Nat} (h:Operand.tmp t∈l):t∈uz l:=by
 induction l with
 | nil=>simp at h
 | cons x l ih=>
  rcases List.mem_cons.1 h with h | h
  ·subst h;simp [uz]
  ·have h2:=ih h
   cases x <;> simp [uz,h2]
/-! ### the invariant -/
def Cl (tr:List Ev) (L:Nat→Bool):Prop:=∀ i e,tr[i]?=some e→L i=true→∀ j,e.g.m.testBit j=true→L j=true
structure Iv (w0:World) (N:Nat) (x0:X) (tr:List Ev) (L:Nat→Bool) (σ:Sg) (a:Act) (w:World):Prop where
 size:a.tmps.size=N
 fr:∀ t v,ff L 0 (mC N x0.fr) tr t=some v→∃ x,den σ v=some x∧a.tmps[t]?=some x
 ds:DsR σ (df L 0 x0.ds tr) a.defers
 ht:gN w0 σ (htf L 0 x0.h tr).get w
 g:gN w0 σ (gf L 0 x0.h.get tr) w
 dom:∀ k,σ k≠none→k < (htf L 0 x0.h tr).n∨∃ j e,tr[j]?=some e∧L j=true∧e.g.k=2∧e.b=true∧e.h.n=k∧∀ j' e',j < j'→tr[j']?=some e'→e'.tch=true→L j'=false
theorem gN.keep {w0 w:World} {σ:Sg} {g:Nat→Option B} {n cap:Nat} {o:Obj} (H:gN w0 σ g w) (hn:σ n=none):gN w0 (σ.add n (w.heap.size,cap)) g (w.alloc o):=by
 have le:=cW (q:=(w.heap.size,cap)) hn;have hsz:=fD w o
 have live:∀ j c,g j=some c→j≠n:=fun j c hj e=>by
  obtain ⟨q,o',h1,_⟩:=H.obj j c hj;rw [e,hn] at h1;cases h1
 refine ⟨H.kp.trans (cL.alloc No w o) (fun _ hb=>hb.elim),fun k q hq=>?_,fun j c hj=>?_,fun i j a c q r hi hj hq hr e=>?_⟩
 ·unfold Sg.add at hq
  split at hq
  ·obtain rfl:=Option.some.inj hq
   exact ⟨H.kp.size,by rw [hsz];exact Nat.lt_succ_self _⟩
  ·have:=H.low k q hq
   exact ⟨this.1,by rw [hsz];omega⟩
 ·obtain ⟨q,o',h1,h2,h3⟩:=H.obj j c hj
  exact ⟨q,o',le _ _ h1,by rw [i6 w o (H.low j q h1).2];exact h2,h3.mono le⟩
 ·have e1:=live i a hi
  have e2:=live j c hj;unfold Sg.add at hq hr;rw [if_neg e1] at hq;rw [if_neg e2] at hr;exact H.inj i j a c q r hi hj hq hr e
def on_ (L:Nat→Bool) (i:Nat):Nat→Bool:=fun j=>if j=i then true else L j
section
variable {w0:World} {cf:CF} {rc:RC} {rnd:Bool} {r:Option Nat} {N:Nat} {ops:List Oper} {x0:X} {out:T V × Hp × Hp × List Df}
theorem Iv.step {A B':List Ev} {e:Ev} {L:Nat→Bool} {σ:Sg} {a:Act} {w:World} (hr:rnd=r.isSome) (hcf:vP w0 cf) (hrc:DA w0 rc)
 (hl:Lnk cf rc rnd N x0.fr x0.h x0.h x0.ds (A++e::B') out) (hp:vF N (A++e::B'))
 (hfree:∀ (i:Nat) (c:Ev),(A++e::B')[i]?=some c→∀ (j:Nat) (p:Ev),j < i→(A++e::B')[j]?=some p→c.g.m.testBit j=true∨E9 c.g p.g)
 (hgd:e.g.g=jh ops e.g.o) (hkd:e.g.k=bD e.g.o.op)
 (hLi:L A.length=false) (hm:∀ j,e.g.m.testBit j=true→L j=true) (hcl:Cl (A++e::B') L) (iv:Iv w0 N x0 (A++e::B') L σ a w)
 (n:Nat) (K:Act→World→Prop) (Q:Exit→Act→World→Prop) (hK:∀ σ' a' w',σ.le σ'→Iv w0 N x0 (A++e::B') (on_ L A.length) σ' a' w'→K a' w'):
 if Region.wanted e.g.o (yielded ops.toArray a.tmps) then e.g.o.wpIn (FW r) n PG a w K Q else (∀ f,e.g.o.about PG w a.eval=some f→(FW r).fn f)∧K (a.put e.g.o.dst undef) w:=by
 obtain ⟨m,hA,hB⟩:=hl.split;obtain ⟨e1,e2,e3,e4,own,fr',iZ,hB⟩:=hB;have hei:(A++e::B')[A.length]?=some e:=by simp
 have atA:∀ j c,A[j]?=some c→(A++e::B')[j]?=some c∧j < A.length:=fun j c h=>by
  have:=(List.getElem?_eq_some_iff.1 h).1;exact ⟨by rw [List.getElem?_append_left this];exact h,this⟩
 have atB:∀ j c,B'[j]?=some c→(A++e::B')[A.length + 1 + j]?=some c:=fun j c h=>by
  rw [List.getElem?_append_right (by omega),show A.length + 1 + j - A.length=j + 1 by omega];simpa using h
 -- pairs with e
 have two1:∀ j c,A[j]?=some c→Two N j c e:=fun j c h=>hp _ _ hei j c (atA j c h).2 (atA j c h).1;have two2:∀ j c,B'[j]?=some c→Two N A.length e c:=fun j c h=>hp _ _ (atB j c h) A.length e (by omega) hei
 have noB:∀ j c,B'[j]?=some c→c.g.m.testBit A.length=true→L (A.length + 1 + j)=false:=fun j c h ht=>by
  cases hh:L (A.length + 1 + j) with
  | false=>rfl
  | true=>have:=hcl _ _ (atB j c h) hh _ ht;rw [hLi] at this;cases this
 -- folds split
 have sff:∀ M,ff M 0 (mC N x0.fr) (A++e::B')=ff M (A.length + 1) (if M A.length then (fun t=>if e.g.o.dst=some t then some e.v else ff M 0 (mC N x0.fr) A t) else ff M 0 (mC N x0.fr) A) B':=fun M=>by rw [EG,Nat.zero_add];rfl
 have sgf:∀ M,gf M 0 x0.h.get (A++e::B')=gf M (A.length + 1) (if M A.length then (if e.tch then e.h'.get else if e.g.k=2∧e.b=true then (fun k=>if k=e.h.n then some e.blk else gf M 0 x0.h.get A k) else gf M 0 x0.h.get A) else gf M 0 x0.h.get A) B':=fun M=>by rw [EB,Nat.zero_add];rfl
 have shf:∀ M,htf M 0 x0.h (A++e::B')=htf M (A.length + 1) (if M A.length then (if e.tch then e.h' else htf M 0 x0.h A) else htf M 0 x0.h A) B':=fun M=>by rw [C2,Nat.zero_add];rfl
 have sdf:∀ M,df M 0 x0.ds (A++e::B')=df M (A.length + 1) (if M A.length then (if e.tch then e.ds' else df M 0 x0.ds A) else df M 0 x0.ds A) B':=fun M=>by rw [EO,Nat.zero_add];rfl
 have cA:=x8 (L:=on_ L A.length) (L':=L) (l:=A) (i:=0) (fun j hj=>by simp [on_];omega);have cB:=x8 (L:=on_ L A.length) (L':=L) (l:=B') (i:=A.length + 1) (fun j hj=>by simp [on_];omega);have hon:on_ L A.length A.length=true:=by simp [on_]
 -- the frame
 have lookT:∀ t,t∈e.g.looks→∀ v,mC N e.fr t=some v→∃ x,den σ v=some x∧a.tmps[t]?=some x:=fun t ht v hv=>by
  refine iv.fr t v ?_;rw [sff L,hLi];simp only [Bool.false_eq_true,if_false];rw [C5 (fun j c hj hd=>?_)]
  ·refine ub (L:=L) (i:=0) hA (fun v hv=>hv) (fun j c hj hd=>?_) v (by rw [e1] at hv;exact hv)
   rw [Nat.zero_add];rcases hfree _ _ hei j c (atA j c hj).2 (atA j c hj).1 with h | h
   ·exact hm j h
   ·exact absurd ht (by have:=h.1;rw [hd] at this;exact kF this)
  ·rcases hfree _ _ (atB j c hj) A.length e (by omega) hei with h | h
   ·exact noB j c hj h
   ·exact absurd ht (by have:=h.2.1;rw [hd] at this;exact kF this)
 have hev:EvO σ N e.fr a.eval e.g.o.op.operands:=fun x hx v hv=>by
  cases x with
  | tmp t=>
   obtain ⟨y,h1,h2⟩:=lookT t (by unfold Dg.looks;exact List.mem_append_right _ (xh (by simpa using hx))) v hv;simp [Act.eval,Array.getD_eq_getD_getElem?,h2,h1]
  | const c=>exact rS hv
  | global g=>cases hv
  | func f=>
   obtain rfl:=Option.some.inj (show some (V.f f [] [])=some v from hv);simp [den,Act.eval]
 have hwant:Region.wanted e.g.o (yielded ops.toArray a.tmps)=e.b:=oH (N:=N) (fr:=e.fr) (σ:=σ) (by rw [← hgd];exact own.wn) (fun k j hk=>lookT k (by unfold Dg.looks;rw [hgd,hk];simp))
 -- the frame behind
 have frB:∀ {σ':Sg} {a':Act} {x:Value},σ.le σ'→den σ' e.v=some x→a'.tmps=(a.put e.g.o.dst x).tmps→a'.tmps.size=N∧∀ t v,ff (on_ L A.length) 0 (mC N x0.fr) (A++e::B') t=some v→∃ y,den σ' v=some y∧a'.tmps[t]?=some y:=by
  intro σ' a' x le hx ha;have hsz:a'.tmps.size=N:=by rw [ha];cases e.g.o.dst <;> simp [Act.put,iv.size]
  refine ⟨hsz,fun t v hv=>?_⟩;rw [sff,hon,if_pos rfl,cA.1,cB.1] at hv;by_cases hd:e.g.o.dst=some t
  ·rw [C5 (fun j c hj hdc=>?_)] at hv
   ·rw [if_pos hd] at hv
    obtain rfl:=Option.some.inj hv
    have ht:t < N:=by
     rcases rL iZ with ⟨h1,_⟩ | ⟨k,h1,h2,_⟩
     ·rw [hd] at h1;cases h1
     ·rw [hd] at h1;obtain rfl:=Option.some.inj h1;exact h2
    exact ⟨x,hx,by rw [ha,hd];simp [Act.put,iv.size,ht]⟩
   ·rcases hfree _ _ (atB j c hj) A.length e (by omega) hei with h | h
    ·exact noB j c hj h
    ·have:=h.2.2
     rw [hdc,hd] at this;exact absurd (by simp) (kF this)
  ·rw [Ay (g':=ff L 0 (mC N x0.fr) A) (by simp [hd])] at hv
   obtain ⟨y,h1,h2⟩:=iv.fr t v (by rw [sff L,hLi];simpa using hv);refine ⟨y,jS le _ _ h1,?_⟩;rw [ha];cases hdd:e.g.o.dst with
   | none=>exact h2
   | some d=>
    have hne:d≠t:=fun hh=>hd (by rw [hdd,hh]);show (a.tmps.setIfInBounds d x)[t]?=some y;rw [Array.getElem?_setIfInBounds_ne hne];exact h2
 have hdsame:∀ dst (x:Value),(a.put dst x).defers=a.defers:=fun dst x=>iM a dst x
 -- when the operation leaves the memory as it was
 have quiet:∀ {x:Value},e.tch=false→(e.g.k=2→e.b=false)→den σ e.v=some x→Iv w0 N x0 (A++e::B') (on_ L A.length) σ (a.put e.g.o.dst x) w:=by
  intro x ht hk2 hx;have hn2:¬ (e.g.k=2∧e.b=true):=fun h=>by have:=hk2 h.1;rw [h.2] at this;cases this
  have eh:htf (on_ L A.length) 0 x0.h (A++e::B')=htf L 0 x0.h (A++e::B'):=by rw [shf,shf L,hon,hLi,cA.2.2.1,cB.2.2.1,ht];simp
  have eg:gf (on_ L A.length) 0 x0.h.get (A++e::B')=gf L 0 x0.h.get (A++e::B'):=by rw [sgf,sgf L,hon,hLi,cA.2.1,cB.2.1,ht];simp [hn2]
  have ed:df (on_ L A.length) 0 x0.ds (A++e::B')=df L 0 x0.ds (A++e::B'):=by rw [sdf,sdf L,hon,hLi,cA.2.2.2,cB.2.2.2,ht];simp
  obtain ⟨f1,f2⟩:=frB (a':=a.put e.g.o.dst x) (Sg.le.refl σ) hx rfl;refine ⟨f1,f2,by rw [ed,hdsame];exact iv.ds,by rw [eh];exact iv.ht,by rw [eg];exact iv.g,fun k hk=>?_⟩;rw [eh];rcases iv.dom k hk with h | ⟨j,c,h1,h2,h3,h4,h5,h6⟩
  ·exact .inl h
  ·refine .inr ⟨j,c,h1,by unfold on_;split <;> simp [h2],h3,h4,h5,fun j' c' hj hc hct=>?_⟩
   have:=h6 j' c' hj hc hct;unfold on_;by_cases hji:j'=A.length
   ·subst hji;rw [hei] at hc;obtain rfl:=Option.some.inj hc;rw [ht] at hct;cases hct
   ·rw [if_neg hji];exact this
 -- a statement that touches
 have touchA:e.tch=true→(∀ j c,A[j]?=some c→(c.tch=true∨c.g.k=2)→L (0 + j)=true)∧(∀ j c,B'[j]?=some c→(c.tch=true∨c.g.k=2)→L (A.length + 1 + j)=false):=fun ht=>
  ⟨fun j c hj hc=>by rw [Nat.zero_add];exact hm j (hc.elim (fun h=>(two1 j c hj).tt h ht) (fun h=>(two1 j c hj).at_ h ht)),fun j c hj hc=>noB j c hj (hc.elim (fun h=>(two2 j c hj).tt ht h) (fun h=>(two2 j c hj).ta ht h))⟩
 rw [hwant];cases hb:e.b with
 | false=>
  rw [if_neg (by simp)];refine ⟨fun f _=>kG r f,?_⟩;obtain ⟨hv,hh',hds'⟩:=own.no hb;cases ht:e.tch with
  | false=>exact hK σ _ w (Sg.le.refl σ) (quiet ht (fun _=>hb) (by rw [hv];exact fE))
  | true=>
   obtain ⟨tA,tB⟩:=touchA ht;obtain ⟨c1,c2⟩:=lD (L:=L) (i:=0) hA (fun j c hj hc=>tA j c hj (.inl hc));have hT:htf L 0 x0.h (A++e::B')=m.2.2.1:=by rw [shf L,hLi];simp only [Bool.false_eq_true,if_false];rw [gU (fun j c hj hc=>tB j c hj (.inl hc)),c1]
   have hD:df L 0 x0.ds (A++e::B')=m.2.2.2:=by rw [sdf L,hLi];simp only [Bool.false_eq_true,if_false];rw [mD (fun j c hj hc=>tB j c hj (.inl hc)),c2]
   have hG:gf L 0 x0.h.get (A++e::B')=gf L 0 x0.h.get A:=by rw [sgf L,hLi];simp only [Bool.false_eq_true,if_false];rw [my tB]
   have hge:gN w0 σ e.h'.get w:=iv.g.sub (fun k b hkb=>by rw [hG];exact sG (L:=L) (i:=0) hA (fun _ _ h=>h) tA k b (by rw [hh',e2] at hkb;exact hkb));have hT':htf (on_ L A.length) 0 x0.h (A++e::B')=e.h':=by rw [shf,hon,cB.2.2.1];simp only [if_true,ht];exact gU (fun j c hj hc=>tB j c hj (.inl hc))
   have hD':df (on_ L A.length) 0 x0.ds (A++e::B')=e.ds':=by rw [sdf,hon,cB.2.2.2];simp only [if_true,ht];exact mD (fun j c hj hc=>tB j c hj (.inl hc))
   have hG':gf (on_ L A.length) 0 x0.h.get (A++e::B')=e.h'.get:=by rw [sgf,hon,cB.2.1];simp only [if_true,ht];exact my tB
   obtain ⟨f1,f2⟩:=frB (σ':=σ) (x:=undef) (a':=a.put e.g.o.dst undef) (Sg.le.refl σ) (by rw [hv];exact fE) rfl;refine hK σ _ w (Sg.le.refl σ) ⟨f1,f2,by rw [hD',hdsame,hds',e4,← hD];exact iv.ds,by rw [hT'];exact hge,by rw [hG'];exact hge,fun k hk=>.inl ?_⟩;rw [hT',hh',e2];have hle:=Fp hA (Nat.le_refl _);rcases iv.dom k hk with h | ⟨j,c,h1,h2,h3,h4,h5,h6⟩
   ·rw [hT] at h;omega
   ·have hjA:j < A.length:=by
     rcases Nat.lt_trichotomy j A.length with h | h | h
     ·exact h
     ·subst h;rw [hLi] at h2;cases h2
     ·exfalso
      obtain ⟨j',rfl⟩:∃ j',j=A.length + 1 + j':=⟨j - A.length - 1,by omega⟩;have hc:B'[j']?=some c:=by rw [List.getElem?_append_right (by omega),show A.length + 1 + j' - A.length=j' + 1 by omega] at h1;simpa using h1
      have:=tB j' c hc (.inr h3);rw [h2] at this;cases this
    have hc:A[j]?=some c:=by rw [List.getElem?_append_left hjA] at h1;exact h1
    have:=tL hA hc h3 h4 (fun j' e' hj' he'=>by
     cases hh:e'.tch with
     | false=>rfl
     | true=>have g1:=h6 j' e' hj' (atA j' e' he').1 hh;have g2:=tA j' e' he' (.inl hh);rw [Nat.zero_add] at g2;rw [g1] at g2;cases g2)
    omega
 | true=>
  rw [if_pos rfl];cases ht:e.tch with
  | true=>
   obtain ⟨tA,tB⟩:=touchA ht;obtain ⟨c1,c2⟩:=lD (L:=L) (i:=0) hA (fun j c hj hc=>tA j c hj (.inl hc));have hT:htf L 0 x0.h (A++e::B')=m.2.2.1:=by rw [shf L,hLi];simp only [Bool.false_eq_true,if_false];rw [gU (fun j c hj hc=>tB j c hj (.inl hc)),c1]
   have hD:df L 0 x0.ds (A++e::B')=m.2.2.2:=by rw [sdf L,hLi];simp only [Bool.false_eq_true,if_false];rw [mD (fun j c hj hc=>tB j c hj (.inl hc)),c2]
   have hG:gf L 0 x0.h.get (A++e::B')=gf L 0 x0.h.get A:=by rw [sgf L,hLi];simp only [Bool.false_eq_true,if_false];rw [my tB]
   have hge:gN w0 σ e.h.get w:=iv.g.sub (fun k b hkb=>by rw [hG];exact sG (L:=L) (i:=0) hA (fun _ _ h=>h) tA k b (by rw [e2] at hkb;exact hkb));have hle:=Fp hA (Nat.le_refl _)
   have hup:∀ k,e.h.n≤k→σ k=none:=fun k hk=>by
    cases hs:σ k with
    | none=>rfl
    | some p=>
     exfalso
     rw [e2] at hk;rcases iv.dom k (by rw [hs];simp) with h | ⟨j,c,h1,h2,h3,h4,h5,h6⟩
     ·rw [hT] at h;omega
     ·have hjA:j < A.length:=by
       rcases Nat.lt_trichotomy j A.length with h | h | h
       ·exact h
       ·subst h;rw [hLi] at h2;cases h2
       ·exfalso
        obtain ⟨j',rfl⟩:∃ j',j=A.length + 1 + j':=⟨j - A.length - 1,by omega⟩;have hc:B'[j']?=some c:=by rw [List.getElem?_append_right (by omega),show A.length + 1 + j' - A.length=j' + 1 by omega] at h1;simpa using h1
        have:=tB j' c hc (.inr h3);rw [h2] at this;cases this
      have hc:A[j]?=some c:=by rw [List.getElem?_append_left hjA] at h1;exact h1
      have:=tL hA hc h3 h4 (fun j' e' hj' he'=>by
       cases hh:e'.tch with
       | false=>rfl
       | true=>have g1:=h6 j' e' hj' (atA j' e' he').1 hh;have g2:=tA j' e' he' (.inl hh);rw [Nat.zero_add] at g2;rw [g1] at g2;cases g2)
      omega
   have hT':htf (on_ L A.length) 0 x0.h (A++e::B')=e.h':=by rw [shf,hon,cB.2.2.1];simp only [if_true,ht];exact gU (fun j c hj hc=>tB j c hj (.inl hc))
   have hD':df (on_ L A.length) 0 x0.ds (A++e::B')=e.ds':=by rw [sdf,hon,cB.2.2.2];simp only [if_true,ht];exact mD (fun j c hj hc=>tB j c hj (.inl hc))
   have hG':gf (on_ L A.length) 0 x0.h.get (A++e::B')=e.h'.get:=by rw [sgf,hon,cB.2.1];simp only [if_true,ht];exact my tB
   obtain ⟨q,q1,q2,q3,q4⟩:=own.c3 (by simpa [Ev.tch,Nat.ble_eq] using ht) hb;have hop:=Bn hr hcf hrc (qz _) q1 n σ a w K Q e.g.o.dst e.g.o.type e.g.o.pos e.g.o.after e.g.o.guard hev (by rw [e4,← hD];exact iv.ds) ⟨hge,hup⟩;refine hop (fun σ' x w' dd le hx hdd H'=>?_);rw [q2] at hx;rw [q3] at H';rw [q4] at hdd;obtain ⟨f1,f2⟩:=frB (a':=({ a with defers:=dd }:Act).put e.g.o.dst x) le hx (by cases e.g.o.dst <;> rfl);refine hK σ' _ w' le ⟨f1,f2,by rw [hD',iM];exact hdd,by rw [hT'];exact H'.g,by rw [hG'];exact H'.g,fun k hk=>.inl ?_⟩;rw [hT'];rcases Nat.lt_or_ge k e.h'.n with h | h
   ·exact h
   ·exact absurd (H'.up k h) hk
  | false=>
   have hk2:e.g.k≤2:=by
    rcases Nat.lt_or_ge e.g.k 3 with h1 | h1
    ·omega
    ·exfalso
     have:e.tch=true:=by simpa [Ev.tch,Nat.ble_eq] using h1
     rw [this] at ht;cases ht
   have hdef:∀ c,e.g.o.op≠.defer c:=fun c hc=>by rw [hkd,hc] at hk2;simp [bD] at hk2
   rcases (show e.g.k≤1∨e.g.k=2 by omega) with h1 | h2
   ·-- plain,or it reads
    obtain ⟨_,_,q0,q1,q2⟩:=own.c1 h1 hb
    have readable:∃ hx q,opL N e.fr hx e.g.o.op=.ok q∧q.v=e.v∧(bD e.g.o.op=1→gN w0 σ hx.get w):=by
     rcases (show e.g.k=0∨e.g.k=1 by omega) with hk0 | hk1
     ·exact ⟨_,_,q1,q2,fun h=>by rw [← hkd,hk0] at h;cases h⟩
     ·refine ⟨htf L 0 x0.h (A++e::B'),?_⟩
      have hsp:htf L 0 x0.h (A++e::B')=htf L (A.length + 1) (htf L 0 x0.h A) B':=by rw [shf L,hLi];simp
      rcases Ao (L:=L) (l:=B') (i:=A.length + 1) (g:=htf L 0 x0.h A) with ⟨g1,g2⟩ | ⟨j,c,g1,g2,g3,g4⟩
      ·rcases Al (L:=L) (i:=0) hA (fun j j' a c hjj ha hc ta tc hL'=>by
        rw [Nat.zero_add] at hL' ⊢;exact hcl _ _ (atA j' c hc).1 hL' j ((hp _ _ (atA j' c hc).1 j a hjj (atA j a ha).1).tt ta tc)) with f1 | ⟨j,c,f1,f2,f3,f4⟩
       ·rw [hsp,g1,f1,← e3];exact ⟨_,q1,q2,fun _=>by rw [e3,← f1,← g1,← hsp];exact iv.ht⟩
       ·rw [Nat.zero_add] at f3
        obtain ⟨q',r1,r2⟩:=(two1 j c f1).tr f2 hk1 hb (by
         cases hh:e.g.m.testBit j with
         | false=>rfl
         | true=>have:=hm j hh;rw [f3] at this;cases this)
        rw [f4,← g1,← hsp] at r1;exact ⟨_,r1,r2,fun _=>iv.ht⟩
      ·obtain ⟨q',r1,r2⟩:=(two2 j c g1).rt hk1 hb g2 (by
        cases hh:c.g.m.testBit A.length with
        | false=>rfl
        | true=>have:=noB j c g1 hh;rw [g3] at this;cases this)
       rw [← g4,← hsp] at r1;exact ⟨_,r1,r2,fun _=>iv.ht⟩
    obtain ⟨hx,q,r1,r2,r3⟩:=readable;obtain ⟨x,h5,h6⟩:=wE (w0:=w0) (w:=w) (dst:=e.g.o.dst) (ty:=e.g.o.type) (pos:=e.g.o.pos) (af:=e.g.o.after) (g:=e.g.o.guard) (by rw [← hkd];omega) r1 hev (fun c=>rfl) r3;rw [r2] at h6;exact lJ hdef (.val h5) (hK σ _ w (Sg.le.refl σ) (quiet ht (fun h=>by omega) h6))
   ·-- it lays a block
    obtain ⟨b1,b2,b3⟩:=own.c2 h2 hb;have aA:∀ j c,A[j]?=some c→c.tch=true→L (0 + j)=true:=fun j c hj hc=>by rw [Nat.zero_add];exact hm j ((two1 j c hj).ta hc h2)
    have aB:∀ j c,B'[j]?=some c→c.tch=true→L (A.length + 1 + j)=false:=fun j c hj hc=>noB j c hj ((two2 j c hj).at_ h2 hc);obtain ⟨c1,c2⟩:=lD (L:=L) (i:=0) hA aA;have hT:htf L 0 x0.h (A++e::B')=m.2.2.1:=by rw [shf L,hLi];simp only [Bool.false_eq_true,if_false];rw [gU aB,c1]
    have hle:=Fp hA (Nat.le_refl _)
    -- names of other blocks
    have nB:∀ j c,B'[j]?=some c→L (A.length + 1 + j)=true→c.tch=false∧(c.g.k=2→c.b=true→c.h.n≠e.h.n):=fun j c hj hLj=>by
     have htc:c.tch=false:=by
      cases hh:c.tch with
      | false=>rfl
      | true=>have:=aB j c hj hh;rw [hLj] at this;cases this
     refine ⟨htc,fun hk hcb heq=>?_⟩
     have hsp:B'=B'.take j++c::B'.drop (j + 1):=by
      obtain ⟨hlt,hg⟩:=List.getElem?_eq_some_iff.1 hj;rw [← hg,List.getElem_cons_drop hlt,List.take_append_drop]
     rw [hsp] at hB;obtain ⟨m2,h3,h4⟩:=hB.split;obtain ⟨_,g2,_⟩:=h4
     have hseg:=D5 h3 (fun j' c' hc'=>by
      have hlt:j' < j:=by have:=(List.getElem?_eq_some_iff.1 hc').1;simp at this;omega
      have hc'':B'[j']?=some c':=by rw [List.getElem?_take] at hc';rw [if_pos hlt] at hc';exact hc'
      cases hh:c'.tch with
      | false=>rfl
      | true=>
       have:=(hp _ _ (atB j c hj) (A.length + 1 + j') c' (by omega) (atB j' c' hc'')).ta hh hk;have:=hcl _ _ (atB j c hj) hLj _ this;rw [aB j' c' hc'' hh] at this;cases this)
     rw [← g2,b1] at hseg;simp at hseg;omega
    have hnone:σ e.h.n=none:=by
     cases hs:σ e.h.n with
     | none=>rfl
     | some p=>
      exfalso
      rcases iv.dom e.h.n (by rw [hs];simp) with h | ⟨j,c,h1',h2',h3,h4,h5,h6⟩
      ·rw [hT,e2] at h;omega
      ·rcases Nat.lt_trichotomy j A.length with h | h | h
       ·have hc:A[j]?=some c:=by rw [List.getElem?_append_left h] at h1';exact h1'
        have:=tL hA hc h3 h4 (fun j' e' hj' he'=>by
         cases hh:e'.tch with
         | false=>rfl
         | true=>have g1:=h6 j' e' hj' (atA j' e' he').1 hh;have g2:=aA j' e' he' hh;rw [Nat.zero_add] at g2;rw [g1] at g2;cases g2)
        rw [h5,e2] at this;omega
       ·subst h;rw [hLi] at h2';cases h2'
       ·obtain ⟨j',rfl⟩:∃ j',j=A.length + 1 + j':=⟨j - A.length - 1,by omega⟩
        have hc:B'[j']?=some c:=by rw [List.getElem?_append_right (by omega),show A.length + 1 + j' - A.length=j' + 1 by omega] at h1';simpa using h1'
        exact (nB j' c hc h2').2 h3 h4 h5
    obtain ⟨cap,x,o,h5,h6,h7⟩:=b3 (by rw [← hkd];exact h2) (w:=w) (dst:=e.g.o.dst) (ty:=e.g.o.type) (pos:=e.g.o.pos) (af:=e.g.o.after) (g:=e.g.o.guard) hev hnone;have le:=cW (q:=(w.heap.size,cap)) hnone;have eh:htf (on_ L A.length) 0 x0.h (A++e::B')=htf L 0 x0.h (A++e::B'):=by rw [shf,shf L,hon,hLi,cA.2.2.1,cB.2.2.1,ht];simp
    have ed:df (on_ L A.length) 0 x0.ds (A++e::B')=df L 0 x0.ds (A++e::B'):=by rw [sdf,sdf L,hon,hLi,cA.2.2.2,cB.2.2.2,ht];simp
    have eg:gf (on_ L A.length) 0 x0.h.get (A++e::B')=gf L (A.length + 1) (fun k=>if k=e.h.n then some e.blk else gf L 0 x0.h.get A k) B':=by rw [sgf,hon,cA.2.1,cB.2.1,ht];simp [h2,hb]
    have egL:gf L 0 x0.h.get (A++e::B')=gf L (A.length + 1) (gf L 0 x0.h.get A) B':=by rw [sgf L,hLi];simp
    obtain ⟨f1,f2⟩:=frB (a':=a.put e.g.o.dst x) le h6 rfl;refine lJ hdef (.val h5) (hK _ _ _ le ⟨f1,f2,by rw [ed,hdsame];exact iv.ds.mono le,by rw [eh];exact iv.ht.keep hnone,?_,fun k hk=>?_⟩)
    ·refine iv.g.new hnone h7 (fun k c hk=>?_)
     rw [eg] at hk;rw [egL];exact EA nB k c hk
    ·rw [eh]
     by_cases hkn:k=e.h.n
     ·refine .inr ⟨A.length,e,hei,hon,h2,hb,hkn.symm,fun j' c' hj hc hct=>?_⟩
      obtain ⟨j2,rfl⟩:∃ j2,j'=A.length + 1 + j2:=⟨j' - A.length - 1,by omega⟩;have hc':B'[j2]?=some c':=by rw [List.getElem?_append_right (by omega),show A.length + 1 + j2 - A.length=j2 + 1 by omega] at hc;simpa using hc
      have:=aB j2 c' hc' hct;unfold on_;rw [if_neg (by omega)];exact this
     ·have hk':σ k≠none:=by unfold Sg.add at hk;rw [if_neg hkn] at hk;exact hk
      rcases iv.dom k hk' with h | ⟨j,c,h1',h2',h3,h4,h5',h6'⟩
      ·exact .inl h
      ·refine .inr ⟨j,c,h1',by unfold on_;split <;> simp [h2'],h3,h4,h5',fun j' c' hj hc hct=>?_⟩
       have:=h6' j' c' hj hc hct;unfold on_;by_cases hji:j'=A.length
       ·subst hji;rw [hei] at hc;obtain rfl:=Option.some.inj hc;rw [ht] at hct;cases hct
       ·rw [if_neg hji];exact this
end
end Go.Proofs.YtbcdgcodnkgdoaaGreat.Run
namespace Go.Proofs.YtbcdgcodnkgdoaaGreat.Run
open Go Go.RowKit
def cnt (listed:Array Bool):Nat→Nat
 | 0=>0
 | k + 1=>cnt listed k + (if listed.getD k false then 0 else 1)
theorem a7 {listed:Array Bool} {i j:Nat} (hi:i < listed.size):(listed.setIfInBounds i true).getD j false=if j=i then true else listed.getD j false:=by
 simp only [Array.getD_eq_getD_getElem?,Array.getElem?_setIfInBounds];by_cases h:i=j
 ·subst h;simp [hi]
 ·simp [h,Ne.symm h]
theorem mJ {listed:Array Bool} {i:Nat} (hi:i < listed.size) (hf:listed.getD i false=false):∀ k,(i < k→cnt (listed.setIfInBounds i true) k + 1=cnt listed k)∧(k≤i→cnt (listed.setIfInBounds i true) k=cnt listed k):=by
 intro k;induction k with
 | zero=>exact ⟨fun h=>by omega,fun _=>rfl⟩
 | succ k ih=>
  simp only [cnt,a7 hi];refine ⟨fun h=>?_,fun h=>?_⟩
  ·by_cases hk:k=i
   ·subst hk;rw [ih.2 (Nat.le_refl _),hf];simp
   ·rw [if_neg hk];have:=ih.1 (by omega);omega
  ·rw [if_neg (show ¬ k=i by omega),ih.2 (by omega)]
theorem AG {listed:Array Bool}:∀ {k:Nat},cnt listed k=0→∀ i,i < k→listed.getD i false=true:=by
 intro k;induction k with
 | zero=>intro _ i hi;omega
 | succ k ih=>
  intro h i hi;simp only [cnt] at h;by_cases hk:i=k
  ·subst hk
   cases hh:listed.getD i false with
   | true=>rfl
   | false=>rw [hh] at h;simp at h
  ·exact ih (by omega) i (by omega)
theorem dg {ops:List Oper} {listed:Array Bool} {i:Nat} (h:i∈Region.ready .any ops.toArray listed):i < ops.length∧listed.getD i true=false∧∃ o,ops[i]?=some o∧∀ e∈o.after.toList,Region.binds .any e=true→listed.getD e.on false=true:=by
 unfold Region.ready at h;rw [List.mem_filter] at h;obtain ⟨h1,h2⟩:=h;simp only [List.mem_range,List.size_toArray] at h1;simp only [Bool.and_eq_true,Bool.not_eq_true',List.getElem?_toArray] at h2;obtain ⟨h3,h4⟩:=h2;cases ho:ops[i]? with
 | none=>rw [ho] at h4;simp at h4
 | some o=>
  rw [ho] at h4;simp only [Option.map_some,Option.getD_some,Array.all_eq_true_iff_forall_mem,Bool.or_eq_true,Bool.not_eq_true'] at h4;refine ⟨h1,h3,o,rfl,fun e he hb=>?_⟩;rcases h4 e (by simpa using he) with h | h
  ·rw [hb] at h;cases h
  ·exact h
theorem zD {ops:List Oper} {listed:Array Bool} {i:Nat} {o:Oper} (h1:i < ops.length) (h2:listed.getD i true=false) (ho:ops[i]?=some o) (h:∀ e∈o.after.toList,Region.binds .any e=true→listed.getD e.on false=true):i∈Region.ready .any ops.toArray listed:=by
 unfold Region.ready;rw [List.mem_filter];refine ⟨by simpa using h1,?_⟩;simp only [Bool.and_eq_true,Bool.not_eq_true',List.getElem?_toArray,ho,Option.map_some,Option.getD_some,Array.all_eq_true_iff_forall_mem,Bool.or_eq_true];refine ⟨h2,fun e he=>?_⟩;cases hb:Region.binds .any e with
 | false=>exact .inl rfl
 | true=>exact .inr (h e (by simpa using he) hb)
theorem sg {listed:Array Bool} {i:Nat} (h:i < listed.size) (b:Bool):listed.getD i b=listed.getD i false:=by simp [Array.getD_eq_getD_getElem?,h]
section
variable {w0:World} {cf:CF} {rc:RC} {rnd:Bool} {r:Option Nat} {N:Nat}
theorem EM (hr:rnd=r.isSome) (hcf:vP w0 cf) (hrc:DA w0 rc) {ops:List Oper} {x:X} {s:An} (ht:pI (dig ops ops []) 0 []=true) (e:exA cf rc rnd N (dig ops ops []) ⟨0,0,0,x.h,[],[],x⟩=.ok s)
 (n:Nat) (σ:Sg) (a:Act) (w:World) (Q:Exit→Act→World→Prop) (hf:FrR σ N x.fr a.tmps) (hd:DsR σ x.ds a.defers) (H:Den w0 σ x.h w)
 (k:∀ σ' a' w',σ.le σ'→FrR σ' N s.x.fr a'.tmps→DsR σ' s.x.ds a'.defers→Den w0 σ' s.x.h w'→Q .normal a' w'):wpAnyIn (FW r) n PG .any ops.toArray Q ops.length (Array.replicate ops.length false) a w:=by
 have hdk:∀ g∈dig ops ops [],g.k=bD g.o.op:=fun g hg=>by
  obtain ⟨i,hi⟩:=List.getElem?_of_mem hg;exact (ye hi).2.2.1
 obtain ⟨tr,htr,hp,hl⟩:=zm (cf:=cf) (rc:=rc) (rnd:=rnd) (N:=N) (ops:=ops) (fr0:=x.fr) (h0:=x.h) (ht0:=x.h) (ds0:=x.ds) (pre:=[]) hdk e
  ⟨rfl,fun j e h=>(by simp at h),fun j e h=>(by simp at h),fun j e h=>(by simp at h),fun j e h=>(by simp at h)⟩ (fun i c h=>(by simp at h)) rfl
 simp only [List.nil_append] at hp hl
 have hdl:∀ (l:List Oper) (acc:List Nat),(dig ops l acc).length=l.length:=by
  intro l;induction l with
  | nil=>intro acc;rfl
  | cons o l ih=>intro acc;simp [dig,ih]
 have hlen:tr.length=ops.length:=by rw [← hdl ops [],← htr,List.length_map]
 have hat:∀ (i:Nat) (c:Ev),tr[i]?=some c→(dig ops ops [])[i]?=some c.g:=fun i c h=>by rw [← htr,List.getElem?_map,h];rfl
 have hfree:∀ (i:Nat) (c:Ev),tr[i]?=some c→∀ (j:Nat) (p:Ev),j < i→tr[j]?=some p→c.g.m.testBit j=true∨E9 c.g p.g:=fun i c hc j p hj hpj=>by
  have:=(pH ht (fun q hq=>(by simp at hq)) i c.g (hat i c hc)).2.2 j p.g hj (hat j p hpj)
  simpa using this
 have hback:∀ (i:Nat) (c:Ev),tr[i]?=some c→∀ e∈c.g.o.after.toList,Region.binds .any e=true→e.on < i:=fun i c hc=>by
  have:=(pH ht (fun q hq=>(by simp at hq)) i c.g (hat i c hc)).1;rw [Nat.zero_add] at this;exact fun e he hb=>yz this e he hb
 have main:∀ (fuel:Nat) (listed:Array Bool) (σ1:Sg) (a:Act) (w:World),listed.size=ops.length→Cl tr (fun j=>listed.getD j false)→Iv w0 N x tr (fun j=>listed.getD j false) σ1 a w→cnt listed ops.length≤fuel→σ.le σ1→
  wpAnyIn (FW r) n PG .any ops.toArray Q fuel listed a w:=by
  have fin:∀ (listed:Array Bool) (σ1:Sg) (a:Act) (w:World),listed.size=ops.length→Iv w0 N x tr (fun j=>listed.getD j false) σ1 a w→(∀ i,i < ops.length→listed.getD i false=true)→σ.le σ1→Q .normal a w:=by
   intro listed σ1 a w hsz iv hall le
   have hL:∀ (j:Nat) (c:Ev),tr[j]?=some c→listed.getD (0 + j) false=true:=fun j c hc=>by
    rw [Nat.zero_add];exact hall j (by have:=(List.getElem?_eq_some_iff.1 hc).1;omega)
   obtain ⟨c1,c2⟩:=lD (L:=fun j=>listed.getD j false) (i:=0) hl (fun j c hc _=>hL j c hc);refine k σ1 a w le ⟨iv.size,fun t v hv=>iv.fr t v (ub (L:=fun j=>listed.getD j false) (i:=0) hl (fun v hv=>hv) (fun j c hc _=>hL j c hc) v hv)⟩ (by have:=iv.ds;rwa [c2] at this) ⟨iv.g.sub (fun k b hk=>sG (L:=fun j=>listed.getD j false) (i:=0) hl (fun _ _ h=>h) (fun j c hc _=>hL j c hc) k b hk),fun k hk=>?_⟩;cases hs:σ1 k with
   | none=>rfl
   | some p=>
    exfalso
    have hle:=Fp hl (Nat.le_refl _);rcases iv.dom k (by rw [hs];simp) with h | ⟨j,c,h1,h2,h3,h4,h5,h6⟩
    ·rw [c1] at h;simp only at h hle;omega
    ·have:=tL hl h1 h3 h4 (fun j' e' hj' he'=>by
      cases hh:e'.tch with
      | false=>rfl
      | true=>have g1:listed.getD j' false=false:=h6 j' e' hj' he' hh;have g2:=hL j' e' he';rw [Nat.zero_add,g1] at g2;cases g2)
     simp only at this;omega
  have allReady:∀ (listed:Array Bool),listed.size=ops.length→Region.ready .any ops.toArray listed=[]→∀ i,i < ops.length→listed.getD i false=true:=by
   intro listed hsz hre i;induction i using Nat.strongRecOn with
   | _ i ih=>
    intro hi;cases hh:listed.getD i false with
    | true=>rfl
    | false=>
     exfalso
     obtain ⟨c,hc⟩:∃ c,tr[i]?=some c:=⟨tr[i]'(by omega),List.getElem?_eq_getElem _⟩;have ho:=(ye (hat i c hc)).1;have:i∈Region.ready .any ops.toArray listed:=zD hi (by rw [sg (by omega)];exact hh) ho (fun e he hb=>ih e.on (hback i c hc e he hb) (by have:=hback i c hc e he hb;omega));rw [hre] at this;simp at this
  intro fuel;induction fuel with
  | zero=>
   intro listed σ1 a w hsz hcl iv hcnt le;have hall:=AG (by omega:cnt listed ops.length=0);refine ⟨?_,fin listed σ1 a w hsz iv hall le⟩;cases hre:Region.ready .any ops.toArray listed with
   | nil=>rfl
   | cons i l=>
    exfalso
    obtain ⟨h1,h2,_⟩:=dg (listed:=listed) (ops:=ops) (i:=i) (by rw [hre];simp);rw [sg (by omega),hall i h1] at h2;cases h2
  | succ fuel ih=>
   intro listed σ1 a w hsz hcl iv hcnt le;refine ⟨fun hre=>fin listed σ1 a w hsz iv (allReady listed hsz hre) le,fun i hi=>?_⟩;obtain ⟨h1,h2,o,ho,h3⟩:=dg hi;rw [sg (by omega)] at h2;obtain ⟨c,hc⟩:∃ c,tr[i]?=some c:=⟨tr[i]'(by omega),List.getElem?_eq_getElem _⟩;obtain ⟨d1,d2,d3,acc',d4,d5,d6,d7⟩:=ye (hat i c hc);rw [ho] at d1;obtain rfl:=Option.some.inj d1
   have hm:∀ j,c.g.m.testBit j=true→listed.getD j false=true:=fun j hj=>by
    rw [d4] at hj;obtain ⟨ed,he,hb,h | h⟩:=zX hj
    ·rw [← h];exact h3 ed he hb
    ·have hlt:=hback i c hc ed he hb
     obtain ⟨c',hc'⟩:∃ c',tr[ed.on]?=some c':=⟨tr[ed.on]'(by omega),List.getElem?_eq_getElem _⟩;have:=d7 ed.on c'.g hlt (hat _ _ hc');simp only [List.length_nil,Nat.zero_add] at this;rw [List.getD_eq_getElem?_getD,this] at h;exact hcl _ _ hc' (h3 ed he hb) j h
   have hil:i < listed.size:=by omega
   obtain ⟨hit,hig⟩:=List.getElem?_eq_some_iff.1 hc;have hsp:tr=tr.take i++c::tr.drop (i + 1):=by rw [← hig,List.getElem_cons_drop hit,List.take_append_drop]
   have hil2:(tr.take i).length=i:=by simp;omega
   have hon:(fun j=>(listed.setIfInBounds i true).getD j false)=on_ (fun j=>listed.getD j false) i:=by
    funext j;rw [a7 hil];rfl
   have step:=Iv.step (w0:=w0) (cf:=cf) (rc:=rc) (rnd:=rnd) (r:=r) (N:=N) (ops:=ops) (x0:=x) (A:=tr.take i) (B':=tr.drop (i + 1)) (e:=c) (L:=fun j=>listed.getD j false) (σ:=σ1) (a:=a) (w:=w) hr hcf hrc (by rw [← hsp];exact hl) (by rw [← hsp];exact hp) (by rw [← hsp];exact hfree) d2 d3 (by rw [hil2];exact h2) hm (by rw [← hsp];exact hcl) (by rw [← hsp];exact iv) n
    (wpAnyIn (FW r) n PG .any ops.toArray Q fuel (listed.setIfInBounds i true)) Q (fun σ' a' w' le' iv'=>by
     rw [hil2,← hsp,← hon] at iv';refine ih _ σ' a' w' (by simp [hsz]) (fun i' c' hc' hL' j hj=>?_) iv' ?_ (le.trans le')
     ·simp only at hL' ⊢
      rw [a7 hil] at hL' ⊢;split
      ·rfl
      ·split at hL'
       ·rename_i hii;subst hii;rw [hc] at hc';obtain rfl:=Option.some.inj hc';exact hm j hj
       ·exact hcl _ _ hc' hL' j hj
     ·have:=(mJ hil h2 ops.length).1 h1;omega)
   unfold wpOpIn;simp only [List.getElem?_toArray,ho];exact step
 refine main ops.length _ σ a w (by simp) (fun i c _ hL=>?_) ?_ ?_ (Sg.le.refl σ)
 ·simp [Array.getD_eq_getD_getElem?,Array.getElem?_replicate] at hL
  split at hL <;> simp at hL
 ·have hL0:∀ j,(fun j=>(Array.replicate ops.length false).getD j false) j=false:=fun j=>by
   simp [Array.getD_eq_getD_getElem?,Array.getElem?_replicate];split <;> rfl
  have h0:htf (fun j=>(Array.replicate ops.length false).getD j false) 0 x.h tr=x.h:=gU (fun j c _ _=>hL0 _);refine ⟨hf.size,fun t v hv=>?_,by rw [mD (fun j c _ _=>hL0 _)];exact hd,by rw [h0];exact H.g,by rw [my (fun j c _ _=>hL0 _)];exact H.g,fun k hk=>.inl ?_⟩
  ·rw [C5 (fun j c _ _=>hL0 _)] at hv;exact hf.at_ t v hv
  ·rw [h0]
   rcases Nat.lt_or_ge k x.h.n with h | h
   ·exact h
   ·exact absurd (H.up k h) hk
 ·have:∀ (l:Array Bool) k,cnt l k≤k:=by
   intro l k;induction k with
   | zero=>exact Nat.le_refl _
   | succ k ih=>simp only [cnt];split <;> omega
  exact this _ _
end
end Go.Proofs.YtbcdgcodnkgdoaaGreat.Run
namespace Go.Proofs.YtbcdgcodnkgdoaaGreat.Run
open Go Go.RowKit
theorem gN.gone {w0 w w':World} {σ:Sg} {g g':Nat→Option B} {k:Nat} {b:B} {q:Nat × Nat} {o:Obj} (H:gN w0 σ g w) (hk:g k=some b) (hq:σ k=some q) (ht:rb w w' q.1 o)
 (hg:∀ j c,g' j=some c→j≠k∧g j=some c):gN w0 σ g' w':=by
 have hlow:=H.low k q hq;refine ⟨⟨ht.os.trans H.kp.os,ht.tape.trans H.kp.tape,ht.output.trans H.kp.output,by rw [ht.size];exact H.kp.size,fun i hi hn=>by rw [ht.block i (by omega)];exact H.kp.block i hi hn⟩,fun j r hr=>by rw [ht.size];exact H.low j r hr,fun j c hj=>?_,fun i j a c r s hi hj hr hs e=>?_⟩
 ·obtain ⟨hne,hj⟩:=hg j c hj
  obtain ⟨r,o',h1,h2,h3⟩:=H.obj j c hj;refine ⟨r,o',h1,?_,h3⟩;rw [ht.block r.1 (fun e=>hne (H.inj j k c b r q hj hk h1 hq e))];exact h2
 ·exact H.inj i j a c r s (hg i a hi).2 (hg j c hj).2 hr hs e
theorem Den.gone {w0 w w':World} {σ:Sg} {h:Hp} {k:Nat} {b:B} {q:Nat × Nat} {o:Obj} (H:Den w0 σ h w) (hk:h.get k=some b) (hq:σ k=some q) (ht:rb w w' q.1 o):Den w0 σ (h.del k) w':=
 ⟨H.g.gone hk hq ht (fun _ _=>kT),H.up⟩
theorem F4:PG.follows .mixedOrders=true:=by kernel_rfl
theorem C9 (w:World):{ w with drawn:=w.drawn + 1 }=w.drew:=rfl
section
variable {w0:World} {cf:CF}
theorem D6 {rc:RC} {rnd:Bool} {r:Option Nat} {N:Nat} (hr:rnd=r.isSome) (hcf:vP w0 cf) (hrc:DA w0 rc) {id:Nat} {ops:Array Oper} {dr:Bool} {x:X} {q:Xt × X} (e:GB cf rc rnd N (dig ops.toList ops.toList []) dr x=.ok q):rp w0 r N (.region id ops dr) x q:=by
 intro n σ a w Q hf hd H k;cases dr with
 | false=>
  obtain ⟨x',e1,e2⟩:=bn (show (exO cf rc rnd N (dig ops.toList ops.toList []) x).bind _=.ok q from e);obtain rfl:=R.ok.inj e2;exact wpIn_region_list (EH hr hcf hrc e1 n σ a w Q hf hd H k)
 | true=>
  obtain ⟨e0,e3⟩:=bx (show cx 164 _ _=.ok q from e);obtain ⟨s,e1,e2⟩:=bn e3;obtain rfl:=R.ok.inj e2;refine wpIn_region_any F4 ?_;rw [C9];have:=EM hr hcf hrc e0 e1 n σ a w.drew Q hf hd H.drew k
  simpa using this
theorem zG {rnd:Bool} {r:Option Nat} {N:Nat} (hr:rnd=r.isSome) (hcf:vP w0 cf) {fn:FuncId} {f:Operand} {ps:Array Tmp} {asg body:Code} {x:X} {q:Xt × X} (e:ud cf rnd N fn (xe N x.fr f) ps asg body x=.ok q):rp w0 r N (.rangeFunc f ps asg body) x q:=by
 intro n σ a w Q hf hd H k;unfold ud at e;split at e
 ·rename_i g pre caps hfv
  cases r with
  | some l=>cases hr
  | none=>
  obtain ⟨p,e1,e2⟩:=bn e;unfold yo at e2;split at e2
  ·rename_i fr' N' ps' asg' body' fn' d' hg
   obtain rfl:=R.ok.inj e2;obtain ⟨h1,h2⟩:=hcf _ _ _ _ e1;have hev:=hf.ev #[f] f (by simp) _ hfv;obtain ⟨pa,ca,h3,h4,h5⟩:=vh hev;refine wpIn_rangeFunc fun fnm hfn=>?_
   -- the two blocks
   obtain ⟨le1,H1⟩:=H.new (b:=.dfr) (o:=.deferred (some [])) (cap:=0) rfl;have hs1:σ.add x.h.n (w.heap.size,0) x.h.n=some (w.heap.size,0):=bN _ _ _
   obtain ⟨le2,H2⟩:=H1.new (b:=.loop true x.fr N ps.toList asg body fn x.h.n) (cap:=0) (o:=.loop { state:=.ready,pending:=none,fn:=fnm,tmps:=a.tmps,params:=ps,assign:=asg,body:=body,defers:=w.heap.size })
    ⟨a.tmps,(w.heap.size,0),fnm,hf.mono (le1.trans (cW (H1.up _ (Nat.le_refl _)))),(cW (H1.up _ (Nat.le_refl _))) _ _ hs1,by simp⟩
   have hsz:(w.alloc (.deferred (some []))).heap.size=w.heap.size + 1:=fD _ _;rw [hsz] at le2 H2;have hn1:(x.h.new .dfr).n=x.h.n + 1:=rfl;rw [hn1] at le2 H2;generalize hσ2:(σ.add x.h.n (w.heap.size,0)).add (x.h.n + 1) (w.heap.size + 1,0)=σ2 at le2 H2;have hy:σ2 (x.h.n + 1)=some (w.heap.size + 1,0):=by rw [← hσ2];exact bN _ _ _
   have hm:σ2 x.h.n=some (w.heap.size,0):=le2 _ _ hs1
   have hden:dI σ2 (pre++[.y (Nat.succ x.h.n)]++caps)=some (pa++[Value.func (.yield (w.heap.size + 1)) #[] #[]]++ca):=by
    refine cK (cK (bT (le1.trans le2) _ _ h3) ?_) (bT (le1.trans le2) _ _ h4);refine aO.2 ⟨_,[],?_,dX,rfl⟩;rw [den,hy]
   have hent:=run_enterLoop_outer (P:=PG) (w:=w) fnm a.tmps ps asg body;generalize ((w.alloc (.deferred (some []))).alloc (.loop { state:=.ready,pending:=none,fn:=fnm,tmps:=a.tmps,params:=ps,assign:=asg,body:=body,defers:=w.heap.size }))=W at H2 hent;refine ⟨w.heap.size + 1,[{ target:=.collected w.heap.size,args:=#[] }],W,{ target:=.fn (.func g) ca.toArray,args:=pa.toArray++#[Value.func (.yield (w.heap.size + 1)) #[] #[]] },W,g,(pa++[Value.func (.yield (w.heap.size + 1)) #[] #[]]++ca).toArray,W,hent,?_,fun f' _=>kG none f',?_,fun hh=>(by cases hh),?_⟩
   ·simp only [resolve,h5,Deferred.ofValue,Sem.run_pure]
    simp [Act.eval,Result.andThen]
   ·rw [← h1 (pa++[Value.func (.yield (w.heap.size + 1)) #[] #[]]++ca).toArray W]
    simp [invoke]
   ·refine h2 (n - 1) σ2 _ _ _ hden H2 (fun σ3 v w3 le3 hv H3=>?_)
    obtain ⟨q',o',g1,g2,tmps',dq',fn'',g3,g4,rfl⟩:=H3.g.obj _ _ hg;have hy3:=le3 _ _ hy;have hm3:=le3 _ _ hm;obtain rfl:(w.heap.size + 1,0)=q':=Option.some.inj (hy3.symm.trans g1);refine ⟨none,_,run_endLoop g2 (by simp),?_⟩;have hlow:=(H3.g.low _ _ hy3).2;refine k σ3 { a with defers:=_ } _ ((le1.trans le2).trans le3) (hf.mono ((le1.trans le2).trans le3)) ?_ (H3.gone hg hy3 (d8 hlow));exact ⟨⟨_,hm3,rfl⟩,hd.mono ((le1.trans le2).trans le3)⟩
  ·cases e2
 ·cases e
theorem BH (hcf:vP w0 cf):∀ (fuel:Nat) {rnd:Bool} {r:Option Nat} {N:Nat} {fn:FuncId} {c:Code} {x:X} {q:Xt × X},rnd=r.isSome→exC cf fuel rnd N fn c x=.ok q→rp w0 r N c x q:=by
 intro fuel;induction fuel using Nat.strongRecOn with
 | _ fuel ih=>
 cases fuel with
 | zero=>intro rnd r N fn c x q hr e;cases e
 | succ fuel=>
 intro rnd r N fn c x q hr e;have IH:∀ {rnd:Bool} {r:Option Nat} {N:Nat} {fn:FuncId} {c:Code} {x:X} {q:Xt × X},rnd=r.isSome→exC cf fuel rnd N fn c x=.ok q→rp w0 r N c x q:=ih fuel (Nat.lt_succ_self _);have hrc:DA w0 (fun N c x=>exC cf fuel true N fn c x):=fun N c x q e l=>IH (r:=some l) rfl e;have e0:Gz cf (exC cf fuel) rnd N fn c x=.ok q:=e;cases c with
 | skip=>
  obtain rfl:=R.ok.inj (show R.ok (Xt.nrm,x)=.ok q from e0);intro n σ a w Q hf hd H k;exact wpIn_skip (k σ a w (Sg.le.refl σ) hf hd H)
 | region id ops dr=>exact D6 hr hcf hrc (sW (show pu (10000 + id) _=.ok q from e0))
 | seq b c=>
  obtain ⟨p,e1,e2⟩:=bn (show (exC cf fuel rnd N fn b x).bind (Fs (exC cf fuel) rnd N fn c)=.ok q from e0);intro n σ a w Q hf hd H k;refine wpIn_seq (IH hr e1 n σ a w _ hf hd H fun σ1 a1 w1 le1 hf1 hd1 H1=>?_);obtain ⟨t,y⟩:=p;cases t with
  | nrm=>exact IH hr (show exC cf fuel rnd N fn c y=.ok q from e2) n σ1 a1 w1 Q hf1 hd1 H1 fun σ2 a2 w2 le2=>k σ2 a2 w2 (le1.trans le2)
  | ret=>
   obtain rfl:=R.ok.inj (show R.ok (Xt.ret,y)=.ok q from e2);exact k σ1 a1 w1 le1 hf1 hd1 H1
  | exi j=>
   obtain rfl:=R.ok.inj (show R.ok (Xt.exi j,y)=.ok q from e2);exact k σ1 a1 w1 le1 hf1 hd1 H1
 | cond v b c=>
  intro n σ a w Q hf hd H k;have e1:Dh (exC cf fuel) rnd N fn (xe N x.fr v) b c x=.ok q:=e0;unfold Dh at e1;split at e1
  ·rename_i hv
   refine wpIn_cond_true ?_ (IH hr e1 n σ a w Q hf hd H k);exact qP (hf.ev #[v] v (by simp) _ hv)
  ·rename_i hv
   refine wpIn_cond_false ?_ (IH hr e1 n σ a w Q hf hd H k);exact qP (hf.ev #[v] v (by simp) _ hv)
  ·cases e1
 | block id c=>
  obtain ⟨p,e1,e2⟩:=bn (show (exC cf fuel rnd N fn c x).bind (BP id)=.ok q from e0);intro n σ a w Q hf hd H k;refine wpIn_block (IH hr e1 n σ a w _ hf hd H fun σ1 a1 w1 le1 hf1 hd1 H1=>?_);obtain ⟨t,y⟩:=p;cases t with
  | nrm=>
   obtain rfl:=R.ok.inj (show R.ok (Xt.nrm,y)=.ok q from e2);exact k σ1 a1 w1 le1 hf1 hd1 H1
  | ret=>
   obtain rfl:=R.ok.inj (show R.ok (Xt.ret,y)=.ok q from e2);exact k σ1 a1 w1 le1 hf1 hd1 H1
  | exi j=>
   obtain rfl:=R.ok.inj (show R.ok (qB (Nat.beq j id) Xt.nrm (.exi j),y)=.ok q from e2);show (if j=id then Q .normal a1 w1 else Q (.exit j) a1 w1);have kk:=k σ1 a1 w1 le1 hf1 hd1 H1;cases hb:Nat.beq j id with
   | true=>
    rw [hb] at kk;rw [if_pos (Nat.eq_of_beq_eq_true hb)];exact kk
   | false=>
    rw [hb] at kk;rw [if_neg (fun h=>by subst h;rw [Nat.beq_refl] at hb;cases hb)];exact kk
 | loop c=>
  intro n σ a w Q hf hd H k;refine wpIn_loop_ghost (fun m a w=>∃ σ' x',m≤fuel + 1∧σ.le σ'∧exC cf m rnd N fn (.loop c) x'=.ok q∧FrR σ' N x'.fr a.tmps∧DsR σ' x'.ds a.defers∧Den w0 σ' x'.h w) (fuel + 1) ⟨σ,x,Nat.le_refl _,Sg.le.refl σ,e,hf,hd,H⟩ ?_;intro m a w hI;obtain ⟨σ',x',hm,le,em,hf,hd,H⟩:=hI;cases m with
  | zero=>cases em
  | succ m=>
  obtain ⟨p,e1,e2⟩:=bn (show (exC cf m rnd N fn c x').bind (Fs (exC cf m) rnd N fn (.loop c))=.ok q from em);refine ih m (by omega) hr e1 n σ' a w _ hf hd H fun σ1 a1 w1 le1 hf1 hd1 H1=>?_;obtain ⟨t,y⟩:=p;cases t with
  | nrm=>exact ⟨m,Nat.lt_succ_self _,σ1,y,by omega,le.trans le1,e2,hf1,hd1,H1⟩
  | ret=>
   obtain rfl:=R.ok.inj (show R.ok (Xt.ret,y)=.ok q from e2);exact k σ1 a1 w1 (le.trans le1) hf1 hd1 H1
  | exi j=>
   obtain rfl:=R.ok.inj (show R.ok (Xt.exi j,y)=.ok q from e2);exact k σ1 a1 w1 (le.trans le1) hf1 hd1 H1
 | rangeFunc f ps asg body=>exact zG hr hcf (show ud cf rnd N fn (xe N x.fr f) ps asg body x=.ok q from e0)
 | exit id=>
  obtain rfl:=R.ok.inj (show R.ok (Xt.exi id,x)=.ok q from e0);intro n σ a w Q hf hd H k;exact wpIn_exit (k σ a w (Sg.le.refl σ) hf hd H)
 | scope b=>cases e0
 | label l=>
  obtain rfl:=R.ok.inj (show R.ok (Xt.nrm,x)=.ok q from e0);intro n σ a w Q hf hd H k;exact wpIn_label (k σ a w (Sg.le.refl σ) hf hd H)
 | goto l=>cases e0
 | ret=>
  obtain rfl:=R.ok.inj (show R.ok (Xt.ret,x)=.ok q from e0);intro n σ a w Q hf hd H k;exact wpIn_ret (k σ a w (Sg.le.refl σ) hf hd H)
 | _=>cases e0
end
end Go.Proofs.YtbcdgcodnkgdoaaGreat.Run
namespace Go.Proofs.YtbcdgcodnkgdoaaGreat.Run
open Go Go.RowKit
theorem FF (k:Nat):(T.e:T V).at k=none:=rfl
theorem EF {N k:Nat} {v:V} (h:mC N .e k=some v):False:=by
 obtain ⟨_,h⟩:=fy h;rw [FF] at h;cases h
theorem FJ {tmps:Array Value} {i:Nat} {x:Value} (h:tmps[i]?=some x):tmps.setIfInBounds i x=tmps:=by
 apply Array.ext_getElem?;intro j;by_cases hj:i=j
 ·subst hj
  have:=(Array.getElem?_eq_some_iff.1 h).1;rw [h];simp [this]
 ·rw [Array.getElem?_setIfInBounds_ne hj]
theorem AP {σ:Sg} {N:Nat} {tmps:Array Value}:∀ {vs:List V} {xs:List Value} {i:Nat} {t:T V},dI σ vs=some xs→i + vs.length≤N→FrR σ N t tmps→(∀ j x,xs[j]?=some x→tmps[i + j]?=some x)→FrR σ N (yB N i vs t) tmps:=by
 intro vs;induction vs with
 | nil=>intro xs i t _ _ H _;exact H
 | cons v r ih=>
  intro xs i t hx hl H ha;obtain ⟨x,b,h1,h2,rfl⟩:=aO.1 hx;simp only [List.length_cons] at hl;have hi:=ha 0 x rfl;have:=H.put (d:=i) (v:=v) (x:=x) (by omega) h1;rw [Nat.add_zero] at hi;rw [FJ hi] at this;refine ih h2 (i:=Nat.succ i) (by omega) this fun j y hj=>?_;have:=ha (j + 1) y (by simpa using hj);rw [show Nat.succ i + j=i + (j + 1) by omega];exact this
theorem t7 {σ:Sg} {N:Nat} {vs:List V} {xs:List Value} (hx:dI σ vs=some xs) (hl:vs.length≤N):FrR σ N (yB N 0 vs .e) (xs.toArray++Array.replicate (N - xs.toArray.size) undef):=by
 have hlen:=cy hx;refine AP hx (by omega) ⟨by simp;omega,fun k v h=>(EF h).elim⟩ fun j x hj=>?_;have:=(List.getElem?_eq_some_iff.1 hj).1;rw [Nat.zero_add,Array.getElem?_append_left (by simpa using this)]
 simpa using hj
def DQ (tmps:Array Value):ResultVar→Sem Value
 | .tmp t=>pure (tmps.getD t undef)
 | .cell a t=>do loadVar t (← asAddr (tmps.getD a undef))
theorem Cw {w0 w:World} {σ:Sg} {h:Hp} {N:Nat} {fr:T V} {tmps:Array Value} (H:gN w0 σ h.get w) (hf:FrR σ N fr tmps):∀ {rs:List ResultVar} {vs:List V},s7 N fr h rs=.ok vs→
 ∃ xs,dI σ vs=some xs∧(rs.mapM (DQ tmps)).run PG w=.ok xs w:=by
 intro rs;induction rs with
 | nil=>intro vs e;obtain rfl:=R.ok.inj (show R.ok []=.ok vs from e);exact ⟨[],dX,by simp⟩
 | cons r rs ih=>
  intro vs e
  have getD:∀ k v,mC N fr k=some v→den σ v=some (tmps.getD k undef):=fun k v hv=>by
   obtain ⟨x,h1,h2⟩:=hf.at_ k v hv;rw [Array.getD_eq_getD_getElem?,h2];exact h1
  cases r with
  | tmp t=>
   have e0:s7 N fr h (.tmp t::rs)=(match mC N fr t with
    | some v=>(s7 N fr h rs).bind fun l=>.ok (v::l)
    | none=>.er [178]):=rfl
   rw [e0] at e;split at e
   ·rename_i v hv
    obtain ⟨l,e1,e2⟩:=bn e;obtain rfl:=R.ok.inj e2;obtain ⟨xs,h1,h2⟩:=ih e1;refine ⟨_::xs,aO.2 ⟨_,_,getD _ _ hv,h1,rfl⟩,?_⟩;simp [List.mapM_cons,DQ,h2,Result.andThen]
   ·cases e
  | cell a t=>
   have e0:s7 N fr h (.cell a t::rs)=(match mC N fr a with
    | some p=>(rd h t p).bind fun v=>(s7 N fr h rs).bind fun l=>.ok (v::l)
    | none=>.er [179]):=rfl
   rw [e0] at e;split at e
   ·rename_i p hp
    obtain ⟨v,e0,e⟩:=bn e;obtain ⟨l,e1,e2⟩:=bn e;obtain rfl:=R.ok.inj e2;obtain ⟨xs,h1,h2⟩:=ih e1;obtain ⟨A,y,g1,g2,g3⟩:=D7 H e0 (getD _ _ hp);refine ⟨y::xs,aO.2 ⟨_,_,g2,h1,rfl⟩,?_⟩;simp [List.mapM_cons,DQ,h2,g1,asAddr,g3,Result.andThen]
   ·cases e
theorem Ci {σ:Sg} {vs:List V} {xs:List Value} (h:dI σ vs=some xs):den σ (DY vs)=some (if h:xs.toArray.size=1 then xs.toArray[0] else .tuple xs.toArray):=by
 cases vs with
 | nil=>
  obtain rfl:=Option.some.inj (dX.symm.trans h);simp [DY,den]
 | cons v r=>
  obtain ⟨x,b,h1,h2,rfl⟩:=aO.1 h;cases r with
  | nil=>
   obtain rfl:=Option.some.inj (dX.symm.trans h2);simp [DY,h1]
  | cons u r=>
   obtain ⟨y,c,h3,h4,rfl⟩:=aO.1 h2;show den σ (.t (v::u::r))=_;rw [den,h];simp
theorem uI {w0 w:World} {σ:Sg} {h:Hp} {fr:T V} {fn:Func} {tmps:Array Value} {vs:List V} (H:gN w0 σ h.get w) (hf:FrR σ fn.ntmps fr tmps) (e:s7 fn.ntmps fr h fn.results.toList=.ok vs):
 ∃ x,den σ (DY vs)=some x∧(results fn tmps).run PG w=.ok x w:=by
 obtain ⟨xs,h1,h2⟩:=Cw H hf e;refine ⟨_,Ci h1,?_⟩
 have:results fn tmps=(do let vs ← fn.results.mapM (DQ tmps);pure (if h:vs.size=1 then vs[0] else .tuple vs)):=by
  unfold results
  congr 1
 rw [this]
 have hm:(fn.results.mapM (DQ tmps)).run PG w=.ok xs.toArray w:=by
  rw [Array.mapM_eq_mapM_toList];show Sem.run PG ((List.mapM (DQ tmps) fn.results.toList) >>= fun x=>pure x.toArray) w=_;rw [Sem.run_bind,h2]
  rfl
 rw [Sem.run_bind,hm]
 rfl
theorem mL {g : FuncId} {fn : Func} {c : Code} (hf : PG.funcs[g]? = some fn) (hb : fn.body = some c) (hn : (fn.name == "runtime.NumGoroutine") = false) (args : Array Value) (w : World) : (callFunc g args).run PG w = .ok (.enter g args) w := by
 have hn' : ¬ fn.name = "runtime.NumGoroutine" := by simpa using hn
 simp [callFunc,hf,hb,hn']
section
variable {w0:World} {cf:CF}
theorem C7 {q:Xt × X} {h':Hp} (e:Gf q=.ok h'):(q.1=.nrm∨q.1=.ret)∧q.2.ds=[]∧q.2.h=h':=by
 unfold Gf at e;split at e
 ·rename_i h1 h2;exact ⟨.inl h1,h2,R.ok.inj e⟩
 ·rename_i h1 h2;exact ⟨.inr h1,h2,R.ok.inj e⟩
 ·cases e
theorem EK (hcf:vP w0 cf) {fuel:Nat} {g:FuncId} {args:List V} {h h':Hp} (e:exD cf fuel g args h=.ok h'):(∀ args w,(callFunc g args).run PG w=.ok (.enter g args) w) ∧
 ∀ (n:Nat) (σ:Sg) (w:World) (args':List Value) (R:Ending→FrameMode→World→Prop),dI σ args=some args'→Den w0 σ h w→(∀ σ' x w',σ.le σ'→Den w0 σ' h' w'→R (.returned x) .returning w')→CallsDIn (FW none) n PG g args'.toArray .returning w R:=by
 unfold exD at e;cases hf:PG.funcs[g]? with
 | none=>rw [hf] at e;cases e
 | some fn=>
 rw [hf] at e;obtain ⟨hn,e⟩:=bx e;have hn : (fn.name == "runtime.NumGoroutine") = false := by simpa using hn
 unfold Gy at e;split at e
 ·rename_i id ops y hb hrs
  unfold Gw at e;split at e
  ·rename_i d0 as0 ats ty0 pos0 af0 d1 d2 ty1 pos1 af1 hops
   obtain ⟨hc,e⟩:=bx e;simp only [Bool.and_eq_true] at hc;obtain ⟨⟨⟨⟨c1,c2⟩,c3⟩,c4⟩,c5⟩:=hc;obtain ⟨q,e1,e2⟩:=bn e;obtain ⟨hq,hds,rfl⟩:=C7 e2;obtain rfl:=Nat.eq_of_beq_eq_true c1;have l0:=fF c2;have l1:=fF c3;have l4:=Nat.le_of_ble_eq_true c4
   have has:as0=#[]:=by
    cases hh:as0.toList with
    | nil=>exact Array.toList_eq_nil_iff.1 hh
    | cons x r=>rw [hh] at c5;cases c5
   subst has;have hops':ops=[_,_].toArray:=(Array.toArray_toList (xs:=ops)).symm.trans (congrArg List.toArray hops);subst hops';refine ⟨mL hf hb hn,fun n σ w args' R hx H k=>callsDIn_of_wpSIn hf hb (kG none g) fun c₀ cs hc₀=>wpSIn_seq (wpSIn_region ?_)⟩;have hfr:=t7 (N:=fn.ntmps) hx l4;have hrec:recoverD (c₀::cs)=none:=by simp [recoverD,hc₀]
   have hsame:({ c₀ with mode:=.returning }:Frame)=c₀:=by cases c₀;simp_all
   have iZ:=(hfr.put (d:=d0) (v:=.i0) (x:=.nilIface) l0 (by rw [den])).put (d:=d1) (v:=.i0) (x:=.nilIface) l1 (by rw [den]);have hy:=BH hcf fuel (r:=none) rfl e1
   have step:y.wpSIn (FW none) n PG (bodyPostS PG fn c₀ cs R) { tmps:=((args'.toArray++Array.replicate (fn.ntmps - args'.toArray.size) undef).setIfInBounds d0 .nilIface).setIfInBounds d1 .nilIface,defers:=[] } (c₀::cs) w:=by
    refine wpSIn_of_wpIn rfl (hy n σ _ w _ iZ trivial H fun σ' a' w' le hf' hd' H'=>?_);rw [hds] at hd'
    have hdd:a'.defers=[]:=by
     cases hh:a'.defers with
     | nil=>rfl
     | cons d r=>rw [hh] at hd';exact hd'.elim
    have hr0:(results fn a'.tmps).run PG w'=.ok (.tuple #[]) w':=results_none (Array.toList_eq_nil_iff.1 hrs) _ _ _;rcases hq with hq | hq
    ·rw [hq];exact ⟨hdd,.returning,by rw [hsame],_,hr0,k σ' _ w' le H'⟩
    ·rw [hq];exact ⟨hdd,.returning,by rw [hsame],_,hr0,k σ' _ w' le H'⟩
   have hlt:d0 < (args'.toArray++Array.replicate (fn.ntmps - args'.toArray.size) undef).size:=by rw [hfr.size];exact l0
   have hget:((args'.toArray++Array.replicate (fn.ntmps - args'.toArray.size) undef).setIfInBounds d0 Value.nilIface).getD d0 undef=.nilIface:=by
    rw [Array.getD_eq_getD_getElem?,Array.getElem?_setIfInBounds];rw [if_pos rfl,if_pos hlt];rfl
   generalize (args'.toArray++Array.replicate (fn.ntmps - args'.toArray.size) undef)=tm at step hget;show wpOpsSIn (FW none) n PG _ _ [0,1] _ _ _;simp only [wpOpsSIn,List.getElem?_toArray,List.getElem?_cons_zero,List.getElem?_cons_succ];refine ⟨fun f _=>kG none f,?_⟩;rw [if_pos (by simp [Region.wanted])]
   have hr1:(execOp ({ tmps:=tm,defers:=[] }:Act).eval ⟨some d0,.call ⟨.builtin .recover,#[],ats⟩,ty0,pos0,af0,none⟩).run PG w=.ok .recover w:=by
    simp [execOp,resolve,invoke,Deferred.ofValue,Result.andThen,builtin]
   rw [hr1];simp only [hrec];refine ⟨fun f _=>kG none f,?_⟩;rw [if_pos (by simp [Region.wanted])]
   have hr2:(execOp (({ tmps:=tm,defers:=[] }:Act).put (some d0) .nilIface).eval ⟨some d1,.assign (.tmp d0),ty1,pos1,af1,none⟩).run PG w=.ok (.value .nilIface) w:=by
    simp [execOp,Act.eval,Act.put,hget]
   rw [hr2];exact step
  ·cases e
 ·cases e
theorem z6 (hcf:vP w0 cf) {fuel:Nat} {fn:Func} {tmps:Array Value}:∀ {ds:List Df} {dd:List Deferred} {h h':Hp},qp cf fuel ds h=.ok h'→∀ (n:Nat) (σ:Sg) (w:World) (R:Ending→World→Prop),DsR σ ds dd→Den w0 σ h w→
 (∀ σ' w',σ.le σ'→Den w0 σ' h' w'→∃ v,(results fn tmps).run PG w'=.ok v w'∧R (.returned v) w')→LeavesInM (FW none) n PG fn tmps R dd .returning w:=by
 intro ds;induction ds with
 | nil=>
  intro dd h h' e n σ w R hd H k;obtain rfl:=Run.R.ok.inj (show Run.R.ok h=.ok h' from e);cases dd with
  | nil=>exact k σ w (Sg.le.refl σ) H
  | cons d q=>exact hd.elim
 | cons d r ih=>
  intro dd h h' e n σ w R hd H k;cases dd with
  | nil=>cases d <;> exact hd.elim
  | cons y q=>
  cases d with
  | fn g caps args=>
   obtain ⟨⟨c,a,h1,h2,rfl⟩,hd⟩:=hd;obtain ⟨h1',e1,e2⟩:=bn (show (exD cf fuel g (args++caps) h).bind (fun h'=>qp cf fuel r h')=.ok h' from e);obtain ⟨g1,g2⟩:=EK hcf e1;refine ⟨by simp,.inr ⟨fun hh=>(by cases hh),.func g,c.toArray,g,(a++c).toArray,rfl,?_,fun f _=>kG none f,?_⟩⟩
   ·rw [← g1 (a++c).toArray w]
    simp [invoke]
   ·exact g2 (n - 1) σ w _ _ (cK h2 h1) H fun σ' x w' le H'=>ih e2 n σ' w' R (hd.mono le) H' fun σ2 w2 le2=>k σ2 w2 (le.trans le2)
  | mark m=>
   obtain ⟨⟨p,h1,rfl⟩,hd⟩:=hd
   have e0:qp cf fuel (.mark m::r) h=(match h.get m with
    | some .dfr=>qp cf fuel r (h.del m)
    | _=>.er [185]):=rfl
   rw [e0] at e;split at e
   ·rename_i hg
    obtain ⟨p',o,g1,g2,g3⟩:=H.g.obj _ _ hg;obtain rfl:=Option.some.inj (h1.symm.trans g1);obtain rfl:o=.deferred (some []):=g3;exact ⟨by simp,.inl ⟨_,_,rfl,run_takeDeferred g2,ih e n σ _ R hd (H.gone hg h1 (d8 (H.g.low _ _ h1).2)) k⟩⟩
   ·cases e
theorem EJ (hcf:vP w0 cf) {fuel:Nat} {g:FuncId} {fn:Func} {c:Code} {args:List V} {h:Hp} {q:A} (hf:PG.funcs[g]?=some fn) (hb:fn.body=some c) (e:exF cf fuel g fn.name fn.ntmps fn.results.toList c args h=.ok q):
 (∀ args w,(callFunc g args).run PG w=.ok (.enter g args) w) ∧
 ∀ (n:Nat) (σ:Sg) (w:World) (args':List Value) (R:Ending→World→Prop),dI σ args=some args'→Den w0 σ h w→(∀ σ' x w',σ.le σ'→den σ' q.v=some x→Den w0 σ' q.h w'→R (.returned x) w')→CallsIn Fence.wide n PG g args'.toArray w R:=by
 obtain ⟨hc,e⟩:=bx e;simp only [Bool.and_eq_true] at hc;obtain ⟨p,e1,e⟩:=bn e;obtain ⟨h',e2,e⟩:=bn e;obtain ⟨vs,e3,e4⟩:=bn e;obtain rfl:=R.ok.inj e4;refine ⟨mL hf hb (by simpa using hc.1),fun n σ w args' R hx H k=>?_⟩;have hfr:=t7 (N:=fn.ntmps) hx (Nat.le_of_ble_eq_true hc.2);refine callsIn_of_wp_marks (F:=FW none) hf hb (kG none g) (BH hcf fuel (r:=none) rfl e1 n σ _ w _ hfr trivial H fun σ' a' w' le hf' hd' H'=>?_)
 have key:∀ {R':Ending→World→Prop},qp cf fuel p.2.ds p.2.h=.ok h'→LeavesInM (FW none) n PG fn a'.tmps R a'.defers .returning w':=fun {R'} e2=>
  z6 hcf e2 n σ' w' R hd' H' fun σ2 w2 le2 H2=>by
   obtain ⟨x,h1,h2⟩:=uI H2.g (hf'.mono le2) e3;exact ⟨x,h2,k σ2 x w2 (le.trans le2) h1 H2⟩
 unfold By at e2;cases hp:p.1 with
 | nrm=>rw [hp] at e2;exact key (R':=R) e2
 | ret=>rw [hp] at e2;exact key (R':=R) e2
 | exi j=>rw [hp] at e2;cases e2
end
theorem EI (w0:World) (fuel:Nat):∀ d,vP w0 (exN fuel d):=by
 intro d;induction d with
 | zero=>intro g args h q e;cases e
 | succ d ih=>
  intro g args h q e;have e:=sW (show pu (100000 + g) (Ge (exN fuel d) fuel g PG.funcs[g]? args h)=.ok q from e);unfold Ge at e;cases hf:PG.funcs[g]? with
  | none=>rw [hf] at e;cases e
  | some fn=>
  rw [hf] at e;simp only at e;split at e
  ·rename_i c hb;exact EJ ih hf hb e
  ·cases e
theorem yg (w:World):Den w (fun _=>none) ⟨.e,0⟩ w:=by
 refine ⟨⟨cL.refl No w,fun k q h=>(by cases h),fun k b h=>?_,fun j k a b q r h=>?_⟩,fun _ _=>rfl⟩
 ·obtain ⟨_,h⟩:=fy (show qB (Nat.blt k 4096) ((T.e:T B).at k) none=some b from h)
  cases h
 ·obtain ⟨_,h⟩:=fy (show qB (Nat.blt j 4096) ((T.e:T B).at j) none=some a from h)
  cases h
theorem C6 {fuel d:Nat} {g:FuncId} {q:A} {x:Value} (e:exN fuel d g [] ⟨.e,0⟩=.ok q) (hx:∀ σ y,den σ q.v=some y→y=x) (w:World):CallsIn Fence.wide 0 PG g #[] w (fun e w'=>e=.returned x∧cL No w w'):=
 (EI w fuel d g [] _ q e).2 0 (fun _=>none) w [] _ dX (yg w) fun σ' y w' _ hy H=>⟨by rw [hx σ' y hy],H.g.kp⟩
noncomputable def R.isTrue (r:R A):Bool:=match r with
 | .ok ⟨.b x,_⟩=>x
 | _=>false
theorem xJ {r:R A} (h:r.isTrue=true):∃ q,r=.ok q∧q.v=.b true:=by
 cases r with
 | er l=>cases h
 | ok q=>
  obtain ⟨v,h'⟩:=q;cases v with
  | b x=>cases x with
   | true=>exact ⟨_,rfl,rfl⟩
   | false=>cases h
  | _=>cases h
end Go.Proofs.YtbcdgcodnkgdoaaGreat.Run
namespace Go.Proofs.YtbcdgcodnkgdoaaGreat
open Go Go.RowKit Run
theorem yG:(exN 3000 60 7 [] ⟨.e,0⟩).isTrue=true:=by kernel_rfl
theorem yH (w:World):Ret Tryz.prog 7 [] w (.bool true):=by
 obtain ⟨q,h1,h2⟩:=xJ yG;exact callsIn_wide.1 (C6 h1 (fun σ y hy=>by rw [h2,den] at hy;exact (Option.some.inj hy).symm) w)
end Go.Proofs.YtbcdgcodnkgdoaaGreat
namespace Go.Proofs.YtbcdgcodnkgdoaaGreat
open Go Go.RowKit
section
abbrev chE (k:Int) (i:Nat) (b:Nat):List Value:=[.int .i64 k,.int .i64 ((i:Int) + 1),.slice (some ⟨b,0,none⟩) 1 1]
attribute [local irreducible] RW CW
section
variable {P:Program} {E:Env} {Q:Pst} {G:List (Nat × Value)} {H:List HP}
end
theorem xa (e:Int) (w:World):Ret Tryz.prog 10 [.int .i64 e] w (.int .i64 e):=by
 refine Calls.enter Tryz.func10 rfl _ rfl rfl (S:=No) (H:=[]) trivial ?_;refine Ja (Jd (Jb (Ja (Jc (Jd (Jb ?_))))));exact aw rfl Tryz.results10 rfl rfl fun w hw=>⟨rfl,hw.kp⟩
end
section
def bvQ (x:Int) (k:Nat):Int:=g9 .u8 (FH .u8 x k) 1
def GG (x:Nat):Bool:=(List.range 4).all fun k=>bvQ (x:Int) k == cond (En.bit x ((k:Int) + 1)) 1 0
theorem G4:((List.range 16).all GG)=true:=by decide +kernel
theorem Gl {x:Int} {k:Nat} (x0:0≤x) (x1:x < 16) (hk:k < 4):bvQ x k=cond (En.bit x ((k:Int) + 1)) 1 0:=by
 have h:=List.all_eq_true.1 G4 x.toNat (List.mem_range.2 (by omega));unfold GG at h;have h2:=List.all_eq_true.1 h k (List.mem_range.2 hk);rw [show ((x.toNat:Nat):Int)=x by omega] at h2;exact eq_of_beq h2
def ng (x:Int):Nat→Int
 | 0=>0
 | k + 1=>ng x k + cond (En.bit x ((k:Int) + 1)) 1 0
theorem wL {x:Int}:∀ {k:Nat},0≤ng x k∧ng x k≤k
 | 0=>⟨Int.le_refl _,Int.le_refl _⟩
 | k + 1=>by
  have:=wL (x:=x) (k:=k);show 0≤ng x k + cond _ 1 0∧ng x k + cond _ 1 0≤((k + 1:Nat):Int);cases En.bit x ((k:Int) + 1) <;> simp only [cond] <;> omega
theorem wM {x:Int}:ng x 4=((mW x:Nat):Int):=by
 unfold mW;show ((((0:Int) + cond (En.bit x 1) 1 0) + cond (En.bit x 2) 1 0) + cond (En.bit x 3) 1 0) + cond (En.bit x 4) 1 0=_;cases En.bit x 1 <;> cases En.bit x 2 <;> cases En.bit x 3 <;> cases En.bit x 4 <;> rfl
theorem pW:∀ {l l':List Int},gn (l++l')=gn l + gn l'
 | [],l'=>by simp [gn]
 | x::l,l'=>by
  show mW x + gn (l++l')=mW x + gn l + gn l';rw [pW];omega
theorem wG {l:List Int} {i:Nat} (hi:i < l.length):gn (l.take (i + 1))=gn (l.take i) + mW (aF l i):=by
 have e:aF l i=l[i]:=by unfold aF;rw [show ((i:Int)).toNat=i by omega,List.getElem?_eq_getElem hi];rfl
 rw [List.take_add_one,List.getElem?_eq_getElem hi,pW,e];show gn (l.take i) + (mW l[i] + 0)=_;omega
theorem oO:∀ {l:List Int},gn l≤4 * l.length
 | []=>by simp [gn]
 | x::l=>by
  have:=oO (l:=l);have:=wJ x;show mW x + gn l≤_;rw [List.length_cons];omega
theorem vb {t:ThV} {facts:List Int} (h:dR t facts=0):(fT t).1=0∧bg facts t.1=true:=by
 unfold dR at h;split at h
 ·rename_i h1;exact absurd h h1
 ·rename_i h1
  refine ⟨Decidable.of_not_not h1,?_⟩;split at h
  ·assumption
  ·cases h
theorem xd {M:Mem}:gL M none []:=fun q q0 q1=>by simp at q1;omega
attribute [local irreducible] RW CW
set_option maxHeartbeats 16000000 in
theorem uZ {t:ThV} {x:TC} {A:Option Addr} {c:Nat} {facts:List Int} {w:World} (h:gp (mem w (fun b=>¬ No b)) t x) (hF:Rd cO (mem w (fun b=>¬ No b)) [.slice A facts.length c] facts):
 Ret Tryz.prog 4 [.agg (x.th t).toArray,.slice A facts.length c] w (.bool true):=by
 refine Calls.enter Tryz.func4 rfl _ rfl rfl (S:=No) (H:=[]) trivial ?_;refine bZ ?_;refine aS (l:=x.th t) rfl rfl fun b2 _=>?_;refine Jd (Jb ?_);refine ar ?_;refine Ja ?_;refine aD Tryz.call7 rfl (fun w2 _=>yH w2) rfl ?_;refine Js (Jb ?_);refine ch rfl ?_;refine al (ah ?_);by_cases hg:dR t facts=0;rotate_left
 ·refine Ja ?_;refine JE ?_;refine Jc ?_
  refine aD Tryz.call13 rfl (fun w2 hw=>sy hg w2 (h.mono (au hw)) (hF.mono (au hw))) rfl ?_;refine Jc ?_;refine Jt ?_;refine Jt ?_;refine Jt ?_;refine cH (c:=[.int .i64 0,.int .i64 0]) rfl rfl fun bC _=>?_;refine Jd ?_;refine aX [] (vs:=[.int .i64 0,.int .i64 0]) rfl rfl rfl rfl rfl (by simp [Value.oneCell']) ?_;refine Jd (Jb (Ja ?_));refine JF ?_;refine Jc ?_;refine aD Tryz.call9 rfl (fun w2 hw=>uK (h.mono (au hw)) (hF.mono (au hw)) (xQ t) hg) rfl ?_;refine Jc ?_;refine Jt ?_;refine Jt (Jd (Jd (Jb ?_)));refine ar ?_;refine Ja (Jc ?_);refine aD Tryz.call10 rfl (fun w2 _=>xa (dR t facts) w2) rfl ?_;refine Jc (Jj (Jc ?_));rw [decide_eq_false (show ¬ (dR t facts≠dR t facts) by simp)];refine Jy (Jc ?_);refine Jy (Jc ?_);refine Jy ?_;refine aD Tryz.call14 rfl (fun w2 hw=>wm (a:=[]) (b:=[]) xd xd (by simp) rfl rfl) rfl ?_;refine Jy (Js (Jw (Jb ?_)));refine ch rfl ?_;refine al (ah ?_);refine ar ?_;refine Ja (Jc (Jj (Jb ?_)));refine ay rfl (fun _=>?_) (fun h=>absurd hg h);refine Ja (Je ?_);refine JA ?_;refine Ji (Jc ?_);refine Jy (Je ?_);refine Jy ?_;refine JA ?_;refine Jy (Ji (Jv (Jd (Jb ?_))));exact aw rfl Tryz.results4 rfl rfl fun w hw=>⟨rfl,hw.kp⟩
 obtain ⟨hg1,hg2⟩:=vb hg;have ck:=BO hg1;obtain ⟨n,hn⟩:∃ n:Nat,t.1=n:=⟨_,ck.ok.lits⟩;have hn4:n≤4096:=by have:=ck.ok.most;omega
 have hth:=Bh ck hn;have hfr:∀ q∈facts,0≤q∧q < n:=fun q hq=>by have:=bU hg2 q hq;omega
 obtain ⟨hrun,_⟩:=wo hth hfr;have hcnt:=yh ck hn hfr;have hqd:=hrun.inv.ok.qd;have hpo:=hrun.inv.ok.cnt;have hsame:=fun p=>uW ck.ok hn ck.lb p hrun;have hml:=hrun.inv.ok.marks;have hmk:=hrun.inv.ok.mks;have hbs:=sI ck.ok (i:=(ao t).length) (Nat.le_refl _);have hrp:=pR ck;have hpm:=ck.pairs;have hm4:=ck.ok.count;have hcall:∀ w:World,gp (mem w (fun b=>¬ No b)) t x→Rd cO (mem w (fun b=>¬ No b)) [.slice A facts.length c] facts→_:=fun w2 a b=>vi hth.tok hfr (o5 hth hfr) hg w2 a b;refine Ja ?_;refine JE ?_;refine Jc ?_;refine dY Tryz.call13 rfl (fun w2 hw=>hcall w2 (h.mono (au hw)) (hF.mono (au hw))) rfl fun bM=>?_;generalize En.runD t n (ao t).length facts=e at *;have hpl:=oO (l:=e.marks);refine Jc ?_;refine Jt ?_;refine Jt ?_;refine Jt ?_;refine cH (c:=[.int .i64 0,.int .i64 0]) rfl rfl fun bC _=>?_;refine Jd ?_;refine aX [] (vs:=[.int .i64 e.qd,.int .i64 e.up]) rfl rfl rfl rfl rfl (by simp [Value.oneCell']) ?_;refine Jd (Jb (Ja ?_));refine JG ?_;refine Jc ?_;refine dY Tryz.call9 rfl (fun w2 hw=>wz (h.mono (au hw)) (hF.mono (au hw)) (xQ t) hg ck.ok hn ck.lb) rfl fun p=>?_;have hs:=hsame p;have hpk:=Bi p;obtain ⟨⟨bX,cX,mX⟩,_⟩:=p;dsimp only at hs hpk ⊢;subst hs;refine Jc ?_;refine Jt ?_;refine Jt (Jd (Jd (Jb ?_)));refine ar ?_;refine Ja (Jc ?_);refine aD Tryz.call10 rfl (fun w2 _=>xa 0 w2) rfl ?_;refine Jc (Jj (Jc ?_));refine Jy (Jc ?_);refine Jy (Jc ?_);refine Jy ?_;refine aD Tryz.call14 rfl (fun w2 hw=>wm (md (pre:=[_,_]) hw) (md (pre:=[]) hw) (by rw [hml];exact hn4) hml hml) rfl ?_;rw [decide_eq_true (rfl:e.marks=e.marks)];refine Jy (Js (Jw (Jb ?_)));refine ch rfl ?_;refine al (ah ?_);refine ar ?_;refine Ja (Jc (Jj (Jb ?_)));refine ay rfl (fun h=>absurd rfl h) (fun _=>?_);refine al (ah ?_);refine Ja (Jd (Jb ?_));refine ar ?_;refine Ja (Jd (Jb ?_));refine DJ [1,2,3] ?_;refine ak ?_
 refine aI (ι:={ i:Nat // i≤n }) (fun i=>[(2,aK b2),(5,slV bM n),(6,aK bC),(10,.int .i64 ((gn (e.marks.take i.1):Nat):Int)),(11,.int .i64 i.1)]) (fun _=>[blk bC [.int .i64 e.qd,.int .i64 e.up] 41,ax 45 1 (slV bM n) (e.marks.map gD),blk b2 (x.th t) 25]) (fun i=>n - i.1)
  ⟨0,Nat.zero_le _⟩ ⟨rfl,rfl,rfl,rfl,rfl,trivial⟩ (fun h=>h) ?_
 intro ⟨i,hi⟩;dsimp only at hi ⊢;refine ar ?_;refine Ja (Jc (Jc (Jg (Jk (Jb ?_)))));refine ay rfl (fun hlt=>?_) (fun hge=>?_)
 ·have hi':i < n:=by omega
  have hpt:=wG (l:=e.marks) (i:=i) (by omega);have hpi:=oO (l:=e.marks.take i);rw [List.length_take,Nat.min_eq_left (by omega)] at hpi;have hx:=hmk _ (xP hml (q:=(i:Int)) (by omega) hlt);have hxg:=cM hml (q:=(i:Int)) (by omega) hlt;rw [show ((i:Int)).toNat=i by omega] at hxg;generalize aF e.marks i=v at *;refine al (ah ?_);refine ar ?_;refine ak ?_;refine Ja (Jd (Jb ?_));refine ak ?_
  refine aI (ι:={ k:Nat // k≤4 }) (fun k=>[(2,aK b2),(5,slV bM n),(6,aK bC),(10,.int .i64 (((gn (e.marks.take i):Nat):Int) + ng v k.1)),(11,.int .i64 i),(12,.int .i64 k.1)]) (fun _=>[blk bC [.int .i64 e.qd,.int .i64 e.up] 41,ax 45 1 (slV bM n) (e.marks.map gD),blk b2 (x.th t) 25]) (fun k=>4 - k.1)
   ⟨0,Nat.zero_le _⟩ ⟨rfl,rfl,rfl,by show _=some (Value.int .i64 (((gn (e.marks.take i):Nat):Int) + 0));rw [Int.add_zero];rfl,rfl,rfl,trivial⟩ (fun h=>h) ?_
  intro ⟨k,hk⟩;dsimp only at hk ⊢;refine ar ?_;refine Ja (Jc (Jk (Jb ?_)));refine ay rfl (fun hlt2=>?_) (fun hge2=>?_)
  ·have hk':k < 4:=by omega
   have hbv:=Gl hx.1 hx.2 hk';unfold bvQ at hbv;have hpl2:=wL (x:=v) (k:=k);have hnx:ng v (k + 1)=ng v k + cond (En.bit v ((k:Int) + 1)) 1 0:=rfl;have hc:(0:Int)≤cond (En.bit v ((k:Int) + 1)) 1 0∧cond (En.bit v ((k:Int) + 1)) 1 0≤(1:Int):=by cases En.bit v ((k:Int) + 1) <;> decide
   generalize (cond (En.bit v ((k:Int) + 1)) 1 0:Int)=z at *;refine al (ah ?_);refine ar ?_;refine ak ?_;refine aj ?_;refine Jc (Jc (Jc ?_));refine av rfl rfl (by omega) hlt rfl ?_;refine az [_] (i:=i) (j:=0) rfl (by simp) (jB hxg) rfl rfl rfl ?_;refine Jc ?_;refine BY rfl rfl (by omega) rfl rfl ?_;refine jp rfl rfl hbv rfl ?_;refine sQ rfl (w64 (by omega) (by omega)) rfl ?_;refine Ka ?_;refine Jd ?_;refine aq (ah ?_);refine aj (Jc ?_);refine Ka ?_;refine Jd (aq ?_);exact bp ⟨k + 1,hk'⟩ ⟨rfl,rfl,rfl,by show _=some (Value.int .i64 (((gn (e.marks.take i):Nat):Int) + ng v (k + 1)));rw [hnx,← Int.add_assoc];rfl,rfl,rfl,trivial⟩ (fun h=>h) (by show 4 - (k + 1) < 4 - k;omega)
  ·obtain rfl:k=4:=by omega
   rw [wM];refine aG rfl (ah ?_);refine aj (Jc ?_);refine Ka ?_;refine Jd (aq ?_);exact bp ⟨i + 1,hi'⟩ ⟨rfl,rfl,rfl,by show _=some (Value.int .i64 ((gn (e.marks.take (i + 1)):Nat):Int));rw [hpt,Int.natCast_add];rfl,rfl,trivial⟩ (fun h=>h) (by show n - (i + 1) < n - i;omega)
 obtain rfl:i=n:=by omega
 rw [List.take_of_length_le (by omega)];refine aG rfl (ah ?_);refine Ja ?_;refine JG ?_;refine aD Tryz.call15 rfl (fun w2 hw=>ws (h.mono (au hw)) (xQ t) hg1) rfl ?_;refine Jc ?_;refine Jt ?_;refine Jt ?_;refine Jt ?_;refine Jt (Jd (Jd (Jd (Jd (Jb (Ja (Je ?_)))))));refine JA ?_;refine Jc (Ji (Jc ?_));rw [decide_eq_true (show e.qd=((gn e.marks:Nat):Int) by omega)];refine Jy (Je ?_);refine Jy ?_;refine JA ?_;refine Jy (Jn (Jv (Jc ?_)));rw [decide_eq_true (show 0≤e.up from hcnt.1)];refine Jy (Je ?_);refine Jy ?_;refine JA ?_;refine Jy (Jc ?_);refine Jy (Jc ?_);refine Jy ?_;refine Ka ?_;refine Jy (Jc ?_);refine Jy ?_;refine Ka ?_;refine Jy ?_;refine yP rfl rfl (w64 (by omega) (by omega)) rfl ?_;refine Jy (Jl (Jv (Jd (Jb ?_))));rw [decide_eq_true (show e.up≤4 * (t.1 + vt t (ao t).length + fw t) from hcnt.2)]
 skip
 exact aw rfl Tryz.results4 rfl rfl fun w hw=>⟨rfl,hw.kp⟩
theorem oZ (W:World) {c0:List Value} {x0:ThV} {x1:List Int} {a1:Option Addr} {n1 c1:Nat} (y0:Rd kTh (mem W Any) c0 x0) (y1:Rd cO (mem W Any) [.slice a1 n1 c1] x1):Ret Tryz.prog 4 [.agg c0.toArray,.slice a1 n1 c1] W (.bool true):=by
 obtain ⟨x,rfl,h⟩:=FK y0;have y2:=y1.mono (n6 (F':=fun b=>¬ No b) fun _ _ k=>k);obtain ⟨A,c,e⟩:=ky y2;simp only [List.cons.injEq,Value.slice.injEq] at e;obtain ⟨⟨rfl,rfl,rfl⟩,_⟩:=e;exact uZ (h.mono (n6 fun _ _ k=>k)) y2
end
end Go.Proofs.YtbcdgcodnkgdoaaGreat
