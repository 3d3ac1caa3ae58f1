/- Parts of the proof: The runner for closed calls: numbers, comparisons, composite values, maps, parts of slices. · The runner for closed calls: composite values, maps, parts of slices; all plain operations together. · The runner for closed calls: maps, slices of slices; all plain operations together. · The runner for closed calls: all plain operations; those that lay a block; those that turn memory. · The runner for closed calls: operations that lay a block. · The runner for closed calls: operations that turn memory. · The runner for closed calls: maps that are written to; all operations that turn memory. · The runner for closed calls: one operation, an ordered statement. · The runner for closed calls: an ordered statement. · The runner for closed calls: a statement in open order, what its run tells. · The runner for closed calls: a statement in open order: its operations in whatever order. Conditions: none. -/
import Derived.RangeFuncRecord
import Derived.TacticsIn
import Derived.OrdersIn
import Derived.RecoverIn
import Derived.Test.YtbcdgcodnkgdoaaGreatPc9
/- The runner for closed calls: numbers, comparisons, composite values, maps, parts of slices. Conditions: none. -/
set_option linter.unusedVariables false
set_option linter.unusedSimpArgs false
namespace Go.Proofs.YtbcdgcodnkgdoaaGreat.Run
open Go Go.RowKit
section
variable {w0 w:World} {σ:Sg} {h:Hp} {N:Nat} {fr:T V} {ρ:Operand→Value} {q:A} {dst:Option Nat} {ty:TypeId} {pos:String} {af:Array Edge} {g:Option (Nat × Bool)}
theorem den_iI {k:IntKind} {n:Int}:den σ (.i k n)=some (.int k n):=by rw [den]
theorem den_bB {b:Bool}:den σ (.b b)=some (.bool b):=by rw [den]
theorem arith_ok {op:BinOp} {k:IntKind} {a b:Int} {v:V} {t:TypeId} (e:arith op k a b=.ok v) (hs:op≠.shl) (hr:op≠.shr):∃ y,(∀ w,(binOp op t (.int k a) (.int k b)).run PG w=.ok y w)∧den σ v=some y:=by
 cases op with
 | shl=>exact absurd rfl hs
 | shr=>exact absurd rfl hr
 | andNot=>cases e
 | add=>obtain rfl:=R.ok.inj e;refine ⟨_,fun w=>?_,den_iI⟩;simp [binOp,Op.intArith]
 | sub=>obtain rfl:=R.ok.inj e;refine ⟨_,fun w=>?_,den_iI⟩;simp [binOp,Op.intArith]
 | mul=>obtain rfl:=R.ok.inj e;refine ⟨_,fun w=>?_,den_iI⟩;simp [binOp,Op.intArith]
 | quo=>
  unfold arith at e
  simp only at e
  split at e
  ·cases e
  ·rename_i hb
   have hb':¬ b=0:=of_decide_eq_false hb
   obtain rfl:=R.ok.inj e;refine ⟨_,fun w=>?_,den_iI⟩;simp [binOp,Op.intDiv,hb']
 | rem=>
  unfold arith at e
  simp only at e
  split at e
  ·cases e
  ·rename_i hb
   have hb':¬ b=0:=of_decide_eq_false hb
   obtain rfl:=R.ok.inj e;refine ⟨_,fun w=>?_,den_iI⟩;simp [binOp,Op.intDiv,hb']
 | and=>obtain rfl:=R.ok.inj e;refine ⟨_,fun w=>?_,den_iI⟩;simp [binOp,Op.intBits]
 | or=>obtain rfl:=R.ok.inj e;refine ⟨_,fun w=>?_,den_iI⟩;simp [binOp,Op.intBits]
 | xor=>obtain rfl:=R.ok.inj e;refine ⟨_,fun w=>?_,den_iI⟩;simp [binOp,Op.intBits]
 | eql=>obtain rfl:=R.ok.inj e;refine ⟨_,fun w=>?_,den_bB⟩;simp [binOp,Op.intCmp,beqI]
 | neq=>obtain rfl:=R.ok.inj e;refine ⟨_,fun w=>?_,den_bB⟩;simp [binOp,Op.intCmp,beqI,bne]
 | lss=>obtain rfl:=R.ok.inj e;refine ⟨_,fun w=>?_,den_bB⟩;simp [binOp,Op.intCmp]
 | leq=>obtain rfl:=R.ok.inj e;refine ⟨_,fun w=>?_,den_bB⟩;simp [binOp,Op.intCmp]
 | gtr=>obtain rfl:=R.ok.inj e;refine ⟨_,fun w=>?_,den_bB⟩;simp [binOp,Op.intCmp]
 | geq=>obtain rfl:=R.ok.inj e;refine ⟨_,fun w=>?_,den_bB⟩;simp [binOp,Op.intCmp]
theorem bopN_ok {op:BinOp} {k k':IntKind} {a b:Int} {v:V} {t:TypeId} (e:bopN op k k' a b=.ok v):∃ y,(∀ w,(binOp op t (.int k a) (.int k' b)).run PG w=.ok y w)∧den σ v=some y:=by
 unfold bopN at e
 split at e
 ·unfold shl1 at e
  split at e
  ·cases e
  ·rename_i hb
   have hb':¬ b < 0:=of_decide_eq_false hb
   obtain rfl:=R.ok.inj e;refine ⟨_,fun w=>?_,den_iI⟩;simp [binOp,Op.shift,hb']
 ·unfold shr1 at e
  split at e
  ·cases e
  ·rename_i hb
   have hb':¬ b < 0:=of_decide_eq_false hb
   obtain rfl:=R.ok.inj e;refine ⟨_,fun w=>?_,den_iI⟩;simp [binOp,Op.shift,hb']
 ·rename_i h1 h2
  split at e
  ·rename_i hk
   obtain rfl:=of_decide_eq_true hk
   exact arith_ok e (fun h=>h1 h) (fun h=>h2 h)
  ·cases e
theorem equal_ok {t:TypeId} {u v:V} {c:Bool} {a b:Value} (e:eqV t u v=some c) (h1:den σ u=some a) (h2:den σ v=some b):
 (∀ w,(Op.equal t a b).run PG w=.ok c w)∧(∀ (op:BinOp) (x y:Operand) w,(eqGuard op t x y a b).run PG w=.ok () w)∧binOp .eql t a b=(do pure (.bool (← Op.equal t a b)):Sem Value)∧binOp .neq t a b=(do pure (.bool (!(← Op.equal t a b))):Sem Value):=by
 have plain:∀ {d:TypeDesc},PG.underlying t=some d→∀ {c:Bool},(∀ (n:Nat) (w:World),(Op.equalIn (n + 1) t a b).run PG w=.ok c w)→(∀ w,(Op.equal t a b).run PG w=.ok c w):=fun _ _ hh w=>hh 9999 w
 unfold eqV at e
 split at e
 ·rename_i x y ht
  obtain rfl:=Option.some.inj e
  obtain rfl:=den_b h1;obtain rfl:=den_b h2
  exact ⟨plain ht (fun n w=>by simp [Op.equalIn,run_underlying ht,Result.andThen]),fun op x y w=>by unfold eqGuard;split <;> rfl,rfl,rfl⟩
 ·rename_i ht
  obtain rfl:=Option.some.inj e
  rw [den] at h1 h2
  obtain rfl:=Option.some.inj h1;obtain rfl:=Option.some.inj h2
  exact ⟨plain ht (fun n w=>by simp [Op.equalIn,run_underlying ht,Result.andThen]),fun op x y w=>by unfold eqGuard;split <;> rfl,rfl,rfl⟩
 ·rename_i ht
  obtain rfl:=Option.some.inj e
  obtain ⟨r,_,rfl⟩:=den_p h2
  rw [den] at h1
  obtain rfl:=Option.some.inj h1
  exact ⟨plain ht (fun n w=>by simp [Op.equalIn,run_underlying ht,Result.andThen]),fun op x y w=>by unfold eqGuard;split <;> rfl,rfl,rfl⟩
 ·rename_i ht
  obtain rfl:=Option.some.inj e
  obtain ⟨r,_,rfl⟩:=den_p h1
  rw [den] at h2
  obtain rfl:=Option.some.inj h2
  exact ⟨plain ht (fun n w=>by simp [Op.equalIn,run_underlying ht,Result.andThen]),fun op x y w=>by unfold eqGuard;split <;> rfl,rfl,rfl⟩
 ·rename_i ht
  obtain rfl:=Option.some.inj e
  obtain rfl:=den_l0 h1;obtain rfl:=den_l0 h2
  exact ⟨plain ht (fun n w=>by simp [Op.equalIn,run_underlying ht,Result.andThen]),fun op x y w=>by unfold eqGuard;split <;> rfl,rfl,rfl⟩
 ·rename_i ht
  obtain rfl:=Option.some.inj e
  obtain rfl:=den_l0 h1;obtain ⟨r,_,rfl⟩:=den_l h2
  exact ⟨plain ht (fun n w=>by simp [Op.equalIn,run_underlying ht,Result.andThen]),fun op x y w=>by unfold eqGuard;split <;> rfl,rfl,rfl⟩
 ·rename_i ht
  obtain rfl:=Option.some.inj e
  obtain ⟨r,_,rfl⟩:=den_l h1;obtain rfl:=den_l0 h2
  exact ⟨plain ht (fun n w=>by simp [Op.equalIn,run_underlying ht,Result.andThen]),fun op x y w=>by unfold eqGuard;split <;> rfl,rfl,rfl⟩
 ·rename_i ht
  obtain rfl:=Option.some.inj e
  rw [den] at h1 h2
  obtain rfl:=Option.some.inj h1;obtain rfl:=Option.some.inj h2
  exact ⟨plain ht (fun n w=>by simp [Op.equalIn,run_underlying ht,Result.andThen]),fun op x y w=>by unfold eqGuard;split <;> rfl,rfl,rfl⟩
 ·rename_i ht
  obtain rfl:=Option.some.inj e
  rw [den] at h1
  obtain rfl:=Option.some.inj h1;obtain ⟨r,_,rfl⟩:=den_m h2
  exact ⟨plain ht (fun n w=>by simp [Op.equalIn,run_underlying ht,Result.andThen]),fun op x y w=>by unfold eqGuard;split <;> rfl,rfl,rfl⟩
 ·rename_i ht
  obtain rfl:=Option.some.inj e
  rw [den] at h2
  obtain rfl:=Option.some.inj h2;obtain ⟨r,_,rfl⟩:=den_m h1
  exact ⟨plain ht (fun n w=>by simp [Op.equalIn,run_underlying ht,Result.andThen]),fun op x y w=>by unfold eqGuard;split <;> rfl,rfl,rfl⟩
 ·rename_i ht
  obtain rfl:=Option.some.inj e
  rw [den] at h1 h2
  obtain rfl:=Option.some.inj h1;obtain rfl:=Option.some.inj h2
  exact ⟨plain ht (fun n w=>by simp [Op.equalIn,run_underlying ht,Result.andThen]),fun op x y w=>by unfold eqGuard;split <;> rfl,rfl,rfl⟩
 ·rename_i ht
  obtain rfl:=Option.some.inj e
  rw [den] at h1
  obtain rfl:=Option.some.inj h1;obtain ⟨a,b,_,_,rfl⟩:=den_f h2
  exact ⟨plain ht (fun n w=>by simp [Op.equalIn,run_underlying ht,Result.andThen]),fun op x y w=>by unfold eqGuard;split <;> rfl,rfl,rfl⟩
 ·rename_i ht
  obtain rfl:=Option.some.inj e
  rw [den] at h2
  obtain rfl:=Option.some.inj h2;obtain ⟨a,b,_,_,rfl⟩:=den_f h1
  exact ⟨plain ht (fun n w=>by simp [Op.equalIn,run_underlying ht,Result.andThen]),fun op x y w=>by unfold eqGuard;split <;> rfl,rfl,rfl⟩
 ·obtain ⟨xs,h3,rfl⟩:=den_a h1
  obtain ⟨ys,h4,rfl⟩:=den_a h2
  obtain ⟨h5,h6⟩:=eqA_ok e h3 h4
  exact ⟨h6,fun op x y w=>run_eqGuard_agg w op t x y _ _ h5,rfl,rfl⟩
 ·cases e
theorem bopE_ok {op:BinOp} {t:TypeId} {x y:Operand} {u v r:V} (e:bopE op t y u v=.ok r) (h1:den σ u=some (ρ x)) (h2:den σ v=some (ρ y)) (hy:∀ c,y=.const c→ρ y=c):
 ∃ z,(∀ w,((do eqGuard op t x y (ρ x) (ρ y);binOp op t (ρ x) (ρ y)):Sem Value).run PG w=.ok z w)∧den σ r=some z:=by
 unfold bopE at e
 split at e
 ·have ha:ρ x=.nilIface:=by rw [den] at h1;exact (Option.some.inj h1).symm
  have hb:ρ y=.nilIface:=by rw [den] at h2;exact (Option.some.inj h2).symm
  have key:∀ {b:Bool},(isConst0 y&&isIf t)=b→b=true→y=.const .nilIface∧∃ ms,PG.underlying t=some (.interface ms):=by
   intro b hb ht
   subst ht
   simp only [Bool.and_eq_true] at hb
   constructor
   ·have:=hb.1
    unfold isConst0 at this
    split at this
    ·rfl
    ·cases this
   ·have:=hb.2
    unfold isIf at this
    split at this
    ·rename_i ms hm;exact ⟨ms,hm⟩
    ·cases this
  split at e
  ·rename_i hc
   obtain ⟨rfl,ms,hm⟩:=key hc rfl
   obtain rfl:=R.ok.inj e
   have h3:∀ (n:Nat) w,(Op.equalIn (n + 1) t .nilIface .nilIface).run PG w=.ok true w:=fun n w=>by simp [Op.equalIn,run_underlying hm,Result.andThen]
   refine ⟨.bool true,fun w=>?_,by rw [den]⟩
   rw [ha,hb]
   have h4:(eqGuard .eql t x (.const .nilIface) .nilIface .nilIface).run PG w=.ok () w:=by simp [eqGuard]
   have h5:(Op.equal t .nilIface .nilIface).run PG w=.ok true w:=h3 9999 w
   simp only [Sem.run_bind,h4,Result.andThen,binOp,h5,Sem.run_pure]
  ·rename_i hc
   obtain ⟨rfl,ms,hm⟩:=key hc rfl
   obtain rfl:=R.ok.inj e
   have h3:∀ (n:Nat) w,(Op.equalIn (n + 1) t .nilIface .nilIface).run PG w=.ok true w:=fun n w=>by simp [Op.equalIn,run_underlying hm,Result.andThen]
   refine ⟨.bool false,fun w=>?_,by rw [den]⟩
   rw [ha,hb]
   have h4:(eqGuard .neq t x (.const .nilIface) .nilIface .nilIface).run PG w=.ok () w:=by simp [eqGuard]
   have h5:(Op.equal t .nilIface .nilIface).run PG w=.ok true w:=h3 9999 w
   simp only [Sem.run_bind,h4,Result.andThen,binOp,h5,Sem.run_pure,Bool.not_true]
  ·cases e
 ·split at e
  ·split at e
   ·rename_i c hc
    obtain rfl:=R.ok.inj e
    obtain ⟨h3,h4,h5,h6⟩:=equal_ok hc h1 h2
    refine ⟨.bool c,fun w=>?_,by rw [den]⟩
    have h7:(binOp .eql t (ρ x) (ρ y)).run PG w=.ok (.bool c) w:=by
     rw [h5]
     simp [h3,Result.andThen]
    simp [h4,h7,Result.andThen]
   ·cases e
  ·split at e
   ·rename_i c hc
    obtain rfl:=R.ok.inj e
    obtain ⟨h3,h4,h5,h6⟩:=equal_ok hc h1 h2
    refine ⟨.bool (!c),fun w=>?_,by rw [den]⟩
    have h7:(binOp .neq t (ρ x) (ρ y)).run PG w=.ok (.bool (!c)) w:=by
     rw [h6]
     simp [h3,Result.andThen]
    simp [h4,h7,Result.andThen]
   ·cases e
  ·cases e
end
end Go.Proofs.YtbcdgcodnkgdoaaGreat.Run
namespace Go.Proofs.YtbcdgcodnkgdoaaGreat.Run
open Go Go.RowKit
theorem flat_den' {σ:Sg} {v:V} {x:Value} (h:den σ v=some x):denL σ v.flat=some x.cells.toList:=by
 cases v <;> first
  | (rename_i l
     obtain ⟨a,h1,rfl⟩:=den_a h
     simpa [V.flat,Value.cells] using h1)
  | (have:∀ c,x≠.agg c:=by intro c hc;subst hc;unfold den at h;revert h;first | (intro h;cases h;done) | (split <;> intro h <;> first | (cases h;done) | (revert h;split <;> intro h <;> cases h))
     have hx:x.cells=#[x]:=by cases x <;> first | rfl | exact absurd rfl (this _)
     simp only [V.flat,hx]
     exact denL_cons.2 ⟨x,[],h,by simp,rfl⟩)
theorem foldl_over (off:Nat):∀ (vs:List Value) (k:Nat) (cs:List Value),off + k + vs.length≤cs.length→
 (vs.zipIdx k).foldl (fun (cs:Array Value) (p:Value × Nat)=>cs.setIfInBounds (off + p.2) p.1) cs.toArray=(cs.take (off + k)++vs++cs.drop (off + k + vs.length)).toArray:=by
 intro vs
 induction vs with
 | nil=>intro k cs h;simp
 | cons v vs ih=>
  intro k cs h
  simp only [List.length_cons] at h
  rw [List.zipIdx_cons,List.foldl_cons]
  have e:cs.toArray.setIfInBounds (off + k) v=(cs.set (off + k) v).toArray:=by simp
  simp only [e]
  rw [ih (k + 1) (cs.set (off + k) v) (by simp;omega)]
  congr 1
  rw [List.drop_set_of_lt (by omega),List.take_set,show off + (k + 1)=off + k + 1 from by omega,List.take_succ_eq_append_getElem (by omega),List.set_append_right _ _ (by simp;omega)]
  simp [Nat.min_eq_left (show off + k≤cs.length by omega),Nat.add_assoc,Nat.add_comm 1]
theorem fold_over (off:Nat) (vs:Array Value) (cs:List Value) (h:off + vs.size≤cs.length):
 vs.zipIdx.foldl (fun (cs:Array Value) (x:Value × Nat)=>cs.setIfInBounds (off + x.2) x.1) cs.toArray=(cs.take off++vs.toList++cs.drop (off + vs.size)).toArray:=by
 have:=foldl_over off vs.toList 0 cs (by simpa using h)
 rw [← Array.foldl_toList,Array.toList_zipIdx]
 simpa using this
def PsR (σ:Sg):List (Nat × V)→List (Nat × Value)→Prop
 | [],[]=>True
 | p::r,p'::r'=>p.1=p'.1∧den σ p.2=some p'.2∧PsR σ r r'
 | _,_=>False
theorem xps_ok {σ:Sg} {N:Nat} {fr:T V} {ρ:Operand→Value}:∀ {l:List (Nat × Operand)} {ps:List (Nat × V)},xps N fr l=some ps→(∀ x∈l.map (·.2),∀ v,xe N fr x=some v→den σ v=some (ρ x))→PsR σ ps (l.map fun p=>(p.1,ρ p.2)):=by
 intro l
 induction l with
 | nil=>intro ps h _;simp [xps] at h;subst h;trivial
 | cons p r ih=>
  intro ps h he
  obtain ⟨i,x⟩:=p
  unfold xps at h
  cases hx:xe N fr x with
  | none=>rw [hx] at h;cases h
  | some v=>
   rw [hx] at h
   cases hr:xps N fr r with
   | none=>rw [hr] at h;cases h
   | some vs=>
    rw [hr] at h
    obtain rfl:=Option.some.inj h
    exact ⟨rfl,he x (by simp) v hx,ih hr (fun y hy=>he y (by simp at hy ⊢;exact .inr hy))⟩
theorem fill_ok {σ:Sg} {pl place:Nat→Option (Nat × Nat)} (hp:∀ i r,pl i=some r→place i=some r):∀ {ps:List (Nat × V)} {ps':List (Nat × Value)} {c d:List V} {c':List Value},fillV pl c ps=some d→denL σ c=some c'→PsR σ ps ps'→
 ∃ d',denL σ d=some d'∧Instr.fill place c'.toArray ps'=some d'.toArray:=by
 intro ps
 induction ps with
 | nil=>
  intro ps' c d c' h hc hps
  cases ps' with
  | nil=>obtain rfl:=Option.some.inj h;exact ⟨c',hc,rfl⟩
  | cons p r=>exact hps.elim
 | cons p r ih=>
  intro ps' c d c' h hc hps
  cases ps' with
  | nil=>exact hps.elim
  | cons p' r'=>
   obtain ⟨i,v⟩:=p
   obtain ⟨i',x⟩:=p'
   obtain ⟨rfl,h1,h2⟩:=hps
   simp only at h1
   unfold fillV at h
   split at h
   ·rename_i off sz hpl
    split at h
    ·rename_i hl
     simp only [Bool.and_eq_true,Nat.beq_eq,Nat.ble_eq] at hl
     have hfl:=flat_den' h1
     have hlen:=denL_len hfl
     have hcl:=denL_len hc
     have hsz:x.cells.size=v.flat.length:=by simpa using hlen
     obtain ⟨d',h3,h4⟩:=ih h (denL_over hl.2 hc hfl) h2
     refine ⟨d',h3,?_⟩
     unfold Instr.fill
     rw [hp _ _ hpl]
     simp only
     rw [if_neg (by simp;omega)]
     have:=fold_over off x.cells c' (by omega)
     rw [this]
     have e:x.cells.toList.length=x.cells.size:=by simp
     rw [e] at h4
     exact h4
    ·cases h
   ·cases h
theorem reps_den {σ:Sg} {z:List V} {z':List Value} (hz:denL σ z=some z'):∀ n,denL σ (reps n z)=some (List.replicate n z').flatten:=by
 intro n
 induction n with
 | zero=>show denL σ []=_;simp
 | succ n ih=>
  have e:reps (n + 1) z=z++reps n z:=rfl
  rw [e,List.replicate_succ,List.flatten_cons]
  exact denL_append hz ih
theorem range_rep (z:Array Value) (h0:0 < z.size) (n:Nat):(Array.range (n * z.size)).map (fun i=>z[i % z.size]!)=(List.replicate n z.toList).flatten.toArray:=by
 have key:∀ n i,(List.replicate n z.toList).flatten[i]?=if i < n * z.size then some z[i % z.size]! else none:=by
  intro n
  induction n with
  | zero=>intro i;simp
  | succ n ih=>
   intro i
   rw [List.replicate_succ,List.flatten_cons]
   by_cases hi:i < z.size
   ·rw [List.getElem?_append_left (by simpa using hi),Nat.mod_eq_of_lt hi,if_pos (by rw [Nat.add_mul];omega)]
    simp [hi]
   ·rw [List.getElem?_append_right (by simp;omega),ih]
    simp only [Array.length_toList]
    have e1:(i - z.size) % z.size=i % z.size:=by
     conv=>rhs;rw [show i=(i - z.size) + z.size from by omega,Nat.add_mod_right]
    rw [e1]
    by_cases h2:i - z.size < n * z.size
    ·rw [if_pos h2,if_pos (by rw [Nat.add_mul];omega)]
    ·rw [if_neg h2,if_neg (by rw [Nat.add_mul];omega)]
 apply Array.ext_getElem?
 intro i
 have:=key n i
 simp only [List.getElem?_toArray,this]
 by_cases h:i < n * z.size
 ·rw [if_pos h];simp [h]
 ·rw [if_neg h];simp;omega
section
variable {w0 w:World} {σ:Sg} {h:Hp} {N:Nat} {fr:T V} {ρ:Operand→Value} {q:A} {dst:Option Nat} {ty:TypeId} {pos:String} {af:Array Edge} {g:Option (Nat × Bool)}
theorem pBin {op:BinOp} {t yt:TypeId} {x y:Operand} (e:oBin h op t y (xe N fr x) (xe N fr y)=.ok q) (he:EvO σ N fr ρ #[x,y]) (hc:∀ c,ρ (.const c)=c):Says σ w ρ ⟨dst,.binOp op t x y yt,ty,pos,af,g⟩ q.v:=by
 unfold oBin at e
 split at e
 ·rename_i u v hx hy
  obtain ⟨r,h1,rfl⟩:=with_ok e
  have h2:=he x (by simp) u hx
  have h3:=he y (by simp) v hy
  unfold bop at h1
  split at h1
  ·rename_i k a k' b
   obtain ⟨z,h4,h5⟩:=bopN_ok (t:=t) h1
   have h6:=den_i h2
   have h7:=den_i h3
   exact ⟨z,by simp [execOp,h6,h7,run_eqGuard_int,h4,Result.andThen],h5⟩
  ·obtain ⟨z,h4,h5⟩:=bopE_ok (t:=t) (x:=x) h1 h2 h3 (fun c hcc=>by subst hcc;exact hc c)
   refine ⟨z,?_,h5⟩
   have:=h4 w
   simp only [execOp,Sem.run_bind,this,Result.andThen,Sem.run_pure]
 ·cases e
theorem placeOf_struct {t:TypeId} {pl:Nat→Option (Nat × Nat)} (h:placeOf t=some pl):(∃ fs,PG.underlying t=some (.struct fs)∧(∀ f∈fs,∃ sz,szt f.type=some sz)∧pl=placeS fs)∨∃ n e sz,PG.underlying t=some (.array n e)∧szt e=some sz∧pl=fun i=>some (i * sz,sz):=by
 unfold placeOf at h
 split at h
 ·rename_i fs hs
  split at h
  ·rename_i hall
   refine .inl ⟨fs,hs,fun f hf=>?_,(Option.some.inj h).symm⟩
   have:=List.all_eq_true.1 hall f (by simpa using hf)
   cases hz:szt f.type with
   | none=>rw [hz] at this;cases this
   | some sz=>exact ⟨sz,rfl⟩
  ·cases h
 ·rename_i n e hs
  split at h
  ·rename_i sz hz;exact .inr ⟨n,e,sz,hs,hz,(Option.some.inj h).symm⟩
  ·cases h
 ·cases h
theorem run_places {w:World} {fs:Array Field} (hall:∀ f∈fs,∃ sz,szt f.type=some sz):
 (fs.mapM (m:=Sem) fun f=>do pure (f.offset,← sizeOf f.type)).run PG w=.ok (fs.map fun f=>(f.offset,(szt f.type).getD 0)) w:=by
 rw [Array.mapM_eq_mapM_toList]
 have key:∀ l:List Field,(∀ f∈l,∃ sz,szt f.type=some sz)→(l.mapM (m:=Sem) fun f=>do pure (f.offset,← sizeOf f.type)).run PG w=.ok (l.map fun f=>(f.offset,(szt f.type).getD 0)) w:=by
  intro l
  induction l with
  | nil=>intro _;simp
  | cons f l ih=>
   intro hl
   obtain ⟨sz,hs⟩:=hl f (by simp)
   have:=ih (fun f hf=>hl f (by simp [hf]))
   rw [List.mapM_cons]
   simp only [Sem.run_bind,run_sz hs,this,Result.andThen,Sem.run_pure,hs,Option.getD,List.map_cons]
 have:=key fs.toList (fun f hf=>hall f (by simpa using hf))
 simp only [Sem.run_map,this]
 simp
 rw [← Array.toList_inj]
 simp
theorem pBuild {t:TypeId} {ps:Array (Nat × Operand)} (e:oBuild h t (xps N fr ps.toList)=.ok q) (he:EvO σ N fr ρ (ps.toList.map (·.2)).toArray):Says σ w ρ ⟨dst,.build t ps,ty,pos,af,g⟩ q.v:=by
 unfold oBuild at e
 split at e
 ·rename_i pl z l hp hz hl
  split at e
  ·rename_i c hc
   obtain rfl:=R.ok.inj e
   obtain ⟨i,zv,h1,h2,h3⟩:=zcs_info hz
   have hz':=ofVs_den (σ:=σ) h3
   have hps:=xps_ok hl (fun x hx=>he x (by simpa using hx))
   have hrz:(zeroValue t).run PG w=.ok zv w:=by simp [zeroValue,typeInfo,h1,h2]
   have hparts:(ps.map fun (i,x)=>(i,ρ x)).toList=ps.toList.map fun p=>(p.1,ρ p.2):=by simp
   rcases placeOf_struct hp with ⟨fs,h4,hall,rfl⟩ | ⟨n,e',sz,h4,h5,rfl⟩
   ·have hplace:∀ i r,placeS fs i=some r→(fs.map fun f=>(f.offset,(szt f.type).getD 0))[i]?=some r:=fun i r hr=>by
     unfold placeS at hr
     split at hr
     ·rename_i f hff
      split at hr
      ·rename_i sz hs
       rw [Array.getElem?_map,hff]
       simpa [hs] using hr
      ·cases hr
     ·cases hr
    obtain ⟨d',h6,h7⟩:=fill_ok hplace hc hz' hps
    refine ⟨.agg d'.toArray,?_,by rw [den,h6]⟩
    have h7':Instr.fill (fun i=>(fs.map fun f=>(f.offset,(szt f.type).getD 0))[i]?) zv.cells (ps.map fun (i,x)=>(i,ρ x)).toList=some d'.toArray:=by
     rw [hparts];have e:zv.cells.toList.toArray=zv.cells:=by simp
     rw [e] at h7;exact h7
    have:(Instr.build t (ps.map fun (i,x)=>(i,ρ x))).run PG w=.ok (.agg d'.toArray) w:=by
     unfold Instr.build
     simp only [Sem.run_bind,hrz,Result.andThen,run_underlying h4,run_places hall,h7',Sem.run_pure]
    simp [execOp,this,Result.andThen]
   ·obtain ⟨d',h6,h7⟩:=fill_ok (place:=fun i=>some (i * sz,sz)) (fun i r hr=>hr) hc hz' hps
    refine ⟨.agg d'.toArray,?_,by rw [den,h6]⟩
    have h7':Instr.fill (fun i=>some (i * sz,sz)) zv.cells (ps.map fun (i,x)=>(i,ρ x)).toList=some d'.toArray:=by
     rw [hparts];simpa using h7
    have:(Instr.build t (ps.map fun (i,x)=>(i,ρ x))).run PG w=.ok (.agg d'.toArray) w:=by
     unfold Instr.build
     simp only [Sem.run_bind,hrz,Result.andThen,run_underlying h4,run_sz h5,h7',Sem.run_pure]
    simp [execOp,this,Result.andThen]
  ·cases e
 ·cases e
end
end Go.Proofs.YtbcdgcodnkgdoaaGreat.Run
namespace Go.Proofs.YtbcdgcodnkgdoaaGreat.Run
open Go Go.RowKit
/-! ### keys -/
theorem eqK_ok {σ:Sg} {kt:TypeId} {d:TypeDesc} {u v:V} {a b:Value} {c:Bool} (hd:PG.underlying kt=some d) (e:eqK kt d u v=some c) (h1:den σ u=some a) (h2:den σ v=some b):
 (Instr.sameNow d a b=some c∨Instr.sameNow d a b=none)∧(∀ w,(Op.equal kt a b).run PG w=.ok c w)∧(c=true→a=b∧Instr.sameBits 10000 a a=true):=by
 unfold eqK at e
 split at e
 ·rename_i k a' k' b'
  obtain rfl:=den_i h1;obtain rfl:=den_i h2
  split at e
  ·rename_i kk hk
   obtain rfl:=of_decide_eq_true hk
   obtain rfl:=Option.some.inj e
   refine ⟨.inl ?_,fun w=>?_,fun h=>?_⟩
   ·simp [Instr.sameNow,beqI]
   ·have:=run_equalIn_int (P:=PG) w 9999 kt k kk a' b' hd
    rw [beqI] at this
    exact this
   ·obtain rfl:=of_decide_eq_true h;exact ⟨rfl,by simp [Instr.sameBits]⟩
  ·cases e
 ·split at e
  ·obtain ⟨xs,h3,rfl⟩:=den_a h1
   obtain ⟨ys,h4,rfl⟩:=den_a h2
   obtain ⟨h5,h6⟩:=eqA_ok e h3 h4
   refine ⟨.inr rfl,h6,fun h=>?_⟩
   subst h
   unfold eqA at e
   split at e
   ·split at e
    ·have key:∀ (x y:List V) (xs ys:List Value),eqInts x y=some true→denL σ x=some xs→denL σ y=some ys→xs=ys∧∀ u∈xs,∃ k n,u=.int k n:=by
      intro x
      induction x with
      | nil=>
       intro y xs ys he hx hy
       cases y with
       | nil=>simp at hx hy;subst hx;subst hy;exact ⟨rfl,by simp⟩
       | cons v r=>cases he
      | cons u r ih=>
       intro y xs ys he hx hy
       cases y with
       | nil=>simp [eqInts] at he
       | cons v q=>
        obtain ⟨k,a,b,c',rfl,rfl,h7,h8⟩:=eqInts_cons he
        obtain ⟨x1,r1,e1,hx1,rfl⟩:=denL_cons.1 hx
        obtain ⟨y1,s1,f1,hy1,rfl⟩:=denL_cons.1 hy
        obtain rfl:=den_i e1;obtain rfl:=den_i f1
        have h9:decide (a=b)=true∧c'=true:=by simpa using h8.symm
        obtain rfl:=of_decide_eq_true h9.1
        obtain ⟨rfl,h10⟩:=ih q r1 s1 (h9.2 ▸ h7) hx1 hy1
        exact ⟨rfl,fun u hu=>(List.mem_cons.1 hu).elim (fun h=>⟨k,a,h⟩) (h10 u)⟩
     obtain ⟨rfl,h7⟩:=key _ _ xs ys e h3 h4
     have h8:∀ l:List Value,(∀ u∈l,∃ k n,u=.int k n)→((l.zip l).all fun p=>Instr.sameBits 9999 p.1 p.2)=true:=by
      intro l
      induction l with
      | nil=>intro _;rfl
      | cons u r ih=>
       intro hl
       obtain ⟨k,n,rfl⟩:=hl u (by simp)
       rw [List.zip_cons_cons,List.all_cons,ih (fun v hv=>hl v (by simp [hv]))]
       simp [Instr.sameBits]
     refine ⟨rfl,?_⟩
     show (_ == _&&_)=true
     simp only [beq_self_eq_true,Bool.true_and]
     exact h8 xs h7
    ·cases e
   ·cases e
  ·cases e
 ·cases e
theorem findK_ok {σ:Sg} {kt:TypeId} {d:TypeDesc} {k:V} {a:Value} (hd:PG.underlying kt=some d) (hk:den σ k=some a):∀ {es:List (V × V)} {ms:List MapEntry} {r:Option V},findK kt d k es=some r→ents σ es ms→∀ i,
 (Instr.findNow d a ms i=none∨(∃ x,Instr.findNow d a ms i=some x∧((r=none∧x=none)∨∃ v j y,r=some v∧den σ v=some y∧x=some (j,y)))) ∧
 (∀ w,∃ x,(Instr.findAsking kt a ms i).run PG w=.ok x w∧((r=none∧x=none)∨∃ v j y,r=some v∧den σ v=some y∧x=some (j,y))):=by
 intro es
 induction es with
 | nil=>
  intro ms r e he i
  cases ms with
  | nil=>obtain rfl:=Option.some.inj e;exact ⟨.inr ⟨none,rfl,.inl ⟨rfl,rfl⟩⟩,fun w=>⟨none,by simp [Instr.findAsking],.inl ⟨rfl,rfl⟩⟩⟩
  | cons m q=>exact he.elim
 | cons p es ih=>
  intro ms r e he i
  cases ms with
  | nil=>exact he.elim
  | cons m q=>
   obtain ⟨h1,h2,h3⟩:=he
   unfold findK at e
   split at e
   ·rename_i hq
    obtain rfl:=Option.some.inj e
    obtain ⟨h4,h5,_⟩:=eqK_ok hd hq hk h1
    refine ⟨?_,fun w=>⟨some (i,m.val),by simp [Instr.findAsking,h5,Result.andThen],.inr ⟨_,i,m.val,rfl,h2,rfl⟩⟩⟩
    rcases h4 with h4 | h4
    ·exact .inr ⟨some (i,m.val),by simp [Instr.findNow,h4],.inr ⟨_,i,m.val,rfl,h2,rfl⟩⟩
    ·exact .inl (by simp [Instr.findNow,h4])
   ·rename_i hq
    obtain ⟨h4,h5,_⟩:=eqK_ok hd hq hk h1
    obtain ⟨h6,h7⟩:=ih e h3 (i + 1)
    refine ⟨?_,fun w=>?_⟩
    ·rcases h4 with h4 | h4
     ·simpa [Instr.findNow,h4] using h6
     ·exact .inl (by simp [Instr.findNow,h4])
    ·obtain ⟨x,h8,h9⟩:=h7 w
     exact ⟨x,by simp [Instr.findAsking,h5,h8,Result.andThen],h9⟩
   ·cases e
theorem findKey_ok {σ:Sg} {kt:TypeId} {d:TypeDesc} {k:V} {a:Value} {es:List (V × V)} {ms:List MapEntry} {r:Option V} (hd:PG.underlying kt=some d) (hk:den σ k=some a) (e:findK kt d k es=some r) (he:ents σ es ms) (w:World):
 ∃ x,(Instr.findKey kt a ms).run PG w=.ok x w∧((r=none∧x=none)∨∃ v j y,r=some v∧den σ v=some y∧x=some (j,y)):=by
 obtain ⟨h1,h2⟩:=findK_ok hd hk e he 0
 rcases h1 with h1 | ⟨x,h1,h3⟩
 ·obtain ⟨x,h4,h5⟩:=h2 w
  exact ⟨x,by simp [Instr.findKey,run_underlying hd,h1,h4,Result.andThen],h5⟩
 ·exact ⟨x,by simp [Instr.findKey,run_underlying hd,h1,Result.andThen],h3⟩
theorem check_pair (w:World) (e:Bool) (k k2:IntKind) (a b:Int):(Instr.checkKey e 10000 111 (.agg #[.int k a,.int k2 b])).run PG w=.ok () w:=by
 have hu:PG.underlying 111=_:=Tryz.underlying111
 have h3:PG.underlying 3=some (.int .i64):=Tryz.underlying3
 have p1:(part 3 #[.int k a,.int k2 b] 0).run PG w=.ok (.int k a) w:=by simp [part,run_agg h3,isAggD,Result.andThen]
 have p2:(part 3 #[.int k a,.int k2 b] 1).run PG w=.ok (.int k2 b) w:=by simp [part,run_agg h3,isAggD,Result.andThen]
 have hc:∀ (n:Nat) (k:IntKind) (a:Int),(Instr.checkKey e (n + 1) 3 (.int k a)).run PG w=.ok () w:=fun n k a=>by simp [Instr.checkKey,run_underlying h3,Result.andThen]
 have hc':=hc 9998
 show (Instr.checkKey e (9998 + 1 + 1) 111 _).run PG w=_
 rw [Instr.checkKey]
 simp [run_underlying hu,p1,p2,hc',Result.andThen]
theorem keyOk_ok {σ:Sg} {kt:TypeId} {d:TypeDesc} {k:V} {a:Value} (hd:PG.underlying kt=some d) (h:keyOk kt d k=true) (hk:den σ k=some a) (w:World) (em:Bool):(Instr.checkKey em 10000 kt a).run PG w=.ok () w:=by
 unfold keyOk at h
 split at h
 ·rename_i e
  unfold eqK at e
  split at e
  ·rename_i k1 a1 k2 b1
   obtain rfl:=den_i hk
   split at e
   ·rename_i kk hkk
    show (Instr.checkKey em (9999 + 1) kt _).run PG w=_
    rw [Instr.checkKey]
    simp [run_underlying hd,Result.andThen]
   ·cases e
  ·split at e
   ·rename_i x y fs
    obtain ⟨xs,h3,rfl⟩:=den_a hk
    unfold eqA at e
    split at e
    ·rename_i sz het hsz
     split at e
     ·rename_i hl
      simp only [Bool.and_eq_true,Nat.beq_eq] at hl
      have ht:kt=111∨kt=95:=by
       unfold et at het
       simpa using het
      rcases ht with rfl | rfl
      ·have:sz=2:=by rw [show szt 111=some 2 from by kernel_rfl] at hsz;exact (Option.some.inj hsz).symm
       subst this
       match x,hl,e with
       | [u1,u2],_,e=>
        obtain ⟨k,a,b,c1,rfl,_,h1,_⟩:=eqInts_cons e
        obtain ⟨k2,a2,b2,c2,rfl,_,h2,_⟩:=eqInts_cons h1
        obtain ⟨x1,r1,e1,hx1,rfl⟩:=denL_cons.1 h3
        obtain ⟨x2,r2,e2,hx2,rfl⟩:=denL_cons.1 hx1
        simp only [denL_nil,Option.some.injEq] at hx2
        subst hx2
        obtain rfl:=den_i e1;obtain rfl:=den_i e2
        exact check_pair w em _ _ _ _
      ·rw [show PG.underlying 95=some (.array 4 5) from Tryz.underlying95] at hd
       cases hd
     ·cases e
    ·cases e
   ·cases e
  ·cases e
 ·cases h
theorem mapEs_ok {w0 w:World} {σ:Sg} {h:Hp} {u:V} {x:Value} {es:List (V × V)} (H:DenG w0 σ h.get w) (e:mapEs h u=some es) (hu:den σ u=some x):
 ∃ ms,ents σ es ms∧((x=.map none∧ms=[])∨∃ r c,x=.map (some r)∧w.heap[r]?=some (.map ms.toArray c)):=by
 unfold mapEs at e
 split at e
 ·obtain rfl:=Option.some.inj e
  rw [den] at hu
  exact ⟨[],trivial,.inl ⟨(Option.some.inj hu).symm,rfl⟩⟩
 ·rename_i m
  split at e
  ·rename_i es' hg
   obtain rfl:=Option.some.inj e
   obtain ⟨q,o,h1,h2,ms,c,h3,rfl⟩:=H.obj _ _ hg
   obtain ⟨q',h4,rfl⟩:=den_m hu
   rw [h1] at h4
   obtain rfl:=Option.some.inj h4
   exact ⟨ms,h3,.inr ⟨q.1,c,rfl,h2⟩⟩
  ·cases e
 ·cases e
section
variable {w0 w:World} {σ:Sg} {h:Hp} {N:Nat} {fr:T V} {ρ:Operand→Value} {q:A} {dst:Option Nat} {ty:TypeId} {pos:String} {af:Array Edge} {g:Option (Nat × Bool)}
theorem zvt_run {t:TypeId} {z:V} (hz:zvt t=some z):∃ zv,den σ z=some zv∧∀ w,(zeroValue t).run PG w=.ok zv w:=by
 unfold zvt at hz
 cases hi:PG.info? t with
 | none=>rw [hi] at hz;cases hz
 | some i=>
  rw [hi] at hz
  simp only at hz
  cases hzv:i.zero with
  | none=>rw [hzv] at hz;cases hz
  | some zv=>rw [hzv] at hz;exact ⟨zv,ofV_den hz,fun w=>by simp [zeroValue,typeInfo,hi,hzv]⟩
theorem pLook {t:TypeId} {x k:Operand} {ok:Bool} (e:oLook h t (xe N fr x) (xe N fr k) ok=.ok q) (he:EvO σ N fr ρ #[x,k]) (H:DenG w0 σ h.get w):Says σ w ρ ⟨dst,.lookup t x k ok,ty,pos,af,g⟩ q.v:=by
 unfold oLook at e
 split at e
 ·rename_i m kv hm hk
  obtain ⟨v,h1,rfl⟩:=with_ok e
  unfold lookupV at h1
  split at h1
  ·rename_i kt el ht
   split at h1
   ·rename_i d z es hd hz hes
    obtain ⟨h2,h3⟩:=when_ok h1
    have dm:=he x (by simp) m hm
    have dk:=he k (by simp) kv hk
    obtain ⟨ms,h4,h5⟩:=mapEs_ok H hes dm
    have h6:=keyOk_ok hd h2 dk w
    obtain ⟨zv,hzd,hrz⟩:=zvt_run (σ:=σ) hz
    have hrz:=hrz w
    cases hf:findK kt d kv es with
    | none=>rw [hf] at h3;cases h3
    | some r=>
     rw [hf] at h3
     obtain ⟨y,h7,h8⟩:=findKey_ok hd dk hf h4 w
     rcases h8 with ⟨rfl,rfl⟩ | ⟨v',j,y',rfl,hv',rfl⟩
     ·obtain rfl:=R.ok.inj h3
      refine ⟨if ok then .tuple #[zv,.bool false] else zv,?_,?_⟩
      ·rcases h5 with ⟨h5,rfl⟩ | ⟨r',c,h5,h9⟩
       ·cases ok <;> simp [execOp,Instr.lookup,run_underlying ht,h5,h6,h7,hrz,Result.andThen]
       ·cases ok <;> simp [execOp,Instr.lookup,run_underlying ht,h5,Go.MapKept.run_getObj_map h9,h6,h7,hrz,Result.andThen]
      ·cases ok
       ·exact hzd
       ·simp [den,denL_eq,hzd]
     ·obtain rfl:=R.ok.inj h3
      refine ⟨if ok then .tuple #[y',.bool true] else y',?_,?_⟩
      ·rcases h5 with ⟨h5,rfl⟩ | ⟨r',c,h5,h9⟩
       ·cases ok <;> simp [execOp,Instr.lookup,run_underlying ht,h5,h6,h7,Result.andThen]
       ·cases ok <;> simp [execOp,Instr.lookup,run_underlying ht,h5,Go.MapKept.run_getObj_map h9,h6,h7,Result.andThen]
      ·cases ok
       ·exact hv'
       ·simp [den,denL_eq,hv']
   ·cases h1
  ·cases h1
 ·cases e
end
end Go.Proofs.YtbcdgcodnkgdoaaGreat.Run
set_option maxRecDepth 10000
namespace Go.Proofs.YtbcdgcodnkgdoaaGreat.Run
open Go Go.RowKit
section
variable {w0 w:World} {σ:Sg} {h:Hp} {N:Nat} {fr:T V} {ρ:Operand→Value} {q:A} {dst:Option Nat} {ty:TypeId} {pos:String} {af:Array Edge} {g:Option (Nat × Bool)}
theorem bound_ok {k:IntKind} {i:Int} {n:Nat} {cd:BoundsCode} (h0:0≤i) (h1:i≤n) (w:World):(Instr.sliceBound (.int k i) n cd).run PG w=.ok i.toNat w:=by
 simp [Instr.sliceBound,asIntOf,h0,h1]
theorem room_ok {e sz m off o n:Nat} {r:Nat × Nat} (H:DenG w0 σ h.get w) (hr:roomOk h e sz m off o n=true) (hs:szt e=some sz) (hm:σ m=some r):o + n≤r.2:=by
 unfold roomOk at hr
 split at hr
 ·rename_i c e' hg
  simp only [Bool.and_eq_true,Nat.beq_eq,Nat.ble_eq] at hr
  obtain ⟨⟨⟨rfl,rfl⟩,h1⟩,h0⟩:=hr
  have h0:=blt_lt h0
  obtain ⟨q',o',h2,h3,c',rest,fz,sz',h4,h5,rfl,h6,h7,h8⟩:=H.obj _ _ hg
  rw [hm] at h2;obtain rfl:=Option.some.inj h2
  rw [hs] at h4;obtain rfl:=Option.some.inj h4
  have h9:=denL_len h5
  rw [List.length_append] at h7
  have:(o + n) * sz≤r.2 * sz:=by rw [Nat.add_mul];omega
  exact Nat.le_of_mul_le_mul_right this h0
 ·rename_i c te hg
  simp only [Bool.and_eq_true,Nat.beq_eq,Nat.ble_eq] at hr
  obtain ⟨⟨rfl,rfl⟩,h1⟩:=hr
  obtain ⟨q',o',h2,h3,c',fz,h5,rfl,h6,h7⟩:=H.obj _ _ hg
  rw [hm] at h2;obtain rfl:=Option.some.inj h2
  omega
 ·cases hr
theorem sliceV_ok {t:TypeId} {u v:V} {a:Value} {lo hi:Option V} {lo' hi':Option Value} (H:DenG w0 σ h.get w) (e:sliceV h t u lo hi=.ok v) (hu:den σ u=some a)
 (hlo:∀ x,lo=some x→∃ y,lo'=some y∧den σ x=some y) (hlo0:lo=none→lo'=none) (hhi:∀ x,hi=some x→∃ y,hi'=some y∧den σ x=some y) (hhi0:hi=none→hi'=none):
 ∃ x,(Instr.sliceAt t a lo' hi' none).run PG w=.ok x w∧den σ v=some x:=by
 unfold sliceV at e
 split at e
 ·rename_i m off o n
  obtain ⟨r,h1,rfl⟩:=den_l hu
  split at e
  ·rename_i el ht
   split at e
   ·rename_i sz hs
    split at e
    ·rename_i kk b
     obtain ⟨h2,h3⟩:=when_ok e
     simp only [Bool.and_eq_true,decide_eq_true_eq,Nat.ble_eq] at h2
     obtain ⟨⟨h2,h4⟩,h5⟩:=h2
     obtain rfl:=R.ok.inj h3
     obtain ⟨y,rfl,hy⟩:=hhi _ rfl
     obtain rfl:=den_i hy
     obtain rfl:=hlo0 rfl
     have hroom:=room_ok H h5 hs h1
     refine ⟨.slice (some ⟨r.1,off,none⟩) b.toNat (r.2 - o),?_,by simp [den,h1]⟩
     have e1:=bound_ok (k:=kk) (cd:=.sliceAcap) h2 (show b≤((r.2 - o:Nat):Int) by omega) w
     simp [Instr.sliceAt,run_underlying ht,Instr.slice,Instr.sliceBounds,e1,run_sz hs,Result.andThen,Addr.add]
    ·rename_i kk b
     obtain ⟨h2,h3⟩:=when_ok e
     simp only [Bool.and_eq_true,decide_eq_true_eq] at h2
     obtain ⟨⟨h2,h4⟩,h5⟩:=h2
     have h4:=blt_lt h4
     obtain rfl:=R.ok.inj h3
     obtain ⟨y,rfl,hy⟩:=hlo _ rfl
     obtain rfl:=den_i hy
     obtain rfl:=hhi0 rfl
     have hroom:=room_ok H h5 hs h1
     refine ⟨.slice (some ⟨r.1,off + b.toNat * sz,none⟩) (n - b.toNat) (r.2 - (o + b.toNat)),?_,by simp [den,h1]⟩
     have e1:=bound_ok (k:=kk) (cd:=.sliceB) (n:=n) h2 (by omega) w
     have hne:¬ (r.2 - o=b.toNat):=by omega
     simp [Instr.sliceAt,run_underlying ht,Instr.slice,Instr.sliceBounds,e1,run_sz hs,Result.andThen,add_at,hne,Nat.sub_sub]
    ·cases e
   ·cases e
  ·cases e
 ·obtain rfl:=den_l0 hu
  split at e
  ·rename_i el ht
   split at e
   ·rename_i kk b
    obtain ⟨h2,h3⟩:=when_ok e
    simp only [Bool.and_eq_true,decide_eq_true_eq] at h2
    obtain ⟨rfl,hs⟩:=h2
    obtain rfl:=R.ok.inj h3
    obtain ⟨y,rfl,hy⟩:=hhi _ rfl
    obtain rfl:=den_i hy
    obtain rfl:=hlo0 rfl
    refine ⟨.slice none 0 0,?_,by simp [den]⟩
    cases hsz:szt el with
    | none=>rw [hsz] at hs;cases hs
    | some sz=>
     have e1:=bound_ok (k:=kk) (i:=0) (n:=0) (cd:=.sliceAcap) (Int.le_refl _) (Int.le_refl _) w
     simp [Instr.sliceAt,run_underlying ht,Instr.slice,Instr.sliceBounds,e1,run_sz hsz,Result.andThen]
   ·cases e
  ·cases e
 ·rename_i m o
  obtain ⟨r,h1,rfl⟩:=den_p hu
  split at e
  ·rename_i n el ht
   split at e
   ·rename_i sz c te hs hg
    obtain ⟨h2,h3⟩:=when_ok e
    simp only [Bool.and_eq_true,Nat.beq_eq] at h2
    obtain ⟨⟨⟨rfl,rfl⟩,rfl⟩,h4⟩:=h2
    have h4:=blt_lt h4
    obtain rfl:=R.ok.inj h3
    obtain rfl:=hlo0 rfl
    obtain rfl:=hhi0 rfl
    obtain ⟨q',o',k2,k3,c',fz,k5,rfl,k6,k7⟩:=H.obj _ _ hg
    rw [h1] at k2;obtain rfl:=Option.some.inj k2
    refine ⟨.slice (some ⟨r.1,0,none⟩) c.length c.length,?_,by simp [den,h1,k7]⟩
    have hne:¬ (c.length=0):=by omega
    simp [Instr.sliceAt,run_underlying ht,Instr.sureAddr,Instr.sliceBounds,run_sz hs,Result.andThen,Addr.add]
   ·cases e
  ·cases e
 ·cases e
theorem pSlice {t:TypeId} {x:Operand} {lo hi mx:Option Operand} (e:oSlice N fr h t (xe N fr x) lo hi mx=.ok q) (he:EvO σ N fr ρ (#[x]++lo.toArray++hi.toArray++mx.toArray)) (H:DenG w0 σ h.get w):Says σ w ρ ⟨dst,.slice t x lo hi mx,ty,pos,af,g⟩ q.v:=by
 unfold oSlice at e
 split at e
 ·rename_i v hx
  obtain ⟨r,h1,rfl⟩:=with_ok e
  obtain ⟨y,h2,h3⟩:=sliceV_ok (lo':=none) (hi':=none) H h1 (he x (by simp) _ hx) (fun _ hh=>by cases hh) (fun _=>rfl) (fun _ hh=>by cases hh) (fun _=>rfl)
  exact ⟨y,by simp [execOp,h2,Result.andThen],h3⟩
 ·rename_i v l hx
  split at e
  ·rename_i a ha
   obtain ⟨r,h1,rfl⟩:=with_ok e
   obtain ⟨y,h2,h3⟩:=sliceV_ok (lo':=some (ρ l)) (hi':=none) H h1 (he x (by simp) _ hx) (fun z hz=>by cases hz;exact ⟨_,rfl,he l (by simp) _ ha⟩) (fun hh=>by cases hh) (fun _ hh=>by cases hh) (fun _=>rfl)
   exact ⟨y,by simp [execOp,h2,Result.andThen],h3⟩
  ·cases e
 ·rename_i v l hx
  split at e
  ·rename_i a ha
   obtain ⟨r,h1,rfl⟩:=with_ok e
   obtain ⟨y,h2,h3⟩:=sliceV_ok (lo':=none) (hi':=some (ρ l)) H h1 (he x (by simp) _ hx) (fun _ hh=>by cases hh) (fun _=>rfl) (fun z hz=>by cases hz;exact ⟨_,rfl,he l (by simp) _ ha⟩) (fun hh=>by cases hh)
   exact ⟨y,by simp [execOp,h2,Result.andThen],h3⟩
  ·cases e
 ·cases e
theorem oLen_ok {t:TypeId} {v:V} {a:Value} {ats:Array TypeId} (e:oLen h t v=.ok q) (hv:den σ v=some a):∃ x,(Builtin.len_ (t::ats.toList).toArray ty #[a]).run PG w=.ok x w∧den σ q.v=some x:=by
 unfold oLen at e
 split at e
 ·rename_i ht
  obtain rfl:=R.ok.inj e
  obtain ⟨r,h1,rfl⟩:=den_l hv
  exact ⟨_,by simp [Builtin.len_,run_underlying ht,goInt,Result.andThen],den_iI⟩
 ·rename_i ht
  obtain rfl:=R.ok.inj e
  obtain rfl:=den_l0 hv
  exact ⟨_,by simp [Builtin.len_,run_underlying ht,goInt,Result.andThen],den_iI⟩
 ·rename_i s ht
  obtain rfl:=R.ok.inj e
  obtain rfl:=den_s hv
  exact ⟨_,by simp [Builtin.len_,run_underlying ht,goInt,Result.andThen],den_iI⟩
 ·cases e
theorem pure_ok {op:Op} (hk:kindOp op=0∨kindOp op=1) (e:opL N fr h op=.ok q) (he:EvO σ N fr ρ op.operands) (hc:∀ c,ρ (.const c)=c) (H:kindOp op=1→DenG w0 σ h.get w):Says σ w ρ ⟨dst,op,ty,pos,af,g⟩ q.v:=by
 cases op <;> first
  | (cases e;done)
  | (exact pMove e he)
  | (exact pAssign e he)
  | (exact pPick e he)
  | (exact pLoad e he (H rfl))
  | (exact pNil e he)
  | (exact pBin e he hc)
  | (exact pUn e he)
  | (exact pFieldA e he)
  | (exact pField e he)
  | (exact pIdxA e he)
  | (exact pIdx e he)
  | (exact pLook e he (H rfl))
  | (exact pExt e he)
  | (exact pFunc e he)
  | (exact pSlice e he (H rfl))
  | (exact pBuild e he)
  | (exact pConv (by rcases hk with hk | hk;exact hk;exfalso;revert hk;simp only [kindOp,kindCv];split <;> simp) e he)
  | (simp [kindOp] at hk;done)
  | skip
 ·rename_i c
  obtain ⟨cl,args,ats⟩:=c
  cases cl with
  | value f=>simp [kindOp,kindC] at hk
  | invoke r m=>cases e
  | builtin bt=>
   change oBuiltin h bt (xes N fr args.toList) ats.toList=.ok q at e
   unfold oBuiltin at e
   split at e
   ·rename_i v t r hl ht
    have hd:=EvO.list (fun x hx=>he x (by simp [Op.operands,Call.operands];simpa using hx)) hl
    obtain ⟨a,b,h1,h2,h3⟩:=denL_cons.1 hd
    simp only [denL_nil,Option.some.injEq] at h2
    subst h2
    obtain ⟨x,h4,h5⟩:=oLen_ok (w:=w) (ty:=ty) (ats:=r.toArray) e h1
    have e1:args.map ρ=#[a]:=by rw [← Array.toList_inj];simpa using h3
    have e2:ats=(t::r.toArray.toList).toArray:=by rw [← Array.toList_inj];simpa using ht
    rw [← e2] at h4
    exact ⟨x,by simp [execOp,resolve,invoke,builtin,e1,h4,Result.andThen],h5⟩
   ·simp [kindOp,kindC,kindB] at hk
   ·rename_i k a k' b hl
    obtain rfl:=R.ok.inj e
    have hd:=EvO.list (fun x hx=>he x (by simp [Op.operands,Call.operands];simpa using hx)) hl
    obtain ⟨x1,r1,h1,h2,h3⟩:=denL_cons.1 hd
    obtain ⟨x2,r2,h4,h5,rfl⟩:=denL_cons.1 h2
    simp only [denL_nil,Option.some.injEq] at h5
    subst h5
    obtain rfl:=den_i h1;obtain rfl:=den_i h4
    have e1:args.map ρ=#[.int k a,.int k' b]:=by rw [← Array.toList_inj];simpa using h3
    refine ⟨.int k (if b < a then b else a),?_,den_iI⟩
    have h6:(Builtin.min_ ats ty #[.int k a,.int k' b]).run PG w=.ok (.int k (if b < a then b else a)) w:=by
     simp [Builtin.min_,Builtin.min2]
    simp [execOp,resolve,invoke,builtin,e1,h6,Result.andThen]
   ·cases e
end
end Go.Proofs.YtbcdgcodnkgdoaaGreat.Run
namespace Go.Proofs.YtbcdgcodnkgdoaaGreat.Run
open Go Go.RowKit
def Lays (N:Nat) (fr:T V) (n:Nat) (op:Op) (v:V) (b:B):Prop:=∀ {σ:Sg} {ρ:Operand→Value} {w:World} {dst:Option Nat} {ty:TypeId} {pos:String} {af:Array Edge} {g:Option (Nat × Bool)},EvO σ N fr ρ op.operands→σ n=none→
 ∃ cap x o,(execOp ρ ⟨dst,op,ty,pos,af,g⟩).run PG w=.ok (.value x) (w.alloc o)∧den (σ.add n (w.heap.size,cap)) v=some x∧obj (σ.add n (w.heap.size,cap)) b (w.heap.size,cap) o
theorem fillV_len {pl:Nat→Option (Nat × Nat)}:∀ {ps:List (Nat × V)} {c d:List V},fillV pl c ps=some d→d.length=c.length:=by
 intro ps
 induction ps with
 | nil=>intro c d h;obtain rfl:=Option.some.inj h;rfl
 | cons p r ih=>
  intro c d h
  obtain ⟨i,v⟩:=p
  unfold fillV at h
  split at h
  ·split at h
   ·rename_i hl
    simp only [Bool.and_eq_true,Nat.beq_eq,Nat.ble_eq] at hl
    rw [ih h,over_length hl.2]
   ·cases h
  ·cases h
theorem reps_len (n:Nat) (z:List V):(reps n z).length=n * z.length:=by
 induction n with
 | zero=>show ([]:List V).length=_;simp
 | succ n ih=>
  have e:reps (n + 1) z=z++reps n z:=rfl
  rw [e,List.length_append,ih,Nat.add_mul];omega
theorem fz0 (n:Nat):fzOk (0,0) n:=.inl rfl
section
variable {h:Hp} {N:Nat} {fr:T V} {q:A}
theorem nAlloc {t:TypeId} (e:oAlloc h t=.ok q):∃ b,q.h=h.new b∧Lays N fr h.n (.alloc t) q.v b:=by
 unfold oAlloc at e
 split at e
 ·rename_i z hz
  obtain rfl:=R.ok.inj e
  refine ⟨_,rfl,fun {σ ρ w dst ty pos af g} he hn=>?_⟩
  obtain ⟨i,zv,h1,h2,h3⟩:=zcs_info hz
  refine ⟨z.length,.pointer (some ⟨w.heap.size,0,none⟩),.cells zv.cells t,by simp [execOp,Instr.alloc,zeroValue,typeInfo,h1,h2,newVar,newRow,Result.andThen],by simp [den,Sg.add_self],?_⟩
  exact ⟨zv.cells.toList,(0,0),ofVs_den h3,by simp,fz0 _,rfl⟩
 ·cases e
theorem nBox {t:TypeId} {x:Operand} (e:oBox h t (xe N fr x)=.ok q):∃ b,q.h=h.new b∧Lays N fr h.n (.box t x) q.v b:=by
 unfold oBox at e
 split at e
 ·rename_i v hx
  obtain ⟨h1,h2⟩:=when_ok e
  obtain rfl:=R.ok.inj h2
  refine ⟨_,rfl,fun {σ ρ w dst ty pos af g} he hn=>?_⟩
  refine ⟨v.flat.length,.pointer (some ⟨w.heap.size,0,none⟩),.cells (ρ x).cells t,by simp [execOp,Instr.box,newVar,newRow,Result.andThen],by simp [den,Sg.add_self],?_⟩
  exact ⟨(ρ x).cells.toList,(0,0),denL_mono (Sg.le_add hn) _ _ (flat_den' (he x (by simp [Op.operands]) v hx)),by simp,fz0 _,rfl⟩
 ·cases e
theorem nBuildSl {t:TypeId} {n:Nat} {ps:Array (Nat × Operand)} (e:oBuildSl h t n (xps N fr ps.toList)=.ok q):∃ b,q.h=h.new b∧Lays N fr h.n (.buildSlice t n ps) q.v b:=by
 unfold oBuildSl at e
 split at e
 ·rename_i el l ht hl
  unfold oBuildSl2 at e
  split at e
  ·rename_i sz z hs hz
   split at e
   ·rename_i c hc
    obtain ⟨h1,h2⟩:=when_ok e
    simp only [Bool.and_eq_true,Nat.beq_eq,Nat.ble_eq,Bool.not_eq_true'] at h1
    obtain ⟨⟨⟨rfl,h3⟩,h4⟩,h5⟩:=h1
    obtain rfl:=R.ok.inj h2
    refine ⟨_,rfl,fun {σ ρ w dst ty pos af g} he hn=>?_⟩
    obtain ⟨i,zv,k1,k2,k3⟩:=zcs_info hz
    have hzd:=ofVs_den (σ:=σ) k3
    have hzl:zv.cells.size=z.length:=by have:=denL_len hzd;simpa using this
    have hps:=xps_ok hl (fun x hx=>he x (by simpa [Op.operands] using hx))
    have hparts:(ps.map fun (i,x)=>(i,ρ x)).toList=ps.toList.map fun p=>(p.1,ρ p.2):=by simp
    have h3':0 < z.length:=Nat.pos_of_ne_zero (fun hz0=>by rw [hz0] at h3;cases h3)
    have hrep:=reps_den hzd n
    obtain ⟨d',h6,h7⟩:=fill_ok (place:=fun i=>some (i * z.length,z.length)) (fun i r hr=>hr) hc hrep hps
    rw [← hparts] at h7
    have hrr:=range_rep zv.cells (by omega) n
    rw [hzl] at hrr
    have hlen:d'.length=n * z.length:=by rw [denL_len h6,fillV_len hc,reps_len]
    refine ⟨n,.slice (some ⟨w.heap.size,0,none⟩) n n,.cells d'.toArray el,?_,by simp [den,Sg.add_self],?_⟩
    ·have hrz:(zeroValue el).run PG w=.ok zv w:=by simp [zeroValue,typeInfo,k1,k2]
     have hn0:¬ (n * z.length > 2 ^ 24):=by omega
     have:(Instr.buildSlice t n (ps.map fun (i,x)=>(i,ρ x))).run PG w=.ok (.slice (some ⟨w.heap.size,0,none⟩) n n) (w.alloc (.cells d'.toArray el)):=by
      unfold Instr.buildSlice
      simp only [Sem.run_bind,run_underlying ht,Result.andThen,run_sz hs,hn0,if_false]
      by_cases hn1:n * z.length=0
      ·have hm:∀ f:Nat→Value,(Array.range (n * z.length)).map f=(List.replicate n zv.cells.toList).flatten.toArray:=fun f=>by
        rw [← hrr,hn1];simp
       rw [if_pos hn1]
       simp only [Sem.run_bind,Sem.run_pure,Result.andThen,hm,h7,newRow]
       simp [Result.andThen]
      ·rw [if_neg hn1]
       simp only [Sem.run_bind,hrz,Sem.run_pure,Result.andThen,hzl,hrr,h7,newRow]
       simp [Result.andThen]
     simp [execOp,this,Result.andThen]
    ·refine ⟨d',[],(0,0),z.length,hs,denL_mono (Sg.le_add hn) _ _ h6,by simp,fz0 _,by simpa using hlen,?_⟩
     show n≤maxN
     have:n≤n * z.length:=Nat.le_mul_of_pos_right n h3'
     unfold maxN;omega
   ·cases e
  ·cases e
 ·cases e
theorem nMap {t:TypeId} {r:Option Operand} (e:oMakeMap h r=.ok q):∃ b,q.h=h.new b∧Lays N fr h.n (.makeMap t r) q.v b:=by
 unfold oMakeMap at e
 split at e
 ·obtain rfl:=R.ok.inj e
  refine ⟨_,rfl,fun {σ ρ w dst ty pos af g} he hn=>⟨0,.map (some w.heap.size),.map #[] 0,by simp [execOp,Instr.makeMap,Result.andThen],by simp [den,Sg.add_self],[],0,trivial,rfl⟩⟩
 ·cases e
theorem nMakeSl {t:TypeId} {x y:Operand} (e:oMakeSl h t (xe N fr x) (xe N fr y)=.ok q):∃ b,q.h=h.new b∧Lays N fr h.n (.makeSlice t x y) q.v b:=by
 unfold oMakeSl at e
 split at e
 ·rename_i u v hx hy
  unfold makeSl at e
  split at e
  ·rename_i k a k' b
   split at e
   ·rename_i el ht
    split at e
    ·rename_i sz by_ z hs hb hz
     obtain ⟨h1,h2⟩:=when_ok e
     simp only [Bool.and_eq_true,Nat.beq_eq,Nat.ble_eq,Bool.not_eq_true',decide_eq_true_eq] at h1
     obtain ⟨⟨⟨⟨⟨h3,h4⟩,h5⟩,h6⟩,h7⟩,h8⟩:=h1
     subst h7
     obtain rfl:=R.ok.inj h2
     refine ⟨_,rfl,fun {σ ρ w dst ty pos af g} he hn=>?_⟩
     have hrx:ρ x=.int k a:=den_i (he x (by simp [Op.operands]) _ hx)
     have hry:ρ y=.int k' b:=den_i (he y (by simp [Op.operands]) _ hy)
     subst h4
     obtain ⟨n,rfl⟩:=Int.eq_ofNat_of_zero_le h3
     obtain ⟨i,zv,k1,k2,k3⟩:=zcs_info hz
     obtain ⟨i',z',k1',_,k4⟩:=szt_info hs
     rw [k1] at k1'
     obtain rfl:=Option.some.inj k1'
     have k5:i.bytes=by_:=by unfold byt at hb;rw [k1] at hb;exact Option.some.inj hb
     have hzd:=ofVs_den (σ:=σ) k3
     have hzl:zv.cells.size=z.length:=by have:=denL_len hzd;simpa using this
     have h5':n≤1000000:=by omega
     have hbi:(i.bytes:Int) * (n:Int)≤281474976710656:=by
      rw [k5,← Int.natCast_mul]
      have:by_ * n≤1000 * 1000000:=Nat.mul_le_mul h6 h5'
      omega
     have hm:=run_make (P:=PG) w t el i zv ht k1 k2 k k' (n:Int) (n:Int) (by omega) (by omega) hbi (by omega)
     have hcells:madeCells zv.cells ((n:Int).toNat * i.size)=(List.replicate n zv.cells.toList).flatten.toArray:=by
      have:=made_flat zv.cells.toList n
      rw [k4,Int.toNat_natCast,← hzl]
      unfold madeCells
      simpa using this
     rw [hcells,Int.toNat_natCast] at hm
     have hrun:(execOp ρ ⟨dst,.makeSlice t x y,ty,pos,af,g⟩).run PG w=.ok (.value (.slice (some ⟨w.heap.size,0,none⟩) n n)) (w.alloc (.cells (List.replicate n zv.cells.toList).flatten.toArray el)):=by
      simp only [execOp,hrx,hry,Sem.run_bind,hm,Result.andThen]
      rfl
     refine ⟨n,_,_,hrun,by simp [den,Sg.add_self],?_⟩
     refine ⟨(List.replicate n zv.cells.toList).flatten,[],(0,0),z.length,hs,by rw [Int.toNat_natCast];exact denL_mono (Sg.le_add hn) _ _ (reps_den hzd n),by simp,fz0 _,?_,?_⟩
     ·rw [List.append_nil,flatten_len (sz:=z.length) (by intro x hx;rw [List.eq_of_mem_replicate hx];simpa using hzl)];simp
     ·show n≤maxN
      unfold maxN;omega
    ·cases e
   ·cases e
  ·cases e
 ·cases e
theorem new_ok {op:Op} (hk:kindOp op=2) (e:opL N fr h op=.ok q):∃ b,q.h=h.new b∧Lays N fr h.n op q.v b:=by
 cases op <;> first
  | (cases e;done)
  | (exact nAlloc e)
  | (exact nBox e)
  | (exact nBuildSl e)
  | (exact nMap e)
  | (exact nMakeSl e)
  | (simp [kindOp] at hk;done)
  | (exfalso;revert hk;simp only [kindOp,kindCv];split <;> simp;done)
  | (exfalso;revert hk;rename_i c;obtain ⟨cl,args,ats⟩:=c;simp only [kindOp,kindC];cases cl <;> simp [kindB];split <;> simp;done)
end
end Go.Proofs.YtbcdgcodnkgdoaaGreat.Run
namespace Go.Proofs.YtbcdgcodnkgdoaaGreat.Run
open Go Go.RowKit
theorem DenG.move {w0 w w':World} {σ:Sg} {g g':Nat→Option B} {m n:Nat} {b b':B} {r:Nat × Nat} {o:Obj} (H:DenG w0 σ g w) (hm:g m=some b) (hr:σ m=some r) (hn:σ n=none) (ht:Turns w w' r.1 o) (ho:Run.obj (σ.add n r) b' r o)
 (hg:∀ j c,g' j=some c→(j=n∧c=b')∨(j≠n∧j≠m∧g j=some c)):DenG w0 (σ.add n r) g' w':=by
 have hlow:=H.low m r hr
 have le:=Sg.le_add (q:=r) hn
 refine ⟨⟨ht.os.trans H.kp.os,ht.tape.trans H.kp.tape,ht.output.trans H.kp.output,by rw [ht.size];exact H.kp.size,fun i hi hnn=>by rw [ht.block i (by omega)];exact H.kp.block i hi hnn⟩,fun j q hq=>?_,fun j c hj=>?_,fun i j a c p q hi hj hp hq e=>?_⟩
 ·rw [ht.size]
  unfold Sg.add at hq
  split at hq
  ·obtain rfl:=Option.some.inj hq;exact hlow
  ·exact H.low j q hq
 ·rcases hg j c hj with ⟨rfl,rfl⟩ | ⟨hne,hnm,hj⟩
  ·exact ⟨r,o,Sg.add_self _ _ _,ht.at_,ho⟩
  ·obtain ⟨q,o',h1,h2,h3⟩:=H.obj j c hj
   refine ⟨q,o',le _ _ h1,?_,h3.mono le⟩
   rw [ht.block q.1 (fun e=>hnm (H.inj j m c b q r hj hm h1 hr e))]
   exact h2
 ·have key:∀ i a q,g' i=some a→(σ.add n r) i=some q→(i=n∧q=r)∨(i≠n∧i≠m∧g i=some a∧σ i=some q):=fun i a q hi hq=>by
   rcases hg i a hi with ⟨rfl,rfl⟩ | ⟨hne,hnm,hi⟩
   ·rw [Sg.add_self] at hq
    exact .inl ⟨rfl,(Option.some.inj hq).symm⟩
   ·unfold Sg.add at hq
    rw [if_neg hne] at hq
    exact .inr ⟨hne,hnm,hi,hq⟩
  rcases key i a p hi hp with ⟨h1,h2⟩ | ⟨h1,h2,h3,h4⟩ <;> rcases key j c q hj hq with ⟨k1,k2⟩ | ⟨k1,k2,k3,k4⟩
  ·rw [h1,k1]
  ·subst h2;exact absurd (H.inj j m c b q _ k3 hm k4 hr e.symm) k2
  ·subst k2;exact absurd (H.inj i m a b p _ h3 hm h4 hr e) h2
  ·exact H.inj i j a c p q h3 k3 h4 k4 e
inductive Yl (r:Result Next) (x:Value) (w':World):Prop where
 | val (h:r=.ok (.value x) w')
 | skip (h:r=.ok .skip w') (hx:x=undef)
def Touches (w0:World) (N:Nat) (fr:T V) (h:Hp) (op:Op) (q:A):Prop:=∀ {σ:Sg} {ρ:Operand→Value} {w:World} {dst:Option Nat} {ty:TypeId} {pos:String} {af:Array Edge} {g:Option (Nat × Bool)},EvO σ N fr ρ op.operands→Den w0 σ h w→
 ∃ σ' x w',σ.le σ'∧Yl ((execOp ρ ⟨dst,op,ty,pos,af,g⟩).run PG w) x w'∧den σ' q.v=some x∧Den w0 σ' q.h w'
theorem den_undef {σ:Sg}:den σ (.t [])=some undef:=by simp [den,undef]
section
variable {w0:World} {h:Hp} {N:Nat} {fr:T V} {q:A}
theorem tStore {t:TypeId} {x y:Operand} (e:oStore h t (xe N fr x) (xe N fr y)=.ok q):Touches w0 N fr h (.store t x y) q:=by
 unfold oStore at e
 split at e
 ·rename_i a v hx hy
  obtain ⟨h',e1,e2⟩:=bind_ok e
  obtain rfl:=R.ok.inj e2
  unfold wr at e1
  split at e1
  ·rename_i m o
   split at e1
   ·rename_i c sz hr hs
    unfold wr2 at e1
    obtain ⟨h1,h2⟩:=when_ok e1
    simp only [Bool.and_eq_true,Nat.beq_eq,Nat.ble_eq] at h1
    obtain ⟨⟨rfl,h3⟩,h4⟩:=h1
    obtain rfl:=R.ok.inj h2
    intro σ ρ w dst ty pos af g he H
    obtain ⟨r,h5,h6⟩:=den_p (he x (by simp [Op.operands]) _ hx)
    have h7:=flat_den' (he y (by simp [Op.operands]) v hy)
    have h8:=denL_len h7
    have h9:=H.stores (o:=o) hr h5 (vs':=(ρ y).cells.toList) (by omega) (ones_den h7 h4)
    refine ⟨σ,undef,w.setCells r.1 o (ρ y).cells.toList,Sg.le.refl σ,.skip ?_ rfl,den_undef,H.write hr h5 h7 h3⟩
    have hsz:(ρ y).cells.size=v.flat.length:=by simpa using h8
    simp [execOp,Instr.storeAt,Instr.sureAddr,h6,storeVar,run_sz hs,hsz,h9,Result.andThen]
   ·cases e1
  ·cases e1
 ·cases e
theorem cells_of {w:World} {σ:Sg} {el:TypeId} {y:V} {c:List V} {n:Nat} {b:Value} (H:DenG w0 σ h.get w) (e:sliceCells h el y=.ok (c,n)) (hb:den σ y=some b):
 ∃ sz news A cp,b=.slice A n cp∧denL σ c=some news∧(n=0∨∃ B O,A=some ⟨B,O,none⟩∧szt el=some sz∧news.length=n * sz∧CellsAt w B O news):=by
 unfold sliceCells at e
 split at e
 ·obtain ⟨rfl,rfl⟩:=Prod.mk.inj (R.ok.inj e)
  obtain rfl:=den_l0 hb
  exact ⟨0,[],none,0,rfl,by simp,.inl rfl⟩
 ·rename_i m off o k
  split at e
  ·rename_i sz c' hs hr
   obtain ⟨h1,h2⟩:=when_ok e
   simp only [Nat.ble_eq] at h1
   obtain ⟨rfl,rfl⟩:=Prod.mk.inj (R.ok.inj h2)
   obtain ⟨r,h3,rfl⟩:=den_l hb
   obtain ⟨q',c'',rest,t,fz,k1,k2,k3,k4⟩:=H.row hr
   rw [h3] at k1;obtain rfl:=Option.some.inj k1
   have hl:=denL_len k2
   refine ⟨sz,(c''.drop off).take (k * sz),_,_,rfl,denL_take _ (denL_drop _ k2),.inr ⟨r.1,off,rfl,hs,by simp;omega,fun i v hv=>cells_row k3 off i v (by
    rw [List.getElem?_take] at hv
    split at hv
    ·exact hv
    ·cases hv)⟩⟩
  ·cases e
 ·cases e
theorem tAppend {t t2:TypeId} {u v:V} {args:Array Operand} {ats:Array TypeId} {r:List TypeId} (e:appendV h t t2 u v=.ok q) (ha:xes N fr args.toList=some [u,v]) (ht:ats.toList=t::t2::r) (hr:r=[]):Touches w0 N fr h (.call ⟨.builtin .append,args,ats⟩) q:=by
 intro σ ρ w dst ty pos af g he H
 subst hr
 have hd:=EvO.list (fun x hx=>he x (by simp [Op.operands,Call.operands];simpa using hx)) ha
 obtain ⟨a,l1,h1,hd2,h3⟩:=denL_cons.1 hd
 obtain ⟨b,l2,h2,hd3,rfl⟩:=denL_cons.1 hd2
 simp only [denL_nil,Option.some.injEq] at hd3
 subst hd3
 unfold appendV at e
 split at e
 ·rename_i el hu ht2
  obtain rfl:=Nat.eq_of_beq_eq_true ht2
  have e1:args.map ρ=#[a,b]:=by rw [← Array.toList_inj];simpa using h3
  have e2:ats=#[t,t]:=by rw [← Array.toList_inj];simpa using ht
  have run:∀ x w',(Builtin.append_ #[t,t] ty #[a,b]).run PG w=.ok x w'→(execOp ρ ⟨dst,.call ⟨.builtin .append,args,ats⟩,ty,pos,af,g⟩).run PG w=.ok (.value x) w':=fun x w' hw=>by
   simp [execOp,resolve,invoke,builtin,e1,e2,hw,Result.andThen]
  obtain ⟨⟨c,n⟩,e3,e4⟩:=bind_ok e
  obtain ⟨sz1,news,Aa,cp,rfl,hnews,hsrc⟩:=cells_of H.g e3 h2
  simp only at e4
  split at e4
  ·rename_i sz by_ z hs hby hz
   obtain ⟨i,zv,k1,k2,k3⟩:=zcs_info hz
   obtain ⟨i',z',k1',k2',k4⟩:=szt_info hs
   rw [k1] at k1';obtain rfl:=Option.some.inj k1'
   have k5:i.bytes=by_:=by unfold byt at hby;rw [k1] at hby;exact Option.some.inj hby
   have hzd:=ofVs_den (σ:=σ) k3
   have hzl:zv.cells.size=z.length:=by have:=denL_len hzd;simpa using this
   have hrs:∀ w,(sizeOf el).run PG w=.ok sz w:=run_sz hs
   cases n with
   | zero=>
    have h0:(Builtin.firstCells sz 0 (.slice Aa 0 cp)).run PG w=.ok #[] w:=by
     cases Aa with
     | none=>rfl
     | some a=>simp [Builtin.firstCells,loadCells,loadCellsFrom]
    have h00:(Builtin.lenOf (.slice Aa 0 cp)).run PG w=.ok 0 w:=rfl
    simp only at e4
    split at e4
    ·obtain rfl:=R.ok.inj e4
     obtain rfl:=den_l0 h1
     refine ⟨σ,_,w,Sg.le.refl σ,.val (run (.slice none 0 0) w ?_),by simp [den],H⟩
     simp [Builtin.append_,run_underlying hu,hrs,h0,h00,Result.andThen]
    ·rename_i m off o n'
     obtain ⟨h5,h6⟩:=when_ok e4
     obtain rfl:=R.ok.inj h6
     obtain ⟨r,h7,rfl⟩:=den_l h1
     have hroom:=room_ok H.g h5 hs h7
     refine ⟨σ,_,w,Sg.le.refl σ,.val (run (.slice (some ⟨r.1,off,none⟩) n' (r.2 - o)) w ?_),by simp [den,h7],H⟩
     have hle:n'≤r.2 - o:=by omega
     simp [Builtin.append_,run_underlying hu,hrs,h0,h00,hle,storeCells,Result.andThen]
    ·cases e4
   | succ n=>
    rcases hsrc with hsrc | ⟨Bs,Os,rfl,hs1,hnl,hcs⟩
    ·omega
    rw [hs] at hs1;obtain rfl:=Option.some.inj hs1
    have hcs':=cellsAdd hcs
    simp only at e4
    have zflat:=zeroCells_flat (z:=zv) (zc:=zv.cells.toList) (by simp)
    split at e4
    ·obtain ⟨h5,h6⟩:=when_ok e4
     simp only [Bool.and_eq_true,Nat.beq_eq,Nat.ble_eq] at h5
     obtain ⟨⟨⟨h5,h7⟩,h8⟩,hone0⟩:=h5
     obtain rfl:=R.ok.inj h6
     obtain rfl:=den_l0 h1
     have hb2:(n + 1) * i.bytes≤281474976710656:=by
      rw [k5]
      have:(n + 1) * by_≤100000 * 1000:=Nat.mul_le_mul h8 h5
      omega
     have hr:=run_append_nil (P:=PG) w t ty el i zv hu k1 k2 ⟨Bs,Os,none⟩ (n + 1) cp news (by rw [k4];exact hnl) hcs' (by omega) (by omega) hb2
     obtain ⟨tl,htl,htll⟩:=zflat (grownCap w (n + 1) 0 el - (n + 1))
     have hg:=grownCap_ge w (n + 1) 0 el
     have hg2:=grownCap_le_maxLen w (n + 1) 0 el (by unfold maxLen;omega)
     have e5:news.toArray++tl.toArray=(news++tl).toArray:=by simp
     rw [htl,e5] at hr
     have hlen:(news++tl).length=grownCap w (n + 1) 0 el * sz:=by
      rw [List.length_append,hnl,htll]
      have:zv.cells.toList.length=sz:=by rw [Array.length_toList,hzl,h7]
      rw [this,← Nat.add_mul];congr 1;omega
     have hden:=H.drew.new (b:=.buf c el) (o:=.cells (news++tl).toArray el) (cap:=grownCap w (n + 1) 0 el)
      ⟨news,tl,(0,0),sz,hs,denL_mono (Sg.le_add (H.up _ (Nat.le_refl _))) _ _ hnews,rfl,fz0 _,hlen,by unfold maxN;unfold maxLen at hg2;exact hg2⟩
     exact ⟨_,_,_,hden.1,.val (run _ _ hr),by simp [den,Sg.add_self],hden.2⟩
    ·rename_i m off o n'
     split at e4
     ·rename_i c0 el' hg
      obtain ⟨h5,h6⟩:=when_ok e4
      simp only [Bool.and_eq_true,Nat.beq_eq,Nat.ble_eq] at h5
      obtain ⟨⟨⟨⟨⟨⟨⟨rfl,rfl⟩,hc0⟩,rfl⟩,h5⟩,h7⟩,h8⟩,hone0⟩:=h5
      obtain rfl:=R.ok.inj h6
      obtain ⟨r,hm,rfl⟩:=den_l h1
      obtain ⟨q',o',g1,g2,c',rest,fz,sz',g3,g4,rfl,g5,g6,g7⟩:=H.g.obj _ _ hg
      rw [hm] at g1;obtain rfl:=Option.some.inj g1
      rw [hs] at g3;obtain rfl:=Option.some.inj g3
      have hcl:=denL_len g4
      rw [List.length_append] at g6
      simp only [Nat.sub_zero] at *
      by_cases hroom:n' + (n + 1)≤r.2
      ·have hfit:n' * sz + news.length≤(c'++rest).length:=by
        rw [hnl,List.length_append,g6,← Nat.add_mul];exact Nat.mul_le_mul_right _ hroom
       have hone:∀ u∈news,u.oneCell'=true:=ones_den hnews hone0
       have hr:=run_append_room_cells (P:=PG) w t ty el i hu k1 r.1 0 n' r.2 ⟨Bs,Os,none⟩ (n + 1) cp news (by rw [k4];exact hnl) hcs' hone hroom
        (fun j hj=>by rw [cell_row g2];simp;rw [k4];rw [List.length_append] at hfit;omega) (fun j hj=>unfrozen_row g2 g5 _ (by rw [k4];omega))
       rw [Nat.zero_add,k4] at hr
       have ht:=turns_setCells (o:=n' * sz) (vs:=news) g2 hfit
       have e6:(c'++rest).take (n' * sz)++news++(c'++rest).drop (n' * sz + news.length)=(c'++news)++rest.drop news.length:=by
        rw [hc0,← hcl,List.take_left,List.drop_append,List.drop_of_length_le (by omega),List.nil_append,Nat.add_sub_cancel_left]
       rw [e6] at ht
       have hn0:=H.up h.n (Nat.le_refl _)
       have le:=Sg.le_add (q:=r) hn0
       refine ⟨σ.add h.n r,_,_,le,.val (run _ _ hr),by simp [den,Sg.add_self],⟨H.g.move (b':=.buf (c0++c) el) hg hm hn0 ht ⟨c'++news,rest.drop news.length,fz,sz,hs,denL_append (denL_mono le _ _ g4) (denL_mono le _ _ hnews),rfl,?_,?_,g7⟩ (fun j d hj=>?_),fun k hk=>?_⟩⟩
       ·have:(c'++news++rest.drop news.length).length=(c'++rest).length:=by simp at hfit ⊢;omega
        rw [this];exact g5
       ·simp at hfit ⊢;omega
       ·rcases Hp.get_new hj with ⟨h9,h10⟩ | ⟨h9,h10⟩
        ·exact .inl ⟨h9,h10⟩
        ·exact .inr ⟨h9,Hp.get_del h10⟩
       ·simp at hk
        unfold Sg.add
        rw [if_neg (by omega)]
        exact H.up k (by omega)
      ·have hb2:(n' + (n + 1)) * i.bytes≤140737488355328:=by
        rw [k5]
        have:(n' + (n + 1)) * by_≤100000 * 1000:=Nat.mul_le_mul h8 h5
        omega
       have hold:CellsAt w r.1 0 c':=by simpa using cells_row g2 0
       have hr:=run_append_grow (P:=PG) w t ty el i zv hu k1 k2 ⟨r.1,0,none⟩ n' r.2 c' (by rw [k4,hcl,hc0]) (cellsAdd hold) ⟨Bs,Os,none⟩ (n + 1) cp news (by rw [k4];exact hnl) hcs' (by omega) (by omega) (growslice_fits (by omega) hb2)
       obtain ⟨tl,htl,htll⟩:=zflat (grownCap w (n' + (n + 1)) r.2 el - (n' + (n + 1)))
       have hg3:=grownCap_ge w (n' + (n + 1)) r.2 el
       have hg2:=grownCap_le_maxLen w (n' + (n + 1)) r.2 el (by unfold maxLen;omega)
       have e5:c'.toArray++news.toArray++tl.toArray=(c'++news++tl).toArray:=by simp
       rw [htl,e5] at hr
       have hlen:(c'++news++tl).length=grownCap w (n' + (n + 1)) r.2 el * sz:=by
        rw [List.length_append,List.length_append,hnl,htll,hcl,← hc0]
        have:zv.cells.toList.length=sz:=by rw [Array.length_toList,hzl,h7]
        rw [this,← Nat.add_mul,← Nat.add_mul];congr 1;omega
       have hden:=(H.del m).drew.new (b:=.buf (c0++c) el) (o:=.cells (c'++news++tl).toArray el) (cap:=grownCap w (n' + (n + 1)) r.2 el)
        ⟨c'++news,tl,(0,0),sz,hs,denL_mono (Sg.le_add (H.up _ (Nat.le_refl _))) _ _ (denL_append g4 hnews),rfl,fz0 _,hlen,by unfold maxN;unfold maxLen at hg2;exact hg2⟩
       exact ⟨_,_,_,hden.1,.val (run _ _ hr),by simp [den,Sg.add_self],hden.2⟩
     ·cases e4
    ·cases e4
  ·cases e4
 ·cases e
end
end Go.Proofs.YtbcdgcodnkgdoaaGreat.Run
namespace Go.Proofs.YtbcdgcodnkgdoaaGreat.Run
open Go Go.RowKit
theorem turns_setObj {w:World} {b:Nat} {o:Obj} (h:b < w.heap.size):Turns w { w with heap:=w.heap.setIfInBounds b o } b o:=
 ⟨rfl,rfl,rfl,by simp,by simp [h],fun i hi=>by simp [Array.getElem?_setIfInBounds_ne (Ne.symm hi)]⟩
theorem ents_push {σ:Sg} {k v:V} {a x:Value} {c:Nat} (hk:den σ k=some a) (hv:den σ v=some x):∀ {es:List (V × V)} {ms:List MapEntry},ents σ es ms→ents σ (es++[(k,v)]) (ms++[⟨a,x,c⟩]):=by
 intro es
 induction es with
 | nil=>intro ms h;cases ms with
  | nil=>exact ⟨hk,hv,trivial⟩
  | cons m q=>exact h.elim
 | cons e r ih=>intro ms h;cases ms with
  | nil=>exact h.elim
  | cons m q=>exact ⟨h.1,h.2.1,ih h.2.2⟩
theorem setK_ok {σ:Sg} {kt:TypeId} {d:TypeDesc} {k v:V} {a x:Value} (hd:PG.underlying kt=some d) (hk:den σ k=some a) (hv:den σ v=some x):∀ {es es':List (V × V)} {ms:List MapEntry},setK kt d k v es=some es'→ents σ es ms→
 (findK kt d k es=some none∧es'=es++[(k,v)])∨(∃ u,findK kt d k es=some (some u)∧∀ i,∃ j m,ms[j]?=some m∧(a=m.key∧Instr.sameBits 10000 a a=true)∧(∀ y,(Instr.findNow d a ms i=some (some y)→y.1=i + j))∧(∀ w y,(Instr.findAsking kt a ms i).run PG w=.ok (some y) w→y.1=i + j) ∧
  ents σ es' (ms.set j (⟨a,x,m.born⟩:MapEntry))):=by
 intro es
 induction es with
 | nil=>intro es' ms h he;obtain rfl:=Option.some.inj h;exact .inl ⟨rfl,rfl⟩
 | cons e r ih=>
  intro es' ms h he
  cases ms with
  | nil=>exact he.elim
  | cons m q=>
   obtain ⟨h1,h2,h3⟩:=he
   unfold setK at h
   split at h
   ·rename_i hq
    obtain rfl:=Option.some.inj h
    obtain ⟨h4,h5,h6⟩:=eqK_ok hd hq hk h1
    refine .inr ⟨e.2,by simp [findK,hq],fun i=>⟨0,m,rfl,h6 rfl,fun y hy=>?_,fun w y hy=>?_,⟨hk,hv,h3⟩⟩⟩
    ·rcases h4 with h4 | h4
     ·simp [Instr.findNow,h4] at hy;rw [← hy];rfl
     ·simp [Instr.findNow,h4] at hy
    ·simp [Instr.findAsking,h5,Result.andThen] at hy;rw [← hy];rfl
   ·rename_i hq
    obtain ⟨h4,h5,h6⟩:=eqK_ok hd hq hk h1
    split at h
    ·rename_i l hl
     obtain rfl:=Option.some.inj h
     rcases ih hl h3 with ⟨h7,rfl⟩ | ⟨u,h7,h8⟩
     ·exact .inl ⟨by simp [findK,hq,h7],rfl⟩
     ·refine .inr ⟨u,by simp [findK,hq,h7],fun i=>?_⟩
      obtain ⟨j,m',g1,g2,g3,g4,g5⟩:=h8 (i + 1)
      refine ⟨j + 1,m',by simpa using g1,g2,fun y hy=>?_,fun w y hy=>?_,⟨h1,h2,g5⟩⟩
      ·rcases h4 with h4 | h4
       ·simp [Instr.findNow,h4] at hy
        have:=g3 y hy
        omega
       ·simp [Instr.findNow,h4] at hy
      ·simp [Instr.findAsking,h5,Result.andThen] at hy
       have:=g4 w y hy
       omega
    ·cases h
   ·cases h
section
variable {w0:World} {h:Hp} {N:Nat} {fr:T V} {q:A}
theorem tUpdate {t:TypeId} {x k y:Operand} (e:oUpd h t (xe N fr x) (xe N fr k) (xe N fr y)=.ok q):Touches w0 N fr h (.mapUpdate t x k y) q:=by
 unfold oUpd at e
 split at e
 ·rename_i mv kv vv hx hk hy
  obtain ⟨h1,e1⟩:=when_ok e
  intro σ ρ w dst ty pos af g he H
  unfold updateV at e1
  split at e1
  ·rename_i kt el m hu
   split at e1
   ·rename_i d es hd hg
    obtain ⟨h2,e2⟩:=when_ok e1
    split at e2
    ·rename_i es' hs
     obtain rfl:=R.ok.inj e2
     have dk:=he k (by simp [Op.operands]) _ hk
     have dv:=he y (by simp [Op.operands]) _ hy
     obtain ⟨r,hm,hmx⟩:=den_m (he x (by simp [Op.operands]) _ hx)
     obtain ⟨q',o,g1,g2,ms,clock,g3,rfl⟩:=H.g.obj _ _ hg
     rw [hm] at g1;obtain rfl:=Option.some.inj g1
     have hlow:=H.g.low _ _ hm
     have h6:=keyOk_ok hd h2 dk
     rcases setK_ok (ms:=ms) hd dk dv hs g3 with ⟨h7,rfl⟩ | ⟨u,h7,h8⟩
     ·obtain ⟨z,h9,h10⟩:=findKey_ok hd dk h7 g3 w
      have hz:z=none:=by
       rcases h10 with ⟨_,h⟩ | ⟨v,j,y',h,_⟩
       ·exact h
       ·cases h
      subst hz
      refine ⟨σ,undef,{ w with heap:=w.heap.setIfInBounds r.1 (.map (ms++[(⟨ρ k,ρ y,clock⟩:MapEntry)]).toArray (clock + 1)) },Sg.le.refl σ,.skip ?_ rfl,den_undef,H.turn (b':=.map (es++[(kv,vv)])) hg hm (turns_setObj hlow.2) (show Run.obj σ (.map (es++[(kv,vv)])) r (.map (ms++[(⟨ρ k,ρ y,clock⟩:MapEntry)]).toArray (clock + 1)) from ⟨ms++[(⟨ρ k,ρ y,clock⟩:MapEntry)],clock + 1,ents_push dk dv g3,rfl⟩)⟩
      simp [execOp,hmx,Instr.mapUpdate,run_underlying hu,Go.MapKept.run_getObj_map g2,h6,h9,Go.MapKept.run_setObj_map _ g2,Result.andThen]
     ·obtain ⟨j,m',k1,k2,k3,k4,k5⟩:=h8 0
      obtain ⟨f1,f2⟩:=findK_ok hd dk h7 g3 0
      have hfind:∃ yv,(Instr.findKey kt (ρ k) ms).run PG w=.ok (some (j,yv)) w:=by
       rcases f1 with f1 | ⟨z,f1,f3⟩
       ·obtain ⟨z,f4,f5⟩:=f2 w
        rcases f5 with ⟨f5,_⟩ | ⟨v',j',y',_,_,rfl⟩
        ·cases f5
        ·have:=k4 w _ f4
         simp at this
         subst this
         exact ⟨y',by simp [Instr.findKey,run_underlying hd,f1,f4,Result.andThen]⟩
       ·rcases f3 with ⟨f3,_⟩ | ⟨v',j',y',_,_,rfl⟩
        ·cases f3
        ·have:=k3 _ f1
         simp at this
         subst this
         exact ⟨y',by simp [Instr.findKey,run_underlying hd,f1,Result.andThen]⟩
      obtain ⟨yv,hfind⟩:=hfind
      have hstay:∀ w,(Instr.keyThatStays m'.key (ρ k)).run PG w=.ok (ρ k) w:=fun w=>by
       have:Instr.sameBits 10000 m'.key (ρ k)=true:=by rw [← k2.1];exact k2.2
       simp [Instr.keyThatStays,this]
      have hmod:ms.toArray.modify j (fun e=>{ e with key:=ρ k,val:=ρ y })=(ms.set j (⟨ρ k,ρ y,m'.born⟩:MapEntry)).toArray:=by
       rw [← Array.toList_inj]
       simp [List.modify_eq_set,k1]
      refine ⟨σ,undef,{ w with heap:=w.heap.setIfInBounds r.1 (.map (ms.set j (⟨ρ k,ρ y,m'.born⟩:MapEntry)).toArray clock) },Sg.le.refl σ,.skip ?_ rfl,den_undef,H.turn (b':=.map es') hg hm (turns_setObj hlow.2) ⟨_,clock,k5,rfl⟩⟩
      have hkey:((ms.toArray[j]?).map (·.key)).getD (ρ k)=m'.key:=by simp [k1]
      simp only [execOp,hmx,Instr.mapUpdate,Sem.run_bind,run_underlying hu,Go.MapKept.run_getObj_map g2,h6,hfind,hkey,hstay,hmod,Go.MapKept.run_setObj_map _ g2,Result.andThen,Sem.run_pure]
    ·cases e2
   ·cases e1
  ·cases e1
 ·cases e
theorem tConv {src dst':TypeId} {x:Operand} (hk:kindOp (.convert src dst' x)=3) (e:oConv h src dst' (xe N fr x)=.ok q):Touches w0 N fr h (.convert src dst' x) q:=by
 unfold oConv at e
 split at e
 ·rename_i d k k' a h1 h2 hx
  obtain rfl:=R.ok.inj e
  intro σ ρ w dst ty pos af g he H
  have h3:=den_i (he x (by simp [Op.operands]) _ hx)
  exact ⟨σ,.int k (k.wrap a),w,Sg.le.refl σ,.val (by simp [execOp,h3,convert,run_underlying h1,run_underlying h2,Conv.intToInt,Result.andThen]),by simp [den],H⟩
 ·rename_i e1 el m off o n h1 h2 hx
  split at e
  ·rename_i hsd hel
   obtain rfl:=Nat.eq_of_beq_eq_true hsd
   obtain ⟨h3,h4⟩:=when_ok e
   obtain rfl:=R.ok.inj h4
   obtain rfl:e1=el:=by rw [h1] at h2;simpa using h2
   intro σ ρ w dst ty pos af g he H
   obtain ⟨r,hm,hx'⟩:=den_l (he x (by simp [Op.operands]) _ hx)
   cases hr:h.row m with
   | none=>rw [hr] at h3;cases h3
   | some c=>
    obtain ⟨q',c',rest,te,fz,g1,g2,g3,g4⟩:=H.g.row hr
    rw [hm] at g1;obtain rfl:=Option.some.inj g1
    have hlow:=H.g.low _ _ hm
    obtain ⟨te',hg⟩:=row_of hr
    have hsh:w.shape? r.1=some (te,(c'++rest).length):=by simp [World.shape?,g3]
    let fz':Nat × Nat:=if fz.1 == fz.2 then ((c'++rest).length,(c'++rest).length + 1) else (min fz.1 (c'++rest).length,max fz.2 ((c'++rest).length + 1))
    have hfz:fzOk fz' (c'++rest).length:=by
     show fz'.1=fz'.2∨_
     rcases g4 with g4 | g4
     ·right
      have:fz'=((c'++rest).length,(c'++rest).length + 1):=by show (if _ then _ else _)=_;rw [if_pos (by simpa using g4)]
      rw [this];exact Nat.le_refl _
     ·right
      show _≤(if fz.1 == fz.2 then ((c'++rest).length,(c'++rest).length + 1) else (min fz.1 (c'++rest).length,max fz.2 ((c'++rest).length + 1))).1
      split
      ·exact Nat.le_refl _
      ·show _≤min _ _;omega
    have ht:Turns w (w.freeze ⟨r.1,(c'++rest).length,none⟩ 1) r.1 (.cells (c'++rest).toArray te fz'):=by
     refine ⟨rfl,rfl,rfl,by simp [World.freeze],?_,fun i hi=>by simp [World.freeze,Array.getElem?_modify,Ne.symm hi]⟩
     simp [World.freeze,Array.getElem?_modify,g3,fz']
    refine ⟨σ,ρ x,w.freeze ⟨r.1,(c'++rest).length,none⟩ 1,Sg.le.refl σ,.val ?_,he x (by simp [Op.operands]) _ hx,⟨?_,H.up⟩⟩
    ·simp [execOp,hx',convert,run_underlying h1,run_underlying hel,markStringish,hsh,Result.andThen]
    ·rcases hg with hg | hg
     ·obtain ⟨q',o',k1,k2,c2,fz2,k3,rfl,k4,k5⟩:=H.g.obj _ _ hg
      rw [hm] at k1;obtain rfl:=Option.some.inj k1
      rw [g3] at k2
      simp only [Option.some.injEq,Obj.cells.injEq] at k2
      obtain ⟨k6,rfl,rfl⟩:=k2
      have k7:c'++rest=c2:=by simpa using congrArg Array.toList k6
      exact H.g.turn (b':=.cells c te) hg hm ht ⟨c2,fz',k3,by rw [k7],by rw [← k7];exact hfz,k5⟩ (fun j d hj=>by
       by_cases hjm:j=m
       ·subst hjm;rw [hg] at hj;exact .inl ⟨rfl,(Option.some.inj hj).symm⟩
       ·exact .inr ⟨hjm,hj⟩)
     ·obtain ⟨q',o',k1,k2,c2,rest2,fz2,sz,k0,k3,rfl,k4,k5,k8⟩:=H.g.obj _ _ hg
      rw [hm] at k1;obtain rfl:=Option.some.inj k1
      rw [g3] at k2
      simp only [Option.some.injEq,Obj.cells.injEq] at k2
      obtain ⟨k6,rfl,rfl⟩:=k2
      have k7:c'++rest=c2++rest2:=by simpa using congrArg Array.toList k6
      exact H.g.turn (b':=.buf c te) hg hm ht ⟨c2,rest2,fz',sz,k0,k3,by rw [k7],by rw [← k7];exact hfz,k5,k8⟩ (fun j d hj=>by
       by_cases hjm:j=m
       ·subst hjm;rw [hg] at hj;exact .inl ⟨rfl,(Option.some.inj hj).symm⟩
       ·exact .inr ⟨hjm,hj⟩)
  ·cases e
 ·cases e
theorem touch_ok {op:Op} (hk:kindOp op=3) (e:opL N fr h op=.ok q):Touches w0 N fr h op q:=by
 cases op <;> first
  | (cases e;done)
  | (exact tStore e)
  | (exact tUpdate e)
  | (exact tConv hk e)
  | (simp [kindOp] at hk;done)
  | skip
 ·rename_i c
  obtain ⟨cl,args,ats⟩:=c
  cases cl with
  | value f=>simp [kindOp,kindC] at hk
  | invoke r m=>cases e
  | builtin bt=>
   change oBuiltin h bt (xes N fr args.toList) ats.toList=.ok q at e
   unfold oBuiltin at e
   split at e
   ·simp [kindOp,kindC,kindB] at hk
   ·rename_i x y t t2 hl ht
    exact tAppend e hl ht rfl
   ·simp [kindOp,kindC,kindB] at hk
   ·cases e
end
end Go.Proofs.YtbcdgcodnkgdoaaGreat.Run
namespace Go.Proofs.YtbcdgcodnkgdoaaGreat.Run
open Go Go.RowKit
def FW (r:Option Nat):Fence:={ Fence.wide with round:=r }
theorem fw_fn (r:Option Nat) (f:FuncId):(FW r).fn f:=trivial
def DsR (σ:Sg):List Df→List Deferred→Prop
 | [],[]=>True
 | .fn g caps args::r,d::q=>(∃ c a,denL σ caps=some c∧denL σ args=some a∧d={ target:=.fn (.func g) c.toArray,args:=a.toArray })∧DsR σ r q
 | .mark m::r,d::q=>(∃ p,σ m=some p∧d={ target:=.collected p.1,args:=#[] })∧DsR σ r q
 | _,_=>False
theorem DsR.mono {σ τ:Sg} (le:σ.le τ):∀ {ds:List Df} {dd:List Deferred},DsR σ ds dd→DsR τ ds dd:=by
 intro ds
 induction ds with
 | nil=>intro dd h;cases dd <;> exact h
 | cons d r ih=>
  intro dd h
  cases dd with
  | nil=>cases d <;> exact h.elim
  | cons e q=>
   cases d with
   | fn g caps args=>obtain ⟨⟨c,a,h1,h2,h3⟩,h4⟩:=h;exact ⟨⟨c,a,denL_mono le _ _ h1,denL_mono le _ _ h2,h3⟩,ih h4⟩
   | mark m=>obtain ⟨⟨p,h1,h3⟩,h4⟩:=h;exact ⟨⟨p,le _ _ h1,h3⟩,ih h4⟩
def xt:Xt→Exit
 | .nrm=>.normal
 | .ret=>.ret
 | .exi j=>.exit j
def CodeOk (w0:World) (r:Option Nat) (N:Nat) (c:Code) (x:X) (q:Xt × X):Prop:=∀ (n:Nat) (σ:Sg) (a:Act) (w:World) (Q:Exit→Act→World→Prop),FrR σ N x.fr a.tmps→DsR σ x.ds a.defers→Den w0 σ x.h w→
 (∀ σ' a' w',σ.le σ'→FrR σ' N q.2.fr a'.tmps→DsR σ' q.2.ds a'.defers→Den w0 σ' q.2.h w'→Q (xt q.1) a' w')→c.wpIn (FW r) n PG Q a w
def CFok (w0:World) (cf:CF):Prop:=∀ g args h q,cf g args h=.ok q→(∀ args w,(callFunc g args).run PG w=.ok (.enter g args) w) ∧
 ∀ (n:Nat) (σ:Sg) (w:World) (args':List Value) (R:Ending→World→Prop),denL σ args=some args'→Den w0 σ h w→(∀ σ' x w',σ.le σ'→den σ' q.v=some x→Den w0 σ' q.h w'→R (.returned x) w')→CallsIn Fence.wide n PG g args'.toArray w R
def RCok (w0:World) (rc:RC):Prop:=∀ N c x q,rc N c x=.ok q→∀ l,CodeOk w0 (some l) N c x q
def OpOk (w0:World) (r:Option Nat) (N:Nat) (fr:T V) (h:Hp) (ds:List Df) (op:Op) (q:AD):Prop:=∀ (n:Nat) (σ:Sg) (a:Act) (w:World) (K:Act→World→Prop) (Q:Exit→Act→World→Prop) (dst:Option Nat) (ty:TypeId) (pos:String) (af:Array Edge) (g:Option (Nat × Bool)),
 EvO σ N fr a.eval op.operands→DsR σ ds a.defers→Den w0 σ h w→(∀ σ' x w' dd,σ.le σ'→den σ' q.v=some x→DsR σ' q.ds dd→Den w0 σ' q.h w'→K (({ a with defers:=dd }:Act).put dst x) w')→(⟨dst,op,ty,pos,af,g⟩:Oper).wpIn (FW r) n PG a w K Q
theorem FrR.ev {σ:Sg} {N:Nat} {fr:T V} {a:Act} (h:FrR σ N fr a.tmps) (l:Array Operand):EvO σ N fr a.eval l:=by
 intro x _ v hv
 cases x with
 | tmp t=>
  obtain ⟨y,h1,h2⟩:=h.at_ t v hv
  simp [Act.eval,Array.getD_eq_getD_getElem?,h2,h1]
 | const c=>exact ofV_den hv
 | global g=>cases hv
 | func f=>
  obtain rfl:=Option.some.inj (show some (V.f f [] [])=some v from hv)
  simp [den,Act.eval]
theorem sem_plain {r:Option Nat} {ρ:Operand→Value} {o:Oper} (h:∀ c,o.op≠.defer c):Oper.semAt (FW r).round ρ o=execOp ρ o:=by
 cases r with
 | none=>exact Oper.semAt_none _ _
 | some l=>exact Oper.semAt_some l ρ o h
theorem wpIn_yl {r:Option Nat} {n:Nat} {o:Oper} {a:Act} {w w':World} {K:Act→World→Prop} {Q:Exit→Act→World→Prop} {x:Value} (h:∀ c,o.op≠.defer c) (hy:Yl ((execOp a.eval o).run PG w) x w') (k:K (a.put o.dst x) w'):o.wpIn (FW r) n PG a w K Q:=by
 refine ⟨fun f _=>fw_fn r f,?_⟩
 rw [sem_plain h]
 rcases hy with hy | ⟨hy,rfl⟩
 ·rw [hy];exact k
 ·rw [hy];exact k
theorem pure_h {N:Nat} {fr:T V} {h:Hp} {op:Op} {q:A} (hk:kindOp op=0∨kindOp op=1) (e:opL N fr h op=.ok q):q.h=h:=by
 have w_:∀ {r:R V} {q:A},with_ h r=.ok q→q.h=h:=fun e=>by obtain ⟨v,_,rfl⟩:=with_ok e;rfl
 have o_:∀ {k:Nat} {r:Option V} {q:A},o1 h k r=.ok q→q.h=h:=fun e=>by obtain ⟨v,_,rfl⟩:=o1_ok e;rfl
 cases op <;> first
  | (cases e;done)
  | (exact o_ e)
  | (simp [kindOp] at hk;done)
  | skip
 ·change oPick N fr h _ _ _=_ at e
  unfold oPick at e
  split at e
  ·exact o_ e
  ·exact o_ e
  ·cases e
 ·change oBuild h _ _=_ at e
  unfold oBuild at e
  split at e
  ·split at e
   ·obtain rfl:=R.ok.inj e;rfl
   ·cases e
  ·cases e
 ·rename_i t x
  change oLoad h t (xe N fr x)=_ at e
  cases hx:xe N fr x with
  | none=>rw [hx] at e;cases e
  | some u=>rw [hx] at e;exact w_ e
 ·change oNil h _=_ at e
  unfold oNil at e
  split at e
  ·obtain rfl:=R.ok.inj e;rfl
  ·obtain rfl:=R.ok.inj e;rfl
  ·cases e
 ·change oBin h _ _ _ _ _=_ at e
  unfold oBin at e
  split at e
  ·exact w_ e
  ·cases e
 ·change oUn h _ _=_ at e
  unfold oUn at e
  split at e
  ·obtain rfl:=R.ok.inj e;rfl
  ·obtain rfl:=R.ok.inj e;rfl
  ·exact w_ e
  ·cases e
 ·change oConv h _ _ _=_ at e
  unfold oConv at e
  split at e
  ·obtain rfl:=R.ok.inj e;rfl
  ·split at e
   ·obtain ⟨_,e⟩:=when_ok e;obtain rfl:=R.ok.inj e;rfl
   ·cases e
  ·cases e
 ·change oFunc h _ _ _=_ at e
  unfold oFunc at e
  split at e
  ·obtain rfl:=R.ok.inj e;rfl
  ·cases e
 ·change oSlice N fr h _ _ _ _ _=_ at e
  unfold oSlice at e
  split at e
  ·exact w_ e
  ·split at e
   ·exact w_ e
   ·cases e
  ·split at e
   ·exact w_ e
   ·cases e
  ·cases e
 ·change oFieldA h _ _=_ at e
  unfold oFieldA at e
  split at e
  ·obtain rfl:=R.ok.inj e;rfl
  ·cases e
 ·change oField h _ _ _=_ at e
  unfold oField at e
  split at e
  ·split at e
   ·exact w_ e
   ·cases e
  ·cases e
 ·change oIdxA h _ _ _=_ at e
  unfold oIdxA at e
  split at e
  ·obtain ⟨_,_,_,_,rfl⟩:=pIdxA2 e;rfl
  ·obtain ⟨_,_,_,_,rfl⟩:=pIdxA2 e;rfl
  ·cases e
 ·change oIdx h _ _ _=_ at e
  unfold oIdx at e
  split at e
  ·obtain ⟨_,e⟩:=when_ok e
   split at e
   ·obtain rfl:=R.ok.inj e;rfl
   ·cases e
  ·split at e
   ·obtain ⟨_,e⟩:=when_ok e;exact w_ e
   ·cases e
  ·cases e
 ·change oLook h _ _ _ _=_ at e
  unfold oLook at e
  split at e
  ·exact w_ e
  ·cases e
 ·change oExt h _ _=_ at e
  unfold oExt at e
  split at e
  ·exact o_ e
  ·cases e
 ·rename_i c
  obtain ⟨cl,args,ats⟩:=c
  cases cl with
  | value f=>simp [kindOp,kindC] at hk
  | invoke r m=>cases e
  | builtin bt=>
   change oBuiltin h bt (xes N fr args.toList) ats.toList=.ok q at e
   unfold oBuiltin at e
   split at e
   ·unfold oLen at e
    split at e
    ·obtain rfl:=R.ok.inj e;rfl
    ·obtain rfl:=R.ok.inj e;rfl
    ·obtain rfl:=R.ok.inj e;rfl
    ·cases e
   ·simp [kindOp,kindC,kindB] at hk
   ·obtain rfl:=R.ok.inj e;rfl
   ·cases e
theorem opL_ok {w0:World} {r:Option Nat} {N:Nat} {fr:T V} {h:Hp} {ds:List Df} {op:Op} {q:A} (hd:∀ c,op≠.defer c) (hk:kindOp op≤3) (e:opL N fr h op=.ok q):OpOk w0 r N fr h ds op ⟨q.v,q.h,ds⟩:=by
 intro n σ a w K Q dst ty pos af g he hds H k
 have hself:({ a with defers:=a.defers }:Act)=a:=rfl
 rcases (show (kindOp op=0∨kindOp op=1)∨kindOp op=2∨kindOp op=3 by omega) with h0 | h2 | h3
 ·obtain ⟨x,h1,h2⟩:=pure_ok (dst:=dst) (ty:=ty) (pos:=pos) (af:=af) (g:=g) h0 e he (fun c=>rfl) (fun _=>H.g)
  exact wpIn_yl hd (.val h1) (k σ x w a.defers (Sg.le.refl σ) h2 hds (by rw [pure_h h0 e];exact H))
 ·obtain ⟨b,hb,hl⟩:=new_ok h2 e
  obtain ⟨cap,x,o,h1,h3,h4⟩:=hl (w:=w) (dst:=dst) (ty:=ty) (pos:=pos) (af:=af) (g:=g) he (H.up _ (Nat.le_refl _))
  obtain ⟨le,hden⟩:=H.new h4
  exact wpIn_yl hd (.val h1) (k _ x _ a.defers le h3 (hds.mono le) (by show Den w0 _ q.h _;rw [hb];exact hden))
 ·obtain ⟨σ',x,w',le,h1,h4,h5⟩:=touch_ok (w0:=w0) h3 e (dst:=dst) (ty:=ty) (pos:=pos) (af:=af) (g:=g) he H
  exact wpIn_yl hd h1 (k σ' x w' a.defers le h4 (hds.mono le) h5)
theorem withD_ok {ds:List Df} {r:R A} {q:AD} (e:withD ds r=.ok q):∃ p,r=.ok p∧q=⟨p.v,p.h,ds⟩:=by
 obtain ⟨p,h1,h2⟩:=bind_ok e
 exact ⟨p,h1,(R.ok.inj h2).symm⟩
theorem den_y {σ:Sg} {m:Nat} {x:Value} (h:den σ (.y m)=some x):∃ q,σ m=some q∧x=.func (.yield q.1) #[] #[]:=by
 rw [den] at h
 cases hm:σ m with
 | none=>rw [hm] at h;cases h
 | some q=>rw [hm] at h;exact ⟨q,rfl,(Option.some.inj h).symm⟩
theorem putAll_ok {σ:Sg} {N:Nat}:∀ {ps:List Nat} {vs:List V} {fr fr1:T V} {tmps:Array Value} {xs:List Value},putAll N ps vs fr=.ok fr1→FrR σ N fr tmps→denL σ vs=some xs→
 ps.length=vs.length∧FrR σ N fr1 ((ps.zip xs).foldl (fun tmps (x:Nat × Value)=>tmps.setIfInBounds x.1 x.2) tmps):=by
 intro ps
 induction ps with
 | nil=>
  intro vs fr fr1 tmps xs e H hx
  cases vs with
  | nil=>obtain rfl:=R.ok.inj e;exact ⟨rfl,by simpa using H⟩
  | cons v r=>cases e
 | cons d ps ih=>
  intro vs fr fr1 tmps xs e H hx
  cases vs with
  | nil=>cases e
  | cons v r=>
   obtain ⟨h1,h2⟩:=when_ok e
   obtain ⟨x,b,h3,h4,rfl⟩:=denL_cons.1 hx
   obtain ⟨h5,h6⟩:=ih h2 (H.put (blt_lt h1) h3) h4
   exact ⟨by simp [h5],h6⟩
theorem call_ok {w0:World} {r:Option Nat} {N:Nat} {fr:T V} {h:Hp} {ds:List Df} {cf:CF} {rc:RC} {f:Operand} {args:Array Operand} {ats:Array TypeId} {q:A} (hcf:CFok w0 cf) (hrc:RCok w0 rc)
 (e:callV cf rc h (xe N fr f) (xes N fr args.toList)=.ok q):OpOk w0 r N fr h ds (.call ⟨.value f,args,ats⟩) ⟨q.v,q.h,ds⟩:=by
 intro n σ a w K Q dst ty pos af g he hds H k
 unfold callV at e
 split at e
 ·rename_i gf pre caps vs hf hvs
  obtain ⟨h1,h2⟩:=hcf _ _ _ _ e
  obtain ⟨pa,ca,h3,h4,h5⟩:=den_f (he f (by simp [Op.operands,Call.operands]) _ hf)
  have h6:=EvO.list (fun x hx=>he x (by simp [Op.operands,Call.operands];exact .inr (by simpa using hx))) hvs
  refine ⟨fun f _=>fw_fn r f,?_⟩
  rw [sem_plain (by intro c hc;cases hc)]
  have hrun:(execOp a.eval ⟨dst,.call ⟨.value f,args,ats⟩,ty,pos,af,g⟩).run PG w=.ok (.enter gf (pa++args.toList.map a.eval++ca).toArray) w:=by
   have:pa.toArray++args.map a.eval++ca.toArray=(pa++args.toList.map a.eval++ca).toArray:=by rw [← Array.toList_inj];simp
   simp [execOp,resolve,h5,Deferred.ofValue,invoke,h1,this]
  rw [hrun]
  refine ⟨fun hh=>(by cases hh),?_⟩
  have:=h2 (n - 1) σ w _ (fun
   | .returned v,w''=>K (a.put dst v) w''
   | .panicked chain,w''=>Q (.panic chain) a w''
   | .outgrown,_=>LetsOut Q) (denL_append (denL_append h3 h6) h4) H (fun σ' x w' le hx hd=>k σ' x w' a.defers le hx (hds.mono le) hd)
  exact this
 ·rename_i m vs hf hvs
  have h6:=EvO.list (fun x hx=>he x (by simp [Op.operands,Call.operands];exact .inr (by simpa using hx))) hvs
  obtain ⟨p,hm,h5⟩:=den_y (he f (by simp [Op.operands,Call.operands]) _ hf)
  unfold yieldV at e
  split at e
  ·rename_i frl Nl ps asg body fn d hg
   obtain ⟨fr1,e1,e⟩:=bind_ok e
   obtain ⟨q1,e2,e⟩:=bind_ok e
   obtain ⟨p',o,g1,g2,tmps,dq,fnl,g3,g4,rfl⟩:=H.g.obj _ _ hg
   rw [hm] at g1;obtain rfl:=Option.some.inj g1
   obtain ⟨hl,hfr⟩:=putAll_ok e1 g3 h6
   refine ⟨fun f _=>fw_fn r f,?_⟩
   rw [sem_plain (by intro c hc;cases hc)]
   have hsz:(args.map a.eval).size=ps.toArray.size:=by
    have:=denL_len h6
    simp at this ⊢;omega
   have hy:=run_yield (P:=PG) (args:=args.map a.eval) g2 hsz
   have hrun:(execOp a.eval ⟨dst,.call ⟨.value f,args,ats⟩,ty,pos,af,g⟩).run PG w=(Instr.yield p.1 (args.map a.eval)).run PG w:=by
    simp only [execOp,resolve,h5,Deferred.ofValue,invoke,Sem.run_bind,Sem.run_pure,Result.andThen]
    rw [show (#[]:Array Value)++args.map a.eval=args.map a.eval from by simp]
   rw [hrun,hy]
   refine ⟨fun hh=>(by cases hh),roundIn_of_wpIn (F:=FW r) (fw_fn r _) ?_⟩
   have e3:(ps.toArray.zip (args.map a.eval)).foldl (fun tmps (x:Tmp × Value)=>tmps.setIfInBounds x.1 x.2) tmps=(ps.zip (args.toList.map a.eval)).foldl (fun tmps (x:Nat × Value)=>tmps.setIfInBounds x.1 x.2) tmps:=by
    rw [← Array.foldl_toList];simp
   refine hrc _ _ _ _ e2 p.1 (n - 1) σ { tmps:=_,defers:=[] } w _ (by show FrR σ Nl fr1 ((ps.toArray.zip (args.map a.eval)).foldl (fun tmps (x:Tmp × Value)=>tmps.setIfInBounds x.1 x.2) tmps);rw [e3];exact hfr) trivial H ?_
   intro σ1 a1 w1 le1 hfr1 hds1 H1
   unfold yield2 at e
   split at e
   ·rename_i fr2 N2 ps2 asg2 body2 fn2 d2 hq1 hg2
    obtain ⟨q2,e4,e⟩:=bind_ok e
    obtain ⟨p1,o1,k1,k2,tmps2,dq2,fnl2,k3,k4,rfl⟩:=H1.g.obj _ _ hg2
    have hm1:=le1 _ _ hm
    rw [hm1] at k1;obtain rfl:=Option.some.inj k1
    have hlow1:=(H1.g.low _ _ hm1).2
    rw [hq1]
    refine ⟨_,run_beginRound k2 rfl,?_⟩
    have H2:=H1.turn (b':=.loop false fr2 N2 ps2 asg2 body2 fn2 d2) hg2 hm1 (turns_setObj (o:=.loop { state:=.busy,pending:=none,fn:=fnl2,tmps:=tmps2,params:=ps2.toArray,assign:=asg2,body:=body2,defers:=dq2.1 }) hlow1) ⟨tmps2,dq2,fnl2,k3,k4,rfl⟩
    refine hrc _ _ _ _ e4 p.1 (n - 1) σ1 a1 _ _ hfr1 hds1 H2 ?_
    intro σ2 a2 w2 le2 hfr2 hds2 H3
    unfold yield3 at e
    split at e
    ·rename_i fr3 N3 ps3 asg3 body3 fn3 d3 hq2 hg3
     obtain rfl:=R.ok.inj e
     obtain ⟨p2,o2,m1,m2,tmps3,dq3,fnl3,m3,m4,rfl⟩:=H3.g.obj _ _ hg3
     have hm2:=le2 _ _ hm1
     rw [hm2] at m1;obtain rfl:=Option.some.inj m1
     have hlow2:=(H3.g.low _ _ hm2).2
     rw [hq2]
     refine ⟨_,_,run_endRound none m2,?_⟩
     have H4:=H3.turn (b':=.loop true fr3 N3 ps3 asg3 body3 fn3 d3) hg3 hm2 (turns_setObj (o:=.loop { state:=.ready,pending:=none,fn:=fnl3,tmps:=tmps3,params:=ps3.toArray,assign:=asg3,body:=body3,defers:=dq3.1 }) hlow2) ⟨tmps3,dq3,fnl3,m3,m4,rfl⟩
     exact k σ2 (.bool true) _ a.defers (le1.trans le2) den_bB (hds.mono (le1.trans le2)) H4
    ·cases e
   ·cases e
  ·cases e
 ·cases e
theorem kindC_le (c:Call) (hc:∀ f args ats,c=⟨.value f,args,ats⟩→False):kindOp (.call c)≤3:=by
 obtain ⟨cl,args,ats⟩:=c
 cases cl with
 | value f=>exact (hc f args ats rfl).elim
 | invoke r m=>simp [kindOp,kindC]
 | builtin bt=>simp only [kindOp,kindC];cases bt <;> simp [kindB]
theorem opS_ok {w0:World} {r:Option Nat} {rnd:Bool} {N:Nat} {fr:T V} {h:Hp} {ds:List Df} {cf:CF} {rc:RC} {op:Op} {q:AD} (hr:rnd=r.isSome) (hcf:CFok w0 cf) (hrc:RCok w0 rc) (hk:kindOp op≤5)
 (e:opS cf rc rnd N fr h ds op=.ok q):OpOk w0 r N fr h ds op q:=by
 unfold opS at e
 split at e
 ·rename_i c
  unfold oCallS at e
  split at e
  ·obtain ⟨p,e1,rfl⟩:=withD_ok e
   exact call_ok hcf hrc e1
  ·rename_i c hc
   obtain ⟨p,e1,rfl⟩:=withD_ok e
   exact opL_ok (by intro c hcc;cases hcc) (kindC_le _ hc) e1
 ·rename_i c
  unfold oDefer at e
  split at e
  ·rename_i f args ats
   split at e
   ·rename_i gf caps vs hf hvs
    obtain rfl:=R.ok.inj e
    intro n σ a w K Q dst ty pos af g he hds H k
    cases r with
    | some l=>cases hr
    | none=>
     obtain ⟨pa,ca,h3,h4,h5⟩:=den_f (he f (by simp [Op.operands,Call.operands]) _ hf)
     simp only [denL_nil,Option.some.injEq] at h3
     subst h3
     have h6:=EvO.list (fun x hx=>he x (by simp [Op.operands,Call.operands];exact .inr (by simpa using hx))) hvs
     refine ⟨fun f _=>fw_fn none f,?_⟩
     have hrun:(Oper.semAt (FW none).round a.eval ⟨dst,.defer ⟨.value f,args,ats⟩,ty,pos,af,g⟩).run PG w=.ok (.defer { target:=.fn (.func gf) ca.toArray,args:=(args.toList.map a.eval).toArray }) w:=by
      rw [show (FW none).round=none from rfl,Oper.semAt_none]
      simp [execOp,resolve,h5,Deferred.ofValue,Result.andThen]
      rw [← Array.toList_inj];simp
     rw [hrun]
     exact k σ undef w _ (Sg.le.refl σ) den_undef ⟨⟨ca,_,h4,h6,rfl⟩,hds⟩ H
   ·cases e
  ·cases e
 ·rename_i hc hd
  obtain ⟨p,e1,rfl⟩:=withD_ok e
  refine opL_ok hd ?_ e1
  revert hc hd
  cases op <;> simp [kindOp]
  ·simp only [kindCv];split <;> simp
end Go.Proofs.YtbcdgcodnkgdoaaGreat.Run
namespace Go.Proofs.YtbcdgcodnkgdoaaGreat.Run
open Go Go.RowKit
theorem kindOp_le (op:Op):kindOp op≤5:=by
 cases op <;> simp [kindOp]
 ·simp only [kindCv];split <;> simp
 ·rename_i c
  obtain ⟨cl,args,ats⟩:=c
  cases cl with
  | value f=>simp [kindC]
  | invoke r m=>simp [kindC]
  | builtin bt=>simp only [kindC];cases bt <;> simp [kindB]
theorem putD_ok {N:Nat} {fr fr':T V} {d:Option Nat} {v:V} (e:putD N fr d v=.ok fr'):(d=none∧fr'=fr)∨∃ k,d=some k∧k < N∧fr'=fset N fr k v:=by
 cases d with
 | none=>exact .inl ⟨rfl,(R.ok.inj e).symm⟩
 | some k=>
  obtain ⟨h1,h2⟩:=when_ok e
  exact .inr ⟨k,rfl,blt_lt h1,(R.ok.inj h2).symm⟩
theorem FrR.putD {σ:Sg} {N:Nat} {fr fr':T V} {a:Act} {d:Option Nat} {v:V} {x:Value} (h:FrR σ N fr a.tmps) (e:Run.putD N fr d v=.ok fr') (hv:den σ v=some x):FrR σ N fr' (a.put d x).tmps:=by
 rcases putD_ok e with ⟨rfl,rfl⟩ | ⟨k,rfl,hk,rfl⟩
 ·exact h
 ·exact h.put hk hv
theorem put_defers (a:Act) (d:Option Nat) (x:Value):(a.put d x).defers=a.defers:=by cases d <;> rfl
def At (σ:Sg) (N:Nat) (fr:T V) (tmps:Array Value) (k:Nat):Prop:=∀ v,fget N fr k=some v→∃ x,den σ v=some x∧tmps[k]?=some x
theorem wants_ok {σ:Sg} {N:Nat} {fr:T V} {tmps:Array Value} {ops:List Oper} {o:Oper} {b:Bool} (h:wants N fr (guardOf ops o)=some b) (ha:∀ k j,guardOf ops o=some (some k,j)→At σ N fr tmps k):Region.wanted o (yielded ops.toArray tmps)=b:=by
 unfold guardOf at h ha
 unfold Region.wanted
 split at h
 ·rename_i hg
  rw [hg]
  exact Option.some.inj h
 ·rename_i j wn hg
  rw [hg] at ha ⊢
  simp only at ha ⊢
  cases ho:ops[j]? with
  | none=>rw [ho] at h;cases h
  | some o'=>
   rw [ho] at h ha
   simp only at h ha
   cases hd:o'.dst with
   | none=>rw [hd] at h;cases h
   | some d=>
    rw [hd] at h ha
    have ha':=ha d wn rfl
    unfold wants at h
    simp only at h
    cases hf:fget N fr d with
    | none=>rw [hf] at h;cases h
    | some v=>
     rw [hf] at h
     obtain ⟨x,h1,h2⟩:=ha' v hf
     have hy:yielded ops.toArray tmps j=(match x with | .bool b=>some b | _=>none):=by
      unfold yielded
      simp only [List.getElem?_toArray,ho,Option.bind_some,hd,h2]
      cases x <;> rfl
     rw [hy]
     cases v with
     | b c=>
      obtain rfl:=den_b h1
      obtain rfl:=Option.some.inj h
      cases c <;> cases wn <;> rfl
     | t l=>
      obtain ⟨a,_,rfl⟩:=den_t h1
      obtain rfl:=Option.some.inj h
      cases wn <;> rfl
     | _=>cases h
theorem stepO_ok {cf:CF} {rc:RC} {rnd:Bool} {N:Nat} {g:Option (Option Nat × Bool)} {d:Option Nat} {op:Op} {x:X} {q:VX} (e:stepO cf rc rnd N g d op x=.ok q):
 (wants N x.fr g=some false∧putD N x.fr d (.t [])=.ok q.x.fr∧q.v=.t []∧q.x.h=x.h∧q.x.ds=x.ds) ∨
 (wants N x.fr g=some true∧∃ p:AD,opS cf rc rnd N x.fr x.h x.ds op=.ok p∧putD N x.fr d p.v=.ok q.x.fr∧q.v=p.v∧q.x.h=p.h∧q.x.ds=p.ds):=by
 obtain ⟨fr,h,ds⟩:=x
 have e0:stepO cf rc rnd N g d op ⟨fr,h,ds⟩=Option.rec (motive:=fun _=>R VX) (.er [152]) (fun b=>Bool.rec (motive:=fun _=>R VX) (stepA N fr d (.ok ⟨.t [],h,ds⟩)) (stepA N fr d (opS cf rc rnd N fr h ds op)) b) (wants N fr g):=rfl
 rw [e0] at e
 cases hw:wants N fr g with
 | none=>rw [hw] at e;cases e
 | some b=>
  rw [hw] at e
  cases b with
  | false=>
   obtain ⟨p,e1,e2⟩:=bind_ok (show (R.ok (⟨.t [],h,ds⟩:AD)).bind _=.ok q from e)
   obtain rfl:=R.ok.inj e1
   obtain ⟨fr',e3,e4⟩:=bind_ok (show (putD N fr d (.t [])).bind _=.ok q from e2)
   obtain rfl:=R.ok.inj e4
   exact .inl ⟨rfl,e3,rfl,rfl,rfl⟩
  | true=>
   obtain ⟨p,e1,e2⟩:=bind_ok (show (opS cf rc rnd N fr h ds op).bind _=.ok q from e)
   obtain ⟨v,h',ds'⟩:=p
   obtain ⟨fr',e3,e4⟩:=bind_ok (show (putD N fr d v).bind _=.ok q from e2)
   obtain rfl:=R.ok.inj e4
   exact .inr ⟨rfl,_,e1,e3,rfl,rfl,rfl⟩
theorem exO_ok {w0:World} {r:Option Nat} {rnd:Bool} {N:Nat} {cf:CF} {rc:RC} (hr:rnd=r.isSome) (hcf:CFok w0 cf) (hrc:RCok w0 rc) {ops:List Oper}:∀ {l:List Oper} {acc:List Nat} {x q:X},exO cf rc rnd N (dig ops l acc) x=.ok q→
 ∀ (n:Nat) (σ:Sg) (a:Act) (w:World) (Q:Exit→Act→World→Prop),FrR σ N x.fr a.tmps→DsR σ x.ds a.defers→Den w0 σ x.h w→
 (∀ σ' a' w',σ.le σ'→FrR σ' N q.fr a'.tmps→DsR σ' q.ds a'.defers→Den w0 σ' q.h w'→Q .normal a' w')→wpListIn (FW r) n PG ops.toArray Q l a w:=by
 intro l
 induction l with
 | nil=>
  intro acc x q e n σ a w Q hf hd H k
  obtain rfl:=R.ok.inj (show R.ok x=.ok q from e)
  exact k σ a w (Sg.le.refl σ) hf hd H
 | cons o l ih=>
  intro acc x q e n σ a w Q hf hd H k
  have e0:exO cf rc rnd N (dig ops (o::l) acc) x=(R.tag (match o.dst with | some d=>1000 + d | none=>999) (stepO cf rc rnd N (guardOf ops o) o.dst o.op x)).bind fun q=>VX.rec (motive:=fun _=>R X) (fun _ x=>exO cf rc rnd N (dig ops l (acc++[maskOf acc o])) x) q:=rfl
  rw [e0] at e
  obtain ⟨p,e1,e2⟩:=bind_ok e
  obtain ⟨pv,px⟩:=p
  replace e1:=tag_ok e1
  unfold wpListIn
  rcases stepO_ok e1 with ⟨h1,h2,h3,h4,h5⟩ | ⟨h1,p,h2,h3,h4,h5,h6⟩
  ·rw [if_neg (by rw [wants_ok h1 (fun k _ _=>hf.at_ k)];simp)]
   refine ⟨fun f _=>fw_fn r f,?_⟩
   simp only at h2 h3 h4 h5
   refine ih e2 n σ _ w Q (hf.putD h2 den_undef) ?_ (by rw [h4];exact H) k
   rw [put_defers,h5];exact hd
  ·rw [if_pos (by rw [wants_ok h1 (fun k _ _=>hf.at_ k)])]
   simp only at h3 h4 h5 h6
   obtain ⟨dst,op,ty,pos,af,g⟩:=o
   refine opS_ok hr hcf hrc (kindOp_le _) h2 n σ a w _ Q dst ty pos af g (hf.ev _) hd H ?_
   intro σ' y w' dd le hy hdd H'
   refine ih e2 n σ' _ w' Q ?_ ?_ (by rw [h5];exact H') (fun σ2 a2 w2 le2=>k σ2 a2 w2 (le.trans le2))
   ·exact FrR.putD (a:={ a with defers:=dd }) (hf.mono le) h3 hy
   ·rw [put_defers,h6];exact hdd
end Go.Proofs.YtbcdgcodnkgdoaaGreat.Run
namespace Go.Proofs.YtbcdgcodnkgdoaaGreat.Run
open Go Go.RowKit
theorem eq1_eq {u v:V} (h:eq1 u v=true):u=v:=by
 unfold eq1 at h
 split at h <;> first
  | (cases h;done)
  | rfl
  | (simp only [Bool.and_eq_true,Nat.beq_eq,decide_eq_true_eq] at h;obtain ⟨⟨⟨rfl,rfl⟩,rfl⟩,rfl⟩:=h;rfl)
  | (simp only [Bool.and_eq_true,Nat.beq_eq,decide_eq_true_eq] at h;obtain ⟨rfl,rfl⟩:=h;rfl)
  | (simp only [Nat.beq_eq] at h;subst h;rfl)
  | (have:=eq_of_beq h;subst this;rfl)
  | (have h2:=eq_of_beq h
     rename_i x y
     congr 1
     obtain ⟨a⟩:=x
     obtain ⟨b⟩:=y
     congr 1
     exact Array.toList_inj.1 h2)
theorem eqL_eq:∀ {x y:List V},eqL x y=true→x=y:=by
 intro x
 induction x with
 | nil=>intro y h;cases y with
  | nil=>rfl
  | cons v r=>cases h
 | cons u r ih=>intro y h;cases y with
  | nil=>cases h
  | cons v q=>
   simp only [eqL,Bool.and_eq_true] at h
   rw [eq1_eq h.1,ih h.2]
theorem eqW_eq {u v:V} (h:eqW u v=true):u=v:=by
 unfold eqW at h
 split at h
 ·rw [eqL_eq h]
 ·rw [eqL_eq h]
 ·exact eq1_eq h
theorem within_bit {a b j:Nat} (h:within a b=true) (ha:a.testBit j=true):b.testBit j=true:=by
 unfold within at h
 rw [Nat.beq_eq] at h
 rw [← h] at ha
 rw [Nat.testBit_and] at ha
 simp only [Bool.and_eq_true] at ha
 exact ha.2
structure Ev where
 g:Dg
 b:Bool
 v:V
 fr:T V
 h:Hp
 h':Hp
 ht:Hp
 ds:List Df
 ds':List Df
 blk:B
def Ev.tch (e:Ev):Bool:=Nat.ble 3 e.g.k
structure Own (cf:CF) (rc:RC) (rnd:Bool) (N:Nat) (e:Ev):Prop where
 wn:wants N e.fr e.g.g=some e.b
 no:e.b=false→e.v=.t []∧e.h'=e.h∧e.ds'=e.ds
 c1:e.g.k≤1→e.b=true→e.h'=e.h∧e.ds'=e.ds∧∃ q,opL N e.fr e.ht e.g.o.op=.ok q∧q.v=e.v
 c2:e.g.k=2→e.b=true→e.h'=e.h.new e.blk∧e.ds'=e.ds∧(kindOp e.g.o.op=2→Lays N e.fr e.h.n e.g.o.op e.v e.blk)
 c3:3≤e.g.k→e.b=true→∃ q:AD,opS cf rc rnd N e.fr e.h e.ds e.g.o.op=.ok q∧q.v=e.v∧q.h=e.h'∧q.ds=e.ds'
def Lnk (cf:CF) (rc:RC) (rnd:Bool) (N:Nat):T V→Hp→Hp→List Df→List Ev→T V × Hp × Hp × List Df→Prop
 | fr,h,ht,ds,[],out=>out=(fr,h,ht,ds)
 | fr,h,ht,ds,e::r,out=>e.fr=fr∧e.h=h∧e.ht=ht∧e.ds=ds∧Own cf rc rnd N e∧∃ fr',putD N fr e.g.o.dst e.v=.ok fr'∧Lnk cf rc rnd N fr' e.h' (if e.tch then e.h' else ht) e.ds' r out
theorem Lnk.append {cf:CF} {rc:RC} {rnd:Bool} {N:Nat} {e:List Ev}:∀ {l:List Ev} {fr h ht ds} {m:T V × Hp × Hp × List Df} {out},Lnk cf rc rnd N fr h ht ds l m→Lnk cf rc rnd N m.1 m.2.1 m.2.2.1 m.2.2.2 e out→Lnk cf rc rnd N fr h ht ds (l++e) out:=by
 intro l
 induction l with
 | nil=>intro fr h ht ds m out h1 h2;obtain rfl:m=_:=h1;exact h2
 | cons x l ih=>intro fr h ht ds m out h1 h2;obtain ⟨a,b,c,d,o,fr',p,h1⟩:=h1;exact ⟨a,b,c,d,o,fr',p,ih h1 h2⟩
structure Two (N:Nat) (j:Nat) (a c:Ev):Prop where
 tt:a.tch=true→c.tch=true→c.g.m.testBit j=true
 at_:a.g.k=2→c.tch=true→c.g.m.testBit j=true
 ta:a.tch=true→c.g.k=2→c.g.m.testBit j=true
 tr:a.tch=true→c.g.k=1→c.b=true→c.g.m.testBit j=false→∃ q,opL N c.fr a.ht c.g.o.op=.ok q∧q.v=c.v
 rt:a.g.k=1→a.b=true→c.tch=true→c.g.m.testBit j=false→∃ q,opL N a.fr c.h' a.g.o.op=.ok q∧q.v=a.v
def Pairs (N:Nat) (pre:List Ev):Prop:=∀ i c,pre[i]?=some c→∀ j a,j < i→pre[j]?=some a→Two N j a c
structure Pre (pre:List Ev) (s:An):Prop where
 i:s.i=pre.length
 tm:∀ j e,pre[j]?=some e→e.tch=true→s.tm.testBit j=true
 am:∀ j e,pre[j]?=some e→e.g.k=2→s.am.testBit j=true
 th:∀ j e,pre[j]?=some e→e.tch=true→(j,e.ht)∈s.th
 rs:∀ j e,pre[j]?=some e→e.g.k=1→e.b=true→(⟨j,e.g.o.op,e.fr,e.v⟩:Rs)∈s.rs
theorem same_ok {N:Nat} {fr:T V} {h:Hp} {op:Op} {v:V} (e:same N fr h op v=true):∃ q,opL N fr h op=.ok q∧q.v=v:=by
 have e0:same N fr h op v=R.rec (motive:=fun _=>Bool) (fun q=>A.rec (motive:=fun _=>Bool) (fun u _=>eqW u v) q) (fun _=>false) (opL N fr h op):=rfl
 rw [e0] at e
 cases hq:opL N fr h op with
 | er l=>rw [hq] at e;cases e
 | ok q=>rw [hq] at e;obtain ⟨u,h'⟩:=q;exact ⟨_,rfl,eqW_eq e⟩
theorem thOk_ok {N m:Nat} {fr:T V} {op:Op} {v:V}:∀ {th:List (Nat × Hp)},thOk N m fr op v th=true→∀ r∈th,m.testBit r.1=false→∃ q,opL N fr r.2 op=.ok q∧q.v=v:=by
 intro th
 induction th with
 | nil=>intro _ r hr;simp at hr
 | cons x th ih=>
  intro e r hr hm
  have e0:thOk N m fr op v (x::th)=iteB (m.testBit x.1) (thOk N m fr op v th) (iteB (same N fr x.2 op v) (thOk N m fr op v th) false):=rfl
  rw [e0] at e
  have key:thOk N m fr op v th=true∧(m.testBit x.1=false→same N fr x.2 op v=true):=by
   cases hb:m.testBit x.1 with
   | true=>rw [hb] at e;exact ⟨e,fun h=>by cases h⟩
   | false=>
    rw [hb] at e
    cases hs:same N fr x.2 op v with
    | true=>rw [hs] at e;exact ⟨e,fun _=>rfl⟩
    | false=>rw [hs] at e;cases e
  rcases List.mem_cons.1 hr with rfl | hr
  ·exact same_ok (key.2 hm)
  ·exact ih key.1 r hr hm
theorem rsOk_ok {N m:Nat} {h:Hp}:∀ {rs:List Rs},rsOk N m h rs=true→∀ r∈rs,m.testBit r.i=false→∃ q,opL N r.fr h r.op=.ok q∧q.v=r.v:=by
 intro rs
 induction rs with
 | nil=>intro _ r hr;simp at hr
 | cons x rs ih=>
  intro e r hr hm
  have e0:rsOk N m h (x::rs)=iteB (m.testBit x.i) (rsOk N m h rs) (iteB (same N x.fr h x.op x.v) (rsOk N m h rs) false):=rfl
  rw [e0] at e
  have key:rsOk N m h rs=true∧(m.testBit x.i=false→same N x.fr h x.op x.v=true):=by
   cases hb:m.testBit x.i with
   | true=>rw [hb] at e;exact ⟨e,fun h=>by cases h⟩
   | false=>
    rw [hb] at e
    cases hs:same N x.fr h x.op x.v with
    | true=>rw [hs] at e;exact ⟨e,fun _=>rfl⟩
    | false=>rw [hs] at e;cases e
  rcases List.mem_cons.1 hr with rfl | hr
  ·exact same_ok (key.2 hm)
  ·exact ih key.1 r hr hm
theorem getElem?_snoc {α:Type} {l:List α} {x y:α} {i:Nat} (h:(l++[x])[i]?=some y):(i < l.length∧l[i]?=some y)∨(i=l.length∧y=x):=by
 by_cases hi:i < l.length
 ·rw [List.getElem?_append_left hi] at h;exact .inl ⟨hi,h⟩
 ·rw [List.getElem?_append_right (by omega)] at h
  have:=(List.getElem?_eq_some_iff.1 h).1
  simp at this
  have hi2:i=l.length:=by omega
  subst hi2
  simp at h
  exact .inr ⟨rfl,h.symm⟩
theorem stepA_ok {N:Nat} {fr:T V} {d:Option Nat} {r:R AD} {q:VX} (e:stepA N fr d r=.ok q):∃ p:AD,r=.ok p∧putD N fr d p.v=.ok q.x.fr∧q.v=p.v∧q.x.h=p.h∧q.x.ds=p.ds:=by
 obtain ⟨p,e1,e2⟩:=bind_ok e
 obtain ⟨v,h',ds'⟩:=p
 obtain ⟨fr',e3,e4⟩:=bind_ok (show (putD N fr d v).bind _=.ok q from e2)
 obtain rfl:=R.ok.inj e4
 exact ⟨_,e1,e3,rfl,rfl,rfl⟩
theorem exP_ok {N:Nat} {fr:T V} {d:Option Nat} {op:Op} {b:Bool} {ht:Hp} {q:VX} (e:exP N fr d op b ht=.ok q):putD N fr d q.v=.ok q.x.fr∧(b=false→q.v=.t [])∧(b=true→∃ p,opL N fr ht op=.ok p∧p.v=q.v):=by
 obtain ⟨p,e1,e2⟩:=bind_ok e
 obtain ⟨v,h'⟩:=p
 obtain ⟨fr',e3,e4⟩:=bind_ok (show (putD N fr d v).bind _=.ok q from e2)
 obtain rfl:=R.ok.inj e4
 refine ⟨e3,fun hb=>?_,fun hb=>?_⟩
 ·subst hb
  have:=R.ok.inj (show (R.ok ⟨.t [],ht⟩:R A)=.ok ⟨v,h'⟩ from e1)
  simp only [A.mk.injEq] at this
  exact this.1.symm
 ·subst hb
  exact ⟨_,e1,rfl⟩
theorem trace1 {cf:CF} {rc:RC} {rnd:Bool} {N:Nat} {g:Dg} {s s':An} {pre:List Ev} {fr0:T V} {h0 ht0:Hp} {ds0:List Df} (hk:g.k=kindOp g.o.op)
 (e:exA2 cf rc rnd N g.o.dst g.o.op g.g g.k g.m s.i s.tm s.am s.ht s.th s.rs s.x=.ok s') (hp:Pre pre s) (hpp:Pairs N pre) (hl:Lnk cf rc rnd N fr0 h0 ht0 ds0 pre (s.x.fr,s.x.h,s.ht,s.x.ds)):
 ∃ ev:Ev,ev.g=g∧Pre (pre++[ev]) s'∧Pairs N (pre++[ev])∧Lnk cf rc rnd N fr0 h0 ht0 ds0 (pre++[ev]) (s'.x.fr,s'.x.h,s'.ht,s'.x.ds):=by
 obtain ⟨i,tm,am,ht,th,rs,x⟩:=s
 obtain ⟨fr,h,ds⟩:=x
 simp only at e hl
 have e0:exA2 cf rc rnd N g.o.dst g.o.op g.g g.k g.m i tm am ht th rs ⟨fr,h,ds⟩=Option.rec (motive:=fun _=>R An) (.er [163]) (fun b=>R.tag (match g.o.dst with | some d=>2000 + d | none=>1999) (exA1 cf rc rnd N g.o.dst g.o.op b g.k g.m i tm am ht th rs fr h ds)) (wants N fr g.g):=rfl
 rw [e0] at e
 cases hw:wants N fr g.g with
 | none=>rw [hw] at e;cases e
 | some b=>
 rw [hw] at e
 replace e:=tag_ok e
 unfold exA1 at e
 have hpi:i=pre.length:=hp.i
 -- what is common: the lists
 have mk:∀ (ev:Ev) (s':An),ev.g=g→ev.fr=fr→ev.h=h→ev.ht=ht→ev.ds=ds→Own cf rc rnd N ev→putD N fr g.o.dst ev.v=.ok s'.x.fr→s'.x.h=ev.h'→s'.ht=(if ev.tch then ev.h' else ht)→s'.x.ds=ev.ds'→s'.i=i + 1→
  (ev.tch=true→s'.tm=tm ||| 2 ^ i∧s'.am=am∧s'.th=(i,ht)::th∧s'.rs=rs∧within (tm ||| am) g.m=true∧rsOk N g.m ev.h' rs=true)→
  (ev.g.k=2→s'.tm=tm∧s'.am=am ||| 2 ^ i∧s'.th=th∧s'.rs=rs∧within tm g.m=true)→
  (ev.g.k=1→s'.tm=tm∧s'.am=am∧s'.th=th∧(b=true→s'.rs=⟨i,g.o.op,fr,ev.v⟩::rs∧thOk N g.m fr g.o.op ev.v th=true)∧(b=false→s'.rs=rs))→
  (ev.g.k=0→s'.tm=tm∧s'.am=am∧s'.th=th∧s'.rs=rs)→ev.b=b→
  Pre (pre++[ev]) s'∧Pairs N (pre++[ev])∧Lnk cf rc rnd N fr0 h0 ht0 ds0 (pre++[ev]) (s'.x.fr,s'.x.h,s'.ht,s'.x.ds):=by
  intro ev s' hg hfr hh hht hds own hput hh' hht' hds' hi k3 k2 k1 k0 hb
  have hkk:ev.g.k=0∨ev.g.k=1∨ev.g.k=2∨ev.tch=true:=by
   unfold Ev.tch
   by_cases hle:3≤ev.g.k
   ·exact .inr (.inr (.inr (by simpa [Nat.ble_eq] using hle)))
   ·omega
  have htm:∀ j,tm.testBit j=true→s'.tm.testBit j=true:=fun j hj=>by
   rcases hkk with q | q | q | q
   ·rw [(k0 q).1];exact hj
   ·rw [(k1 q).1];exact hj
   ·rw [(k2 q).1];exact hj
   ·rw [(k3 q).1,Nat.testBit_or,hj];rfl
  have ham:∀ j,am.testBit j=true→s'.am.testBit j=true:=fun j hj=>by
   rcases hkk with q | q | q | q
   ·rw [(k0 q).2.1];exact hj
   ·rw [(k1 q).2.1];exact hj
   ·rw [(k2 q).2.1,Nat.testBit_or,hj];rfl
   ·rw [(k3 q).2.1];exact hj
  have hth:∀ r,r∈th→r∈s'.th:=fun r hr=>by
   rcases hkk with q | q | q | q
   ·rw [(k0 q).2.2.1];exact hr
   ·rw [(k1 q).2.2.1];exact hr
   ·rw [(k2 q).2.2.1];exact hr
   ·rw [(k3 q).2.2.1];exact List.mem_cons_of_mem _ hr
  have hrs:∀ r,r∈rs→r∈s'.rs:=fun r hr=>by
   rcases hkk with q | q | q | q
   ·rw [(k0 q).2.2.2];exact hr
   ·cases b with
    | true=>rw [((k1 q).2.2.2.1 rfl).1];exact List.mem_cons_of_mem _ hr
    | false=>rw [(k1 q).2.2.2.2 rfl];exact hr
   ·rw [(k2 q).2.2.2.1];exact hr
   ·rw [(k3 q).2.2.2.1];exact hr
  refine ⟨⟨by rw [hi,hpi];simp,fun j e hj ht'=>?_,fun j e hj ha=>?_,fun j e hj ht'=>?_,fun j e hj hr hbb=>?_⟩,fun c ec hc j a hjc ha=>?_,?_⟩
  ·rcases getElem?_snoc hj with ⟨_,hj⟩ | ⟨rfl,rfl⟩
   ·exact htm j (hp.tm j e hj ht')
   ·rw [(k3 ht').1,Nat.testBit_or,← hpi,Nat.testBit_two_pow_self];simp
  ·rcases getElem?_snoc hj with ⟨_,hj⟩ | ⟨rfl,rfl⟩
   ·exact ham j (hp.am j e hj ha)
   ·rw [(k2 ha).2.1,Nat.testBit_or,← hpi,Nat.testBit_two_pow_self];simp
  ·rcases getElem?_snoc hj with ⟨_,hj⟩ | ⟨rfl,rfl⟩
   ·exact hth _ (hp.th j e hj ht')
   ·rw [(k3 ht').2.2.1,← hpi,hht];exact List.mem_cons_self ..
  ·rcases getElem?_snoc hj with ⟨_,hj⟩ | ⟨rfl,rfl⟩
   ·exact hrs _ (hp.rs j e hj hr hbb)
   ·rw [((k1 hr).2.2.2.1 (hb ▸ hbb)).1,← hpi,hfr,hg];exact List.mem_cons_self ..
  ·rcases getElem?_snoc hc with ⟨hlt,hc⟩ | ⟨rfl,rfl⟩
   ·rw [List.getElem?_append_left (by omega)] at ha
    exact hpp c ec hc j a hjc ha
   ·rw [List.getElem?_append_left hjc] at ha
    refine ⟨fun h1 h2=>?_,fun h1 h2=>?_,fun h1 h2=>?_,fun h1 h2 h3 h4=>?_,fun h1 h2 h3 h4=>?_⟩
    ·rw [hg];exact within_bit (k3 h2).2.2.2.2.1 (by rw [Nat.testBit_or,hp.tm j a ha h1];rfl)
    ·rw [hg];exact within_bit (k3 h2).2.2.2.2.1 (by rw [Nat.testBit_or,hp.am j a ha h1];simp)
    ·rw [hg];exact within_bit (k2 h2).2.2.2.2 (hp.tm j a ha h1)
    ·have:=thOk_ok ((k1 h2).2.2.2.1 (hb ▸ h3)).2 _ (hp.th j a ha h1) (by rw [← hg];exact h4)
     rw [hfr,hg];exact this
    ·exact rsOk_ok (k3 h3).2.2.2.2.2 _ (hp.rs j a ha h1 h2) (by rw [← hg];exact h4)
  ·refine Lnk.append hl ⟨hfr,hh,hht,hds,own,_,by rw [hg];exact hput,?_⟩
   show _=_
   rw [hh',hht',hds']
 split at e
 ·rename_i hk0
  obtain ⟨q,e1,e2⟩:=bind_ok e
  obtain rfl:=R.ok.inj e2
  obtain ⟨p1,p2,p3⟩:=exP_ok e1
  refine ⟨⟨g,b,q.v,fr,h,h,ht,ds,ds,.dfr⟩,rfl,mk _ _ rfl rfl rfl rfl rfl ⟨hw,fun hb=>⟨p2 hb,rfl,rfl⟩,fun _ hb=>⟨rfl,rfl,p3 hb⟩,fun hh _=>?_,fun hh _=>?_⟩ p1 rfl ?_ rfl rfl ?_ ?_ ?_ ?_ rfl⟩
  ·simp only at hh;omega
  ·simp only at hh;omega
  ·rw [if_neg];simp [Ev.tch];omega
  ·intro hh;simp [Ev.tch] at hh;omega
  ·intro hh;simp only at hh;omega
  ·intro hh;simp only at hh;omega
  ·intro _;exact ⟨rfl,rfl,rfl,rfl⟩
 ·rename_i hk1
  obtain ⟨q,e1,e2⟩:=bind_ok e
  obtain ⟨e3,e4⟩:=when_ok e2
  obtain rfl:=R.ok.inj e4
  obtain ⟨p1,p2,p3⟩:=exP_ok e1
  refine ⟨⟨g,b,q.v,fr,h,h,ht,ds,ds,.dfr⟩,rfl,mk _ _ rfl rfl rfl rfl rfl ⟨hw,fun hb=>⟨p2 hb,rfl,rfl⟩,fun _ hb=>⟨rfl,rfl,p3 hb⟩,fun hh _=>?_,fun hh _=>?_⟩ p1 rfl ?_ rfl rfl ?_ ?_ ?_ ?_ rfl⟩
  ·simp only at hh;omega
  ·simp only at hh;omega
  ·rw [if_neg];simp [Ev.tch];omega
  ·intro hh;simp [Ev.tch] at hh;omega
  ·intro hh;simp only at hh;omega
  ·intro _
   refine ⟨rfl,rfl,rfl,fun hb=>?_,fun hb=>?_⟩
   ·subst hb;exact ⟨rfl,e3⟩
   ·subst hb;rfl
  ·intro hh;simp only at hh;omega
 ·rename_i hk2
  obtain ⟨q,e1,e2⟩:=bind_ok e
  obtain ⟨e3,e4⟩:=when_ok e2
  obtain rfl:=R.ok.inj e4
  obtain ⟨p,p1,p2,p3,p4,p5⟩:=stepA_ok e1
  cases b with
  | false=>
   obtain rfl:=R.ok.inj (show (R.ok ⟨.t [],h,ds⟩:R AD)=.ok p from p1)
   simp only at p2 p3 p4 p5
   refine ⟨⟨g,false,.t [],fr,h,h,ht,ds,ds,.dfr⟩,rfl,mk _ _ rfl rfl rfl rfl rfl ⟨hw,fun _=>⟨rfl,rfl,rfl⟩,fun _ hb=>(by cases hb),fun _ hb=>(by cases hb),fun _ hb=>(by cases hb)⟩ p2 p4 ?_ p5 rfl ?_ ?_ ?_ ?_ rfl⟩
   ·rw [if_neg];simp [Ev.tch];omega
   ·intro hh;simp [Ev.tch] at hh;omega
   ·intro _;exact ⟨rfl,rfl,rfl,rfl,e3⟩
   ·intro hh;simp only at hh;omega
   ·intro hh;simp only at hh;omega
  | true=>
   obtain ⟨r,r1,rfl⟩:=withD_ok (show withD ds (opL N fr h g.o.op)=.ok p from p1)
   obtain ⟨bl,b1,b2⟩:=new_ok (by rw [← hk];exact hk2) r1
   simp only at p2 p3 p4 p5
   refine ⟨⟨g,true,r.v,fr,h,r.h,ht,ds,ds,bl⟩,rfl,mk _ _ rfl rfl rfl rfl rfl ⟨hw,fun hb=>(by cases hb),fun hh _=>?_,fun _ _=>⟨b1,rfl,fun _=>b2⟩,fun hh _=>?_⟩ p2 p4 ?_ p5 rfl ?_ ?_ ?_ ?_ rfl⟩
   ·simp only at hh;omega
   ·simp only at hh;omega
   ·rw [if_neg];simp [Ev.tch];omega
   ·intro hh;simp [Ev.tch] at hh;omega
   ·intro _;exact ⟨rfl,rfl,rfl,rfl,e3⟩
   ·intro hh;simp only at hh;omega
   ·intro hh;simp only at hh;omega
 ·rename_i n0 n1 n2
  obtain ⟨q,e1,e2⟩:=bind_ok e
  obtain ⟨e3,e4⟩:=when_ok e2
  simp only [Bool.and_eq_true] at e3
  obtain rfl:=R.ok.inj e4
  obtain ⟨p,p1,p2,p3,p4,p5⟩:=stepA_ok e1
  have hk3:3≤g.k:=by
   rcases Nat.lt_or_ge g.k 3 with hlt | hge
   ·exfalso
    have:g.k=0∨g.k=1∨g.k=2:=by omega
    rcases this with h | h | h
    ·exact n0 h
    ·exact n1 h
    ·exact n2 h
   ·exact hge
  refine ⟨⟨g,b,p.v,fr,h,p.h,ht,ds,p.ds,.dfr⟩,rfl,mk _ _ rfl rfl rfl rfl rfl ⟨hw,fun hb=>?_,fun hh _=>?_,fun hh _=>?_,fun _ hb=>?_⟩ p2 p4 ?_ p5 rfl ?_ ?_ ?_ ?_ rfl⟩
  ·subst hb
   obtain rfl:=R.ok.inj (show (R.ok ⟨.t [],h,ds⟩:R AD)=.ok p from p1)
   exact ⟨rfl,rfl,rfl⟩
  ·simp only at hh;omega
  ·simp only at hh;omega
  ·subst hb
   exact ⟨p,p1,rfl,rfl,rfl⟩
  ·rw [if_pos]
   ·exact p4
   ·simp [Ev.tch];exact hk3
  ·intro _;exact ⟨rfl,rfl,rfl,rfl,e3.1,by rw [← p4];exact e3.2⟩
  ·intro hh;simp only at hh;omega
  ·intro hh;simp only at hh;omega
  ·intro hh;simp only at hh;omega
theorem trace_ok {cf:CF} {rc:RC} {rnd:Bool} {N:Nat} {ops:List Oper} {fr0:T V} {h0 ht0:Hp} {ds0:List Df}:∀ {l:List Dg} {s s':An} {pre:List Ev},(∀ g∈l,g.k=kindOp g.o.op)→exA cf rc rnd N l s=.ok s'→Pre pre s→Pairs N pre→
 Lnk cf rc rnd N fr0 h0 ht0 ds0 pre (s.x.fr,s.x.h,s.ht,s.x.ds)→∃ tr:List Ev,tr.map (·.g)=l∧Pairs N (pre++tr)∧Lnk cf rc rnd N fr0 h0 ht0 ds0 (pre++tr) (s'.x.fr,s'.x.h,s'.ht,s'.x.ds):=by
 intro l
 induction l with
 | nil=>
  intro s s' pre _ e hp hpp hl
  obtain rfl:=R.ok.inj (show R.ok s=.ok s' from e)
  exact ⟨[],rfl,by simpa using hpp,by simpa using hl⟩
 | cons g l ih=>
  intro s s' pre hk e hp hpp hl
  obtain ⟨s1,e1,e2⟩:=bind_ok (show (_:R An).bind _=.ok s' from e)
  have e1':exA2 cf rc rnd N g.o.dst g.o.op g.g g.k g.m s.i s.tm s.am s.ht s.th s.rs s.x=.ok s1:=e1
  obtain ⟨ev,h1,h2,h3,h4⟩:=trace1 (hk g (by simp)) e1' hp hpp hl
  obtain ⟨tr,h5,h6,h7⟩:=ih (fun g hg=>hk g (by simp [hg])) e2 h2 h3 h4
  exact ⟨ev::tr,by simp [h1,h5],by simpa using h6,by simpa using h7⟩
end Go.Proofs.YtbcdgcodnkgdoaaGreat.Run
namespace Go.Proofs.YtbcdgcodnkgdoaaGreat.Run
open Go Go.RowKit
/-! ### what is known when some have been done -/
def ff (L:Nat→Bool):Nat→(Nat→Option V)→List Ev→(Nat→Option V)
 | _,g,[]=>g
 | i,g,e::r=>ff L (i + 1) (if L i then (fun t=>if e.g.o.dst=some t then some e.v else g t) else g) r
noncomputable def gf (L:Nat→Bool):Nat→(Nat→Option B)→List Ev→(Nat→Option B)
 | _,g,[]=>g
 | i,g,e::r=>gf L (i + 1) (if L i then (if e.tch then e.h'.get else if e.g.k=2∧e.b=true then (fun k=>if k=e.h.n then some e.blk else g k) else g) else g) r
def htf (L:Nat→Bool):Nat→Hp→List Ev→Hp
 | _,h,[]=>h
 | i,h,e::r=>htf L (i + 1) (if L i then (if e.tch then e.h' else h) else h) r
def df (L:Nat→Bool):Nat→List Df→List Ev→List Df
 | _,d,[]=>d
 | i,d,e::r=>df L (i + 1) (if L i then (if e.tch then e.ds' else d) else d) r
theorem ff_app {L:Nat→Bool} {l:List Ev}:∀ {m:List Ev} {i:Nat} {g:Nat→Option V},ff L i g (m++l)=ff L (i + m.length) (ff L i g m) l:=by
 intro m
 induction m with
 | nil=>intro i g;rfl
 | cons e m ih=>intro i g;simp only [List.cons_append,ff,ih,List.length_cons];rw [show i + 1 + m.length=i + (m.length + 1) by omega]
theorem gf_app {L:Nat→Bool} {l:List Ev}:∀ {m:List Ev} {i:Nat} {g:Nat→Option B},gf L i g (m++l)=gf L (i + m.length) (gf L i g m) l:=by
 intro m
 induction m with
 | nil=>intro i g;rfl
 | cons e m ih=>intro i g;simp only [List.cons_append,gf,ih,List.length_cons];rw [show i + 1 + m.length=i + (m.length + 1) by omega]
theorem htf_app {L:Nat→Bool} {l:List Ev}:∀ {m:List Ev} {i:Nat} {g:Hp},htf L i g (m++l)=htf L (i + m.length) (htf L i g m) l:=by
 intro m
 induction m with
 | nil=>intro i g;rfl
 | cons e m ih=>intro i g;simp only [List.cons_append,htf,ih,List.length_cons];rw [show i + 1 + m.length=i + (m.length + 1) by omega]
theorem df_app {L:Nat→Bool} {l:List Ev}:∀ {m:List Ev} {i:Nat} {g:List Df},df L i g (m++l)=df L (i + m.length) (df L i g m) l:=by
 intro m
 induction m with
 | nil=>intro i g;rfl
 | cons e m ih=>intro i g;simp only [List.cons_append,df,ih,List.length_cons];rw [show i + 1 + m.length=i + (m.length + 1) by omega]
theorem f_congr {L L':Nat→Bool}:∀ {l:List Ev} {i:Nat},(∀ j,j < l.length→L (i + j)=L' (i + j))→(∀ g,ff L i g l=ff L' i g l)∧(∀ g,gf L i g l=gf L' i g l)∧(∀ g,htf L i g l=htf L' i g l)∧(∀ g,df L i g l=df L' i g l):=by
 intro l
 induction l with
 | nil=>intro i _;exact ⟨fun _=>rfl,fun _=>rfl,fun _=>rfl,fun _=>rfl⟩
 | cons e l ih=>
  intro i h
  have h0:=h 0 (by simp)
  simp only [Nat.add_zero] at h0
  obtain ⟨a,b,c,d⟩:=ih (i:=i + 1) (fun j hj=>by have:=h (j + 1) (by simp;omega);rwa [show i + (j + 1)=i + 1 + j by omega] at this)
  exact ⟨fun g=>by simp only [ff,h0,a],fun g=>by simp only [gf,h0,b],fun g=>by simp only [htf,h0,c],fun g=>by simp only [df,h0,d]⟩
/-! ### in order -/
section
variable {cf:CF} {rc:RC} {rnd:Bool} {N:Nat}
theorem own_plain {e:Ev} (o:Own cf rc rnd N e) (h:e.tch=false):e.ds'=e.ds∧(e.g.k=2∧e.b=true∨e.h'=e.h):=by
 have hk:e.g.k≤2:=by
  rcases Nat.lt_or_ge e.g.k 3 with h1 | h1
  ·omega
  ·exfalso
   have:e.tch=true:=by simpa [Ev.tch,Nat.ble_eq] using h1
   rw [this] at h;cases h
 cases hb:e.b with
 | false=>have:=o.no hb;exact ⟨this.2.2,.inr this.2.1⟩
 | true=>
  rcases (show e.g.k≤1∨e.g.k=2 by omega) with h1 | h1
  ·have:=o.c1 h1 hb;exact ⟨this.2.1,.inr this.1⟩
  ·exact ⟨(o.c2 h1 hb).2.1,.inl ⟨h1,rfl⟩⟩
theorem Lnk.split {e:Ev} {B:List Ev}:∀ {A:List Ev} {fr h ht ds out},Lnk cf rc rnd N fr h ht ds (A++e::B) out→∃ m:T V × Hp × Hp × List Df,Lnk cf rc rnd N fr h ht ds A m∧Lnk cf rc rnd N m.1 m.2.1 m.2.2.1 m.2.2.2 (e::B) out:=by
 intro A
 induction A with
 | nil=>intro fr h ht ds out hl;exact ⟨(fr,h,ht,ds),rfl,hl⟩
 | cons x A ih=>
  intro fr h ht ds out hl
  obtain ⟨a,b,c,d,o,fr',p,hl⟩:=hl
  obtain ⟨m,h1,h2⟩:=ih hl
  exact ⟨m,⟨a,b,c,d,o,fr',p,h1⟩,h2⟩
theorem canon_fr {L:Nat→Bool} {t:Nat}:∀ {l:List Ev} {fr h ht ds out} {i:Nat} {g:Nat→Option V},Lnk cf rc rnd N fr h ht ds l out→(∀ v,fget N fr t=some v→g t=some v)→(∀ j e,l[j]?=some e→e.g.o.dst=some t→L (i + j)=true)→
 ∀ v,fget N out.1 t=some v→ff L i g l t=some v:=by
 intro l
 induction l with
 | nil=>intro fr h ht ds out i g hl hg _ v hv;obtain rfl:out=_:=hl;exact hg v hv
 | cons e l ih=>
  intro fr h ht ds out i g hl hg hL v hv
  obtain ⟨a,b,c,d,o,fr',p,hl⟩:=hl
  refine ih hl (fun u hu=>?_) (fun j e' he hd=>by have:=hL (j + 1) e' (by simpa using he) hd;rwa [show i + (j + 1)=i + 1 + j by omega] at this) v hv
  rcases putD_ok p with ⟨hd,rfl⟩ | ⟨k,hd,hk,rfl⟩
  ·have:(if L i=true then (fun t=>if e.g.o.dst=some t then some e.v else g t) else g) t=g t:=by
    split
    ·show (if e.g.o.dst=some t then some e.v else g t)=g t
     rw [if_neg (by rw [hd];simp)]
    ·rfl
   rw [this];exact hg u hu
  ·rcases fget_set hk hu with ⟨rfl,rfl⟩ | ⟨hne,hu⟩
   ·have h0:=hL 0 e (by simp) hd
    simp only [Nat.add_zero] at h0
    rw [if_pos h0]
    show (if e.g.o.dst=some t then some e.v else g t)=_
    rw [if_pos hd]
   ·have:(if L i=true then (fun t=>if e.g.o.dst=some t then some e.v else g t) else g) t=g t:=by
     split
     ·show (if e.g.o.dst=some t then some e.v else g t)=g t
      rw [if_neg (by rw [hd];intro hh;exact hne (Option.some.inj hh).symm)]
     ·rfl
    rw [this];exact hg u hu
theorem canon_ht {L:Nat→Bool}:∀ {l:List Ev} {fr h ht ds out} {i:Nat},Lnk cf rc rnd N fr h ht ds l out→(∀ j e,l[j]?=some e→e.tch=true→L (i + j)=true)→htf L i ht l=out.2.2.1∧df L i ds l=out.2.2.2:=by
 intro l
 induction l with
 | nil=>intro fr h ht ds out i hl _;obtain rfl:out=_:=hl;exact ⟨rfl,rfl⟩
 | cons e l ih=>
  intro fr h ht ds out i hl hL
  obtain ⟨a,b,c,d,o,fr',p,hl⟩:=hl
  have:=ih (i:=i + 1) hl (fun j e' he ht=>by have:=hL (j + 1) e' (by simpa using he) ht;rwa [show i + (j + 1)=i + 1 + j by omega] at this)
  rw [← this.1,← this.2]
  simp only [htf,df]
  cases ht':e.tch with
  | true=>
   have h0:=hL 0 e (by simp) ht'
   simp only [Nat.add_zero] at h0
   simp [h0]
  | false=>
   have hds:=(own_plain o ht').1
   rw [hds,d]
   simp
theorem canon_g {L:Nat→Bool}:∀ {l:List Ev} {fr h ht ds out} {i:Nat} {g:Nat→Option B},Lnk cf rc rnd N fr h ht ds l out→(∀ k b,h.get k=some b→g k=some b)→(∀ j e,l[j]?=some e→(e.tch=true∨e.g.k=2)→L (i + j)=true)→
 ∀ k b,out.2.1.get k=some b→gf L i g l k=some b:=by
 intro l
 induction l with
 | nil=>intro fr h ht ds out i g hl hg _ k b hv;obtain rfl:out=_:=hl;exact hg k b hv
 | cons e l ih=>
  intro fr h ht ds out i g hl hg hL k b hv
  obtain ⟨a,b',c,d,o,fr',p,hl⟩:=hl
  refine ih hl (fun k b hb=>?_) (fun j e' he hd=>by have:=hL (j + 1) e' (by simpa using he) hd;rwa [show i + (j + 1)=i + 1 + j by omega] at this) k b hv
  cases ht':e.tch with
  | true=>
   have h0:=hL 0 e (by simp) (.inl ht')
   simp only [Nat.add_zero] at h0
   simp only [h0,if_true];exact hb
  | false=>
   rcases (own_plain o ht').2 with ⟨h2,h3⟩ | h4
   ·have h0:=hL 0 e (by simp) (.inr h2)
    simp only [Nat.add_zero] at h0
    simp only [h0,if_true,h2,h3,and_self,Bool.false_eq_true,if_false]
    rw [(o.c2 h2 h3).1] at hb
    rcases Hp.get_new hb with ⟨h5,h6⟩ | ⟨h5,h6⟩
    ·rw [if_pos h5,h6]
    ·rw [if_neg h5];rw [b'] at h6;exact hg k b h6
   ·rw [h4,b'] at hb
    have hgk:=hg k b hb
    split
    ·rw [if_neg (by simp)]
     split
     ·rename_i h5
      exfalso
      have:=(o.c2 h5.1 h5.2).1
      rw [h4] at this
      have hn:=congrArg Hp.n this
      simp at hn
     ·exact hgk
    ·exact hgk
theorem seg_n:∀ {l:List Ev} {fr h ht ds out},Lnk cf rc rnd N fr h ht ds l out→(∀ (j:Nat) (e:Ev),l[j]?=some e→e.tch=false)→h.n≤out.2.1.n:=by
 intro l
 induction l with
 | nil=>intro fr h ht ds out hl _;obtain rfl:out=_:=hl;exact Nat.le_refl _
 | cons e l ih=>
  intro fr h ht ds out hl hn
  obtain ⟨a,b,c,d,o,fr',p,hl⟩:=hl
  refine Nat.le_trans ?_ (ih hl (fun j e' he=>hn (j + 1) e' (by simpa using he)))
  rcases (own_plain o (hn 0 e (by simp))).2 with ⟨h2,h3⟩ | h4
  ·rw [(o.c2 h2 h3).1,b];simp
  ·rw [h4,b];exact Nat.le_refl _
theorem ht_n:∀ {l:List Ev} {fr h ht ds out},Lnk cf rc rnd N fr h ht ds l out→ht.n≤h.n→out.2.2.1.n≤out.2.1.n:=by
 intro l
 induction l with
 | nil=>intro fr h ht ds out hl hle;obtain rfl:out=_:=hl;exact hle
 | cons e l ih=>
  intro fr h ht ds out hl hle
  obtain ⟨a,b,c,d,o,fr',p,hl⟩:=hl
  refine ih hl ?_
  cases ht':e.tch with
  | true=>simp
  | false=>
   simp only [Bool.false_eq_true,if_false]
   refine Nat.le_trans hle ?_
   rcases (own_plain o ht').2 with ⟨h2,h3⟩ | h4
   ·rw [(o.c2 h2 h3).1,b];simp
   ·rw [h4,b];exact Nat.le_refl _
theorem laid_n {l:List Ev} {fr h ht ds out} (hl:Lnk cf rc rnd N fr h ht ds l out) {j:Nat} {e:Ev} (he:l[j]?=some e) (hk:e.g.k=2) (hb:e.b=true) (hn:∀ (j':Nat) (e':Ev),j < j'→l[j']?=some e'→e'.tch=false):e.h.n < out.2.1.n:=by
 obtain ⟨hj,hg⟩:=List.getElem?_eq_some_iff.1 he
 have hsp:l=l.take j++e::l.drop (j + 1):=by
  rw [← hg,List.getElem_cons_drop hj,List.take_append_drop]
 rw [hsp] at hl
 obtain ⟨m,h1,h2⟩:=hl.split
 obtain ⟨a,b,c,d,o,fr',p,h3⟩:=h2
 have:=seg_n h3 (fun j' e' he'=>hn (j + 1 + j') e' (by omega) (by rw [List.getElem?_drop] at he';exact he'))
 rw [(o.c2 hk hb).1] at this
 simp at this
 omega
end
/-! ### when nothing is done -/
theorem htf_none {L:Nat→Bool}:∀ {l:List Ev} {i:Nat} {g:Hp},(∀ j e,l[j]?=some e→e.tch=true→L (i + j)=false)→htf L i g l=g:=by
 intro l
 induction l with
 | nil=>intro i g _;rfl
 | cons e l ih=>
  intro i g h
  simp only [htf]
  rw [ih (fun j e' he ht=>by have:=h (j + 1) e' (by simpa using he) ht;rwa [show i + (j + 1)=i + 1 + j by omega] at this)]
  cases ht:e.tch with
  | true=>have h0:=h 0 e (by simp) ht;simp only [Nat.add_zero] at h0;simp [h0]
  | false=>simp
theorem df_none {L:Nat→Bool}:∀ {l:List Ev} {i:Nat} {g:List Df},(∀ j e,l[j]?=some e→e.tch=true→L (i + j)=false)→df L i g l=g:=by
 intro l
 induction l with
 | nil=>intro i g _;rfl
 | cons e l ih=>
  intro i g h
  simp only [df]
  rw [ih (fun j e' he ht=>by have:=h (j + 1) e' (by simpa using he) ht;rwa [show i + (j + 1)=i + 1 + j by omega] at this)]
  cases ht:e.tch with
  | true=>have h0:=h 0 e (by simp) ht;simp only [Nat.add_zero] at h0;simp [h0]
  | false=>simp
theorem gf_none {L:Nat→Bool}:∀ {l:List Ev} {i:Nat} {g:Nat→Option B},(∀ j e,l[j]?=some e→(e.tch=true∨e.g.k=2)→L (i + j)=false)→gf L i g l=g:=by
 intro l
 induction l with
 | nil=>intro i g _;rfl
 | cons e l ih=>
  intro i g h
  simp only [gf]
  rw [ih (fun j e' he ht=>by have:=h (j + 1) e' (by simpa using he) ht;rwa [show i + (j + 1)=i + 1 + j by omega] at this)]
  cases hL:L i with
  | false=>simp
  | true=>
   have h1:e.tch=false:=by
    cases ht:e.tch with
    | true=>have h0:=h 0 e (by simp) (.inl ht);simp only [Nat.add_zero] at h0;rw [hL] at h0;cases h0
    | false=>rfl
   have h2:¬ e.g.k=2:=fun hk=>by have h0:=h 0 e (by simp) (.inr hk);simp only [Nat.add_zero] at h0;rw [hL] at h0;cases h0
   simp [h1,h2]
theorem gf_upd {L:Nat→Bool} {n:Nat} {b:B}:∀ {l:List Ev} {i:Nat} {g:Nat→Option B},(∀ j e,l[j]?=some e→L (i + j)=true→e.tch=false∧(e.g.k=2→e.b=true→e.h.n≠n))→
 ∀ k c,gf L i (fun k=>if k=n then some b else g k) l k=some c→(k=n∧c=b)∨(k≠n∧gf L i g l k=some c):=by
 intro l
 induction l with
 | nil=>
  intro i g _ k c h
  simp only [gf] at h ⊢
  by_cases hk:k=n
  ·rw [if_pos hk] at h;exact .inl ⟨hk,(Option.some.inj h).symm⟩
  ·rw [if_neg hk] at h;exact .inr ⟨hk,h⟩
 | cons e l ih=>
  intro i g hL k c h
  have hL':∀ j e',l[j]?=some e'→L (i + 1 + j)=true→e'.tch=false∧(e'.g.k=2→e'.b=true→e'.h.n≠n):=fun j e' he hh=>hL (j + 1) e' (by simpa using he) (by rwa [show i + (j + 1)=i + 1 + j by omega])
  simp only [gf] at h ⊢
  cases hLi:L i with
  | false=>simp only [hLi,Bool.false_eq_true,if_false] at h ⊢;exact ih hL' k c h
  | true=>
   obtain ⟨h1,h2⟩:=hL 0 e (by simp) (by simpa using hLi)
   simp only [hLi,if_true,h1,Bool.false_eq_true,if_false] at h ⊢
   by_cases hk:e.g.k=2∧e.b=true
   ·simp only [hk,and_self,if_true] at h ⊢
    have hne:=h2 hk.1 hk.2
    have:(fun k=>if k=e.h.n then some e.blk else if k=n then some b else g k)=(fun k=>if k=n then some b else if k=e.h.n then some e.blk else g k):=by
     funext k
     by_cases h3:k=e.h.n <;> by_cases h4:k=n
     ·exfalso;exact hne (h3 ▸ h4)
     ·simp [h3];intro h;exact absurd h hne
     ·simp [h4];intro h;exact absurd h.symm hne
     ·simp [h3,h4]
    rw [this] at h
    exact ih hL' k c h
   ·rw [if_neg hk] at h ⊢
    exact ih hL' k c h
theorem ff_at {L:Nat→Bool} {t:Nat}:∀ {l:List Ev} {i:Nat} {g:Nat→Option V},(∀ j e,l[j]?=some e→e.g.o.dst=some t→L (i + j)=false)→ff L i g l t=g t:=by
 intro l
 induction l with
 | nil=>intro i g _;rfl
 | cons e l ih=>
  intro i g h
  simp only [ff]
  rw [ih (fun j e' he ht=>by have:=h (j + 1) e' (by simpa using he) ht;rwa [show i + (j + 1)=i + 1 + j by omega] at this)]
  by_cases hd:e.g.o.dst=some t
  ·have h0:=h 0 e (by simp) hd;simp only [Nat.add_zero] at h0;simp [h0]
  ·split
   ·show (if e.g.o.dst=some t then some e.v else g t)=g t
    rw [if_neg hd]
   ·rfl
theorem ff_point {L:Nat→Bool} {t:Nat}:∀ {l:List Ev} {i:Nat} {g g':Nat→Option V},g t=g' t→ff L i g l t=ff L i g' l t:=by
 intro l
 induction l with
 | nil=>intro i g g' h;exact h
 | cons e l ih=>
  intro i g g' h
  simp only [ff]
  refine ih ?_
  split
  ·show (if _ then _ else _)=(if _ then _ else _)
   rw [h]
  ·exact h
theorem htf_last {L:Nat→Bool}:∀ {l:List Ev} {i:Nat} {g:Hp},htf L i g l=g∧(∀ j e,l[j]?=some e→e.tch=true→L (i + j)=false)∨∃ j e,l[j]?=some e∧e.tch=true∧L (i + j)=true∧htf L i g l=e.h':=by
 intro l
 induction l with
 | nil=>intro i g;exact .inl ⟨rfl,fun j e h=>by simp at h⟩
 | cons e l ih=>
  intro i g
  simp only [htf]
  rcases ih (i:=i + 1) (g:=if L i then (if e.tch then e.h' else g) else g) with ⟨h1,h2⟩ | ⟨j,e',h1,h2,h3,h4⟩
  ·cases hL:L i with
   | false=>
    rw [hL] at h1
    refine .inl ⟨by simpa using h1,fun j e' he ht=>?_⟩
    cases j with
    | zero=>simpa using hL
    | succ j=>rw [show i + (j + 1)=i + 1 + j by omega];exact h2 j e' (by simpa using he) ht
   | true=>
    cases ht:e.tch with
    | true=>rw [hL,ht] at h1;exact .inr ⟨0,e,by simp,ht,by simpa using hL,by simpa using h1⟩
    | false=>
     rw [hL,ht] at h1
     refine .inl ⟨by simpa using h1,fun j e' he ht'=>?_⟩
     cases j with
     | zero=>simp at he;subst he;rw [ht] at ht';cases ht'
     | succ j=>rw [show i + (j + 1)=i + 1 + j by omega];exact h2 j e' (by simpa using he) ht'
  ·exact .inr ⟨j + 1,e',by simpa using h1,h2,by rw [show i + (j + 1)=i + 1 + j by omega];exact h3,h4⟩
theorem htf_next {cf:CF} {rc:RC} {rnd:Bool} {N:Nat} {L:Nat→Bool}:∀ {l:List Ev} {fr h ht ds out} {i:Nat},Lnk cf rc rnd N fr h ht ds l out→(∀ j j' a c,j < j'→l[j]?=some a→l[j']?=some c→a.tch=true→c.tch=true→L (i + j')=true→L (i + j)=true)→
 htf L i ht l=out.2.2.1∨∃ j e,l[j]?=some e∧e.tch=true∧L (i + j)=false∧e.ht=htf L i ht l:=by
 intro l
 induction l with
 | nil=>intro fr h ht ds out i hl _;obtain rfl:out=_:=hl;exact .inl rfl
 | cons e l ih=>
  intro fr h ht ds out i hl hc
  obtain ⟨a,b,c,d,o,fr',p,hl⟩:=hl
  have hc':∀ j j' a c,j < j'→l[j]?=some a→l[j']?=some c→a.tch=true→c.tch=true→L (i + 1 + j')=true→L (i + 1 + j)=true:=fun j j' a c h1 h2 h3 h4 h5 h6=>by
   have:=hc (j + 1) (j' + 1) a c (by omega) (by simpa using h2) (by simpa using h3) h4 h5 (by rwa [show i + (j' + 1)=i + 1 + j' by omega])
   rwa [show i + (j + 1)=i + 1 + j by omega] at this
  simp only [htf]
  cases ht':e.tch with
  | true=>
   cases hL:L i with
   | true=>
    simp only [if_true]
    rw [ht',if_pos rfl] at hl
    rcases ih (i:=i + 1) hl hc' with h1 | ⟨j,e',h1,h2,h3,h4⟩
    ·exact .inl h1
    ·exact .inr ⟨j + 1,e',by simpa using h1,h2,by rw [show i + (j + 1)=i + 1 + j by omega];exact h3,h4⟩
   | false=>
    simp only [Bool.false_eq_true,if_false]
    refine .inr ⟨0,e,by simp,ht',by simpa using hL,?_⟩
    rw [htf_none (fun j e' he ht''=>?_)]
    ·exact c
    ·cases hh:L (i + 1 + j) with
     | false=>rfl
     | true=>
      have:=hc 0 (j + 1) e e' (by omega) (by simp) (by simpa using he) ht' ht'' (by rwa [show i + (j + 1)=i + 1 + j by omega])
      simp only [Nat.add_zero] at this
      rw [hL] at this;cases this
  | false=>
   simp only [Bool.false_eq_true,if_false]
   rw [ht',if_neg (by simp)] at hl
   have:(if L i=true then ht else ht)=ht:=by split <;> rfl
   rw [this]
   rcases ih (i:=i + 1) hl hc' with h1 | ⟨j,e',h1,h2,h3,h4⟩
   ·exact .inl h1
   ·exact .inr ⟨j + 1,e',by simpa using h1,h2,by rw [show i + (j + 1)=i + 1 + j by omega];exact h3,h4⟩
end Go.Proofs.YtbcdgcodnkgdoaaGreat.Run
