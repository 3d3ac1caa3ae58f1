/- Parts of the proof: The calculus, fifth part: a statement whose order of evaluation Go leaves open. Its first operations in whatever order (each hands back one value whatever the order, or lays one block); the others in the one order that is forced. · The calculus, seventh part: statements whose order is open, value by value; slices of one's own that read as data; copies; shifts. · The calculus, eighth part: chunks taken together, elements put in, slices of one's own laid open. · The calculus, ninth part: chunks taken out by their places. · The calculus, eleventh part: maps of one's own. · The calculus, sixteenth part: append that outgrows its room; slices of known blocks as data. · The calculus, eighteenth part: deep data of one's own. · The calculus, nineteenth part: stores into and loads from slices of one's own; deep data opened. · A theory as data; reading of data. · theory.rising, has; slices.Index, Contains, BinarySearch over numbers. · slices.Index, Contains, BinarySearch over numbers; theory.has. · The calculus (printed by gen_e4.py): open orders, an operation that sees what another has laid and turns what is given. Conditions: none. -/
import Derived.MapKept
import Derived.Test.YtbcdgcodnkgdoaaGreatPc1
/- The calculus, fifth part: a statement whose order of evaluation Go leaves open. Its first operations in whatever order (each hands back one value whatever the order, or lays one block); the others in the one order that is forced. Conditions: none; everything holds over any program. -/
set_option linter.unusedVariables false
set_option linter.unusedSimpArgs false
namespace Go.Proofs.YtbcdgcodnkgdoaaGreat
open Go Go.RowKit
inductive PK where
 | val (v:Value)
 | new (c:Nat→HP) (t:Nat→Value) (p:Nat) (c2:Nat→HP)
 | put (dj:Nat) (c:Nat→HP) (t:Nat→Value) (c2:Nat→HP)
def PK.out:PK→Nat→Value
 | .val v,_=>v
 | .new _ t _ _,b=>t b
 | .put _ _ _ _,_=>undef
def backB (l:List Oper):Bool:=(List.range l.length).all fun i=>match l[i]? with
 | some o=>o.after.toList.all fun e=>decide (e.on < i) || !Region.binds .any e
 | none=>true
def bm (acc:List Nat) (o:Oper):Nat:=o.after.toList.foldl (fun s e=>if Region.binds .any e then s ||| 2 ^ e.on ||| acc.getD e.on 0 else s) 0
def bms:List Oper→List Nat→List Nat
 | [],acc=>acc
 | o::r,acc=>bms r (acc++[bm acc o])
def forcedB (l:List Oper) (n:Nat):Bool:=(bms l []).zipIdx.all fun p=>decide (p.2 < n) || (List.range p.2).all fun j=>p.1.testBit j
def PK.isPut:Option PK→Bool
 | some (.put _ _ _ _)=>true
 | _=>false
def dstB (l:List Oper) (ks:List PK) (n:Nat) (G:List (Nat × Value)):Bool:=(List.range n).all fun i=>match l[i]? with
 | some o=>match o.dst with
  | some d=>(look G d).isNone&&(List.range n).all fun j=>decide (i=j) || (match l[j]? with
   | some o'=>match o'.dst with
    | some d'=>!(Nat.beq d d')
    | none=>true
   | none=>true)
  | none=>PK.isPut ks[i]?
 | none=>false
def depG (l:List Oper) (ks:List PK) (o:Oper):List (Nat × Value):=o.after.toList.filterMap fun e=>
 if Region.binds .any e then match l[e.on]?,ks[e.on]? with
  | some o',some (.val v)=>o'.dst.map fun d=>(d,v)
  | _,_=>none
 else none
def Prem (P:Program) (E:Env) (ops:Array Oper) (Q:Pst) (Gd G:List (Nat × Value)) (H:List HP) (o:Oper):PK→Prop
 | .val v=>∀ (Gx:List (Nat × Value)) (X:List HP),RW P E ops (Pst.then (fun a w=>∃ d,o.dst=some d∧Fr E.N E.ds a ((d,v)::(Gd++G++Gx))∧St E.w0 E.S (H++X) w) Q) [o] (Gd++G++Gx) (H++X)
 | .put dj c t c2=>∀ (b:Nat) (Gx:List (Nat × Value)) (X:List HP),RW P E ops (Pst.then (fun a w=>Fr E.N E.ds a ((dj,t b)::(Gd++G++Gx))∧St E.w0 E.S (c2 b::(H++X)) w) Q) [o] ((dj,t b)::(Gd++G++Gx)) (c b::(H++X))
 | .new c t _ _=>∀ (Gx:List (Nat × Value)) (X:List HP),RW P E ops (Pst.then (fun a w=>∃ b d,o.dst=some d∧Fr E.N E.ds a ((d,t b)::(Gd++G++Gx))∧St E.w0 E.S (c b::(H++X)) w) Q) [o] (Gd++G++Gx) (H++X)
def Prems (P:Program) (E:Env) (ops:Array Oper) (Q:Pst) (l:List Oper) (ks:List PK) (G:List (Nat × Value)) (H:List HP):List Oper→List PK→Prop
 | o::os,k::r=>Prem P E ops Q (depG l ks o) G H o k∧Prems P E ops Q l ks G H os r
 | _,_=>True
theorem Prems.at_ {P:Program} {E:Env} {ops:Array Oper} {Q:Pst} {l:List Oper} {ks:List PK} {G:List (Nat × Value)} {H:List HP}:∀ {os:List Oper} {r:List PK},Prems P E ops Q l ks G H os r→∀ (i:Nat) (o:Oper) (k:PK),os[i]?=some o→r[i]?=some k→Prem P E ops Q (depG l ks o) G H o k:=by
 intro os
 induction os with
 | nil=>intro r _ i o k h;simp at h
 | cons o os ih=>
  intro r h i o' k ho hk
  cases r with
  | nil=>simp at hk
  | cons k' r=>
   obtain ⟨h1,h2⟩:=h
   cases i with
   | zero=>simp at ho hk;subst ho;subst hk;exact h1
   | succ i=>exact ih h2 i o' k (by simpa using ho) (by simpa using hk)
def outG:List Oper→List PK→(Nat→Nat)→List (Nat × Value)
 | o::os,k::r,bs=>match o.dst with
  | some d=>(d,k.out (bs d))::outG os r bs
  | none=>outG os r bs
 | _,_,_=>[]
def newH:List Oper→List PK→(Nat→Nat)→List HP
 | o::os,.new c t p c2::r,bs=>match o.dst with
  | some d=>c2 (bs d)::newH os r bs
  | none=>newH os r bs
 | _::os,.val _::r,bs=>newH os r bs
 | _::os,.put _ _ _ _::r,bs=>newH os r bs
 | _,_,_=>[]
section
variable {P:Program} {E:Env} {ops:Array Oper} {Q:Pst} {K:Act→World→Prop} {rest:List Oper} {G:List (Nat × Value)} {H:List HP}
theorem RW.done {o:Oper} {d:Nat} {v:Value} {G':List (Nat × Value)} {H':List HP} (hd:o.dst=some d):RW P E ops (Pst.then (fun a w=>∃ d,o.dst=some d∧Fr E.N E.ds a ((d,v)::G')∧St E.w0 E.S H' w) Q) [] ((d,v)::G') H':=
 fun a w hf hw=>⟨d,hd,hf,hw⟩
end
theorem RW.done_put {P:Program} {E:Env} {ops:Array Oper} {Q:Pst} {G':List (Nat × Value)} {H':List HP}:RW P E ops (Pst.then (fun a w=>Fr E.N E.ds a G'∧St E.w0 E.S H' w) Q) [] G' H':=
 fun a w hf hw=>⟨hf,hw⟩
/-! ### the theorem -/
section
variable {P:Program} {E:Env} {Q:Pst} {G:List (Nat × Value)} {H:List HP} {l:List Oper} {n:Nat} {ks:List PK}
def laidH (L:Nat→Bool):List Oper→List PK→Nat→(Nat→Nat)→List HP
 | o::os,.new c t p c2::r,i,bs=>match o.dst with
  | some d=>if L i then (if L p then c2 else c) (bs d)::laidH L os r (i + 1) bs else laidH L os r (i + 1) bs
  | none=>laidH L os r (i + 1) bs
 | _::os,.val _::r,i,bs=>laidH L os r (i + 1) bs
 | _::os,.put _ _ _ _::r,i,bs=>laidH L os r (i + 1) bs
 | _,_,_,_=>[]
theorem laidH_all {L:Nat→Bool} {bs:Nat→Nat}:∀ {os:List Oper} {r:List PK} {i:Nat},(∀ j,i≤j→j < i + r.length→L j=true)→(∀ c t p c2,PK.new c t p c2∈r→(if L p then c2 else c)=c2)→laidH L os r i bs=newH os r bs:=by
 intro os
 induction os with
 | nil=>intro r i _ _;cases r <;> rfl
 | cons o os ih=>
  intro r i h hF
  cases r with
  | nil=>rfl
  | cons k r=>
   have ih':=ih (r:=r) (i:=i + 1) (fun j h1 h2=>h j (by omega) (by simp;omega)) (fun c t p c2 hm=>hF c t p c2 (by simp [hm]))
   cases k with
   | val v=>exact ih'
   | put dj c t c2=>exact ih'
   | new c t p c2=>
    unfold laidH newH
    cases o.dst with
    | none=>exact ih'
    | some d=>simp only [h i (Nat.le_refl _) (by simp),if_true,ih',hF c t p c2 (by simp)]
theorem laidH_congr {L L':Nat→Bool} {bs bs':Nat→Nat}:∀ {os:List Oper} {r:List PK} {i:Nat},(∀ j,i≤j→j < i + r.length→L j=L' j)→(∀ (j:Nat) (o:Oper) (d:Nat),os[j]?=some o→o.dst=some d→j < r.length→L (i + j)=true→bs d=bs' d)→(∀ c t p c2,PK.new c t p c2∈r→(if L p then c2 else c)=(if L' p then c2 else c))→laidH L os r i bs=laidH L' os r i bs':=by
 intro os
 induction os with
 | nil=>intro r i _ _ _;cases r <;> rfl
 | cons o os ih=>
  intro r i h hb hF
  cases r with
  | nil=>rfl
  | cons k r=>
   have ih':=ih (r:=r) (i:=i + 1) (fun j h1 h2=>h j (by omega) (by simp;omega)) (fun j o d h1 h2 h3 h4=>hb (j + 1) o d (by simpa using h1) h2 (by simpa using h3) (by rwa [show i + (j + 1)=i + 1 + j from by omega])) (fun c t p c2 hm=>hF c t p c2 (by simp [hm]))
   cases k with
   | val v=>exact ih'
   | put dj c t c2=>exact ih'
   | new c t p c2=>
    unfold laidH
    cases hd:o.dst with
    | none=>exact ih'
    | some d=>
     simp only
     rw [← h i (Nat.le_refl _) (by simp),ih']
     cases hL:L i with
     | false=>rfl
     | true=>simp only [if_true];rw [hb 0 o d rfl hd (by simp) (by simpa using hL),hF c t p c2 (by simp)]
theorem laidH_add {L L':Nat→Bool} {bs bs':Nat→Nat} {p:Nat}:∀ {os:List Oper} {r:List PK} {i:Nat},i≤p→(∀ j,j≠p→L j=L' j)→L p=false→L' p=true→(∀ (j:Nat) (o:Oper) (d:Nat),os[j]?=some o→o.dst=some d→j < r.length→L (i + j)=true→bs d=bs' d)→
 (∀ c t q c2,PK.new c t q c2∈r→(if L q then c2 else c)=(if L' q then c2 else c))→∀ {o:Oper} {d:Nat} {c:Nat→HP} {t:Nat→Value} {q:Nat} {c2:Nat→HP},os[p - i]?=some o→o.dst=some d→r[p - i]?=some (.new c t q c2)→(if L' q then c2 else c)=c→(c (bs' d)::laidH L os r i bs).Perm (laidH L' os r i bs'):=by
 intro os
 induction os with
 | nil=>intro r i _ _ _ _ _ _ o d c t q c2 h;simp at h
 | cons o os ih=>
  intro r i hip hLL hp hp' hb hF o' d c t q c2 ho hd hk hc0
  cases r with
  | nil=>simp at hk
  | cons k r=>
   by_cases hi:i=p
   ·subst hi
    simp only [Nat.sub_self,List.getElem?_cons_zero,Option.some.injEq] at ho hk
    subst ho;subst hk
    have hc:laidH L os r (i + 1) bs=laidH L' os r (i + 1) bs':=laidH_congr (fun j h1 h2=>hLL j (by omega)) (fun j o d h1 h2 h3 h4=>hb (j + 1) o d (by simpa using h1) h2 (by simpa using h3) (by rwa [show i + (j + 1)=i + 1 + j from by omega])) (fun c t p c2 hm=>hF c t p c2 (by simp [hm]))
    unfold laidH
    simp only [hd,hp,hp',if_true,hc,hc0]
    exact List.Perm.refl _
   ·have hlt:i + 1≤p:=by omega
    have hs:p - i=(p - (i + 1)) + 1:=by omega
    rw [hs] at ho hk
    have ih':=ih (r:=r) (i:=i + 1) hlt hLL hp hp' (fun j o d h1 h2 h3 h4=>hb (j + 1) o d (by simpa using h1) h2 (by simpa using h3) (by rwa [show i + (j + 1)=i + 1 + j from by omega])) (fun c t p c2 hm=>hF c t p c2 (by simp [hm])) (by simpa using ho) hd (by simpa using hk) hc0
    cases k with
    | val v=>exact ih'
    | put dj c t c2=>exact ih'
    | new c3 t3 q3 c4=>
     unfold laidH
     cases hd2:o.dst with
     | none=>exact ih'
     | some d2=>
      simp only
      rw [← hLL i hi]
      cases hL:L i with
      | false=>exact ih'
      | true=>
       simp only [if_true]
       rw [← hb 0 o d2 rfl hd2 (by simp) (by simpa using hL),← hF c3 t3 q3 c4 (by simp)]
       exact (List.Perm.swap _ _ _).trans (List.Perm.cons _ ih')
theorem laidH_val {L L':Nat→Bool} {bs:Nat→Nat} {p:Nat}:∀ {os:List Oper} {r:List PK} {i:Nat} {v:Value},(∀ j,j≠p→L j=L' j)→(i≤p→r[p - i]?=some (.val v))→(∀ c t q c2,PK.new c t q c2∈r→(if L q then c2 else c)=(if L' q then c2 else c))→laidH L os r i bs=laidH L' os r i bs:=by
 intro os
 induction os with
 | nil=>intro r i v _ _ _;cases r <;> rfl
 | cons o os ih=>
  intro r i v h hk hF
  cases r with
  | nil=>rfl
  | cons k r=>
   have ih':=ih (r:=r) (i:=i + 1) (v:=v) h (fun hip=>by
    have:=hk (by omega)
    rw [show p - i=(p - (i + 1)) + 1 from by omega] at this
    simpa using this) (fun c t p c2 hm=>hF c t p c2 (by simp [hm]))
   cases k with
   | val v=>exact ih'
   | put dj c t c2=>exact ih'
   | new c t q c2=>
    have hip:i≠p:=fun e=>by subst e;have:=hk (Nat.le_refl _);simp at this
    unfold laidH
    cases o.dst with
    | none=>exact ih'
    | some d=>simp only;rw [h i hip,ih',hF c t q c2 (by simp)]
theorem laidH_put {L L':Nat→Bool} {bs:Nat→Nat} {p j:Nat} (hLL:∀ m,m≠p→L m=L' m) (hp:L p=false) (hp':L' p=true) (hj:L j=true):∀ {os:List Oper} {r:List PK} {i:Nat},i≤j→(∀ m c t q c2,i≤m→m≠j→r[m - i]?=some (.new c t q c2)→(if L q then c2 else c)=(if L' q then c2 else c))→(i≤p→PK.isPut r[p - i]?=true)→
 ∀ {o:Oper} {d:Nat} {c:Nat→HP} {t:Nat→Value} {c2:Nat→HP},os[j - i]?=some o→o.dst=some d→r[j - i]?=some (.new c t p c2)→∃ X,(laidH L os r i bs).Perm (c (bs d)::X)∧(laidH L' os r i bs).Perm (c2 (bs d)::X):=by
 have hjp:j≠p:=fun e=>by rw [e,hp] at hj;cases hj
 intro os
 induction os with
 | nil=>intro r i _ _ _ o d c t c2 h;simp at h
 | cons o os ih=>
  intro r i hij hF hP o' d c t c2 ho hd hk
  cases r with
  | nil=>simp at hk
  | cons k r=>
   have hF':∀ m c t q c2,i + 1≤m→m≠j→r[m - (i + 1)]?=some (.new c t q c2)→(if L q then c2 else c)=(if L' q then c2 else c):=fun m c t q c2 h1 h2 h3=>hF m c t q c2 (by omega) h2 (by rw [show m - i=(m - (i + 1)) + 1 from by omega];simpa using h3)
   have hP':i + 1≤p→PK.isPut r[p - (i + 1)]?=true:=fun h1=>by
    have:=hP (by omega)
    rw [show p - i=(p - (i + 1)) + 1 from by omega] at this
    simpa using this
   by_cases hi:i=j
   ·subst hi
    simp only [Nat.sub_self,List.getElem?_cons_zero,Option.some.injEq] at ho hk
    subst ho;subst hk
    have hc:laidH L os r (i + 1) bs=laidH L' os r (i + 1) bs:=by
     have key:∀ (os:List Oper) (r:List PK) (i0:Nat),(∀ m c t q c2,i0≤m→r[m - i0]?=some (.new c t q c2)→(if L q then c2 else c)=(if L' q then c2 else c))→(i0≤p→PK.isPut r[p - i0]?=true)→laidH L os r i0 bs=laidH L' os r i0 bs:=by
      intro os
      induction os with
      | nil=>intro r i0 _ _;cases r <;> rfl
      | cons o os ih2=>
       intro r i0 h1 h2
       cases r with
       | nil=>rfl
       | cons k r=>
        have ih2':=ih2 r (i0 + 1) (fun m c t q c2 h3 h4=>h1 m c t q c2 (by omega) (by rw [show m - i0=(m - (i0 + 1)) + 1 from by omega];simpa using h4)) (fun h3=>by
         have:=h2 (by omega)
         rw [show p - i0=(p - (i0 + 1)) + 1 from by omega] at this
         simpa using this)
        cases k with
        | val v=>exact ih2'
        | put dj c t c2=>exact ih2'
        | new c t q c2=>
         have hip:i0≠p:=fun e=>by
          subst e
          have:=h2 (Nat.le_refl _)
          simp [PK.isPut] at this
         unfold laidH
         cases o.dst with
         | none=>exact ih2'
         | some d=>simp only;rw [hLL i0 hip,ih2',h1 i0 c t q c2 (Nat.le_refl _) (by simp)]
     exact key os r (i + 1) (fun m c t q c2 h1 h2=>hF' m c t q c2 h1 (by omega) h2) hP'
    have hj':L' i=true:=(hLL i hjp) ▸ hj
    have e1:laidH L (o::os) (.new c t p c2::r) i bs=c (bs d)::laidH L os r (i + 1) bs:=by
     rw [laidH];simp only [hd,hj,hp,if_true,Bool.false_eq_true,if_false]
    have e2:laidH L' (o::os) (.new c t p c2::r) i bs=c2 (bs d)::laidH L os r (i + 1) bs:=by
     rw [laidH];simp only [hd,hj',hp',if_true,← hc]
    exact ⟨laidH L os r (i + 1) bs,e1 ▸ List.Perm.refl _,e2 ▸ List.Perm.refl _⟩
   ·have hs:j - i=(j - (i + 1)) + 1:=by omega
    rw [hs] at ho hk
    obtain ⟨X,hX,hX'⟩:=ih (r:=r) (i:=i + 1) (by omega) hF' hP' (by simpa using ho) hd (by simpa using hk)
    cases k with
    | val v=>exact ⟨X,hX,hX'⟩
    | put dj c t c2=>exact ⟨X,hX,hX'⟩
    | new c3 t3 q3 c4=>
     have hip:i≠p:=fun e=>by
      subst e
      have:=hP (Nat.le_refl _)
      simp [PK.isPut] at this
     unfold laidH
     cases hd2:o.dst with
     | none=>exact ⟨X,hX,hX'⟩
     | some d2=>
      simp only
      rw [← hLL i hip,← hF i c3 t3 q3 c4 (Nat.le_refl _) hi (by simp)]
      cases hL:L i with
      | false=>exact ⟨X,hX,hX'⟩
      | true=>exact ⟨_,(List.Perm.cons _ hX).trans (List.Perm.swap _ _ _),(List.Perm.cons _ hX').trans (List.Perm.swap _ _ _)⟩
theorem laidH_get {L:Nat→Bool} {bs:Nat→Nat} {j:Nat} (hj:L j=true):∀ {os:List Oper} {r:List PK} {i:Nat},i≤j→∀ {o:Oper} {d:Nat} {c:Nat→HP} {t:Nat→Value} {p:Nat},os[j - i]?=some o→o.dst=some d→r[j - i]?=some (.new c t p c)→∃ X,(laidH L os r i bs).Perm (c (bs d)::X):=by
 intro os
 induction os with
 | nil=>intro r i _ o d c t p h;simp at h
 | cons o os ih=>
  intro r i hij o' d c t p ho hd hk
  cases r with
  | nil=>simp at hk
  | cons k r=>
   by_cases hi:i=j
   ·subst hi
    simp only [Nat.sub_self,List.getElem?_cons_zero,Option.some.injEq] at ho hk
    subst ho;subst hk
    refine ⟨laidH L os r (i + 1) bs,?_⟩
    rw [laidH]
    simp only [hd,hj,if_true,ite_self]
    exact List.Perm.refl _
   ·have hs:j - i=(j - (i + 1)) + 1:=by omega
    rw [hs] at ho hk
    obtain ⟨X,hX⟩:=ih (r:=r) (i:=i + 1) (by omega) (by simpa using ho) hd (by simpa using hk)
    cases k with
    | val v=>exact ⟨X,hX⟩
    | put dj c t c2=>exact ⟨X,hX⟩
    | new c3 t3 q3 c4=>
     unfold laidH
     cases hd2:o.dst with
     | none=>exact ⟨X,hX⟩
     | some d2=>
      simp only
      cases hL:L i with
      | false=>exact ⟨X,hX⟩
      | true=>exact ⟨_,(List.Perm.cons _ hX).trans (List.Perm.swap _ _ _)⟩
theorem laidH_none {L:Nat→Bool} {bs:Nat→Nat}:∀ {os:List Oper} {r:List PK} {i:Nat},(∀ j,L j=false)→laidH L os r i bs=[]:=by
 intro os
 induction os with
 | nil=>intro r i _;cases r <;> rfl
 | cons o os ih=>
  intro r i h
  cases r with
  | nil=>rfl
  | cons k r=>
   cases k with
   | val v=>exact ih h
   | put dj c t c2=>exact ih h
   | new c t p c2=>
    unfold laidH
    cases o.dst with
    | none=>exact ih h
    | some d=>simp only [h i];exact ih h
structure Mid (P:Program) (E:Env) (l:List Oper) (n:Nat) (ks:List PK) (G:List (Nat × Value)) (Hd:Bool→List HP) (q:Nat) (listed:Array Bool) (a:Act) (w:World) (bs:Nat→Nat):Prop where
 size:listed.size=l.length
 below:∀ i,n≤i→listed.getD i false=false
 down:∀ (i:Nat) (o:Oper),listed.getD i false=true→l[i]?=some o→∀ e∈o.after.toList,Region.binds .any e=true→listed.getD e.on false=true
 fN:a.tmps.size=E.N
 fd:a.defers=E.ds
 fG:∀ i v,look G i=some v→a.tmps[i]?=some v
 fV:∀ (i:Nat) (o:Oper) (d:Nat) (k:PK),listed.getD i false=true→l[i]?=some o→o.dst=some d→ks[i]?=some k→a.tmps[d]?=some (k.out (bs d))
 st:St E.w0 E.S (Hd (listed.getD q false)++laidH (fun i=>listed.getD i false) l ks 0 bs) w
theorem look_outG {bs:Nat→Nat}:∀ {os:List Oper} {r:List PK} {s:Nat} {v:Value},look (outG os r bs) s=some v→∃ (i:Nat) (o:Oper) (k:PK),os[i]?=some o∧r[i]?=some k∧o.dst=some s∧v=k.out (bs s):=by
 intro os
 induction os with
 | nil=>intro r s v h;cases r <;> cases h
 | cons o os ih=>
  intro r s v h
  cases r with
  | nil=>cases h
  | cons k r=>
   unfold outG at h
   cases hd:o.dst with
   | none=>
    rw [hd] at h
    obtain ⟨i,o',k',h1,h2,h3,h4⟩:=ih h
    exact ⟨i + 1,o',k',by simpa using h1,by simpa using h2,h3,h4⟩
   | some d=>
    rw [hd] at h
    simp only [look] at h
    cases hb:Nat.beq d s with
    | true=>
     rw [hb] at h
     have:d=s:=Nat.eq_of_beq_eq_true hb
     subst this
     simp only [Option.some.injEq] at h
     exact ⟨0,o,k,rfl,rfl,hd,h.symm⟩
    | false=>
     rw [hb] at h
     obtain ⟨i,o',k',h1,h2,h3,h4⟩:=ih h
     exact ⟨i + 1,o',k',by simpa using h1,by simpa using h2,h3,h4⟩
theorem look_append {A B:List (Nat × Value)} {s:Nat} {v:Value} (h:look (A++B) s=some v):look A s=some v∨look B s=some v:=by
 induction A with
 | nil=>exact .inr h
 | cons p A ih=>
  obtain ⟨i,u⟩:=p
  simp only [List.cons_append,look] at h ⊢
  cases hb:Nat.beq i s with
  | true=>rw [hb] at h;exact .inl h
  | false=>rw [hb] at h;exact ih h
theorem look_mem {A:List (Nat × Value)} {s:Nat} {v:Value} (h:look A s=some v):(s,v)∈A:=by
 induction A with
 | nil=>cases h
 | cons p A ih=>
  obtain ⟨i,u⟩:=p
  simp only [look] at h
  cases hb:Nat.beq i s with
  | true=>
   rw [hb] at h
   have:i=s:=Nat.eq_of_beq_eq_true hb
   subst this
   simp only [Option.some.injEq] at h
   subst h
   exact List.mem_cons_self ..
  | false=>rw [hb] at h;exact List.mem_cons_of_mem _ (ih h)
theorem look_idx':∀ (l:List Value) (i j:Nat) (v:Value),i≤j→l[j - i]?=some v→look (idx i l) j=some v:=by
 intro l
 induction l with
 | nil=>intro i j v _ h;simp at h
 | cons u l ih=>
  intro i j v hij h
  simp only [idx,look]
  cases hb:Nat.beq i j with
  | true=>
   have:i=j:=Nat.eq_of_beq_eq_true hb
   subst this
   simpa using h
  | false=>
   have hne:i≠j:=Nat.ne_of_beq_eq_false hb
   refine ih (i + 1) j v (by omega) ?_
   rw [show j - i=(j - (i + 1)) + 1 from by omega] at h
   simpa using h
theorem look_none_append {A B:List (Nat × Value)} {s:Nat} (h:∀ v,look A s≠some v):look (A++B) s=look B s:=by
 induction A with
 | nil=>rfl
 | cons p A ih=>
  obtain ⟨i,u⟩:=p
  simp only [List.cons_append,look] at h ⊢
  cases hb:Nat.beq i s with
  | true=>rw [hb] at h;exact absurd rfl (h u)
  | false=>rw [hb] at h;exact ih h
theorem look_some_append {A B:List (Nat × Value)} {s:Nat} {v:Value} (h:look A s=some v):look (A++B) s=some v:=by
 induction A with
 | nil=>cases h
 | cons p A ih=>
  obtain ⟨i,u⟩:=p
  simp only [List.cons_append,look] at h ⊢
  cases hb:Nat.beq i s with
  | true=>rw [hb] at h;exact h
  | false=>rw [hb] at h;exact ih h
theorem slot_kept {N:Nat} {ds:List Deferred} {a a':Act} {D G:List (Nat × Value)} {d:Nat} {v:Value} (hD:∀ s u,look D s=some u→a.tmps[s]?=some u) (hG:∀ s u,look G s=some u→a.tmps[s]?=some u)
 (h:Fr N ds a' ((d,v)::(D++G++idx 0 a.tmps.toList))) {s:Nat} (hs:s≠d) {u:Value} (hu:a.tmps[s]?=some u):a'.tmps[s]?=some u:=by
 have hsn:look (idx 0 a.tmps.toList) s=some u:=look_idx' _ 0 s u (Nat.zero_le _) (by simpa using hu)
 refine h.at_ s u ?_
 simp only [look]
 have hb:Nat.beq d s=false:=by
  cases hb:Nat.beq d s with
  | true=>exact absurd (Nat.eq_of_beq_eq_true hb) (Ne.symm hs)
  | false=>rfl
 rw [hb]
 cases hDG:look (D++G) s with
 | some u'=>
  have:a.tmps[s]?=some u':=(look_append hDG).elim (hD s u') (hG s u')
  rw [hu] at this
  injection this with this
  subst this
  exact look_some_append hDG
 | none=>simp only;rw [look_none_append (fun v hv=>by rw [hDG] at hv;cases hv)];exact hsn
def cnt (L:Nat→Bool):Nat→Nat
 | 0=>0
 | m + 1=>cnt L m + cond (L m) 0 1
theorem cnt_set {L L':Nat→Bool} {p:Nat} (hLL:∀ j,j≠p→L' j=L j) (hp:L p=false) (hp':L' p=true):∀ m,p < m→cnt L' m + 1=cnt L m:=by
 have hsame:∀ m,m≤p→cnt L' m=cnt L m:=by
  intro m
  induction m with
  | zero=>intro _;rfl
  | succ m ih=>intro h;simp only [cnt];rw [ih (by omega),hLL m (by omega)]
 intro m
 induction m with
 | zero=>intro h;omega
 | succ m ih=>
  intro h
  simp only [cnt]
  by_cases hm:m=p
  ·subst hm;rw [hsame m (Nat.le_refl _),hp,hp'];simp
  ·rw [hLL m hm]
   have:=ih (by omega)
   omega
theorem cnt_pos {L:Nat→Bool} {p:Nat} (hp:L p=false):∀ m,p < m→0 < cnt L m:=by
 intro m
 induction m with
 | zero=>intro h;omega
 | succ m ih=>
  intro h
  simp only [cnt]
  by_cases hm:m=p
  ·subst hm;rw [hp];simp
  ·have:=ih (by omega);omega
theorem ready_iff {l:List Oper} {listed:Array Bool} (hs:listed.size=l.length) (i:Nat):i∈Region.ready .any l.toArray listed↔∃ o,l[i]?=some o∧listed.getD i false=false∧∀ e∈o.after.toList,Region.binds .any e=true→listed.getD e.on false=true:=by
 unfold Region.ready
 rw [List.mem_filter,List.mem_range]
 constructor
 ·rintro ⟨hi,hc⟩
  have hi':i < l.length:=by simpa using hi
  refine ⟨l[i],List.getElem?_eq_getElem hi',?_⟩
  simp only [Bool.and_eq_true,Bool.not_eq_true'] at hc
  have hg:listed.getD i true=listed.getD i false:=by simp [Array.getD_eq_getD_getElem?,Array.getElem?_eq_getElem (show i < listed.size by omega)]
  refine ⟨hg ▸ hc.1,fun e he hb=>?_⟩
  have h2:=hc.2
  simp only [List.getElem?_toArray,List.getElem?_eq_getElem hi',Option.map_some,Option.getD_some] at h2
  rw [← Array.all_toList,List.all_eq_true] at h2
  have:=h2 e he
  simpa [hb] using this
 ·rintro ⟨o,ho,hl,he⟩
  have hi':i < l.length:=(List.getElem?_eq_some_iff.1 ho).1
  refine ⟨by simpa using hi',?_⟩
  have hg:listed.getD i true=listed.getD i false:=by simp [Array.getD_eq_getD_getElem?,Array.getElem?_eq_getElem (show i < listed.size by omega)]
  simp only [List.getElem?_toArray,ho,Option.map_some,Option.getD_some,hg,hl,Bool.not_false,Bool.true_and]
  rw [← Array.all_toList,List.all_eq_true]
  intro e hm
  cases hb:Region.binds .any e with
  | false=>rfl
  | true=>rw [he e hm hb];simp
theorem getD_set {L:Array Bool} {i j:Nat} (hi:i < L.size):(L.setIfInBounds i true).getD j false=if i=j then true else L.getD j false:=by
 simp only [Array.getD_eq_getD_getElem?,Array.getElem?_setIfInBounds]
 split
 ·rename_i h;subst h;simp [hi]
 ·rfl
theorem wpOp_of_list {P:Program} {l:List Oper} {Q:Exit→Act→World→Prop} {i:Nat} {o:Oper} {rest:List Oper} {a:Act} {w:World} (ho:l[i]?=some o) (h:wpList P l.toArray Q (o::rest) a w):wpOp P l.toArray Q i (wpList P l.toArray Q rest) a w:=by
 unfold wpOp
 simp only [List.getElem?_toArray,ho]
 exact h
theorem wpOp_then {P:Program} {ops:Array Oper} {Q:Pst} {K1 K:Act→World→Prop} {i:Nat} {a:Act} {w:World} (h:wpOp P ops (Pst.then K1 Q).fn i K a w):wpOp P ops Q.fn i K a w:=by
 exact h
theorem foldl_bit (acc:List Nat) (i:Nat):∀ (es:List Edge) (s:Nat),(es.foldl (fun s e=>if Region.binds .any e then s ||| 2 ^ e.on ||| acc.getD e.on 0 else s) s).testBit i=true→
 s.testBit i=true∨∃ e∈es,Region.binds .any e=true∧(e.on=i∨(acc.getD e.on 0).testBit i=true):=by
 intro es
 induction es with
 | nil=>intro s h;exact .inl h
 | cons e es ih=>
  intro s h
  rw [List.foldl_cons] at h
  rcases ih _ h with h | ⟨e',he',hb,hr⟩
  ·split at h
   ·rename_i hb
    rw [Nat.testBit_or,Nat.testBit_or,Bool.or_eq_true,Bool.or_eq_true] at h
    rcases h with (h | h) | h
    ·exact .inl h
    ·rw [Nat.testBit_two_pow] at h;exact .inr ⟨e,List.mem_cons_self ..,hb,.inl (by simpa using h)⟩
    ·exact .inr ⟨e,List.mem_cons_self ..,hb,.inr h⟩
   ·exact .inl h
  ·exact .inr ⟨e',List.mem_cons_of_mem _ he',hb,hr⟩
def BmOK (l:List Oper) (L:Nat→Bool) (acc:List Nat):Prop:=∀ (k:Nat) (m:Nat),acc[k]?=some m→∀ o,l[k]?=some o→(∀ e∈o.after.toList,Region.binds .any e=true→L e.on=true)→∀ i,m.testBit i=true→L i=true
theorem bms_ok {l:List Oper} {L:Nat→Bool} (hdown:∀ (m:Nat) (o:Oper),L m=true→l[m]?=some o→∀ e∈o.after.toList,Region.binds .any e=true→L e.on=true):
 ∀ (r:List Oper) (acc:List Nat),(∃ p,l=p++r∧p.length=acc.length)→BmOK l L acc→BmOK l L (bms r acc):=by
 intro r
 induction r with
 | nil=>intro acc _ h;exact h
 | cons o r ih=>
  intro acc ⟨p,hl,hp⟩ h
  refine ih _ ⟨p++[o],by simp [hl],by simp [hp]⟩ ?_
  intro k m hk o' ho' hej i hbit
  by_cases hlt:k < acc.length
  ·rw [List.getElem?_append_left hlt] at hk
   exact h k m hk o' ho' hej i hbit
  ·have hke:k=acc.length:=by
    have:=(List.getElem?_eq_some_iff.1 hk).1
    simp at this;omega
   subst hke
   simp at hk
   subst hk
   have hoo:o'=o:=by rw [hl,← hp] at ho';simp at ho';exact ho'.symm
   subst hoo
   rcases foldl_bit acc i _ _ hbit with hz | ⟨e,he,hb,hr⟩
   ·simp at hz
   ·have hLe:=hej e he hb
    rcases hr with hr | hr
    ·rw [← hr];exact hLe
    ·cases hx:acc[e.on]? with
     | none=>rw [List.getD_eq_getElem?_getD,hx] at hr;simp at hr
     | some m2=>
      rw [List.getD_eq_getElem?_getD,hx] at hr
      have hin:e.on < l.length:=by have:=(List.getElem?_eq_some_iff.1 hx).1;rw [hl];simp;omega
      exact h e.on m2 hx l[e.on] (List.getElem?_eq_getElem hin) (hdown e.on _ hLe (List.getElem?_eq_getElem hin)) i hr
theorem bms_length:∀ (r:List Oper) (acc:List Nat),(bms r acc).length=acc.length + r.length:=by
 intro r
 induction r with
 | nil=>intro acc;rfl
 | cons o r ih=>intro acc;rw [bms,ih];simp;omega
theorem closed_forced {l:List Oper} {n i j:Nat} {o:Oper} {L:Nat→Bool} (hb:backB l=true) (hf:forcedB l n=true) (hni:n≤j) (ho:l[j]?=some o) (hij:i < j)
 (hdown:∀ (m:Nat) (o:Oper),L m=true→l[m]?=some o→∀ e∈o.after.toList,Region.binds .any e=true→L e.on=true) (hej:∀ e∈o.after.toList,Region.binds .any e=true→L e.on=true):L i=true:=by
 have hjl:j < l.length:=(List.getElem?_eq_some_iff.1 ho).1
 have hjb:j < (bms l []).length:=by rw [bms_length];simpa using hjl
 have hmem:=List.getElem?_eq_getElem hjb
 have hz:((bms l [])[j],j)∈(bms l []).zipIdx:=by
  rw [List.mem_zipIdx_iff_getElem?];exact hmem
 have h1:=(List.all_eq_true.1 hf) _ hz
 simp only [Bool.or_eq_true,decide_eq_true_eq] at h1
 rcases h1 with h1 | h1
 ·omega
 ·have h2:=(List.all_eq_true.1 h1) i (List.mem_range.2 hij)
  exact bms_ok hdown l [] ⟨[],rfl,rfl⟩ (fun k m hk=>by simp at hk) j _ hmem o ho hej i h2
theorem tail_any {P:Program} {l:List Oper} {Q:Exit→Act→World→Prop} {n:Nat} (hb:backB l=true) (hf:forcedB l n=true):∀ (k i:Nat),i + k=l.length→n≤i→∀ (fuel:Nat) (listed:Array Bool) (a:Act) (w:World),k≤fuel→listed.size=l.length→(∀ j,j < l.length→(listed.getD j false=true↔j < i))→
 wpList P l.toArray Q (l.drop i) a w→wpAny P .any l.toArray Q fuel listed a w:=by
 have hback:∀ (i:Nat) (o:Oper),l[i]?=some o→∀ e∈o.after.toList,Region.binds .any e=true→e.on < i:=by
  intro i o ho e he hbe
  have hi:i < l.length:=(List.getElem?_eq_some_iff.1 ho).1
  have:=(List.all_eq_true.1 hb) i (List.mem_range.2 hi)
  rw [ho] at this
  have h9:=(List.all_eq_true.1 this) e he
  simpa [hbe] using h9
 intro k
 induction k with
 | zero=>
  intro i hik hni fuel listed a w hfu hs hl h
  have hnil:Region.ready .any l.toArray listed=[]:=by
   rw [List.eq_nil_iff_forall_not_mem]
   intro j hj
   obtain ⟨o,ho,hlj,_⟩:=(ready_iff hs j).1 hj
   have hjl:j < l.length:=(List.getElem?_eq_some_iff.1 ho).1
   have:=(hl j hjl).2 (by omega)
   rw [hlj] at this;cases this
  have hd:l.drop i=[]:=List.drop_of_length_le (by omega)
  rw [hd] at h
  cases fuel with
  | zero=>exact ⟨hnil,h⟩
  | succ fuel=>exact ⟨fun _=>h,fun j hj=>by rw [hnil] at hj;cases hj⟩
 | succ k ih=>
  intro i hik hni fuel listed a w hfu hs hl h
  obtain ⟨fuel,rfl⟩:∃ m,fuel=m + 1:=⟨fuel - 1,by omega⟩
  have hil:i < l.length:=by omega
  have hir:i∈Region.ready .any l.toArray listed:=by
   refine (ready_iff hs i).2 ⟨l[i],List.getElem?_eq_getElem hil,?_,fun e he hbe=>?_⟩
   ·cases hx:listed.getD i false with
    | false=>rfl
    | true=>exact absurd ((hl i hil).1 hx) (by omega)
   ·have hlt:=hback i l[i] (List.getElem?_eq_getElem hil) e he hbe
    exact (hl e.on (by omega)).2 hlt
  refine ⟨(fun hn=>by rw [hn] at hir;cases hir),fun j hj=>?_⟩
  obtain ⟨o,ho,hlj,hej⟩:=(ready_iff hs j).1 hj
  have hjl:j < l.length:=(List.getElem?_eq_some_iff.1 ho).1
  have hji:j=i:=by
   rcases Nat.lt_trichotomy j i with h1 | h1 | h1
   ·have:=(hl j hjl).2 h1;rw [hlj] at this;cases this
   ·exact h1
   ·exact absurd ((hl i hil).1 (closed_forced hb hf (by omega) ho h1 (fun m o' hm ho' e he hbe=>(hl e.on (by have:=hback m o' ho' e he hbe;have:=(List.getElem?_eq_some_iff.1 ho').1;omega)).2 (by have:=hback m o' ho' e he hbe;have:=(hl m (List.getElem?_eq_some_iff.1 ho').1).1 hm;omega)) hej)) (by omega)
  subst hji
  rw [List.drop_eq_getElem_cons hil] at h
  have ho':l[j]=o:=by rw [List.getElem?_eq_getElem hil] at ho;injection ho
  rw [ho'] at h
  refine wpOp_mono (fun a' w' h'=>ih (j + 1) (by omega) (by omega) fuel _ a' w' (by omega) (by simp [hs]) (fun m hm=>?_) h') (wpOp_of_list ho h)
  rw [getD_set (by omega)]
  split
  ·rename_i e;subst e;simp
  ·rename_i e;rw [hl m hm];omega
theorem cnt_le (L:Nat→Bool):∀ m,cnt L m≤m:=by
 intro m
 induction m with
 | zero=>exact Nat.le_refl _
 | succ m ih=>simp only [cnt];cases L m <;> simp <;> omega
theorem cnt_upto {L:Nat→Bool} {n:Nat} (h:∀ i,i < n→L i=true) (hb:∀ i,n≤i→L i=false):∀ m,n≤m→cnt L m=m - n:=by
 have hz:∀ q,q≤n→cnt L q=0:=by
  intro q
  induction q with
  | zero=>intro _;rfl
  | succ q ihq=>intro hq;simp only [cnt];rw [ihq (by omega),h q (by omega)];rfl
 intro m
 induction m with
 | zero=>intro hn;rw [hz 0 (by omega)];omega
 | succ m ihm=>
  intro hn
  by_cases hm':n≤m
  ·simp only [cnt];rw [ihm hm',hb m hm'];simp;omega
  ·rw [hz (m + 1) (by omega)];omega
theorem Mid.lt {l:List Oper} {n:Nat} {ks:List PK} {G:List (Nat × Value)} {E:Env} {P:Program} {Hd:Bool→List HP} {q:Nat} {listed:Array Bool} {a:Act} {w:World} {bs:Nat→Nat} (M:Mid P E l n ks G Hd q listed a w bs) {m:Nat} (h:listed.getD m false=true):m < n:=by
 rcases Nat.lt_or_ge m n with h1 | h1
 ·exact h1
 ·rw [M.below m h1] at h;cases h
theorem depG_true {l:List Oper} {n:Nat} {ks:List PK} {G:List (Nat × Value)} {E:Env} {P:Program} {Hd:Bool→List HP} {q:Nat} {listed:Array Bool} {a:Act} {w:World} {bs:Nat→Nat} (M:Mid P E l n ks G Hd q listed a w bs) {o:Oper}
 (hej:∀ e∈o.after.toList,Region.binds .any e=true→listed.getD e.on false=true):∀ s u,look (depG l ks o) s=some u→a.tmps[s]?=some u:=by
 intro s u hs
 have hm:=look_mem hs
 unfold depG at hm
 rw [List.mem_filterMap] at hm
 obtain ⟨e,he,hv⟩:=hm
 split at hv
 ·rename_i hb
  have hl:=hej e he hb
  cases ho':l[e.on]? with
  | none=>rw [ho'] at hv;cases hv
  | some o'=>
   rw [ho'] at hv
   cases hk:ks[e.on]? with
   | none=>rw [hk] at hv;cases hv
   | some k=>
    rw [hk] at hv
    cases k with
    | new c t p c2=>cases hv
    | put dj c t c2=>cases hv
    | val v=>
     simp only [Option.map_eq_some_iff] at hv
     obtain ⟨d,hd,hdv⟩:=hv
     injection hdv with h1 h2
     subst h1;subst h2
     exact M.fV e.on o' d (.val v) hl ho' hd hk
 ·cases hv
structure PutOK (l:List Oper) (ks:List PK):Prop where
 put:∀ p dj c t c2,ks[p]?=some (.put dj c t c2)→∃ (j:Nat) (oj op:Oper) (e:Edge),ks[j]?=some (.new c t p c2)∧l[j]?=some oj∧oj.dst=some dj∧l[p]?=some op∧e∈op.after.toList∧Region.binds .any e=true∧e.on=j
 uniq:∀ (j j' p:Nat) c t c2 c' t' c2',ks[j]?=some (.new c t p c2)→ks[j']?=some (.new c' t' p c2')→j≠j'→c'=c2'
 new:∀ (j:Nat) c t p c2,ks[j]?=some (.new c t p c2)→c=c2∨PK.isPut ks[p]?=true
theorem PutOK.plain {l:List Oper} {ks:List PK} (h1:∀ dj c t c2,PK.put dj c t c2∉ks) (h2:∀ c t p c2,PK.new c t p c2∈ks→c=c2):PutOK l ks:=
 ⟨fun p dj c t c2 h=>absurd (List.mem_of_getElem? h) (h1 dj c t c2),fun j j' p c t c2 c' t' c2' _ h _=>h2 c' t' p c2' (List.mem_of_getElem? h),fun j c t p c2 h=>.inl (h2 c t p c2 (List.mem_of_getElem? h))⟩
def WA (P:Program) (E:Env) (l:List Oper) (Q:Pst) (G:List (Nat × Value)) (H:List HP):Prop:=∀ (a:Act) (w:World),Fr E.N E.ds a G→St E.w0 E.S H w→wpAny P .any l.toArray Q.fn l.toArray.size (Array.replicate l.toArray.size false) a w.drew
theorem CW.of {id:Nat} (hm:P.follows .mixedOrders=true) (h:WA P E l Q G H):CW P E (.region id l.toArray true) Q G H:=fun a w hf hw=>wp_region_any hm (h a w hf hw)
theorem WA.anyU (q q2 j2:Nat) (Hd:Bool→List HP) (n:Nat) (ks:List PK) (hk:ks.length=n) (hn:Nat.ble n l.length=true) (hb:backB l=true) (hf:forcedB l n=true) (hd:dstB l ks n G=true) (hput:PutOK l ks) (hpd:∀ (i:Nat) (o:Oper) (d:Nat),i < n→l[i]?=some o→o.dst=some d→PK.isPut ks[i]?=true→False)
 (hq:∀ k,ks[q]?=some k→∃ v,k=.val v) (prems:∀ (i:Nat) (o:Oper) (k:PK),i≠q→i≠q2→l[i]?=some o→ks[i]?=some k→∀ b,Prem P E l.toArray Q (depG l ks o) G (Hd b) o k)
 (premq:∀ (o:Oper) (v:Value),l[q]?=some o→ks[q]?=some (.val v)→∀ (Gx:List (Nat × Value)) (X:List HP),RW P E l.toArray (Pst.then (fun a w=>∃ d,o.dst=some d∧Fr E.N E.ds a ((d,v)::(depG l ks o++G++Gx))∧St E.w0 E.S (Hd true++X) w) Q) [o] (depG l ks o++G++Gx) (Hd false++X))
 (hq2:∀ o,q2 < n→l[q2]?=some o→∃ (e:Edge) (oj:Oper) (dj:Nat) (c:Nat→HP) (t:Nat→Value) (p:Nat) (c2 cj:Nat→HP) (tj:Nat→Value) (pj:Nat),e∈o.after.toList∧Region.binds .any e=true∧e.on=j2∧l[j2]?=some oj∧oj.dst=some dj∧ks[q2]?=some (.new c t p c2)∧ks[j2]?=some (.new cj tj pj cj) ∧
  ∀ (b0:Bool) (b:Nat) (Gx:List (Nat × Value)) (X:List HP),RW P E l.toArray (Pst.then (fun a w=>∃ b' d,o.dst=some d∧Fr E.N E.ds a ((d,t b')::(dj,tj b)::(depG l ks o++G++Gx))∧St E.w0 E.S (c b'::cj b::(Hd b0++X)) w) Q) [o] ((dj,tj b)::(depG l ks o++G++Gx)) (cj b::(Hd b0++X)))
 (tail:∀ bs,RW P E l.toArray Q (l.drop n) (outG l ks bs++G) (Hd (decide (q < n))++newH l ks bs)):WA P E l Q G (Hd false):=by
 have hnl:n≤l.length:=by simpa [Nat.ble_eq] using hn
 have hback:∀ (i:Nat) (o:Oper),l[i]?=some o→∀ e∈o.after.toList,Region.binds .any e=true→e.on < i:=by
  intro i o ho e he hbe
  have hi:i < l.length:=(List.getElem?_eq_some_iff.1 ho).1
  have:=(List.all_eq_true.1 hb) i (List.mem_range.2 hi)
  rw [ho] at this
  have h9:=(List.all_eq_true.1 this) e he
  simpa [hbe] using h9
 have hdst:∀ i,i < n→PK.isPut ks[i]?=false→∃ (o:Oper) (d:Nat),l[i]?=some o∧o.dst=some d∧look G d=none∧∀ (j:Nat) (o':Oper) (d':Nat),j < n→l[j]?=some o'→o'.dst=some d'→d=d'→i=j:=by
  intro i hi hnp
  have h1:=(List.all_eq_true.1 hd) i (List.mem_range.2 hi)
  have hi':i < l.length:=by omega
  rw [List.getElem?_eq_getElem hi'] at h1
  simp only at h1
  cases hdd:l[i].dst with
  | none=>rw [hdd] at h1;rw [hnp] at h1;cases h1
  | some d=>
   rw [hdd] at h1
   simp only [Bool.and_eq_true] at h1
   refine ⟨l[i],d,List.getElem?_eq_getElem hi',hdd,by simpa using h1.1,fun j o' d' hj ho' hd' he=>?_⟩
   have h2:=(List.all_eq_true.1 h1.2) j (List.mem_range.2 hj)
   rw [ho'] at h2
   simp only [hd'] at h2
   subst he
   simpa using h2
 have hnodst:∀ i,i < n→PK.isPut ks[i]?=true→∀ o,l[i]?=some o→∀ d,o.dst≠some d:=by
  intro i hi hp o ho d hdd
  exact hpd i o d hi ho hdd hp
 have toTail:∀ (listed:Array Bool) (a:Act) (w:World) (bs:Nat→Nat),Mid P E l n ks G Hd q listed a w bs→(∀ i,i < n→listed.getD i false=true)→wpList P l.toArray Q.fn (l.drop n) a w:=by
  intro listed a w bs M hall
  refine tail bs a w ⟨M.fN,M.fd,fun s u hs=>?_⟩ ?_
  ·rcases look_append hs with hs | hs
   ·obtain ⟨i,o,k,h1,h2,h3,h4⟩:=look_outG hs
    have hi:i < n:=by have:=(List.getElem?_eq_some_iff.1 h2).1;omega
    rw [h4]
    exact M.fV i o s k (hall i hi) h1 h3 h2
   ·exact M.fG s u hs
  ·have:=M.st
   rw [show listed.getD q false=decide (q < n) from (by
    by_cases hqn:q < n
    ·rw [hall q hqn,decide_eq_true hqn]
    ·rw [M.below q (by omega),decide_eq_false hqn])] at this
   rwa [laidH_all (fun j _ hj=>hall j (by omega)) (fun c t p c2 hm=>?_)] at this
   obtain ⟨j,hj⟩:=List.mem_iff_getElem?.1 hm
   rcases hput.new j c t p c2 hj with h | h
   ·rw [h];split <;> rfl
   ·have hp:p < n:=by
     rcases Nat.lt_or_ge p ks.length with h2 | h2
     ·omega
     ·rw [List.getElem?_eq_none h2] at h;cases h
    show (if listed.getD p false=true then c2 else c)=c2
    rw [if_pos (hall p hp)]
 intro a w hfr hst
 have key:∀ (fuel:Nat) (listed:Array Bool) (a:Act) (w:World) (bs:Nat→Nat),Mid P E l n ks G Hd q listed a w bs→cnt (fun i=>listed.getD i false) l.length≤fuel→wpAny P .any l.toArray Q.fn fuel listed a w:=by
  intro fuel
  induction fuel with
  | zero=>
   intro listed a w bs M hc
   -- nothing is left: n=l.length
   have hall:∀ i,i < l.length→listed.getD i false=true:=fun i hi=>by
    cases hx:listed.getD i false with
    | true=>rfl
    | false=>exact absurd (cnt_pos (L:=fun i=>listed.getD i false) hx l.length hi) (by omega)
   have hnl':n=l.length:=by
    rcases Nat.lt_or_ge n l.length with h | h
    ·have:=M.below n (Nat.le_refl _);rw [hall n h] at this;cases this
    ·omega
   refine tail_any hb hf 0 l.length (by omega) (by omega) 0 listed a w (Nat.le_refl _) M.size (fun j hj=>⟨fun _=>hj,fun _=>hall j hj⟩) ?_
   rw [← hnl']
   exact toTail listed a w bs M (fun i hi=>hall i (by omega))
  | succ fuel ih=>
   intro listed a w bs M hc
   by_cases hall:∀ i,i < n→listed.getD i false=true
   ·have hcn:l.length - n≤fuel + 1:=by
     have:cnt (fun i=>listed.getD i false) l.length=l.length - n:=cnt_upto hall M.below l.length hnl
     omega
    exact tail_any hb hf (l.length - n) n (by omega) (Nat.le_refl _) (fuel + 1) listed a w hcn M.size (fun j hj=>⟨fun h=>M.lt h,fun h=>hall j h⟩) (toTail listed a w bs M hall)
   ·have hex:∃ i,i < n∧listed.getD i false=false∧∀ j,j < i→listed.getD j false=true:=by
     have:∀ m,(∀ i,i < m→listed.getD i false=true)∨∃ i,i < m∧listed.getD i false=false∧∀ j,j < i→listed.getD j false=true:=by
      intro m
      induction m with
      | zero=>exact .inl (fun i hi=>by omega)
      | succ m ihm=>
       rcases ihm with h | ⟨i,h1,h2,h3⟩
       ·cases hx:listed.getD m false with
        | true=>exact .inl (fun i hi=>if h4:i < m then h i h4 else (show m=i by omega) ▸ hx)
        | false=>exact .inr ⟨m,by omega,hx,h⟩
       ·exact .inr ⟨i,by omega,h2,h3⟩
     rcases this n with h | h
     ·exact absurd h hall
     ·exact h
    obtain ⟨i0,hi0,hi0f,hi0a⟩:=hex
    have hrdy:i0∈Region.ready .any l.toArray listed:=(ready_iff M.size i0).2 ⟨l[i0],List.getElem?_eq_getElem (by omega),hi0f,fun e he hbe=>hi0a _ (hback i0 _ (List.getElem?_eq_getElem (by omega)) e he hbe)⟩
    refine ⟨(fun h=>by rw [h] at hrdy;cases hrdy),fun i hi=>?_⟩
    obtain ⟨o,ho,hlf,hej⟩:=(ready_iff M.size i).1 hi
    have hin:i < n:=by
     rcases Nat.lt_or_ge i n with h | h
     ·exact h
     ·have:=closed_forced (L:=fun i=>listed.getD i false) hb hf h ho (show i0 < i by omega) M.down hej
      rw [hi0f] at this;cases this
    have hki:i < ks.length:=by omega
    have hget:∀ j,j≠i→(listed.setIfInBounds i true).getD j false=listed.getD j false:=fun j hj=>by rw [getD_set (by rw [M.size];omega),if_neg (Ne.symm hj)]
    have hseti:(listed.setIfInBounds i true).getD i false=true:=by rw [getD_set (by rw [M.size];omega),if_pos rfl]
    have hcells:PK.isPut ks[i]?=false→∀ c t q c2,PK.new c t q c2∈ks→(if listed.getD q false=true then c2 else c)=(if (listed.setIfInBounds i true).getD q false=true then c2 else c):=fun hnp c t q c2 hm=>by
     obtain ⟨j,hj⟩:=List.mem_iff_getElem?.1 hm
     rcases hput.new j c t q c2 hj with h | h
     ·rw [h];simp
     ·rw [hget q (fun e=>by subst e;rw [hnp] at h;cases h)]
    have hP0:i≠q→i≠q2→Prem P E l.toArray Q (depG l ks o) G (Hd (listed.getD q false)) o ks[i]:=fun hiq hi2=>prems i o ks[i] hiq hi2 ho (List.getElem?_eq_getElem hki) _
    have hnew2:i=q2→∃ c t p c2,ks[i]=.new c t p c2:=fun e=>by
     obtain ⟨_,_,_,c,t,p,c2,_,_,_,_,_,_,_,_,h,_⟩:=hq2 o (by omega) (by rw [← e];exact ho)
     rw [← e,List.getElem?_eq_getElem hki] at h
     exact ⟨c,t,p,c2,Option.some.inj h⟩
    have hbq:i≠q→(listed.setIfInBounds i true).getD q false=listed.getD q false:=fun h=>hget q (Ne.symm h)
    have hvq:(∀ v,ks[i]≠.val v)→i≠q:=fun h e=>by
     obtain ⟨v,hv⟩:=hq ks[i] (by rw [← e];exact List.getElem?_eq_getElem hki)
     exact h v hv
    have hDep:=depG_true M hej
    have hsnap:Fr E.N E.ds a (depG l ks o++G++idx 0 a.tmps.toList):=⟨M.fN,M.fd,fun s u hs=>by
     rcases look_append hs with hs | hs
     ·exact (look_append hs).elim (hDep s u) (M.fG s u)
     ·have:=look_idx _ 0 s u hs;simpa using this.2⟩
    have hcnt:cnt (fun j=>(listed.setIfInBounds i true).getD j false) l.length≤fuel:=by
     have:=cnt_set (L:=fun j=>listed.getD j false) (L':=fun j=>(listed.setIfInBounds i true).getD j false) (p:=i) (fun j hj=>by show (listed.setIfInBounds i true).getD j false=listed.getD j false;rw [getD_set (by rw [M.size];omega),if_neg (Ne.symm hj)]) hlf (by show (listed.setIfInBounds i true).getD i false=true;rw [getD_set (by rw [M.size];omega),if_pos rfl]) l.length (by omega)
     omega
    have hdown':∀ (m:Nat) (o':Oper),(listed.setIfInBounds i true).getD m false=true→l[m]?=some o'→∀ e∈o'.after.toList,Region.binds .any e=true→(listed.setIfInBounds i true).getD e.on false=true:=by
     intro m o' hm' ho' e he hbi
     rw [getD_set (by rw [M.size];omega)] at hm' ⊢
     split
     ·rfl
     ·split at hm'
      ·rename_i e2;subst e2;rw [ho] at ho';injection ho' with ho';subst ho';exact hej e he hbi
      ·exact M.down m o' hm' ho' e he hbi
    have hbelow':∀ j,n≤j→(listed.setIfInBounds i true).getD j false=false:=fun j hj=>by rw [getD_set (by rw [M.size];omega),if_neg (by omega)];exact M.below j hj
    cases hkk:ks[i] with
    | put dj c t c2=>
     have hiq:=hvq (fun v e=>by rw [hkk] at e;cases e)
     have hP:=hP0 hiq (fun e=>by obtain ⟨c,t,p,c2,h⟩:=hnew2 e;rw [hkk] at h;cases h)
     rw [hkk] at hP
     obtain ⟨j,oj,op,e,hkj,hoj,hdj,hop,he,hbe,hej2⟩:=hput.put i dj c t c2 (by rw [List.getElem?_eq_getElem hki,hkk])
     rw [ho] at hop;injection hop with hop;subst hop
     have hjl:listed.getD j false=true:=hej2 ▸ hej e he hbe
     have hji:j≠i:=fun e2=>by rw [e2,hlf] at hjl;cases hjl
     have hptr:=M.fV j oj dj _ hjl hoj hdj hkj
     obtain ⟨X,hX,hX'⟩:=laidH_put (L:=fun i=>listed.getD i false) (L':=fun j=>(listed.setIfInBounds i true).getD j false) (bs:=bs) (p:=i) (j:=j) (fun m hm=>(hget m hm).symm) hlf hseti hjl (os:=l) (r:=ks) (i:=0) (Nat.zero_le _)
      (fun m c' t' q c2' _ hm hk'=>by
       rw [Nat.sub_zero] at hk'
       show (if listed.getD q false=true then c2' else c')=(if (listed.setIfInBounds i true).getD q false=true then c2' else c')
       by_cases hq:q=i
       ·subst hq
        rw [hput.uniq j m q c t c2 c' t' c2' hkj hk' (Ne.symm hm)]
        simp
       ·rw [hget q hq])
      (fun _=>by rw [Nat.sub_zero,List.getElem?_eq_getElem hki,hkk];rfl) (o:=oj) (d:=dj) (c:=c) (t:=t) (c2:=c2) (by simpa using hoj) hdj (by simpa using hkj)
     have hfr1:Fr E.N E.ds a ((dj,t (bs dj))::(depG l ks o++G++idx 0 a.tmps.toList)):=⟨M.fN,M.fd,fun s u hs=>by
      unfold look at hs
      cases hb:Nat.beq dj s with
      | true=>
       rw [hb] at hs
       have:dj=s:=Nat.eq_of_beq_eq_true hb
       subst this
       simp only [Option.some.injEq] at hs
       subst hs
       exact hptr
      | false=>rw [hb] at hs;exact hsnap.at_ s u hs⟩
     have hst1:St E.w0 E.S (c (bs dj)::(Hd (listed.getD q false)++X)) w:=M.st.perm ((List.Perm.append_left _ hX).trans List.perm_middle)
     have h1:=hP (bs dj) (idx 0 a.tmps.toList) X a w hfr1 hst1
     refine wpOp_then (wpOp_mono (fun a' w' h'=>?_) (wpOp_of_list ho h1))
     obtain ⟨hfr',hst'⟩:=h'
     have hkeep:∀ s u,a.tmps[s]?=some u→a'.tmps[s]?=some u:=fun s u hs=>by
      by_cases hsd:s=dj
      ·subst hsd
       rw [hptr] at hs
       injection hs with hs
       subst hs
       exact hfr'.at_ _ _ (by simp [look,Nat.beq_refl,PK.out])
      ·exact slot_kept hDep M.fG hfr' hsd hs
     refine ih _ a' w' bs ⟨by simp [M.size],hbelow',hdown',hfr'.size,hfr'.defers,fun s u hs=>hkeep s u (M.fG s u hs),fun m o' d' k hm' ho' hd' hk'=>?_,?_⟩ hcnt
     ·by_cases hmi:m=i
      ·subst hmi
       rw [List.getElem?_eq_getElem hki,hkk] at hk';injection hk' with hk';subst hk'
       rw [ho] at ho';injection ho' with ho';subst ho'
       exact absurd hd' (hnodst m hin (by rw [List.getElem?_eq_getElem hki,hkk];rfl) o ho d')
      ·rw [hget m hmi] at hm'
       exact hkeep _ _ (M.fV m o' d' k hm' ho' hd' hk')
     ·rw [hbq hiq]
      exact hst'.perm (List.perm_middle.symm.trans (List.Perm.append_left _ hX'.symm))
    | val v=>
     have hnp:PK.isPut ks[i]?=false:=by rw [List.getElem?_eq_getElem hki,hkk];rfl
     obtain ⟨o2,d,ho2,hdd,hGd,huniq⟩:=hdst i hin hnp
     rw [ho] at ho2
     injection ho2 with ho2
     subst ho2
     have h1:wpList P l.toArray (Pst.then (fun a' w=>∃ d,o.dst=some d∧Fr E.N E.ds a' ((d,v)::(depG l ks o++G++idx 0 a.tmps.toList))∧St E.w0 E.S (Hd ((listed.setIfInBounds i true).getD q false)++laidH (fun i=>listed.getD i false) l ks 0 bs) w) Q).fn [o] a w:=by
      by_cases hiq:i=q
      ·have hst0:=M.st
       rw [← hiq,hlf] at hst0
       rw [← hiq,hseti]
       exact premq o v (by rw [← hiq];exact ho) (by rw [← hiq,List.getElem?_eq_getElem hki,hkk]) (idx 0 a.tmps.toList) (laidH (fun i=>listed.getD i false) l ks 0 bs) a w hsnap hst0
      ·have hP:=hP0 hiq (fun e=>by obtain ⟨c,t,p,c2,h⟩:=hnew2 e;rw [hkk] at h;cases h)
       rw [hkk] at hP
       rw [hbq hiq]
       exact hP (idx 0 a.tmps.toList) (laidH (fun i=>listed.getD i false) l ks 0 bs) a w hsnap M.st
     refine wpOp_then (wpOp_mono (fun a' w' h'=>?_) (wpOp_of_list ho h1))
     obtain ⟨d2,hd2,hfr',hst'⟩:=h'
     rw [hdd] at hd2
     injection hd2 with hd2
     subst hd2
     refine ih _ a' w' bs ⟨by simp [M.size],hbelow',hdown',hfr'.size,hfr'.defers,fun s u hs=>?_,fun m o' d' k hm' ho' hd' hk'=>?_,?_⟩ hcnt
     ·exact slot_kept hDep M.fG hfr' (fun e=>by subst e;rw [hGd] at hs;cases hs) (M.fG s u hs)
     ·rw [getD_set (by rw [M.size];omega)] at hm'
      by_cases hmi:i=m
      ·subst hmi
       rw [ho] at ho';injection ho' with ho';subst ho'
       rw [hdd] at hd';injection hd' with hd';subst hd'
       rw [List.getElem?_eq_getElem hki,hkk] at hk';injection hk' with hk';subst hk'
       exact hfr'.at_ _ _ (by simp [look,Nat.beq_refl,PK.out])
      ·rw [if_neg hmi] at hm'
       have hmn:m < n:=M.lt hm'
       refine slot_kept hDep M.fG hfr' (fun e=>hmi (huniq m o' d' hmn ho' hd' e.symm)) (M.fV m o' d' k hm' ho' hd' hk')
     ·have:laidH (fun i_1=>(listed.setIfInBounds i true).getD i_1 false) l ks 0 bs=laidH (fun i=>listed.getD i false) l ks 0 bs:=by
       exact laidH_val (p:=i) (v:=v) (fun j hj=>by rw [getD_set (by rw [M.size];omega),if_neg (Ne.symm hj)]) (fun _=>by rw [Nat.sub_zero,List.getElem?_eq_getElem hki,hkk]) (fun c t q c2 hm=>(hcells hnp c t q c2 hm).symm)
      rw [this];exact hst'
    | new c t q0 c2=>
     have hiq:=hvq (fun v e=>by rw [hkk] at e;cases e)
     have hnp:PK.isPut ks[i]?=false:=by rw [List.getElem?_eq_getElem hki,hkk];rfl
     obtain ⟨o2,d,ho2,hdd,hGd,huniq⟩:=hdst i hin hnp
     rw [ho] at ho2
     injection ho2 with ho2
     subst ho2
     have hop:Go.wpOp P l.toArray Q.fn i (fun a' w=>∃ b d,o.dst=some d∧Fr E.N E.ds a' ((d,t b)::(depG l ks o++G++idx 0 a.tmps.toList))∧St E.w0 E.S (c b::(Hd (listed.getD q false)++laidH (fun i=>listed.getD i false) l ks 0 bs)) w) a w:=by
      by_cases hi2:i=q2
      ·obtain ⟨e,oj,dj,c',t',p',c2',cj,tj,pj,he,hbe,hej2,hoj,hdj,hk2,hkj,hp2⟩:=hq2 o (by omega) (by rw [← hi2];exact ho)
       rw [← hi2,List.getElem?_eq_getElem hki,hkk] at hk2
       injection hk2 with hk2
       injection hk2 with e1 e2 e3 e4
       subst e1;subst e2
       have hjl:listed.getD j2 false=true:=hej2 ▸ hej e he hbe
       have hptr:=M.fV j2 oj dj _ hjl hoj hdj hkj
       obtain ⟨X,hX⟩:=laidH_get (L:=fun i=>listed.getD i false) (bs:=bs) (j:=j2) hjl (os:=l) (r:=ks) (i:=0) (Nat.zero_le _) (by simpa using hoj) hdj (by simpa using hkj)
       have hfr1:Fr E.N E.ds a ((dj,tj (bs dj))::(depG l ks o++G++idx 0 a.tmps.toList)):=⟨M.fN,M.fd,fun s u hs=>by
        unfold look at hs
        cases hb:Nat.beq dj s with
        | true=>
         rw [hb] at hs
         have:dj=s:=Nat.eq_of_beq_eq_true hb
         subst this
         simp only [Option.some.injEq] at hs
         subst hs
         exact hptr
        | false=>rw [hb] at hs;exact hsnap.at_ s u hs⟩
       have hst1:St E.w0 E.S (cj (bs dj)::(Hd (listed.getD q false)++X)) w:=M.st.perm ((List.Perm.append_left _ hX).trans List.perm_middle)
       have h1:=hp2 (listed.getD q false) (bs dj) (idx 0 a.tmps.toList) X a w hfr1 hst1
       refine wpOp_then (wpOp_mono (fun a' w' h'=>?_) (wpOp_of_list ho h1))
       obtain ⟨b',d',hd',hfr',hst'⟩:=h'
       rw [hdd] at hd'
       injection hd' with hd'
       subst hd'
       refine ⟨b',d,hdd,⟨hfr'.size,hfr'.defers,fun s u hs=>?_⟩,hst'.perm (List.Perm.cons _ (List.perm_middle.symm.trans (List.Perm.append_left _ hX.symm)))⟩
       unfold look at hs
       cases hb:Nat.beq d s with
       | true=>rw [hb] at hs;exact hfr'.at_ s u (by unfold look;rw [hb];exact hs)
       | false=>
        rw [hb] at hs
        refine hfr'.at_ s u (by
         unfold look
         rw [hb]
         simp only
         unfold look
         cases hb2:Nat.beq dj s with
         | false=>exact hs
         | true=>
          have:dj=s:=Nat.eq_of_beq_eq_true hb2
          subst this
          have h9:=hsnap.at_ _ u hs
          rw [hptr] at h9
          simpa [PK.out] using h9)
      ·have hP:=hP0 hiq hi2
       rw [hkk] at hP
       exact wpOp_then (wpOp_of_list ho (hP (idx 0 a.tmps.toList) (laidH (fun i=>listed.getD i false) l ks 0 bs) a w hsnap M.st))
     refine wpOp_mono (fun a' w' h'=>?_) hop
     obtain ⟨b,d2,hd2,hfr',hst'⟩:=h'
     rw [hdd] at hd2
     injection hd2 with hd2
     subst hd2
     refine ih _ a' w' (fun s=>if s=d then b else bs s) ⟨by simp [M.size],hbelow',hdown',hfr'.size,hfr'.defers,fun s u hs=>?_,fun m o' d' k hm' ho' hd' hk'=>?_,?_⟩ hcnt
     ·exact slot_kept hDep M.fG hfr' (fun e=>by subst e;rw [hGd] at hs;cases hs) (M.fG s u hs)
     ·rw [getD_set (by rw [M.size];omega)] at hm'
      by_cases hmi:i=m
      ·subst hmi
       rw [ho] at ho';injection ho' with ho';subst ho'
       rw [hdd] at hd';injection hd' with hd';subst hd'
       rw [List.getElem?_eq_getElem hki,hkk] at hk';injection hk' with hk';subst hk'
       rw [if_pos rfl]
       exact hfr'.at_ _ _ (by simp [look,Nat.beq_refl,PK.out])
      ·rw [if_neg hmi] at hm'
       have hmn:m < n:=M.lt hm'
       have hne:d'≠d:=fun e=>hmi (huniq m o' d' hmn ho' hd' e.symm)
       rw [if_neg hne]
       exact slot_kept hDep M.fG hfr' hne (M.fV m o' d' k hm' ho' hd' hk')
     ·have hp:=laidH_add (L:=fun i=>listed.getD i false) (L':=fun j=>(listed.setIfInBounds i true).getD j false) (bs:=bs) (bs':=fun s=>if s=d then b else bs s) (p:=i) (os:=l) (r:=ks) (i:=0) (Nat.zero_le _)
       (fun j hj=>by show listed.getD j false=(listed.setIfInBounds i true).getD j false;rw [getD_set (by rw [M.size];omega),if_neg (Ne.symm hj)]) hlf (by show (listed.setIfInBounds i true).getD i false=true;rw [getD_set (by rw [M.size];omega),if_pos rfl])
       (fun j o' d' h1 h2 h3 h4=>by
        simp only [Nat.zero_add] at h4
        have hne:d'≠d:=fun e=>by
         have:=huniq j o' d' (by omega) h1 h2 e.symm
         subst this
         rw [hlf] at h4;cases h4
        simp [hne]) (hcells hnp) (o:=o) (d:=d) (c:=c) (t:=t) (by simpa using ho) hdd (by rw [Nat.sub_zero,List.getElem?_eq_getElem hki,hkk]) (by
        show (if (listed.setIfInBounds i true).getD q0 false=true then c2 else c)=c
        have hki':ks[i]?=some (.new c t q0 c2):=by rw [List.getElem?_eq_getElem hki,hkk]
        rcases hput.new i c t q0 c2 hki' with h | h
        ·rw [h];split <;> rfl
        ·cases hq:ks[q0]? with
         | none=>rw [hq] at h;cases h
         | some kq=>
          rw [hq] at h
          cases kq with
          | put dj c' t' c2'=>
           obtain ⟨j,oj,op,e,hkj,hoj,hdj,hop,he,hbe,hej2⟩:=hput.put q0 dj c' t' c2' hq
           have hqi:q0≠i:=fun e2=>by subst e2;rw [hki'] at hq;cases hq
           by_cases hji:j=i
           ·rw [hget q0 hqi]
            cases hlq:listed.getD q0 false with
            | false=>rfl
            | true=>
             have:=M.down q0 op hlq hop e he hbe
             rw [hej2,hji,hlf] at this;cases this
           ·have:=hput.uniq j i q0 c' t' c2' c t c2 hkj hki' hji
            rw [this];split <;> rfl
          | val v=>cases h
          | new _ _ _ _=>cases h)
      simp only [if_true] at hp
      rw [hbq hiq]
      refine hst'.perm ?_
      exact List.perm_middle.symm.trans (List.Perm.append_left _ hp)
 have hrep:∀ j,(Array.replicate l.toArray.size false).getD j false=false:=fun j=>by
  simp only [Array.getD_eq_getD_getElem?,Array.getElem?_replicate]
  split <;> rfl
 refine key l.toArray.size _ a w.drew (fun _=>0) ⟨by simp,fun i _=>hrep i,fun i o h=>(by rw [hrep i] at h;cases h),hfr.size,hfr.defers,hfr.at_,fun i o d k h=>(by rw [hrep i] at h;cases h),?_⟩ ?_
 ·have:laidH (fun i=>(Array.replicate l.toArray.size false).getD i false) l ks 0 (fun _=>0)=[]:=laidH_none hrep
  rw [this,List.append_nil,hrep q]
  exact hst.drew
 ·simpa using cnt_le (fun i=>(Array.replicate l.toArray.size false).getD i false) l.length
theorem WA.anyT (q:Nat) (Hd:Bool→List HP) (n:Nat) (ks:List PK) (hk:ks.length=n) (hn:Nat.ble n l.length=true) (hb:backB l=true) (hf:forcedB l n=true) (hd:dstB l ks n G=true) (hput:PutOK l ks) (hpd:∀ (i:Nat) (o:Oper) (d:Nat),i < n→l[i]?=some o→o.dst=some d→PK.isPut ks[i]?=true→False)
 (hq:∀ k,ks[q]?=some k→∃ v,k=.val v) (prems:∀ (i:Nat) (o:Oper) (k:PK),i≠q→l[i]?=some o→ks[i]?=some k→∀ b,Prem P E l.toArray Q (depG l ks o) G (Hd b) o k)
 (premq:∀ (o:Oper) (v:Value),l[q]?=some o→ks[q]?=some (.val v)→∀ (Gx:List (Nat × Value)) (X:List HP),RW P E l.toArray (Pst.then (fun a w=>∃ d,o.dst=some d∧Fr E.N E.ds a ((d,v)::(depG l ks o++G++Gx))∧St E.w0 E.S (Hd true++X) w) Q) [o] (depG l ks o++G++Gx) (Hd false++X))
 (tail:∀ bs,RW P E l.toArray Q (l.drop n) (outG l ks bs++G) (Hd (decide (q < n))++newH l ks bs)):WA P E l Q G (Hd false):=
 WA.anyU q l.length 0 Hd n ks hk hn hb hf hd hput hpd hq (fun i o k h1 _ ho hk' b=>prems i o k h1 ho hk' b) premq (fun o _ ho=>by rw [List.getElem?_eq_none (Nat.le_refl _)] at ho;cases ho) tail
theorem WA.any (n:Nat) (ks:List PK) (hk:ks.length=n) (hn:Nat.ble n l.length=true) (hb:backB l=true) (hf:forcedB l n=true) (hd:dstB l ks n G=true) (hput:PutOK l ks) (hpd:∀ (i:Nat) (o:Oper) (d:Nat),i < n→l[i]?=some o→o.dst=some d→PK.isPut ks[i]?=true→False)
 (prems:Prems P E l.toArray Q l ks G H l ks) (tail:∀ bs,RW P E l.toArray Q (l.drop n) (outG l ks bs++G) (H++newH l ks bs)):WA P E l Q G H:=by
 have hnl:n≤l.length:=by simpa [Nat.ble_eq] using hn
 have hno:ks[l.length]?=none:=List.getElem?_eq_none (by omega)
 refine WA.anyT l.length (fun _=>H) n ks hk hn hb hf hd hput hpd (fun k h=>by rw [hno] at h;cases h) (fun i o k _ ho hk' b=>Prems.at_ prems i o k ho hk') (fun o v ho _=>by rw [List.getElem?_eq_none (Nat.le_refl _)] at ho;cases ho) tail
end
end Go.Proofs.YtbcdgcodnkgdoaaGreat
namespace Go.Proofs.YtbcdgcodnkgdoaaGreat
open Go Go.RowKit
section
variable {P:Program} {E:Env} {ops:Array Oper} {Q:Pst} {K:Act→World→Prop} {rest:List Oper} {G:List (Nat × Value)} {H:List HP}
/-! ### order open -/
def lookK:List (Nat × PK)→Nat→Option PK
 | [],_=>none
 | (i,v)::r,j=>match Nat.beq i j with
  | true=>some v
  | false=>lookK r j
def depD (l:List Oper) (D:List (Nat × PK)):List Edge→List (Nat × Value)
 | []=>[]
 | e::es=>match Region.binds .any e with
  | true=>match l[e.on]? with
   | some o'=>match o'.dst with
    | some d=>match lookK D d with
     | some (.val v)=>(d,v)::depD l D es
     | _=>depD l D es
    | none=>depD l D es
   | none=>depD l D es
  | false=>depD l D es
def outD:List (Nat × PK)→(Nat→Nat)→List (Nat × Value)
 | [],_=>[]
 | (d,k)::r,bs=>(d,k.out (bs d))::outD r bs
def newD:List (Nat × PK)→(Nat→Nat)→List HP
 | [],_=>[]
 | (d,.new _ _ _ c2)::r,bs=>c2 (bs d)::newD r bs
 | (_,.val _)::r,bs=>newD r bs
 | (_,.put _ _ _ _)::r,bs=>newD r bs
def PK.plain:PK→Prop
 | .val _=>True
 | .new c _ _ c2=>c=c2
 | .put _ _ _ _=>False
def zp (l:List Oper) (acc:List PK):List (Nat × PK):=List.zipWith (fun o k=>(o.dst.getD 0,k)) l acc
def Dist (l:List Oper) (n:Nat):Prop:=∀ i,i < n→∃ (o:Oper) (d:Nat),l[i]?=some o∧o.dst=some d∧∀ (j:Nat) (o':Oper),j < n→l[j]?=some o'→o'.dst=some d→i=j
theorem lookK_mem {D:List (Nat × PK)} {d:Nat} {k:PK} (h:(d,k)∈D) (hu:∀ k',(d,k')∈D→k'=k):lookK D d=some k:=by
 induction D with
 | nil=>cases h
 | cons p r ih=>
  obtain ⟨i,v⟩:=p
  unfold lookK
  cases hb:Nat.beq i d with
  | true=>
   have:i=d:=Nat.eq_of_beq_eq_true hb
   subst this
   simp [hu v (by simp)]
  | false=>
   have hne:i≠d:=Nat.ne_of_beq_eq_false hb
   rcases List.mem_cons.1 h with h | h
   ·simp only [Prod.mk.injEq] at h;exact absurd h.1.symm hne
   ·exact ih h (fun k' hk=>hu k' (by simp [hk]))
theorem zp_at {l:List Oper} {acc:List PK} {i:Nat} {o:Oper} {d:Nat} {k:PK} (ho:l[i]?=some o) (hd:o.dst=some d) (hk:acc[i]?=some k):(zp l acc)[i]?=some (d,k):=by
 simp [zp,List.getElem?_zipWith,ho,hk,hd]
theorem zp_inv {l:List Oper} {acc:List PK} {d:Nat} {k:PK} (h:(d,k)∈zp l acc):∃ (i:Nat) (o:Oper),l[i]?=some o∧acc[i]?=some k∧o.dst.getD 0=d:=by
 obtain ⟨i,hi⟩:=List.mem_iff_getElem?.1 h
 simp only [zp,List.getElem?_zipWith] at hi
 cases ho:l[i]? with
 | none=>rw [ho] at hi;simp at hi
 | some o=>
  cases hk:acc[i]? with
  | none=>rw [ho,hk] at hi;simp at hi
  | some k'=>
   rw [ho,hk] at hi
   simp only [Option.some.injEq,Prod.mk.injEq] at hi
   exact ⟨i,o,ho,by rw [hk,hi.2],hi.1⟩
theorem zp_look {l:List Oper} {acc:List PK} {n:Nat} (hdist:Dist l n) (hn:acc.length≤n) {D:List (Nat × PK)} (hD:D.reverse=zp l acc) {i:Nat} {o:Oper} {d:Nat} {k:PK} (ho:l[i]?=some o) (hd:o.dst=some d) (hk:acc[i]?=some k):lookK D d=some k:=by
 have hm:∀ k',(d,k')∈D↔(d,k')∈zp l acc:=fun k'=>by rw [← hD];simp
 refine lookK_mem ((hm k).2 (List.mem_iff_getElem?.2 ⟨i,zp_at ho hd hk⟩)) (fun k' hk'=>?_)
 obtain ⟨j,o',ho',hk2,hd'⟩:=zp_inv ((hm k').1 hk')
 have hi:i < n:=Nat.lt_of_lt_of_le (List.getElem?_eq_some_iff.1 hk).1 hn
 have hj:j < n:=Nat.lt_of_lt_of_le (List.getElem?_eq_some_iff.1 hk2).1 hn
 obtain ⟨o1,d1,h1,h2,h3⟩:=hdist i hi
 obtain ⟨o2,d2,g1,g2,g3⟩:=hdist j hj
 rw [ho'] at g1;cases g1
 rw [g2] at hd'
 simp only [Option.getD_some] at hd'
 subst hd'
 have:=h3 j o' hj ho' (by rw [ho] at h1;cases h1;rw [hd] at h2;cases h2;exact g2)
 subst this
 rw [hk] at hk2
 cases hk2;rfl
theorem depD_eq {l:List Oper} {acc ks:List PK} {D:List (Nat × PK)} {n:Nat} (hdist:Dist l n) (hn:acc.length≤n) (hD:D.reverse=zp l acc):∀ {es:List Edge},(∀ e∈es,Region.binds .any e=true→e.on < acc.length)→(es.filterMap fun e=>
 if Region.binds .any e then match l[e.on]?,(acc++ks)[e.on]? with
 | some o',some (.val v)=>o'.dst.map fun d=>(d,v)
 | _,_=>none
 else none)=depD l D es:=by
 intro es
 induction es with
 | nil=>intro _;rfl
 | cons e es ih=>
  intro h
  have ih:=ih (fun e' he'=>h e' (by simp [he']))
  have he:=h e (by simp)
  rw [List.filterMap_cons,depD,← ih]
  cases hbe:Region.binds .any e with
  | false=>rfl
  | true=>
   replace he:=he hbe
   simp only [if_true]
   cases ho:l[e.on]? with
   | none=>rfl
   | some o'=>
    have hk:(acc++ks)[e.on]?=some acc[e.on]:=by rw [List.getElem?_append_left he];simp
    have hk':acc[e.on]?=some acc[e.on]:=by simp
    rw [hk]
    cases hd:o'.dst with
    | none=>cases hv:acc[e.on] <;> simp [hd]
    | some d=>
     have hz:=zp_look hdist hn hD ho hd hk'
     cases hv:acc[e.on] <;> rw [hv] at hz <;> simp [hd,hz]
theorem look_of_mem {L:List (Nat × Value)} {s:Nat} {v:Value} (h:(s,v)∈L) (hu:∀ v',(s,v')∈L→v'=v):look L s=some v:=by
 induction L with
 | nil=>cases h
 | cons p r ih=>
  obtain ⟨i,u⟩:=p
  unfold look
  cases hb:Nat.beq i s with
  | true=>
   have:i=s:=Nat.eq_of_beq_eq_true hb
   subst this
   simp [hu u (by simp)]
  | false=>
   have hne:i≠s:=Nat.ne_of_beq_eq_false hb
   rcases List.mem_cons.1 h with h | h
   ·simp only [Prod.mk.injEq] at h;exact absurd h.1.symm hne
   ·exact ih h (fun k' hk=>hu k' (by simp [hk]))
theorem outG_zp {bs:Nat→Nat}:∀ {l:List Oper} {acc:List PK},(∀ (i:Nat) (o:Oper),i < acc.length→l[i]?=some o→o.dst≠none)→outG l acc bs=(zp l acc).map (fun p=>(p.1,p.2.out (bs p.1))):=by
 intro l
 induction l with
 | nil=>intro acc _;cases acc <;> rfl
 | cons o l ih=>
  intro acc h
  cases acc with
  | nil=>rfl
  | cons k r=>
   have ho:=h 0 o (by simp) rfl
   cases hd:o.dst with
   | none=>exact absurd hd ho
   | some d=>
    simp only [outG,hd,zp,List.zipWith_cons_cons,List.map_cons,Option.getD_some]
    rw [ih (fun i o' hi ho'=>h (i + 1) o' (by simpa using hi) (by simpa using ho'))]
    rfl
theorem outD_map {bs:Nat→Nat} (D:List (Nat × PK)):outD D bs=D.map (fun p=>(p.1,p.2.out (bs p.1))):=by
 induction D with
 | nil=>rfl
 | cons p r ih=>obtain ⟨d,k⟩:=p;simp [outD,ih]
theorem newD_map {bs:Nat→Nat} (D:List (Nat × PK)):newD D bs=D.filterMap (fun p=>match p.2 with | .new _ _ _ c2=>some (c2 (bs p.1)) | .val _=>none | .put _ _ _ _=>none):=by
 induction D with
 | nil=>rfl
 | cons p r ih=>obtain ⟨d,k⟩:=p;cases k <;> simp [newD,ih]
theorem newH_zp {bs:Nat→Nat}:∀ {l:List Oper} {acc:List PK},(∀ (i:Nat) (o:Oper),i < acc.length→l[i]?=some o→o.dst≠none)→newH l acc bs=newD (zp l acc) bs:=by
 intro l
 induction l with
 | nil=>intro acc _;cases acc <;> rfl
 | cons o l ih=>
  intro acc h
  cases acc with
  | nil=>rfl
  | cons k r=>
   have ho:=h 0 o (by simp) rfl
   have hr:=ih (acc:=r) (fun i o' hi ho'=>h (i + 1) o' (by simpa using hi) (by simpa using ho'))
   cases hd:o.dst with
   | none=>exact absurd hd ho
   | some d=>cases k <;> simp [newH,hd,zp,newD,hr] <;> rfl
structure AW (P:Program) (E:Env) (Q:Pst) (l:List Oper) (G:List (Nat × Value)) (H:List HP) (D:List (Nat × PK)) (os:List Oper):Prop where
 out:∀ acc:List PK,D.reverse=zp l acc→acc.length≤l.length→(∀ (i:Nat) (o:Oper),l[i]?=some o→∀ e∈o.after.toList,Region.binds .any e=true→e.on < i)→l.drop acc.length=os→∃ ks:List PK,
  (Dist l (acc++ks).length→Prems P E l.toArray Q l (acc++ks) G H os ks)∧Nat.ble (acc++ks).length l.length=true∧forcedB l (acc++ks).length=true∧dstB l [] (acc++ks).length G=true∧(∀ k∈ks,k.plain) ∧
  (Dist l (acc++ks).length→∀ bs,RW P E l.toArray Q (l.drop (acc++ks).length) (outG l (acc++ks) bs++G) (H++newH l (acc++ks) bs))
theorem stop_out {l:List Oper} {D:List (Nat × PK)} {os:List Oper} (h2:forcedB l D.length=true) (h3:dstB l [] D.length G=true) (tail:∀ bs,RW P E l.toArray Q os (outD D bs++G) (H++newD D bs))  {acc:List PK} (hD:D.reverse=zp l acc) (hle:acc.length≤l.length) (hos:l.drop acc.length=os):
 Nat.ble acc.length l.length=true∧forcedB l acc.length=true∧dstB l [] acc.length G=true∧(Dist l acc.length→∀ bs,RW P E l.toArray Q (l.drop acc.length) (outG l acc bs++G) (H++newH l acc bs)):=by
 have hlen:D.length=acc.length:=by
  rw [← List.length_reverse,hD,zp,List.length_zipWith,Nat.min_eq_right hle]
 rw [hlen.symm]
 refine ⟨by rw [Nat.ble_eq];omega,h2,h3,fun hdist bs=>?_⟩
 rw [hlen,hos]
 have hsome:∀ (i:Nat) (o:Oper),i < acc.length→l[i]?=some o→o.dst≠none:=fun i o hi ho hn=>by
  obtain ⟨o',d,h1,h2',_⟩:=hdist i (by omega)
  rw [ho] at h1;cases h1
  rw [hn] at h2';cases h2'
 have hmem:∀ (p:Nat × Value),p∈outD D bs↔p∈outG l acc bs:=fun p=>by
  rw [outD_map,outG_zp hsome,← hD];simp
 intro a w hf hw
 refine tail bs a w ⟨hf.size,hf.defers,fun s v hs=>hf.at_ s v ?_⟩ (hw.perm ?_)
 ·have huniq:∀ (p q:Nat × Value),p∈outG l acc bs→q∈outG l acc bs→p.1=q.1→p=q:=by
   intro p q hp hq he
   rw [outG_zp hsome] at hp hq
   obtain ⟨⟨d1,k1⟩,hp1,rfl⟩:=List.mem_map.1 hp
   obtain ⟨⟨d2,k2⟩,hq1,rfl⟩:=List.mem_map.1 hq
   simp only at he
   subst he
   obtain ⟨i,o,ho,hk,hd⟩:=zp_inv hp1
   obtain ⟨j,o',ho',hk',hd'⟩:=zp_inv hq1
   have hi:=(List.getElem?_eq_some_iff.1 hk).1
   have hj:=(List.getElem?_eq_some_iff.1 hk').1
   obtain ⟨oi,di,e1,e2,e3⟩:=hdist i (by omega)
   rw [ho] at e1;cases e1
   obtain ⟨oj,dj,f1,f2,_⟩:=hdist j (by omega)
   rw [ho'] at f1;cases f1
   rw [e2] at hd;rw [f2] at hd'
   simp only [Option.getD_some] at hd hd'
   have:=e3 j o' (by omega) ho' (by rw [f2,hd',hd])
   subst this
   rw [hk] at hk';cases hk';rfl
  by_cases hx:∃ u,(s,u)∈outG l acc bs
  ·obtain ⟨u,hu⟩:=hx
   have h1:look (outG l acc bs) s=some u:=look_of_mem hu (fun v' hv'=>by have:=huniq _ _ hv' hu rfl;simpa using this)
   have h2:look (outD D bs) s=some u:=look_of_mem ((hmem _).2 hu) (fun v' hv'=>by have:=huniq _ _ ((hmem _).1 hv') hu rfl;simpa using this)
   rw [look_some_append h2] at hs
   rw [look_some_append h1];exact hs
  ·have n1:∀ v,look (outG l acc bs) s≠some v:=fun v hv=>hx ⟨v,look_mem hv⟩
   have n2:∀ v,look (outD D bs) s≠some v:=fun v hv=>hx ⟨v,(hmem _).1 (look_mem hv)⟩
   rw [look_none_append n2] at hs
   rw [look_none_append n1];exact hs
 ·rw [newH_zp hsome,← hD]
  refine List.Perm.append_left _ ?_
  rw [newD_map,newD_map]
  exact List.Perm.filterMap _ (List.reverse_perm D)
theorem AW.stop {l:List Oper} {D:List (Nat × PK)} {os:List Oper} (h2:forcedB l D.length=true) (h3:dstB l [] D.length G=true) (tail:∀ bs,RW P E l.toArray Q os (outD D bs++G) (H++newD D bs)):AW P E Q l G H D os:=by
 refine ⟨fun acc hD hle hb hos=>⟨[],fun _=>by cases os <;> trivial,?_⟩⟩
 rw [List.append_nil]
 obtain ⟨k1,k2,k3,k4⟩:=stop_out h2 h3 tail hD hle hos
 exact ⟨k1,k2,k3,by simp,k4⟩
theorem step_acc {l:List Oper} {D:List (Nat × PK)} {o:Oper} {os:List Oper} {d:Nat} {k:PK} (hd:o.dst=some d) {acc:List PK} (hD:D.reverse=zp l acc) (hle:acc.length≤l.length) (hos:l.drop acc.length=o::os):
 acc.length < l.length∧l[acc.length]?=some o∧l.drop (acc++[k]).length=os∧((d,k)::D).reverse=zp l (acc++[k]):=by
 have hlt:acc.length < l.length:=by
  rcases Nat.lt_or_ge acc.length l.length with h | h
  ·exact h
  ·rw [List.drop_of_length_le h] at hos;cases hos
 have ho:l[acc.length]?=some o:=by
  have:(l.drop acc.length)[0]?=some o:=by rw [hos];rfl
  simpa using this
 have hos':l.drop (acc++[k]).length=os:=by
  rw [List.length_append,List.length_singleton,← List.drop_drop,hos]
  rfl
 have hD':((d,k)::D).reverse=zp l (acc++[k]):=by
  rw [List.reverse_cons,hD]
  apply List.ext_getElem?
  intro i
  have hzl:(zp l acc).length=acc.length:=by rw [zp,List.length_zipWith];omega
  rcases Nat.lt_trichotomy i acc.length with hi | hi | hi
  ·rw [List.getElem?_append_left (by omega)]
   simp only [zp,List.getElem?_zipWith]
   rw [List.getElem?_append_left hi]
  ·subst hi
   rw [List.getElem?_append_right (by omega),hzl,Nat.sub_self]
   rw [zp_at (k:=k) ho hd (by simp)]
   rfl
  ·rw [List.getElem?_eq_none (by simp;omega),List.getElem?_eq_none (by simp [zp];omega)]
 exact ⟨hlt,ho,hos',hD'⟩
theorem AW.step {l:List Oper} {D:List (Nat × PK)} {o:Oper} {os:List Oper} {d:Nat} {k:PK} (hkp:k.plain) (hd:o.dst=some d) (hp:Prem P E l.toArray Q (depD l D o.after.toList) G H o k) (h:AW P E Q l G H ((d,k)::D) os):AW P E Q l G H D (o::os):=by
 refine ⟨fun acc hD hle hb hos=>?_⟩
 obtain ⟨hlt,ho,hos',hD'⟩:=step_acc (k:=k) hd hD hle hos
 obtain ⟨ks,h1,h2,h3,h4,h6,h5⟩:=h.out (acc++[k]) hD' (by simp;omega) hb hos'
 have hass:acc++[k]++ks=acc++k::ks:=by simp
 rw [hass] at h1 h2 h3 h4 h5
 refine ⟨k::ks,fun hdist=>⟨?_,h1 hdist⟩,h2,h3,h4,fun k' hk'=>(List.mem_cons.1 hk').elim (fun e=>e ▸ hkp) (h6 k'),h5⟩
 have hdep:depG l (acc++k::ks) o=depD l D o.after.toList:=depD_eq hdist (by simp) hD (fun e he hbe=>hb _ _ ho e he hbe)
 rw [hdep]
 exact hp
theorem AW.val {l:List Oper} {D:List (Nat × PK)} {o:Oper} {os:List Oper} {d:Nat} {v:Value} (hd:o.dst=some d)
 (hp:∀ (Gx:List (Nat × Value)) (X:List HP),RW P E l.toArray (Pst.then (fun a w=>∃ d,o.dst=some d∧Fr E.N E.ds a ((d,v)::(depD l D o.after.toList++G++Gx))∧St E.w0 E.S (H++X) w) Q) [o] (depD l D o.after.toList++G++Gx) (H++X))
 (h:AW P E Q l G H ((d,.val v)::D) os):AW P E Q l G H D (o::os):=AW.step (k:=.val v) trivial hd hp h
theorem AW.gen {l:List Oper} {D:List (Nat × PK)} {o:Oper} {os:List Oper} {d:Nat} (V:Nat→Value) (c:Nat→HP) (hd:o.dst=some d)
 (hp:∀ (Gx:List (Nat × Value)) (X:List HP),RW P E l.toArray (Pst.then (fun a w=>∃ b d,o.dst=some d∧Fr E.N E.ds a ((d,V b)::(depD l D o.after.toList++G++Gx))∧St E.w0 E.S (c b::(H++X)) w) Q) [o] (depD l D o.after.toList++G++Gx) (H++X))
 (h:AW P E Q l G H ((d,.new c V 0 c)::D) os):AW P E Q l G H D (o::os):=AW.step (k:=.new c V 0 c) rfl hd hp h
theorem RW.done_gen {P:Program} {E:Env} {ops:Array Oper} {Q:Pst} {o:Oper} {b d:Nat} {V:Nat→Value} {c:Nat→HP} {G':List (Nat × Value)} {H':List HP} (hd:o.dst=some d):RW P E ops (Pst.then (fun a w=>∃ b d,o.dst=some d∧Fr E.N E.ds a ((d,V b)::G')∧St E.w0 E.S (c b::H') w) Q) [] ((d,V b)::G') (c b::H'):=
 fun a w hf hw=>⟨b,d,hd,hf,hw⟩
theorem WA.anyV {l:List Oper} (hb:backB l=true) (h:AW P E Q l G H [] l):WA P E l Q G H:=by
 have hback:∀ (i:Nat) (o:Oper),l[i]?=some o→∀ e∈o.after.toList,Region.binds .any e=true→e.on < i:=by
  intro i o ho e he hbe
  have hi:i < l.length:=(List.getElem?_eq_some_iff.1 ho).1
  have:=(List.all_eq_true.1 hb) i (List.mem_range.2 hi)
  rw [ho] at this
  have h9:=(List.all_eq_true.1 this) e he
  simpa [hbe] using h9
 obtain ⟨ks,h1,h2,h3,h4,hpl,h5⟩:=h.out [] (by cases l <;> rfl) (by simp) hback rfl
 rw [List.nil_append] at h1 h2 h3 h4 h5
 have hdist:Dist l ks.length:=by
  intro i hi
  have h6:=(List.all_eq_true.1 h4) i (List.mem_range.2 hi)
  have hi':i < l.length:=by rw [Nat.ble_eq] at h2;omega
  rw [List.getElem?_eq_getElem hi'] at h6
  simp only at h6
  cases hdd:l[i].dst with
  | none=>rw [hdd] at h6;cases h6
  | some d=>
   rw [hdd] at h6
   simp only [Bool.and_eq_true] at h6
   refine ⟨l[i],d,List.getElem?_eq_getElem hi',hdd,fun j o' hj ho' hd'=>?_⟩
   have h7:=(List.all_eq_true.1 h6.2) j (List.mem_range.2 hj)
   rw [ho'] at h7
   simp only [hd'] at h7
   simpa using h7
 have hnoput:∀ i:Nat,PK.isPut ks[i]?=false:=fun i=>by
  cases hk:ks[i]? with
  | none=>rfl
  | some k=>
   have:=hpl k (List.mem_of_getElem? hk)
   cases k with
   | put _ _ _ _=>exact this.elim
   | val v=>rfl
   | new _ _ _ _=>rfl
 have h4':dstB l ks ks.length G=true:=by
  unfold dstB at h4 ⊢
  rw [List.all_eq_true] at h4 ⊢
  intro i hi
  have:=h4 i hi
  rw [hnoput i]
  exact this
 exact WA.any ks.length ks rfl h2 hb h3 h4' (PutOK.plain (fun dj c t c2 hm=>hpl _ hm) (fun c t p c2 hm=>hpl _ hm)) (fun i o d _ _ _ hp=>by rw [hnoput i] at hp;cases hp) (h1 hdist) (h5 hdist)
theorem CW.anyV {id:Nat} {l:List Oper} (hm:P.follows .mixedOrders=true) (hb:backB l=true) (h:AW P E Q l G H [] l):CW P E (.region id l.toArray true) Q G H:=CW.of hm (WA.anyV hb h)
theorem CW.seqA {id:Nat} {l:List Oper} {y:Code} (hm:P.follows .mixedOrders=true) (hb:backB l=true) (h:AW P E (Pst.then (y.wp P Q.fn) Q) l G H [] l):CW P E (.seq (.region id l.toArray true) y) Q G H:=CW.seq (CW.anyV hm hb h)
/-! ### shifts -/
variable {dst:Nat} {ty t tx ty' e:TypeId} {pos:String} {af:Array Edge} {d d':TypeDesc} {z z':Value} {sz sz' by_ by':Nat} {x y:Operand} {u v:Value} {a b c:Int} {k kk:IntKind}
theorem RW.shr1 (hx:ev G x=some (.int .u64 a)) (hy:ev G y=some (.int .u64 1)) (hw:a.fdiv 2=c) (hN:Nat.blt dst E.N=true) (kk':RW P E ops Q rest ((dst,.int .u64 c)::G) H):
 RW P E ops Q (⟨some dst,.binOp .shr t x y ty',ty,pos,af,none⟩::rest) G H:=
 RW.val hN (fun f w hf _=>by
  have hm:min (Int.toNat 1) (IntKind.bits .u64)=1:=by decide
  have h2:(2:Int) ^ 1=2:=by decide
  simp only [execOp,hf.eval hx,hf.eval hy,Sem.run_bind,run_eqGuard_int,Result.andThen,binOp,Op.shift,hm,h2,hw]
  rfl) kk'
/-! ### a literal as a slice of one's own -/
/-! ### copies -/
/-! ### calls that turn some chunks; the others lie apart -/
section
variable {l:List Operand} {vs caps:List Value} {at_:Array TypeId} {f:FuncId} {fv:Operand}
theorem RW.callD {α:Type} {V:α→Value} {c:α→List HP} (C:List HP) {r:List HP} (hcall:∀ args w,(callFunc f args).run P w=.ok (.enter f args) w) (hl:evs G l=some vs)
 (hc:∀ w F,Mem.le E.ro (mem w (fun b=>¬ F b))→Sep C w F→Sep r w (fun b=>¬ F b)→RetC P f vs w F V c) (hN:Nat.blt dst E.N=true)
 (kk:∀ x,RW P E ops Q rest ((dst,V x)::G) (c x++r)):RW P E ops Q (⟨some dst,.call ⟨.value (.func f),l.toArray,at_⟩,ty,pos,af,none⟩::rest) G (C++r):=
 RW.call_gen hcall hl (fun a w hf hw=>by
  obtain ⟨F,hF,h1,h2⟩:=Sep.split hw.sep
  refine (hc w F (fun B O v hv=>⟨⟨fun hb=>?_,(ro_le hw _ _ _ hv).1.2⟩,(ro_le hw _ _ _ hv).2⟩) h1 (Sep.up (fun b hb=>hb.2) h2)).mono ?_
  ·rcases (hF B hb).1 with h | h
   ·exact hv.1.1 h
   ·have:=World.block_lt_of_cell? E.w0 _ hv.2
    exact absurd this (Nat.not_lt.2 h)
  ·rintro e w' ⟨x,rfl,hx⟩
   exact kk x _ _ (hf.put hN _) (St.turnF hw.kp hF h2 hx))
end
end
/-! ### slices of one's own that read as data -/
theorem rd_of_own {e:TypeId} {t:K} {N:Mem} {sz by_:Nat} {v:Value} {es:List (List Value)} {xs:List t.V} {w:World} {F:Nat→Prop} (ho:(ownHP e sz v es).p w F) (hsz:sz=t.sz) (hF:Mem.le (mem w F) N) (hx:All2 (fun cs x=>Rd t N cs x) es xs) (hb:xs.length * by_≤reach):Rd (.sl by_ t) N [v] xs:=by
 subst hsz
 rcases ho with ⟨rfl,rfl⟩ | ⟨B,c,tl,rfl,hB,hc,hes,h1,h2,h3⟩
 ·have:xs=[]:=List.eq_nil_of_length_eq_zero hx.1.symm
  subst this
  exact ⟨none,0,rfl,Nat.le_refl _,Nat.zero_le _,by simp,RowAt.nil⟩
 ·refine ⟨some ⟨B,0,none⟩,c,by rw [hx.1],by rw [← hx.1];exact h2,h3,hb,fun _=>⟨B,0,rfl,fun j x hj=>?_⟩⟩
  have hjl:j < es.length:=by rw [hx.1];exact (List.getElem?_eq_some_iff.1 hj).1
  have hej:es[j]?=some es[j]:=List.getElem?_eq_getElem hjl
  refine ⟨es[j],hes _ (List.getElem_mem hjl),hx.2 j _ _ hej hj,fun i v hv=>hF _ _ _ ⟨⟨hB,unfrozen_of_blk hc _⟩,?_⟩⟩
  have:=flatten_at hes hej hv
  refine CellsAt.of_blk hc _ _ ?_ |> fun h=>by simpa using h
  rw [List.getElem?_append_left (List.getElem?_eq_some_iff.1 this).1]
  exact this
theorem merge_own {e:TypeId} {t:K} {M:Mem} {sz by_:Nat} {v:Value} {es:List (List Value)} {xs:List t.V} {r:List HP} {w:World} {A:Nat→Prop} (h:Sep (ownHP e sz v es::rdsHP M t es xs::r) w A) (hsz:sz=t.sz) (hb:xs.length * by_≤reach):Sep (rdHP M (.sl by_ t) [v] xs::r) w A:=by
 obtain ⟨F,hF,hp,F2,hF2,hp2,hr⟩:=h
 refine ⟨fun b=>F b∨F2 b,fun b hb=>hb.elim (hF b) (fun k=>⟨(hF2 b k).1.1,(hF2 b k).2⟩),?_,Sep.up (fun b hb=>⟨hb.1.1,fun k=>k.elim hb.1.2 hb.2⟩) hr⟩
 refine rd_of_own (N:=M.or (mem w (fun b=>F b∨F2 b))) hp hsz (Mem.le_trans (mem_up (fun b hb=>.inl hb)) (Mem.le_right _ _)) (hp2.imp (fun _ _ k=>k.mono (Mem.or_le (Mem.le_left _ _) (Mem.le_trans (mem_up (fun b hb=>.inr hb)) (Mem.le_right _ _))))) hb
end Go.Proofs.YtbcdgcodnkgdoaaGreat
namespace Go.Proofs.YtbcdgcodnkgdoaaGreat
open Go Go.RowKit
theorem Sep.two {c d e:HP} {r:List HP} {w:World} {A:Nat→Prop} (hm:∀ F F2:Nat→Prop,c.p w F→d.p w F2→e.p w (fun b=>F b∨F2 b)) (h:Sep (c::d::r) w A):Sep (e::r) w A:=by
 obtain ⟨F,hF,hp,F2,hF2,hp2,hr⟩:=h
 exact ⟨fun b=>F b∨F2 b,fun b hb=>hb.elim (hF b) (fun k=>⟨(hF2 b k).1.1,(hF2 b k).2⟩),hm F F2 hp hp2,Sep.up (fun b hb=>⟨hb.1.1,fun k=>k.elim hb.1.2 hb.2⟩) hr⟩
theorem All2.append {α β:Type} {R:α→β→Prop} {xs xs':List α} {ys ys':List β} (h:All2 R xs ys) (h':All2 R xs' ys'):All2 R (xs++xs') (ys++ys'):=by
 obtain ⟨hl,hr⟩:=h
 obtain ⟨hl',hr'⟩:=h'
 refine ⟨by simp [hl,hl'],fun j a b ha hb=>?_⟩
 rcases Nat.lt_or_ge j xs.length with h1 | h1
 ·rw [List.getElem?_append_left h1] at ha
  rw [List.getElem?_append_left (by omega)] at hb
  exact hr j a b ha hb
 ·rw [List.getElem?_append_right h1] at ha
  rw [List.getElem?_append_right (by omega),← hl] at hb
  exact hr' _ a b ha hb
theorem All2.nil {α β:Type} {R:α→β→Prop}:All2 R ([]:List α) ([]:List β):=⟨rfl,fun i a b h=>by simp at h⟩
theorem All2.one {α β:Type} {R:α→β→Prop} {x:α} {y:β} (h:R x y):All2 R [x] [y]:=⟨rfl,fun i a b ha hb=>by
 cases i with
 | zero=>simp at ha hb;subst ha;subst hb;exact h
 | succ i=>simp at ha⟩
theorem rds_append {M:Mem} {t:K} {es es':List (List Value)} {xs xs':List t.V} {w:World} {F F2:Nat→Prop} (h:(rdsHP M t es xs).p w F) (h':(rdsHP M t es' xs').p w F2):(rdsHP M t (es++es') (xs++xs')).p w (fun b=>F b∨F2 b):=by
 have k1:(rdsHP M t es xs).p w (fun b=>F b∨F2 b):=(rdsHP M t es xs).up (fun b hb=>.inl hb) h
 have k2:(rdsHP M t es' xs').p w (fun b=>F b∨F2 b):=(rdsHP M t es' xs').up (fun b hb=>.inr hb) h'
 exact All2.append (R:=fun cs x=>Rd t (M.or (mem w (fun b=>F b∨F2 b))) cs x) k1 k2
section
variable {P:Program} {E:Env} {ops:Array Oper} {Q:Pst} {K0:Act→World→Prop} {rest:List Oper} {G:List (Nat × Value)} {H:List HP}
end
theorem RW.callN {P:Program} {E:Env} {ops:Array Oper} {Q:Pst} {rest:List Oper} {G:List (Nat × Value)} {H:List HP} {dst:Nat} {ty:TypeId} {pos:String} {af:Array Edge} {l:List Operand} {vs:List Value} {at_:Array TypeId} {f:FuncId} {α:Type} {V:α→Value} {c:α→List HP}
 (hcall:∀ args w,(callFunc f args).run P w=.ok (.enter f args) w) (hl:evs G l=some vs) (hc:∀ w,St E.w0 E.S H w→RetC P f vs w No V c) (hN:Nat.blt dst E.N=true)
 (kk:∀ x,RW P E ops Q rest ((dst,V x)::G) (c x++H)):RW P E ops Q (⟨some dst,.call ⟨.value (.func f),l.toArray,at_⟩,ty,pos,af,none⟩::rest) G H:=
 RW.call_gen hcall hl (fun a w hf hw=>(hc w hw).mono (by
  rintro e w' ⟨x,rfl,hx⟩
  exact kk x _ _ (hf.put hN _) (St.turnF (F:=No) hw.kp (fun b hb=>hb.elim) (Sep.up (fun b hb=>⟨hb,fun k=>k.elim⟩) hw.sep) hx)))
def ownB (e:TypeId) (sz:Nat) (v:Value) (es:List (List Value)) (F:Nat→Prop) (B c:Nat) (tl:List Value):Prop:=v=.slice (some ⟨B,0,none⟩) es.length c∧F B∧(∀ x∈es,x.length=sz)∧es.flatten.length + tl.length=c * sz∧es.length≤c∧c≤maxN
theorem own_of_blk {e:TypeId} {sz B c n:Nat} {es:List (List Value)} {cells:List Value} {w:World} {F:Nat→Prop} (h:(blk B cells e).p w F) (tl:List Value) (hc:cells=es.flatten++tl) (hn:es.length=n) (hs:∀ x∈es,x.length=sz) (hl:cells.length=c * sz) (h1:n≤c) (h2:c≤maxN):(ownHP e sz (.slice (some ⟨B,0,none⟩) n c) es).p w F:=by
 subst hc;subst hn
 exact .inr ⟨B,c,tl,rfl,h.1,h.2,hs,by rw [← List.length_append];exact hl,h1,h2⟩
end Go.Proofs.YtbcdgcodnkgdoaaGreat
namespace Go.Proofs.YtbcdgcodnkgdoaaGreat
open Go Go.RowKit
def empHP:HP where
 p _ _:=True
 st:=fun _ _ k=>k
 up:=fun _ k=>k
def nthH:Nat→List HP→Option HP
 | _,[]=>none
 | 0,x::_=>some x
 | n + 1,_::l=>nthH n l
def setH:Nat→List HP→List HP
 | _,[]=>[]
 | 0,_::l=>empHP::l
 | n + 1,x::l=>x::setH n l
def takeH:List Nat→List HP→List HP
 | [],_=>[]
 | i::is,H=>match nthH i H with
  | none=>[]
  | some x=>x::takeH is (setH i H)
theorem Sep.nth {w:World}:∀ {i:Nat} {H:List HP} {x:HP} {A:Nat→Prop},nthH i H=some x→Sep H w A→Sep (x::setH i H) w A:=by
 intro i
 induction i with
 | zero=>
  intro H x A h hs
  cases H with
  | nil=>cases h
  | cons y H=>
   simp only [nthH,Option.some.injEq] at h
   subst h
   obtain ⟨F,hF,hp,hr⟩:=hs
   exact ⟨F,hF,hp,No,fun b hb=>hb.elim,trivial,Sep.up (fun b hb=>⟨hb,fun k=>k.elim⟩) hr⟩
 | succ i ih=>
  intro H x A h hs
  cases H with
  | nil=>cases h
  | cons y H=>
   obtain ⟨F,hF,hp,hr⟩:=hs
   have:=ih (H:=H) h hr
   exact Sep.swap ⟨F,hF,hp,this⟩
theorem Sep.take {w:World}:∀ (is:List Nat) {H:List HP} {A:Nat→Prop},Sep H w A→Sep (takeH is H) w A:=by
 intro is
 induction is with
 | nil=>intro H A _;trivial
 | cons i is ih=>
  intro H A hs
  rw [takeH]
  cases hn:nthH i H with
  | none=>trivial
  | some x=>
   obtain ⟨F,hF,hp,hr⟩:=Sep.nth hn hs
   exact ⟨F,hF,hp,ih hr⟩
theorem St.take {w0 w:World} {S:Nat→Prop} {H:List HP} (is:List Nat) (h:St w0 S H w):St w0 S (takeH is H) w:=⟨h.kp,Sep.take is h.sep⟩
section
variable {P:Program} {E:Env} {ops:Array Oper} {Q:Pst} {K0:Act→World→Prop} {rest:List Oper} {G:List (Nat × Value)} {H:List HP}
theorem PW.take (is:List Nat) (k:PW E K0 G (takeH is H)):PW E K0 G H:=fun a w hf hw=>k a w hf (hw.take is)
theorem RW.take (is:List Nat) (k:RW P E ops Q rest G (takeH is H)):RW P E ops Q rest G H:=PW.take is k
theorem CW.take {c0:Code} (is:List Nat) (k:CW P E c0 Q G (takeH is H)):CW P E c0 Q G H:=PW.take is k
end
theorem RW.callT {P:Program} {E:Env} {ops:Array Oper} {Q:Pst} {rest:List Oper} {G:List (Nat × Value)} {H:List HP} {dst:Nat} {ty:TypeId} {pos:String} {af:Array Edge} {l:List Operand} {vs:List Value} {at_:Array TypeId} {f:FuncId} {α:Type} {V:α→Value} {c:α→List HP} (is:List Nat) (C:List HP) {r:List HP}
 (hl:evs G l=some vs) (hN:Nat.blt dst E.N=true) (hH:takeH is H=C++r) (hcall:∀ args w,(callFunc f args).run P w=.ok (.enter f args) w)
 (hc:∀ w F,Mem.le E.ro (mem w (fun b=>¬ F b))→Sep C w F→Sep r w (fun b=>¬ F b)→RetC P f vs w F V c)
 (kk:∀ x,RW P E ops Q rest ((dst,V x)::G) (c x++r)):RW P E ops Q (⟨some dst,.call ⟨.value (.func f),l.toArray,at_⟩,ty,pos,af,none⟩::rest) G H:=
 RW.take is (hH ▸ RW.callD C hcall hl hc hN kk)
theorem PW.againT {E:Env} {G:List (Nat × Value)} {H:List HP} {ι:Type} {g:ι→List (Nat × Value)} {h:ι→List HP} {m:ι→Nat} {n:Nat} (j:ι) (is:List Nat) (hs:Sub (g j) G) (hh:takeH is H=h j) (hm:m j < n):
 PW E (fun a w=>∃ j,Fr E.N E.ds a (g j)∧St E.w0 E.S (h j) w∧m j < n) G H:=fun a w hf hw=>⟨j,hf.sub hs,hh ▸ hw.take is,hm⟩
theorem PW.meetT {E:Env} {G:List (Nat × Value)} {H:List HP} {ι:Type} {g:ι→List (Nat × Value)} {h:ι→List HP} (j:ι) (is:List Nat) (hs:Sub (g j) G) (hh:takeH is H=h j):
 PW E (fun a w=>∃ j,Fr E.N E.ds a (g j)∧St E.w0 E.S (h j) w) G H:=fun a w hf hw=>⟨j,hf.sub hs,hh ▸ hw.take is⟩
end Go.Proofs.YtbcdgcodnkgdoaaGreat
namespace Go.Proofs.YtbcdgcodnkgdoaaGreat
open Go Go.RowKit Go.MapKept
class KeyOK {κ:Type} (ι:κ→Value) (d:TypeDesc):Prop where
 inj:∀ a b,ι a=ι b→a=b
 isKey:∀ a,IsKey d (ι a)
instance key_string:KeyOK Value.string .string:=⟨fun a b h=>by injection h,fun a=>trivial⟩
instance key_int (k:IntKind):KeyOK (Value.int k) (.int k):=⟨fun a b h=>by injection h,fun a=>rfl⟩
section
variable {κ α:Type} [DecidableEq κ]
def getM:List (κ × α)→κ→Option α
 | [],_=>none
 | (k',v)::r,k=>if k'=k then some v else getM r k
def putM:List (κ × α)→κ→α→List (κ × α)
 | [],k,v=>[(k,v)]
 | (k',v')::r,k,v=>if k'=k then (k,v)::r else (k',v')::putM r k v
theorem getM_none {D:List (κ × α)} {k:κ} (h:∀ x∈D,x.1≠k):getM D k=none:=by
 induction D with
 | nil=>rfl
 | cons x D ih=>
  rw [getM,if_neg (h x (by simp))]
  exact ih fun y hy=>h y (by simp [hy])
theorem putM_none {D:List (κ × α)} {k:κ} (h:∀ x∈D,x.1≠k) (v:α):putM D k v=D++[(k,v)]:=by
 induction D with
 | nil=>rfl
 | cons x D ih=>
  rw [putM,if_neg (h x (by simp)),ih fun y hy=>h y (by simp [hy])]
  rfl
theorem getM_at {D:List (κ × α)} {k:κ} {u:α}:∀ {j:Nat},(D.map (·.1)).Nodup→D[j]?=some (k,u)→getM D k=some u∧∀ v,putM D k v=D.set j (k,v):=by
 induction D with
 | nil=>intro j _ h;simp at h
 | cons x D ih=>
  intro j hn hj
  rw [List.map_cons,List.nodup_cons] at hn
  cases j with
  | zero=>
   simp only [List.getElem?_cons_zero,Option.some.injEq] at hj
   subst hj
   exact ⟨by rw [getM,if_pos rfl],fun v=>by rw [putM,if_pos rfl];rfl⟩
  | succ j=>
   simp only [List.getElem?_cons_succ] at hj
   have hne:¬ x.1=k:=fun he=>hn.1 (List.mem_map.2 ⟨_,List.mem_of_getElem? hj,he.symm⟩)
   obtain ⟨h1,h2⟩:=ih hn.2 hj
   exact ⟨by rw [getM,if_neg hne,h1],fun v=>by rw [putM,if_neg hne,h2];rfl⟩
theorem getM_put (D:List (κ × α)) (k k':κ) (v:α):getM (putM D k v) k'=if k=k' then some v else getM D k':=by
 induction D with
 | nil=>rw [putM,getM];rfl
 | cons x D ih=>
  rw [putM]
  by_cases h:x.1=k
  ·rw [if_pos h,getM,getM]
   by_cases h2:k=k'
   ·rw [if_pos h2,if_pos h2]
   ·rw [if_neg h2,if_neg h2,if_neg (fun e=>h2 (h.symm.trans e))]
  ·rw [if_neg h,getM,getM,ih]
   by_cases h3:x.1=k'
   ·rw [if_pos h3,if_pos h3,if_neg (fun e=>h (h3.trans e.symm))]
   ·rw [if_neg h3,if_neg h3]
end
def MapAt {κ α:Type} (w:World) (ι:κ→Value) (υ:α→Value) (b:Nat) (D:List (κ × α)):Prop:=∃ es clock,w.heap[b]?=some (.map es clock)∧Stamped es clock∧es.toList.map (fun e=>(e.key,e.val))=D.map (fun x=>(ι x.1,υ x.2))
def mapHP {κ α:Type} (ι:κ→Value) (υ:α→Value) (d:TypeDesc) (b:Nat) (D:List (κ × α)):HP where
 p w F:=F b∧MapAt w ι υ b D
 st:=fun h _ ⟨hb,es,clock,h1,h2⟩=>⟨hb,es,clock,(h b hb (Array.getElem?_eq_some_iff.1 h1).1).trans h1,h2⟩
 up:=fun h ⟨hb,k⟩=>⟨h b hb,k⟩
section
variable {κ α:Type} {ι:κ→Value} {υ:α→Value} {d:TypeDesc} {D:List (κ × α)} {es:Array MapEntry} {clock:Nat}
theorem map_keys [KO:KeyOK ι d] (h:es.toList.map (fun e=>(e.key,e.val))=D.map (fun x=>(ι x.1,υ x.2))):∀ x∈es.toList,IsKey d x.key:=by
 intro x hx
 have:(x.key,x.val)∈D.map (fun x=>(ι x.1,υ x.2)):=by rw [← h];exact List.mem_map.2 ⟨x,hx,rfl⟩
 obtain ⟨y,_,he⟩:=List.mem_map.1 this
 injection he with h1 h2
 rw [← h1];exact KO.isKey _
theorem map_nodup (h:es.toList.map (fun e=>(e.key,e.val))=D.map (fun x=>(ι x.1,υ x.2))) (hs:Stamped es clock):(D.map (·.1)).Nodup:=by
 have h1:es.toList.map (·.key)=D.map fun x=>ι x.1:=by
  have:=congrArg (List.map Prod.fst) h
  rw [List.map_map,List.map_map] at this
  exact this
 have h2:=hs.2.2
 rw [h1,show (D.map fun x=>ι x.1)=(D.map (·.1)).map ι from (List.map_map ..).symm] at h2
 exact List.Pairwise.of_map ι (fun a b hab he=>hab (by rw [he])) h2
theorem map_find [DecidableEq κ] [KO:KeyOK ι d] (h:es.toList.map (fun e=>(e.key,e.val))=D.map (fun x=>(ι x.1,υ x.2))) (hs:Stamped es clock) (k:κ):
 (Instr.findNow d (ι k) es.toList 0=some none∧getM D k=none∧(∀ x∈es.toList,x.key≠ι k)∧∀ v,putM D k v=D++[(k,v)]) ∨
 ∃ j e u,Instr.findNow d (ι k) es.toList 0=some (some (j,υ u))∧es[j]?=some e∧e.key=ι k∧e.val=υ u∧getM D k=some u∧∀ v,putM D k v=D.set j (k,v):=by
 rcases findNow_spec (KO.isKey k) es.toList 0 (map_keys h) with ⟨h1,h2⟩ | ⟨j,e,h1,h2,h3⟩
 ·have hn:∀ x∈D,x.1≠k:=fun x hx he=>by
   have:(ι x.1,υ x.2)∈es.toList.map (fun e=>(e.key,e.val)):=by rw [h];exact List.mem_map.2 ⟨x,hx,rfl⟩
   obtain ⟨y,hy,he'⟩:=List.mem_map.1 this
   injection he' with h4 h5
   exact h2 y hy (by rw [h4,he])
  exact .inl ⟨h1,getM_none hn,h2,fun v=>putM_none hn v⟩
 ·have hj:(D.map (fun x=>(ι x.1,υ x.2)))[j]?=some (e.key,e.val):=by rw [← h,List.getElem?_map,h2];rfl
  rw [List.getElem?_map] at hj
  cases hd:D[j]? with
  | none=>rw [hd] at hj;cases hj
  | some x=>
   rw [hd] at hj
   simp only [Option.map_some,Option.some.injEq,Prod.mk.injEq] at hj
   have hk:x.1=k:=KO.inj _ _ (hj.1.trans h3)
   obtain ⟨x1,x2⟩:=x
   simp only at hk hj
   subst hk
   obtain ⟨g1,g2⟩:=getM_at (map_nodup h hs) hd
   rw [Nat.zero_add,← hj.2] at h1
   exact .inr ⟨j,e,x2,h1,by rw [← Array.getElem?_toList];exact h2,h3,hj.2.symm,g1,g2⟩
end
section
variable {P:Program} {E:Env} {ops:Array Oper} {Q:Pst} {rest:List Oper} {G:List (Nat × Value)} {H:List HP}
variable {dst:Nat} {ty:TypeId} {pos:String} {af:Array Edge} {t kt et:TypeId} {kd ed:TypeDesc} {z kz ez v:Value} {sz by_ ksz kby esz eby:Nat} {x y u:Operand}
variable {κ α:Type} {ι:κ→Value} {υ:α→Value} {D:List (κ × α)} {b:Nat} {k:κ}
theorem run_lookup_own [DecidableEq κ] [T:Ty P t (.map kt et) z sz by_] [TK:Ty P kt kd kz ksz kby] [TE:Ty P et ed ez esz eby] [KO:KeyOK ι kd] {w:World} {a0:α} (hz:ez=υ a0) (h:MapAt w ι υ b D) (k:κ) (ok:Bool):
 (Instr.lookup t (.map (some b)) (ι k) ok).run P w=.ok (if ok then .tuple #[υ ((getM D k).getD a0),.bool (getM D k).isSome] else υ ((getM D k).getD a0)) w:=by
 obtain ⟨es,clock,hb,hs,hm⟩:=h
 rcases map_find (KO:=KO) hm hs k with ⟨h1,h2,_,_⟩ | ⟨j,e,a,h1,_,_,_,h2,_⟩
 ·cases ok <;> simp [Instr.lookup,T.runUnd,Go.MapKept.run_getObj_map hb,Go.MapKept.run_checkKey TK.und (KO.isKey k),Go.MapKept.run_findKey TK.und h1,TE.runZero,Result.andThen,h2,hz]
 ·cases ok <;> simp [Instr.lookup,T.runUnd,Go.MapKept.run_getObj_map hb,Go.MapKept.run_checkKey TK.und (KO.isKey k),Go.MapKept.run_findKey TK.und h1,Result.andThen,h2]
theorem RW.lookup [DecidableEq κ] [T:Ty P t (.map kt et) z sz by_] [TK:Ty P kt kd kz ksz kby] [TE:Ty P et ed ez esz eby] [KO:KeyOK ι kd] (pre:List HP) {r:List HP} {a0:α} (hz:ez=υ a0) (hx:ev G x=some (.map (some b))) (hy:ev G y=some (ι k)) (hN:Nat.blt dst E.N=true)
 (kk:RW P E ops Q rest ((dst,υ ((getM D k).getD a0))::G) (pre++mapHP ι υ kd b D::r)):RW P E ops Q (⟨some dst,.lookup t x y false,ty,pos,af,none⟩::rest) G (pre++mapHP ι υ kd b D::r):=
 RW.val hN (fun a w hf hw=>by
  obtain ⟨F,hp,_⟩:=hw.get
  simp [execOp,hf.eval hx,hf.eval hy,run_lookup_own hz hp.2 k false,Result.andThen]) kk
theorem St.setobj {w0 w:World} {S:Nat→Prop} {pre r:List HP} {c d:HP} (h:St w0 S (pre++c::r) w) {B:Nat} {o:Obj} (hB:∀ F,c.p w F→F B) (hd:∀ F,c.p w F→d.p { w with heap:=w.heap.setIfInBounds B o } F):St w0 S (pre++d::r) { w with heap:=w.heap.setIfInBounds B o }:=by
 obtain ⟨F,hF,hc,hr⟩:=Sep.pull h.sep
 have hs:(w.heap.setIfInBounds B o).size=w.heap.size:=by simp
 have hne:∀ i,i≠B→(w.heap.setIfInBounds B o)[i]?=w.heap[i]?:=fun i hi=>by simp [Ne.symm hi]
 refine ⟨h.kp.trans (S2:=fun i=>i=B) ⟨rfl,rfl,rfl,by show _≤(w.heap.setIfInBounds B o).size;rw [hs];exact Nat.le_refl _,fun i _ hn=>hne i hn⟩ (fun i hi=>hi ▸ (hF B (hB F hc)).1),Sep.push ⟨F,fun b hb=>⟨(hF b hb).1,by show _ < (w.heap.setIfInBounds B o).size;rw [hs];exact (hF b hb).2⟩,hd F hc,?_⟩⟩
 exact Sep.keep (fun i hi _=>hne i (fun e=>hi.2 (e ▸ hB F hc))) (by show _≤(w.heap.setIfInBounds B o).size;rw [hs];exact Nat.le_refl _) hr
theorem RW.makeMap [T:Ty P t (.map kt et) z sz by_] (ι:κ→Value) (υ:α→Value) (kd:TypeDesc) {res:Option Operand} (hres:∀ o,res=some o→∃ n:Int,ev G o=some (.int .i64 n)) (hN:Nat.blt dst E.N=true)
 (kk:∀ b,RW P E ops Q rest ((dst,.map (some b))::G) (mapHP ι υ kd b ([]:List (κ × α))::H)):RW P E ops Q (⟨some dst,.makeMap t res,ty,pos,af,none⟩::rest) G H:=
 RW.step rfl (fun a w hf hw=>by
  have hrun:(execOp a.eval ⟨some dst,.makeMap t res,ty,pos,af,none⟩).run P w=.ok (.value (.map (some w.heap.size))) (w.alloc (.map #[] 0)):=by
   cases res with
   | none=>simp [execOp,Instr.makeMap,newObj,Result.andThen];rfl
   | some o=>
    obtain ⟨n,hn⟩:=hres o rfl
    simp [execOp,Instr.makeMap,newObj,hf.eval hn,T.runUnd,asInt,asIntOf,Result.andThen];rfl
  rw [hrun]
  refine kk w.heap.size _ _ (hf.put hN _) (hw.fresh (Keeps.alloc _ _ _) ⟨⟨Nat.le_refl _,?_⟩,#[],0,?_,stamped_empty 0,rfl⟩)
  ·show _ < (w.heap.push _).size;simp
  ·exact (heap_alloc w _).1)
theorem map_set {es:Array MapEntry} {j:Nat} {e:MapEntry} {clock:Nat} {kd:TypeDesc} [KO:KeyOK ι kd] {a:α} (hm:es.toList.map (fun e=>(e.key,e.val))=D.map (fun x=>(ι x.1,υ x.2))) (hs:Stamped es clock) (hj:es[j]?=some e) (hk:e.key=ι k):
 Stamped (es.modify j fun e=>{ e with key:=ι k,val:=υ a }) clock∧(es.modify j fun e=>{ e with key:=ι k,val:=υ a }).toList.map (fun e=>(e.key,e.val))=(D.set j (k,a)).map (fun x=>(ι x.1,υ x.2)):=by
 refine ⟨stamped_modify hs _ _ (fun _ _=>rfl) (fun e' _ he'=>by rw [hj] at he';cases he';exact hk.symm),?_⟩
 rw [List.map_set,← hm]
 apply List.ext_getElem?
 intro i
 simp only [List.getElem?_map,Array.getElem?_toList,Array.getElem?_modify,List.getElem?_set,List.length_map,Array.length_toList]
 by_cases hij:j=i
 ·subst hij
  have hlt:=(Array.getElem?_eq_some_iff.1 hj).1
  simp [hlt]
 ·simp [hij]
theorem RW.mapUpdate [DecidableEq κ] [T:Ty P t (.map kt et) z sz by_] [TK:Ty P kt kd kz ksz kby] [KO:KeyOK ι kd] (pre:List HP) {r:List HP} {a:α} {dst:Option Nat} (hdst:dst=none) (hx:ev G x=some (.map (some b))) (hy:ev G y=some (ι k)) (hu:ev G u=some (υ a))
 (kk:RW P E ops Q rest G (pre++mapHP ι υ kd b (putM D k a)::r)):RW P E ops Q (⟨dst,.mapUpdate t x y u,ty,pos,af,none⟩::rest) G (pre++mapHP ι υ kd b D::r):=by
 subst hdst
 exact RW.step rfl (fun f w hf hw=>by
  obtain ⟨F,⟨_,es,clock,hb,hs,hm⟩,_⟩:=hw.get
  rcases map_find (KO:=KO) hm hs k with ⟨h1,_,h2,h3⟩ | ⟨j,e,u0,h1,hj,hk,_,_,h3⟩
  ·have hrun:(execOp f.eval ⟨none,.mapUpdate t x y u,ty,pos,af,none⟩).run P w=.ok .skip { w with heap:=w.heap.setIfInBounds b (.map (es.push { key:=ι k,val:=υ a,born:=clock }) (clock + 1)) }:=by
    simp [execOp,hf.eval hx,hf.eval hy,hf.eval hu,Instr.mapUpdate,T.runUnd,Go.MapKept.run_getObj_map hb,Go.MapKept.run_checkKey TK.und (KO.isKey k),Go.MapKept.run_findKey TK.und h1,Go.MapKept.run_setObj_map _ hb,Result.andThen]
   rw [hrun]
   refine kk _ _ (hf.skip _) (hw.setobj (fun F hp=>hp.1) (fun F hp=>⟨hp.1,_,_,(heap_set hb).1,stamped_push hs h2,?_⟩))
   rw [h3,Array.toList_push,List.map_append,List.map_append,hm];rfl
  ·have hrun:(execOp f.eval ⟨none,.mapUpdate t x y u,ty,pos,af,none⟩).run P w=.ok .skip { w with heap:=w.heap.setIfInBounds b (.map (es.modify j fun e=>{ e with key:=ι k,val:=υ a }) clock) }:=by
    simp [execOp,hf.eval hx,hf.eval hy,hf.eval hu,Instr.mapUpdate,T.runUnd,Go.MapKept.run_getObj_map hb,Go.MapKept.run_checkKey TK.und (KO.isKey k),Go.MapKept.run_findKey TK.und h1,hj,hk,Go.MapKept.run_keyThatStays (KO.isKey k),Go.MapKept.run_setObj_map _ hb,Result.andThen]
   rw [hrun]
   obtain ⟨g1,g2⟩:=map_set (KO:=KO) (a:=a) hm hs hj hk
   exact kk _ _ (hf.skip _) (hw.setobj (fun F hp=>hp.1) (fun F hp=>⟨hp.1,_,_,(heap_set hb).1,g1,by rw [h3];exact g2⟩)))
def mapEnt (ι:κ→Value) (υ:α→Value) (d:TypeDesc) (b:Nat) (D:List (κ × α)) (k:κ) (s:Int):HP where
 p w F:=F b∧∃ (es:Array MapEntry) (clock j:Nat) (e:MapEntry),w.heap[b]?=some (.map es clock)∧Stamped es clock∧es.toList.map (fun e=>(e.key,e.val))=D.map (fun x=>(ι x.1,υ x.2))∧es[j]?=some e∧e.key=ι k∧(e.born:Int)=s
 st:=fun h _ ⟨hb,es,clock,j,e,h1,h2⟩=>⟨hb,es,clock,j,e,(h b hb (Array.getElem?_eq_some_iff.1 h1).1).trans h1,h2⟩
 up:=fun h ⟨hb,k⟩=>⟨h b hb,k⟩
end
end Go.Proofs.YtbcdgcodnkgdoaaGreat
namespace Go.Proofs.YtbcdgcodnkgdoaaGreat
open Go Go.RowKit
section
variable {P:Program} {E:Env} {ops:Array Oper} {Q:Pst} {rest:List Oper} {G:List (Nat × Value)} {H:List HP}
variable {dst:Nat} {ty:TypeId} {pos:String} {af:Array Edge} {t e:TypeId} {d:TypeDesc} {z z':Value} {sz by_ sz' by':Nat} {x y:Operand}
end
theorem enc (b c:Nat) (h:c≤maxN):∃ n,b=n / 9223372036854775808∧c=n % 9223372036854775808:=⟨b * 9223372036854775808 + c,by unfold maxN at h;omega,by unfold maxN at h;omega⟩
/-! ### data by hand -/
theorem rdI {M:Mem} (k:IntKind) (x:Int) (h:(Lit.int k x).wf=true):Rd (.int k) M [.int k x] x:=⟨rfl,h⟩
theorem rdP {M:Mem} {a b:K} {c1 c2:List Value} {x:a.V} {y:b.V} (h:Rd a M c1 x) (k:Rd b M c2 y):Rd (.pr a b) M (c1++c2) (x,y):=⟨c1,c2,rfl,h,k⟩
theorem rdNil {M:Mem} {by_:Nat} {t:K}:Rd (.sl by_ t) M [.slice none 0 0] ([]:List t.V):=⟨none,0,rfl,Nat.le_refl _,Nat.zero_le _,by simp,RowAt.nil⟩
theorem rdOne {M:Mem} {by_ b:Nat} {t:K} {cs:List Value} {x:t.V} (hc:∀ (j:Nat) (v:Value),cs[j]?=some v→M b j v) (hx:Rd t M cs x) (hb:Nat.ble by_ reach=true):Rd (.sl by_ t) M [.slice (some ⟨b,0,none⟩) 1 1] ([x]:List t.V):=by
 refine ⟨some ⟨b,0,none⟩,1,rfl,Nat.le_refl _,by decide,by simpa [Nat.ble_eq] using hb,fun _=>⟨b,0,rfl,fun j y hj=>?_⟩⟩
 cases j with
 | zero=>
  simp only [List.getElem?_cons_zero,Option.some.injEq] at hj
  subst hj
  exact ⟨cs,hx.len,hx,fun i v hv=>by simpa using hc i v hv⟩
 | succ j=>simp at hj
end Go.Proofs.YtbcdgcodnkgdoaaGreat
namespace Go.Proofs.YtbcdgcodnkgdoaaGreat
open Go Go.RowKit
def OwnD:(t:K)→World→(Nat→Prop)→List Value→t.V→Prop
 | .int k,_,_,cs,x=>cs=[.int k x]∧inR k x
 | .bool,_,_,cs,x=>cs=[.bool x]
 | .str,_,_,cs,x=>cs=[.string x]∧x.size≤reach
 | .sl by_ t,w,F,cs,x=>∃ (v:Value) (e:TypeId) (es:List (List Value)) (F0:Nat→Prop) (G:Nat→Nat→Prop),cs=[v]∧(ownHP e t.sz v es).p w F0∧(∀ b,F0 b→F b)∧List.length (α:=t.V) x * by_≤reach∧es.length=List.length (α:=t.V) x∧(∀ i b,G i b→F b∧¬ F0 b)∧(∀ i j b,i≠j→G i b→¬ G j b) ∧
  ∀ (i:Nat) (cs':List Value) (y:t.V),es[i]?=some cs'→(show List t.V from x)[i]?=some y→OwnD t w (G i) cs' y
 | .pr a b,w,F,cs,x=>∃ (c1 c2:List Value) (G:Nat→Prop),cs=c1++c2∧(∀ b,G b→F b)∧OwnD a w G c1 x.1∧OwnD b w (fun b=>F b∧¬ G b) c2 x.2
theorem OwnD.up:∀ {t:K} {w:World} {F F':Nat→Prop} {cs:List Value} {x:t.V},(∀ b,F b→F' b)→OwnD t w F cs x→OwnD t w F' cs x:=by
 intro t
 induction t with
 | int k=>intro _ _ _ _ _ _ h;exact h
 | bool=>intro _ _ _ _ _ _ h;exact h
 | str=>intro _ _ _ _ _ _ h;exact h
 | sl e t ih=>
  intro w F F' cs x hF h
  obtain ⟨v,e,es,F0,G,h1,h2,h3,h4,h5,h6,h7,h8⟩:=h
  exact ⟨v,e,es,F0,G,h1,h2,fun b hb=>hF b (h3 b hb),h4,h5,fun i b hb=>⟨hF b (h6 i b hb).1,(h6 i b hb).2⟩,h7,h8⟩
 | pr a b iha ihb=>
  intro w F F' cs x hF h
  obtain ⟨c1,c2,G,h1,h2,h3,h4⟩:=h
  exact ⟨c1,c2,G,h1,fun b hb=>hF b (h2 b hb),h3,ihb (fun b hb=>⟨hF b hb.1,hb.2⟩) h4⟩
theorem OwnD.st:∀ {t:K} {w w':World} {F:Nat→Prop} {cs:List Value} {x:t.V},(∀ b,F b→b < w.heap.size→w'.heap[b]?=w.heap[b]?)→w.heap.size≤w'.heap.size→OwnD t w F cs x→OwnD t w' F cs x:=by
 intro t
 induction t with
 | int k=>intro _ _ _ _ _ _ _ h;exact h
 | bool=>intro _ _ _ _ _ _ _ h;exact h
 | str=>intro _ _ _ _ _ _ _ h;exact h
 | sl e t ih=>
  intro w w' F cs x hF hs h
  obtain ⟨v,e,es,F0,G,h1,h2,h3,h4,h5,h6,h7,h8⟩:=h
  exact ⟨v,e,es,F0,G,h1,(ownHP e t.sz v es).st (fun b hb=>hF b (h3 b hb)) hs h2,h3,h4,h5,h6,h7,fun i cs' y hc hy=>ih (fun b hb=>hF b (h6 i b hb).1) hs (h8 i cs' y hc hy)⟩
 | pr a b iha ihb=>
  intro w w' F cs x hF hs h
  obtain ⟨c1,c2,G,h1,h2,h3,h4⟩:=h
  exact ⟨c1,c2,G,h1,h2,iha (fun b hb=>hF b (h2 b hb)) hs h3,ihb (fun b hb=>hF b hb.1) hs h4⟩
theorem OwnD.rd:∀ {t:K} {w:World} {F:Nat→Prop} {cs:List Value} {x:t.V},OwnD t w F cs x→Rd t (mem w F) cs x:=by
 intro t
 induction t with
 | int k=>intro _ _ _ _ h;exact h
 | bool=>intro _ _ _ _ h;exact h
 | str=>intro _ _ _ _ h;exact h
 | sl e t ih=>
  intro w F cs x h
  obtain ⟨v,e,es,F0,G,rfl,h2,h3,h4,h5,h6,h7,h8⟩:=h
  exact rd_of_own h2 rfl (mem_up h3) ⟨h5,fun i cs' y hc hy=>(ih (h8 i cs' y hc hy)).mono (mem_up fun b hb=>(h6 i b hb).1)⟩ h4
 | pr a b iha ihb=>
  intro w F cs x h
  obtain ⟨c1,c2,G,rfl,h2,h3,h4⟩:=h
  exact ⟨c1,c2,rfl,(iha h3).mono (mem_up h2),(ihb h4).mono (mem_up fun b hb=>hb.1)⟩
def ownDHP (t:K) (cs:List Value) (x:t.V):HP where
 p w F:=OwnD t w F cs x
 st:=fun h hs k=>k.st h hs
 up:=fun h k=>k.up h
def elemsHP (o:Option Nat) (t:K) (es:List (List Value)) (xs:List t.V):HP where
 p w F:=es.length=xs.length∧∃ G:Nat→Nat→Prop,(∀ i b,G i b→F b)∧(∀ i j b,i≠j→G i b→¬ G j b)∧∀ (i:Nat) (cs:List Value) (y:t.V),o≠some i→es[i]?=some cs→xs[i]?=some y→OwnD t w (G i) cs y
 st:=fun h hs ⟨h1,G,h2,h3,h4⟩=>⟨h1,G,h2,h3,fun i cs y ho hc hy=>(h4 i cs y ho hc hy).st (fun b hb=>h b (h2 i b hb)) hs⟩
 up:=fun h ⟨h1,G,h2,h3,h4⟩=>⟨h1,G,fun i b hb=>h b (h2 i b hb),h3,h4⟩
section
variable {t:K} {w:World} {A F F2:Nat→Prop} {es:List (List Value)} {xs:List t.V} {cs:List Value} {x:t.V} {r:List HP}
theorem slice_close {by_:Nat} {v:Value} {e:TypeId} {sz:Nat} (hsz:sz=t.sz) (hb:xs.length * by_≤reach) (h:Sep (ownHP e sz v es::elemsHP none t es xs::r) w A):Sep (ownDHP (.sl by_ t) [v] xs::r) w A:=by
 subst hsz
 obtain ⟨F,hF,hp,F2,hF2,⟨h1,G,h2,h3,h4⟩,hr⟩:=h
 exact ⟨fun b=>F b∨F2 b,fun b hb=>hb.elim (hF b) (fun k=>⟨(hF2 b k).1.1,(hF2 b k).2⟩),⟨v,e,es,F,G,rfl,hp,fun b hb=>.inl hb,hb,h1,fun i b hb=>⟨.inr (h2 i b hb),(hF2 b (h2 i b hb)).1.2⟩,h3,fun i cs y hc hy=>h4 i cs y (by simp) hc hy⟩,Sep.up (fun b hb=>⟨hb.1.1,fun k=>k.elim hb.1.2 hb.2⟩) hr⟩
end
section
variable {E:Env} {K0:Act→World→Prop} {G:List (Nat × Value)} {H H':List HP}
theorem PW.sep (hs:∀ w A,Sep H w A→Sep H' w A) (k:PW E K0 G H'):PW E K0 G H:=fun a w hf hw=>k a w hf ⟨hw.kp,hs _ _ hw.sep⟩
theorem RW.sep {P:Program} {ops:Array Oper} {Q:Pst} {rest:List Oper} (H':List HP) (hs:∀ w A,Sep H w A→Sep H' w A) (k:RW P E ops Q rest G H'):RW P E ops Q rest G H:=PW.sep hs k
theorem CW.sep {P:Program} {Q:Pst} {c:Code} (H':List HP) (hs:∀ w A,Sep H w A→Sep H' w A) (k:CW P E c Q G H'):CW P E c Q G H:=PW.sep hs k
theorem St.sep_map {w0 w:World} {S:Nat→Prop} (h:St w0 S H w) (hs:∀ w A,Sep H w A→Sep H' w A):St w0 S H' w:=⟨h.kp,hs _ _ h.sep⟩
end
end Go.Proofs.YtbcdgcodnkgdoaaGreat
namespace Go.Proofs.YtbcdgcodnkgdoaaGreat
open Go Go.RowKit
theorem flatten_set {es:List (List Value)} {sz:Nat} (h:∀ x∈es,x.length=sz) {i:Nat} {cs:List Value} (hx:es[i]?=some cs) {j:Nat} {v:Value} (hj:j < cs.length):es.flatten.set (i * sz + j) v=(es.set i (cs.set j v)).flatten:=by
 induction es generalizing i with
 | nil=>simp at hx
 | cons y es ih=>
  have hy:y.length=sz:=h y (by simp)
  rw [List.flatten_cons]
  cases i with
  | zero=>
   simp at hx
   subst hx
   rw [Nat.zero_mul,Nat.zero_add,List.set_append_left _ _ hj]
   rfl
  | succ i=>
   rw [List.set_append_right _ _ (by rw [hy,Nat.add_mul];omega),hy,show (i + 1) * sz + j - sz=i * sz + j from by rw [Nat.add_mul];omega,ih (fun z hz=>h z (by simp [hz])) (by simpa using hx)]
   rfl
theorem own_at {w0 w:World} {S:Nat→Prop} {pre r:List HP} {e:TypeId} {sz B n c:Nat} {es:List (List Value)} (h:St w0 S (pre++ownHP e sz (.slice (some ⟨B,0,none⟩) n c) es::r) w) {i:Nat} {cs:List Value} (hi:es[i]?=some cs):CellsAt w B (i * sz) cs:=by
 have hl:∀ x∈es,x.length=sz:=by
  rcases own_form h with ⟨h1,_⟩ | ⟨_,_,_,_,_,_,h1⟩
  ·cases h1
  ·exact h1
 intro j v hv
 have:=own_cells h (i * sz + j) v (flatten_at hl hi hv)
 simpa using this
section
variable {P:Program} {E:Env} {ops:Array Oper} {Q:Pst} {rest:List Oper} {G:List (Nat × Value)} {H:List HP} {K0:Act→World→Prop}
variable {dst:Nat} {ty:TypeId} {pos:String} {af:Array Edge} {t e:TypeId} {d:TypeDesc} {z:Value} {sz n by_:Nat} {x y:Operand} {v:Value}
theorem PW.sepEx {ι:Type} (φ:ι→Prop) (H':ι→List HP) (hs:∀ w A,Sep H w A→∃ i,φ i∧Sep (H' i) w A) (k:∀ i,φ i→PW E K0 G (H' i)):PW E K0 G H:=fun a w hf hw=>by
 obtain ⟨i,hi,h⟩:=hs _ _ hw.sep
 exact k i hi a w hf ⟨hw.kp,h⟩
theorem CW.sepEx {ι:Type} {c:Code} (φ:ι→Prop) (H':ι→List HP) (hs:∀ w A,Sep H w A→∃ i,φ i∧Sep (H' i) w A) (k:∀ i,φ i→CW P E c Q G (H' i)):CW P E c Q G H:=PW.sepEx φ H' hs k
theorem RW.loadOwn1 [T:Ty P t d z sz by_] (pre:List HP) {r:List HP} {B O c i j:Nat} {sz':Nat} {es:List (List Value)} {cs:List Value} (hx:ev G x=some (.pointer (some ⟨B,O,none⟩))) (hO:O=i * sz' + j) (hi:es[i]?=some cs) (hv:cs[j]?=some v) (hd:isAggD d=false) (hN:Nat.blt dst E.N=true)
 (k:RW P E ops Q rest ((dst,v)::G) (pre++ownHP e sz' (.slice (some ⟨B,0,none⟩) n c) es::r)):RW P E ops Q (⟨some dst,.load t x,ty,pos,af,none⟩::rest) G (pre++ownHP e sz' (.slice (some ⟨B,0,none⟩) n c) es::r):=
 RW.load_fact hx hd hN (fun w hw=>by rw [hO];exact own_at hw hi j v hv) k
theorem RW.loadOwn [T:Ty P t d z sz by_] (pre:List HP) {r:List HP} {B O c i:Nat} {es:List (List Value)} {cs:List Value} (hx:ev G x=some (.pointer (some ⟨B,O,none⟩))) (hO:O=i * sz) (hi:es[i]?=some cs) (hs:cs.length=sz) (hd:isAggD d=true) (hN:Nat.blt dst E.N=true)
 (k:RW P E ops Q rest ((dst,.agg cs.toArray)::G) (pre++ownHP e sz (.slice (some ⟨B,0,none⟩) n c) es::r)):RW P E ops Q (⟨some dst,.load t x,ty,pos,af,none⟩::rest) G (pre++ownHP e sz (.slice (some ⟨B,0,none⟩) n c) es::r):=
 RW.load_facts hx hd hs hN (fun w hw=>by rw [hO];exact own_at hw hi) k
theorem RW.storeOwn [T:Ty P t d z 1 by_] (pre:List HP) {r:List HP} {B O c i j:Nat} {es:List (List Value)} {cs:List Value} (hx:ev G x=some (.pointer (some ⟨B,O,none⟩))) (hO:O=i * sz + j) (hy:ev G y=some v) (hv:v.cells=#[v]) (h1:v.oneCell'=true) (hi:es[i]?=some cs) (hj:j < cs.length)
 (k:RW P E ops Q rest G (pre++ownHP e sz (.slice (some ⟨B,0,none⟩) n c) (es.set i (cs.set j v))::r)):RW P E ops Q (⟨none,.store t x y,ty,pos,af,none⟩::rest) G (pre++ownHP e sz (.slice (some ⟨B,0,none⟩) n c) es::r):=by
 refine RW.open_ pre (fun tl:List Value=>starHP (pureHP (n=es.length∧(∀ x∈es,x.length=sz)∧es.flatten.length + tl.length=c * sz∧es.length≤c∧c≤maxN)) (blk B (es.flatten++tl) e)) (fun w F hp=>?_) fun tl=>?_
 ·rcases hp with ⟨hp,_⟩ | ⟨B',c',tl,h1,h2,h3,h4,h5,h6,h7⟩
  ·cases hp
  ·simp only [Value.slice.injEq,Option.some.injEq,Addr.mk.injEq] at h1
   obtain ⟨⟨rfl,_⟩,hn,rfl⟩:=h1
   exact ⟨tl,fun _=>False,fun _ h=>h.elim,⟨hn,h4,h5,h6,h7⟩,⟨⟨h2,fun h=>h.elim⟩,h3⟩⟩
 refine RW.unstar pre ?_
 refine RW.purely pre fun ⟨hn,h4,h5,h6,h7⟩=>?_
 have hl:i * sz + j < es.flatten.length:=(List.getElem?_eq_some_iff.1 (flatten_at h4 hi (List.getElem?_eq_getElem hj))).1
 have hcs:cs.length=sz:=h4 cs (List.mem_of_getElem? hi)
 refine RW.store_blk pre rfl hx hy hv h1 (by rw [hO,List.length_append];omega) ?_
 refine RW.change pre _ (fun w F hp=>own_of_blk hp tl ?_ (by rw [List.length_set];exact hn.symm) (fun x hx=>?_) (by rw [List.length_set,List.length_append];exact h5) (by omega) h7) k
 ·rw [hO,List.set_append_left _ _ hl,flatten_set h4 hi hj]
 ·rcases List.mem_or_eq_of_mem_set hx with h | h
  ·exact h4 x h
  ·rw [h,List.length_set];exact hcs
end
section
variable {t:K} {w:World} {A:Nat→Prop} {es:List (List Value)} {xs:List t.V} {cs:List Value} {r:List HP}
end
def allHP (L:List HP):HP where
 p w F:=Sep L w F
 st:=fun h hs k=>Sep.keep h hs k
 up:=fun h k=>Sep.up h k
section
variable {P:Program} {E:Env} {ops:Array Oper} {Q:Pst} {rest:List Oper} {G:List (Nat × Value)} {H:List HP} {K0:Act→World→Prop}
end
section
variable {P:Program} {E:Env} {ops:Array Oper} {Q:Pst} {rest:List Oper} {G:List (Nat × Value)} {K0:Act→World→Prop}
variable {t:K} {es:List (List Value)} {xs:List t.V} {cs:List Value} {x:t.V} {r:List HP} {i:Nat}
end
end Go.Proofs.YtbcdgcodnkgdoaaGreat
set_option maxRecDepth 10000
namespace Go.Proofs.YtbcdgcodnkgdoaaGreat
open Go Go.RowKit
abbrev kI:K:=.int .i64
abbrev kInts:K:=.sl 8 kI
abbrev kLists:K:=.sl 24 kInts
abbrev kRule:K:=.pr kI (.pr kI kInts)
abbrev kRules:K:=.sl 40 kRule
abbrev kTh:K:=.pr kI (.pr kLists (.pr kRules kLists))
abbrev RuleV:=Int × Int × List Int
abbrev ThV:=Int × List (List Int) × List RuleV × List (List Int)
abbrev tLits (t:ThV):Int:=t.1
abbrev tFoes (t:ThV):List (List Int):=t.2.1
abbrev tRules (t:ThV):List RuleV:=t.2.2.1
abbrev tBeats (t:ThV):List (List Int):=t.2.2.2
abbrev ptrV (b:Nat):Value:=.pointer (some ⟨b,0,none⟩)
abbrev intV (x:Int):Value:=.int .i64 x
abbrev intE (x:Int):List Value:=[.int .i64 x]
theorem sl_cell {M:Mem} {by_:Nat} {t:K} {cs:List Value} {xs:List t.V} (h:Rd (.sl by_ t) M cs xs):∃ A c,cs=[.slice A xs.length c]:=by
 obtain ⟨A,c,he,_⟩:=h
 exact ⟨A,c,he⟩
theorem sl_small {M:Mem} {by_:Nat} {t:K} {cs:List Value} {xs:List t.V} (h:Rd (.sl by_ t) M cs xs):xs.length * by_≤reach:=by
 obtain ⟨A,c,_,_,_,h4,_⟩:=h
 exact h4
theorem sl_get {M:Mem} {by_:Nat} {t:K} {A:Option Addr} {n c:Nat} {xs:List t.V} (h:Rd (.sl by_ t) M [.slice A n c] xs) {i:Nat} {x:t.V} (hi:xs[i]?=some x):
 ∃ B O cs,A=some ⟨B,O,none⟩∧cs.length=t.sz∧Rd t M cs x∧∀ (j:Nat) (v:Value),cs[j]?=some v→M B (O + i * t.sz + j) v:=by
 obtain ⟨A',c',he,_,_,_,hr⟩:=h
 have:=(List.cons.inj he).1
 injection this with h1 h2 h3
 subst h1
 exact hr.get hi
theorem ints_get {M:Mem} {A:Option Addr} {n c:Nat} {l:List Int} (h:Rd kInts M [.slice A n c] l) {i:Nat} {x:Int} (hi:l[i]?=some x):∃ B O,A=some ⟨B,O,none⟩∧M B (O + i) (.int .i64 x)∧inR .i64 x:=by
 obtain ⟨B,O,cs,h1,_,h2,h3⟩:=sl_get h hi
 obtain ⟨rfl,h4⟩:=h2
 exact ⟨B,O,h1,by have:=h3 0 _ rfl;simpa [K.sz] using this,h4⟩
theorem lists_get {M:Mem} {A:Option Addr} {n c:Nat} {l:List (List Int)} (h:Rd kLists M [.slice A n c] l) {i:Nat} {x:List Int} (hi:l[i]?=some x):∃ B O A2 c2,A=some ⟨B,O,none⟩∧M B (O + i) (.slice A2 x.length c2)∧Rd kInts M [.slice A2 x.length c2] x:=by
 obtain ⟨B,O,cs,h1,_,h2,h3⟩:=sl_get h hi
 obtain ⟨A2,c2,rfl⟩:=sl_cell h2
 exact ⟨B,O,A2,c2,h1,by have:=h3 0 _ rfl;simpa [K.sz] using this,h2⟩
theorem rule_get {M:Mem} {cs:List Value} {r:RuleV} (h:Rd kRule M cs r):∃ A c,cs=[.int .i64 r.1,.int .i64 r.2.1,.slice A r.2.2.length c]∧Rd kInts M [.slice A r.2.2.length c] r.2.2∧inR .i64 r.1∧inR .i64 r.2.1:=by
 obtain ⟨c1,c2,rfl,⟨rfl,h1⟩,c3,c4,rfl,⟨rfl,h3⟩,h4⟩:=h
 obtain ⟨A,c,rfl⟩:=sl_cell h4
 exact ⟨A,c,rfl,h4,h1,h3⟩
theorem rules_get {M:Mem} {A:Option Addr} {n c:Nat} {l:List RuleV} (h:Rd kRules M [.slice A n c] l) {i:Nat} {r:RuleV} (hi:l[i]?=some r):∃ B O A2 c2,A=some ⟨B,O,none⟩∧(∀ (j:Nat) (v:Value),([.int .i64 r.1,.int .i64 r.2.1,.slice A2 r.2.2.length c2]:List Value)[j]?=some v→M B (O + i * 3 + j) v)∧Rd kInts M [.slice A2 r.2.2.length c2] r.2.2∧inR .i64 r.1∧inR .i64 r.2.1:=by
 obtain ⟨B,O,cs,h1,_,h2,h3⟩:=sl_get h hi
 obtain ⟨A2,c2,rfl,h4⟩:=rule_get h2
 exact ⟨B,O,A2,c2,h1,h3,h4⟩
structure TC where
 (A1 A2 A3:Option Addr)
 (c1 c2 c3:Nat)
@[reducible] def TC.th (x:TC) (t:ThV):List Value:=[.int .i64 t.1,.slice x.A1 (tFoes t).length x.c1,.slice x.A2 (tRules t).length x.c2,.slice x.A3 (tBeats t).length x.c3]
structure ThOn (M:Mem) (t:ThV) (x:TC):Prop where
 lits:inR .i64 t.1
 foes:Rd kLists M [.slice x.A1 (tFoes t).length x.c1] (tFoes t)
 rules:Rd kRules M [.slice x.A2 (tRules t).length x.c2] (tRules t)
 beats:Rd kLists M [.slice x.A3 (tBeats t).length x.c3] (tBeats t)
theorem ThOn.mono {M M':Mem} {t:ThV} {x:TC} (h:ThOn M t x) (hM:Mem.le M M'):ThOn M' t x:=⟨h.lits,h.foes.mono hM,h.rules.mono hM,h.beats.mono hM⟩
theorem mem_to {w w':World} {S ok ok':Nat→Prop} (k:Keeps S w w') (hS:∀ b,ok b→b < w.heap.size→¬ S b∧ok' b):Mem.le (mem w ok) (mem w' ok'):=fun B O v h=>by
 have hl:=World.block_lt_of_cell? w _ h.2
 obtain ⟨h1,h2⟩:=hS B h.1.1 hl
 have h3:=k.block B hl h1
 exact ⟨⟨h2,(frozen_same h3 _).trans h.1.2⟩,by simpa [World.cell?,h3] using h.2⟩
theorem ro_call {E:Env} {H:List HP} {w:World} (hw:St E.w0 E.S H w):Mem.le E.ro (mem w (fun b=>¬ No b)):=mem_to hw.kp (fun b hb hl=>⟨hb,fun k=>k⟩)
attribute [local irreducible] RW CW
section
variable {P:Program} {E:Env} {ops:Array Oper} {Q:Pst} {rest:List Oper} {G:List (Nat × Value)} {H:List HP}
variable {dst:Nat} {ty t:TypeId} {pos:String} {af:Array Edge} {z z':Value} {d:TypeDesc} {sz by_ sz' by':Nat} {x y:Operand} {k:IntKind} {a:Int}
theorem RW.indexAddrE {e:TypeId} {A:Option Addr} {B O n cp:Nat} [T:Ty P t (.slice e) z sz by_] [T2:Ty P e d z' sz' by'] (hA:A=some ⟨B,O,none⟩) (hx:ev G x=some (.slice A n cp)) (hy:ev G y=some (.int k a)) (h0:0≤a) (h1:a < n) (hN:Nat.blt dst E.N=true)
 (kk:RW P E ops Q rest ((dst,.pointer (some ⟨B,O + a.toNat * sz',none⟩))::G) H):RW P E ops Q (⟨some dst,.indexAddr t x y,ty,pos,af,none⟩::rest) G H:=by
 subst hA
 exact RW.indexAddr hx hy h0 h1 hN kk
end
theorem ints_at {M:Mem} {B O i:Nat} {v:Value} (h:M B (O + i) v):M B (O + (i:Int).toNat * 1) v:=by simpa using h
end Go.Proofs.YtbcdgcodnkgdoaaGreat
namespace Go.Proofs.YtbcdgcodnkgdoaaGreat
open Go Go.RowKit
def risingGo (n:Int):Int→List Int→Bool
 | _,[]=>true
 | p,x::r=>decide (0≤x∧x < n∧p < x)&&risingGo n x r
def risingD (l:List Int) (n:Int):Bool:=risingGo n (-1) l
def prevAt (l:List Int) (k:Nat):Int:=if k=0 then -1 else l.getD (k - 1) 0
theorem prevAt_succ {l:List Int} {k:Nat} (h:k < l.length):prevAt l (k + 1)=l[k]:=by
 unfold prevAt
 rw [if_neg (by omega),Nat.add_sub_cancel,List.getD_eq_getElem?_getD,List.getElem?_eq_getElem h]
 rfl
theorem rising_step {l:List Int} {n:Int} {k:Nat} (h:k < l.length):risingGo n (prevAt l k) (l.drop k)=(decide (0≤l[k]∧l[k] < n∧prevAt l k < l[k])&&risingGo n (prevAt l (k + 1)) (l.drop (k + 1))):=by
 rw [List.drop_eq_getElem_cons h,prevAt_succ h]
 rfl
attribute [local irreducible] RW CW
theorem rising_ret {A:Option Addr} {c:Nat} {l:List Int} {n:Int} {w:World} (h:Rd kInts (mem w (fun b=>¬ No b)) [.slice A l.length c] l):Ret Tryz.prog 78 [.slice A l.length c,.int .i64 n] w (.bool (risingD l n)):=by
 have hsm:=sl_small h
 unfold reach at hsm
 have hle:Mem.le (mem w (fun b=>¬ No b)) (mem w (fun b=>¬ No b)):=Mem.le_refl _
 refine Calls.enter Tryz.func78 rfl _ rfl rfl (S:=No) (H:=[]) trivial ?_
 refine Ja ?_;refine Jd ?_;refine Jb ?_
 refine CW.seq ?_
 refine Ja ?_;refine Jc ?_;refine Jg ?_;refine Jc ?_;refine Jb ?_
 refine CW.block ?_
 refine CW.loop (ι:={ k:Nat // k≤l.length∧risingD l n=risingGo n (prevAt l k) (l.drop k) }) (fun k=>[(0,.slice A l.length c),(1,.int .i64 n),(7,.slice A l.length c),(8,.int .i64 l.length),(9,.int .i64 k.1)]) (fun _=>[]) (fun k=>l.length - k.1) ⟨0,Nat.zero_le _,rfl⟩ ⟨rfl,rfl,rfl,rfl,rfl,trivial⟩ (fun h=>h) ?_
 intro ⟨k,hk,hS⟩
 dsimp only at hk hS ⊢
 refine Ja ?_;refine Jk ?_;refine Jb ?_
 refine CW.seq ?_
 refine CW.ite rfl (fun hlt=>?_) (fun hge=>?_)
 rotate_left
 ·have hge':l.length≤k:=by omega
  rw [List.drop_eq_nil_of_le hge'] at hS
  refine CW.exit rfl ?_
  refine PW.code ?_
  refine Ja ?_;refine Jd ?_;refine Jb ?_
  exact CW.ret1 rfl Tryz.results78 rfl rfl fun w hw=>⟨by rw [hS];rfl,hw.kp⟩
 have hlt':k < l.length:=by omega
 rw [rising_step hlt'] at hS
 obtain ⟨B,O,hA,hm,_⟩:=ints_get h (List.getElem?_eq_getElem hlt')
 have bad:¬ (0≤l[k]∧l[k] < n∧prevAt l k < l[k])→risingD l n=false:=fun h=>by rw [hS,decide_eq_false h];rfl
 have good:(0≤l[k]∧l[k] < n∧prevAt l k < l[k])→risingD l n=risingGo n (prevAt l (k + 1)) (l.drop (k + 1)):=fun h=>by rw [hS,decide_eq_true h];rfl
 have hp0:k=0→prevAt l k=-1:=fun h=>by unfold prevAt;rw [if_pos h]
 have hp1:0 < k→∃ v,l[k - 1]?=some v∧prevAt l k=v:=fun h=>by
  refine ⟨l[k - 1],List.getElem?_eq_getElem (by omega),?_⟩
  unfold prevAt
  rw [if_neg (by omega),List.getD_eq_getElem?_getD,List.getElem?_eq_getElem (by omega)]
  rfl
 generalize hx:l[k]=x at *
 refine CW.skip ?_
 refine PW.code ?_
 refine CW.seq ?_
 refine CW.block ?_
 refine Ja ?_;refine Jc ?_
 refine RW.indexAddrE hA rfl rfl (by omega) hlt rfl ?_
 refine RW.load_ro rfl hle (ints_at hm) rfl rfl ?_
 refine Jd ?_;refine Jd ?_;refine Jb ?_;refine Ja ?_;refine Jc ?_;refine Jk ?_;refine Jc ?_
 refine RW.splitD 16 rfl (fun h1=>?_) (fun h1=>?_)
 ·refine Jz ?_;refine Jz ?_;refine Jz ?_;refine Jv ?_;refine Jc ?_;refine Jz ?_;refine Jz ?_;refine Jz ?_;refine Jz ?_;refine Jz ?_;refine Jz ?_;refine Jz ?_;refine Jz ?_;refine Jz ?_;refine Jz ?_;refine Jz ?_;refine Jv ?_;refine Jb ?_
  refine CW.ct rfl ?_
  refine Ja ?_;refine Jd ?_;refine Jb ?_
  exact CW.ret1 rfl Tryz.results78 rfl rfl fun w hw=>⟨by rw [bad (by omega)],hw.kp⟩
 refine Jy ?_;refine Jc ?_;refine Jy ?_;refine Jc ?_;refine Jy ?_;refine Jn ?_;refine Jw ?_;refine Jc ?_
 refine RW.splitD 21 rfl (fun h2=>?_) (fun h2=>?_)
 ·refine Jz ?_;refine Jz ?_;refine Jz ?_;refine Jz ?_;refine Jz ?_;refine Jz ?_;refine Jz ?_;refine Jz ?_;refine Jz ?_;refine Jz ?_;refine Jz ?_;refine Jv ?_;refine Jb ?_
  refine CW.ct rfl ?_
  refine Ja ?_;refine Jd ?_;refine Jb ?_
  exact CW.ret1 rfl Tryz.results78 rfl rfl fun w hw=>⟨by rw [bad (by omega)],hw.kp⟩
 refine Jy ?_;refine Jc ?_;refine Jy ?_;refine Jm ?_;refine Jy ?_;refine Jc ?_
 refine RW.splitD 24 rfl (fun h3=>?_) (fun h3=>?_)
 ·obtain ⟨v,hv,hpv⟩:=hp1 (by omega)
  obtain ⟨B1,O1,hA1,hm1,_⟩:=ints_get h hv
  refine Jy ?_;refine Jc ?_;refine Jy ?_;refine Jc ?_;refine Jy ?_;refine Jc ?_;refine Jy ?_
  refine RW.sub rfl rfl (w64 (by omega) (by omega)) rfl ?_
  refine Jy ?_
  refine RW.indexAddrE hA1 rfl rfl (by omega) (by omega) rfl ?_
  refine Jy ?_
  refine RW.load_ro (v:=.int .i64 v) rfl hle (by rw [show ((k:Int) - 1).toNat=k - 1 by omega,Nat.mul_one];exact hm1) rfl rfl ?_
  refine Jy ?_;refine Jl ?_;refine Jy ?_;refine Jv ?_;refine Jw ?_;refine Jb ?_
  refine CW.ite rfl (fun h4=>?_) (fun h4=>?_)
  ·refine Ja ?_;refine Jd ?_;refine Jb ?_
   exact CW.ret1 rfl Tryz.results78 rfl rfl fun w hw=>⟨by rw [bad (by omega)],hw.kp⟩
  refine CW.skip ?_
  refine PW.code ?_
  refine CW.region ?_
  refine RW.add rfl rfl (w64 (by omega) (by omega)) rfl ?_
  refine Jc ?_
  refine RW.nil ?_
  exact PW.again ⟨k + 1,hlt',good (by omega)⟩ ⟨rfl,rfl,rfl,rfl,rfl,trivial⟩ (fun h=>h) (by show l.length - (k + 1) < l.length - k;omega)
 ·refine Jz ?_;refine Jz ?_;refine Jz ?_;refine Jz ?_;refine Jz ?_;refine Jz ?_;refine Jz ?_;refine Jy ?_;refine Jw ?_;refine Jw ?_;refine Jb ?_
  refine CW.cf rfl ?_
  refine CW.skip ?_
  refine PW.code ?_
  refine CW.region ?_
  refine RW.add rfl rfl (w64 (by omega) (by omega)) rfl ?_
  refine Jc ?_
  refine RW.nil ?_
  exact PW.again ⟨k + 1,hlt',good (by have:=hp0 (by omega);omega)⟩ ⟨rfl,rfl,rfl,rfl,rfl,trivial⟩ (fun h=>h) (by show l.length - (k + 1) < l.length - k;omega)
end Go.Proofs.YtbcdgcodnkgdoaaGreat
namespace Go.Proofs.YtbcdgcodnkgdoaaGreat
open Go Go.RowKit
def indexGo (v:Int):List Int→Int→Int
 | [],_=>-1
 | x::r,i=>if v=x then i else indexGo v r (i + 1)
def indexI (l:List Int) (v:Int):Int:=indexGo v l 0
theorem indexGo_has (v:Int):∀ (l:List Int) (i:Int),0≤i→(decide (0≤indexGo v l i))=decide (v∈l):=by
 intro l
 induction l with
 | nil=>intro i _;simp [indexGo]
 | cons x r ih=>
  intro i hi
  unfold indexGo
  by_cases h:v=x
  ·rw [if_pos h];simp [h,hi]
  ·rw [if_neg h,ih _ (by omega)];simp [h]
theorem indexI_has (l:List Int) (v:Int):decide (0≤indexI l v)=decide (v∈l):=indexGo_has v l 0 (Int.le_refl _)
attribute [local irreducible] RW CW
theorem index_ret {A:Option Addr} {c:Nat} {l:List Int} {v:Int} {w:World} (h:Rd kInts (mem w (fun b=>¬ No b)) [.slice A l.length c] l):Ret Tryz.prog 165 [.slice A l.length c,.int .i64 v] w (.int .i64 (indexI l v)):=by
 have hsm:=sl_small h
 unfold reach at hsm
 have hle:Mem.le (mem w (fun b=>¬ No b)) (mem w (fun b=>¬ No b)):=Mem.le_refl _
 refine Calls.enter Tryz.func165 rfl _ rfl rfl (S:=No) (H:=[]) trivial ?_
 refine Ja ?_;refine Jd ?_;refine Jb ?_
 refine CW.seq ?_
 refine Ja ?_;refine Jc ?_;refine Jg ?_;refine Jc ?_;refine Jb ?_
 refine CW.block ?_
 refine CW.loop (ι:={ k:Nat // k≤l.length∧indexI l v=indexGo v (l.drop k) k }) (fun k=>[(0,.slice A l.length c),(1,.int .i64 v),(7,.int .i64 l.length),(8,.int .i64 k.1)]) (fun _=>[]) (fun k=>l.length - k.1) ⟨0,Nat.zero_le _,rfl⟩ ⟨rfl,rfl,rfl,rfl,trivial⟩ (fun h=>h) ?_
 intro ⟨k,hk,hS⟩
 dsimp only at hk hS ⊢
 refine Ja ?_;refine Jk ?_;refine Jb ?_
 refine CW.seq ?_
 refine CW.ite rfl (fun hlt=>?_) (fun hge=>?_)
 rotate_left
 ·have hge':l.length≤k:=by omega
  rw [List.drop_eq_nil_of_le hge'] at hS
  refine CW.exit rfl ?_
  refine PW.code ?_
  refine Ja ?_;refine Jd ?_;refine Jb ?_
  exact CW.ret1 rfl Tryz.results165 rfl rfl fun w hw=>⟨by rw [hS];rfl,hw.kp⟩
 have hlt':k < l.length:=by omega
 rw [List.drop_eq_getElem_cons hlt',indexGo] at hS
 obtain ⟨B,O,hA,hm,_⟩:=ints_get h (List.getElem?_eq_getElem hlt')
 generalize l[k]=x at *
 refine CW.skip ?_
 refine PW.code ?_
 refine CW.seq ?_
 refine CW.block ?_
 refine Ja ?_;refine Jc ?_;refine Jd ?_;refine Jb ?_;refine Ja ?_;refine Jc ?_;refine Jc ?_;refine Jc ?_
 refine RW.indexAddrE hA rfl rfl (by omega) hlt rfl ?_
 refine RW.load_ro rfl hle (ints_at hm) rfl rfl ?_
 refine Ji ?_;refine Jb ?_
 refine CW.ite rfl (fun h1=>?_) (fun h1=>?_)
 ·rw [if_pos h1] at hS
  refine Ja ?_;refine Jc ?_;refine Jd ?_;refine Jb ?_
  exact CW.ret1 rfl Tryz.results165 rfl rfl fun w hw=>⟨by rw [hS],hw.kp⟩
 rw [if_neg h1] at hS
 refine CW.skip ?_
 refine PW.code ?_
 refine CW.region ?_
 refine RW.add rfl rfl (w64 (by omega) (by omega)) rfl ?_
 refine Jc ?_
 refine RW.nil ?_
 exact PW.again ⟨k + 1,hlt',hS⟩ ⟨rfl,rfl,rfl,rfl,trivial⟩ (fun h=>h) (by show l.length - (k + 1) < l.length - k;omega)
theorem contains_ret {A:Option Addr} {c:Nat} {l:List Int} {v:Int} {w:World} (h:Rd kInts (mem w (fun b=>¬ No b)) [.slice A l.length c] l):Ret Tryz.prog 116 [.slice A l.length c,.int .i64 v] w (.bool (decide (v∈l))):=by
 refine Calls.enter Tryz.func116 rfl _ rfl rfl (S:=No) (H:=[]) trivial ?_
 refine Ja ?_;refine Jd ?_;refine Jb ?_;refine Ja ?_;refine Jc ?_;refine Jc ?_
 refine RW.call Tryz.call165 rfl (fun w2 hw=>index_ret (h.mono (ro_call hw))) rfl ?_
 refine Jn ?_;refine Jd ?_;refine Jb ?_
 exact CW.ret1 rfl Tryz.results116 rfl rfl fun w hw=>⟨by rw [indexI_has],hw.kp⟩
theorem isNaN_ret (a:Int) (w:World):Ret Tryz.prog 217 [.int .i64 a] w (.bool false):=by
 refine Calls.enter Tryz.func217 rfl _ rfl rfl (S:=No) (H:=[]) trivial ?_
 refine Ja ?_;refine Jd ?_;refine Jb ?_;refine Ja ?_;refine Jc ?_;refine Jc ?_;refine Jj ?_;refine Jd ?_;refine Jb ?_
 exact CW.ret1 rfl Tryz.results217 rfl rfl fun w hw=>⟨by simp,hw.kp⟩
theorem isNaNS_ret (a:Int) (w:World):Ret Tryz.prog 187 [.int .i64 a] w (.bool false):=by
 refine Calls.enter Tryz.func187 rfl _ rfl rfl (S:=No) (H:=[]) trivial ?_
 refine Ja ?_;refine Jd ?_;refine Jb ?_;refine Ja ?_;refine Jc ?_;refine Jc ?_;refine Jj ?_;refine Jd ?_;refine Jb ?_
 exact CW.ret1 rfl Tryz.results187 rfl rfl fun w hw=>⟨by simp,hw.kp⟩
theorem less_ret (a b:Int) (w:World):Ret Tryz.prog 186 [.int .i64 a,.int .i64 b] w (.bool (decide (a < b))):=by
 refine Calls.enter Tryz.func186 rfl _ rfl rfl (S:=No) (H:=[]) trivial ?_
 refine Ja ?_;refine Jd ?_;refine Jb ?_;refine Ja ?_;refine Jc ?_
 refine RW.call Tryz.call217 rfl (fun w _=>isNaN_ret _ w) rfl ?_
 refine Jc ?_;refine Jz ?_;refine Jz ?_;refine Jz ?_;refine Jw ?_;refine Jc ?_;refine Jy ?_;refine Jc ?_;refine Jy ?_;refine Jc ?_;refine Jy ?_;refine Jk ?_;refine Jw ?_;refine Jd ?_;refine Jb ?_
 exact CW.ret1 rfl Tryz.results186 rfl rfl fun w hw=>⟨rfl,hw.kp⟩
end Go.Proofs.YtbcdgcodnkgdoaaGreat
namespace Go.Proofs.YtbcdgcodnkgdoaaGreat
open Go Go.RowKit
section
variable {P:Program} {E:Env} {Q:Pst} {G:List (Nat × Value)} {H:List HP} {l:List Oper} {n:Nat} {ks:List PK}
theorem WA.anyA (q j2:Nat) (Hd:Bool→List HP) (n:Nat) (ks:List PK) (hk:ks.length=n) (hn:Nat.ble n l.length=true) (hb:backB l=true) (hf:forcedB l n=true) (hd:dstB l ks n G=true) (hput:PutOK l ks) (hpd:∀ (i:Nat) (o:Oper) (d:Nat),i < n→l[i]?=some o→o.dst=some d→PK.isPut ks[i]?=true→False)
 (prems:∀ (i:Nat) (o:Oper) (k:PK),i≠q→l[i]?=some o→ks[i]?=some k→(∀ b,Prem P E l.toArray Q (depG l ks o) G (Hd b) o k)∨∃ (e:Edge) (oj:Oper) (dj:Nat) (v:Value) (cj:Nat→HP) (tj:Nat→Value) (pj:Nat),e∈o.after.toList∧Region.binds .any e=true∧l[e.on]?=some oj∧oj.dst=some dj∧k=.val v∧ks[e.on]?=some (.new cj tj pj cj)∧∀ (b0:Bool) (b:Nat) (Gx:List (Nat × Value)) (X:List HP),RW P E l.toArray (Pst.then (fun a w=>∃ d,o.dst=some d∧Fr E.N E.ds a ((d,v)::(dj,tj b)::(depG l ks o++G++Gx))∧St E.w0 E.S (cj b::(Hd b0++X)) w) Q) [o] ((dj,tj b)::(depG l ks o++G++Gx)) (cj b::(Hd b0++X)))
 (hq2:∀ o,q < n→l[q]?=some o→∃ (e:Edge) (oj:Oper) (dj:Nat) (c:Nat→HP) (t:Nat→Value) (p:Nat) (c2 cj:Nat→HP) (tj:Nat→Value) (pj:Nat),e∈o.after.toList∧Region.binds .any e=true∧e.on=j2∧l[j2]?=some oj∧oj.dst=some dj∧ks[q]?=some (.new c t p c2)∧ks[j2]?=some (.new cj tj pj cj) ∧
  ∀ (b:Nat) (Gx:List (Nat × Value)) (X:List HP),RW P E l.toArray (Pst.then (fun a w=>∃ b' d,o.dst=some d∧Fr E.N E.ds a ((d,t b')::(dj,tj b)::(depG l ks o++G++Gx))∧St E.w0 E.S (c b'::cj b::(Hd true++X)) w) Q) [o] ((dj,tj b)::(depG l ks o++G++Gx)) (cj b::(Hd false++X)))
 (tail:∀ bs,RW P E l.toArray Q (l.drop n) (outG l ks bs++G) (Hd (decide (q < n))++newH l ks bs)):WA P E l Q G (Hd false):=by
 have hnl:n≤l.length:=by simpa [Nat.ble_eq] using hn
 have hback:∀ (i:Nat) (o:Oper),l[i]?=some o→∀ e∈o.after.toList,Region.binds .any e=true→e.on < i:=by
  intro i o ho e he hbe
  have hi:i < l.length:=(List.getElem?_eq_some_iff.1 ho).1
  have:=(List.all_eq_true.1 hb) i (List.mem_range.2 hi)
  rw [ho] at this
  have h9:=(List.all_eq_true.1 this) e he
  simpa [hbe] using h9
 have hdst:∀ i,i < n→PK.isPut ks[i]?=false→∃ (o:Oper) (d:Nat),l[i]?=some o∧o.dst=some d∧look G d=none∧∀ (j:Nat) (o':Oper) (d':Nat),j < n→l[j]?=some o'→o'.dst=some d'→d=d'→i=j:=by
  intro i hi hnp
  have h1:=(List.all_eq_true.1 hd) i (List.mem_range.2 hi)
  have hi':i < l.length:=by omega
  rw [List.getElem?_eq_getElem hi'] at h1
  simp only at h1
  cases hdd:l[i].dst with
  | none=>rw [hdd] at h1;rw [hnp] at h1;cases h1
  | some d=>
   rw [hdd] at h1
   simp only [Bool.and_eq_true] at h1
   refine ⟨l[i],d,List.getElem?_eq_getElem hi',hdd,by simpa using h1.1,fun j o' d' hj ho' hd' he=>?_⟩
   have h2:=(List.all_eq_true.1 h1.2) j (List.mem_range.2 hj)
   rw [ho'] at h2
   simp only [hd'] at h2
   subst he
   simpa using h2
 have hnodst:∀ i,i < n→PK.isPut ks[i]?=true→∀ o,l[i]?=some o→∀ d,o.dst≠some d:=by
  intro i hi hp o ho d hdd
  exact hpd i o d hi ho hdd hp
 have toTail:∀ (listed:Array Bool) (a:Act) (w:World) (bs:Nat→Nat),Mid P E l n ks G Hd q listed a w bs→(∀ i,i < n→listed.getD i false=true)→wpList P l.toArray Q.fn (l.drop n) a w:=by
  intro listed a w bs M hall
  refine tail bs a w ⟨M.fN,M.fd,fun s u hs=>?_⟩ ?_
  ·rcases look_append hs with hs | hs
   ·obtain ⟨i,o,k,h1,h2,h3,h4⟩:=look_outG hs
    have hi:i < n:=by have:=(List.getElem?_eq_some_iff.1 h2).1;omega
    rw [h4]
    exact M.fV i o s k (hall i hi) h1 h3 h2
   ·exact M.fG s u hs
  ·have:=M.st
   rw [show listed.getD q false=decide (q < n) from (by
    by_cases hqn:q < n
    ·rw [hall q hqn,decide_eq_true hqn]
    ·rw [M.below q (by omega),decide_eq_false hqn])] at this
   rwa [laidH_all (fun j _ hj=>hall j (by omega)) (fun c t p c2 hm=>?_)] at this
   obtain ⟨j,hj⟩:=List.mem_iff_getElem?.1 hm
   rcases hput.new j c t p c2 hj with h | h
   ·rw [h];split <;> rfl
   ·have hp:p < n:=by
     rcases Nat.lt_or_ge p ks.length with h2 | h2
     ·omega
     ·rw [List.getElem?_eq_none h2] at h;cases h
    show (if listed.getD p false=true then c2 else c)=c2
    rw [if_pos (hall p hp)]
 intro a w hfr hst
 have key:∀ (fuel:Nat) (listed:Array Bool) (a:Act) (w:World) (bs:Nat→Nat),Mid P E l n ks G Hd q listed a w bs→cnt (fun i=>listed.getD i false) l.length≤fuel→wpAny P .any l.toArray Q.fn fuel listed a w:=by
  intro fuel
  induction fuel with
  | zero=>
   intro listed a w bs M hc
   -- nothing is left: n=l.length
   have hall:∀ i,i < l.length→listed.getD i false=true:=fun i hi=>by
    cases hx:listed.getD i false with
    | true=>rfl
    | false=>exact absurd (cnt_pos (L:=fun i=>listed.getD i false) hx l.length hi) (by omega)
   have hnl':n=l.length:=by
    rcases Nat.lt_or_ge n l.length with h | h
    ·have:=M.below n (Nat.le_refl _);rw [hall n h] at this;cases this
    ·omega
   refine tail_any hb hf 0 l.length (by omega) (by omega) 0 listed a w (Nat.le_refl _) M.size (fun j hj=>⟨fun _=>hj,fun _=>hall j hj⟩) ?_
   rw [← hnl']
   exact toTail listed a w bs M (fun i hi=>hall i (by omega))
  | succ fuel ih=>
   intro listed a w bs M hc
   by_cases hall:∀ i,i < n→listed.getD i false=true
   ·have hcn:l.length - n≤fuel + 1:=by
     have:cnt (fun i=>listed.getD i false) l.length=l.length - n:=cnt_upto hall M.below l.length hnl
     omega
    exact tail_any hb hf (l.length - n) n (by omega) (Nat.le_refl _) (fuel + 1) listed a w hcn M.size (fun j hj=>⟨fun h=>M.lt h,fun h=>hall j h⟩) (toTail listed a w bs M hall)
   ·have hex:∃ i,i < n∧listed.getD i false=false∧∀ j,j < i→listed.getD j false=true:=by
     have:∀ m,(∀ i,i < m→listed.getD i false=true)∨∃ i,i < m∧listed.getD i false=false∧∀ j,j < i→listed.getD j false=true:=by
      intro m
      induction m with
      | zero=>exact .inl (fun i hi=>by omega)
      | succ m ihm=>
       rcases ihm with h | ⟨i,h1,h2,h3⟩
       ·cases hx:listed.getD m false with
        | true=>exact .inl (fun i hi=>if h4:i < m then h i h4 else (show m=i by omega) ▸ hx)
        | false=>exact .inr ⟨m,by omega,hx,h⟩
       ·exact .inr ⟨i,by omega,h2,h3⟩
     rcases this n with h | h
     ·exact absurd h hall
     ·exact h
    obtain ⟨i0,hi0,hi0f,hi0a⟩:=hex
    have hrdy:i0∈Region.ready .any l.toArray listed:=(ready_iff M.size i0).2 ⟨l[i0],List.getElem?_eq_getElem (by omega),hi0f,fun e he hbe=>hi0a _ (hback i0 _ (List.getElem?_eq_getElem (by omega)) e he hbe)⟩
    refine ⟨(fun h=>by rw [h] at hrdy;cases hrdy),fun i hi=>?_⟩
    obtain ⟨o,ho,hlf,hej⟩:=(ready_iff M.size i).1 hi
    have hin:i < n:=by
     rcases Nat.lt_or_ge i n with h | h
     ·exact h
     ·have:=closed_forced (L:=fun i=>listed.getD i false) hb hf h ho (show i0 < i by omega) M.down hej
      rw [hi0f] at this;cases this
    have hki:i < ks.length:=by omega
    have hget:∀ j,j≠i→(listed.setIfInBounds i true).getD j false=listed.getD j false:=fun j hj=>by rw [getD_set (by rw [M.size];omega),if_neg (Ne.symm hj)]
    have hseti:(listed.setIfInBounds i true).getD i false=true:=by rw [getD_set (by rw [M.size];omega),if_pos rfl]
    have hcells:PK.isPut ks[i]?=false→∀ c t q c2,PK.new c t q c2∈ks→(if listed.getD q false=true then c2 else c)=(if (listed.setIfInBounds i true).getD q false=true then c2 else c):=fun hnp c t q c2 hm=>by
     obtain ⟨j,hj⟩:=List.mem_iff_getElem?.1 hm
     rcases hput.new j c t q c2 hj with h | h
     ·rw [h];simp
     ·rw [hget q (fun e=>by subst e;rw [hnp] at h;cases h)]
    have hP00:=fun (hiq:i≠q)=>prems i o ks[i] hiq ho (List.getElem?_eq_getElem hki)
    have hP0:i≠q→(∀ v,ks[i]≠.val v)→Prem P E l.toArray Q (depG l ks o) G (Hd (listed.getD q false)) o ks[i]:=fun hiq hv=>(hP00 hiq).elim (fun h=>h _) (fun ⟨_,_,_,v,_,_,_,_,_,_,_,h,_⟩=>absurd h (hv v))
    have hnew2:i=q→∃ c t p c2,ks[i]=.new c t p c2:=fun e=>by
     obtain ⟨_,_,_,c,t,p,c2,_,_,_,_,_,_,_,_,h,_⟩:=hq2 o (by omega) (by rw [← e];exact ho)
     rw [← e,List.getElem?_eq_getElem hki] at h
     exact ⟨c,t,p,c2,Option.some.inj h⟩
    have hbq:i≠q→(listed.setIfInBounds i true).getD q false=listed.getD q false:=fun h=>hget q (Ne.symm h)
    have hvq:(∀ c t p c2,ks[i]≠.new c t p c2)→i≠q:=fun h e=>by
     obtain ⟨c,t,p,c2,hh⟩:=hnew2 e
     exact h _ _ _ _ hh
    have hDep:=depG_true M hej
    have hsnap:Fr E.N E.ds a (depG l ks o++G++idx 0 a.tmps.toList):=⟨M.fN,M.fd,fun s u hs=>by
     rcases look_append hs with hs | hs
     ·exact (look_append hs).elim (hDep s u) (M.fG s u)
     ·have:=look_idx _ 0 s u hs;simpa using this.2⟩
    have hcnt:cnt (fun j=>(listed.setIfInBounds i true).getD j false) l.length≤fuel:=by
     have:=cnt_set (L:=fun j=>listed.getD j false) (L':=fun j=>(listed.setIfInBounds i true).getD j false) (p:=i) (fun j hj=>by show (listed.setIfInBounds i true).getD j false=listed.getD j false;rw [getD_set (by rw [M.size];omega),if_neg (Ne.symm hj)]) hlf (by show (listed.setIfInBounds i true).getD i false=true;rw [getD_set (by rw [M.size];omega),if_pos rfl]) l.length (by omega)
     omega
    have hdown':∀ (m:Nat) (o':Oper),(listed.setIfInBounds i true).getD m false=true→l[m]?=some o'→∀ e∈o'.after.toList,Region.binds .any e=true→(listed.setIfInBounds i true).getD e.on false=true:=by
     intro m o' hm' ho' e he hbi
     rw [getD_set (by rw [M.size];omega)] at hm' ⊢
     split
     ·rfl
     ·split at hm'
      ·rename_i e2;subst e2;rw [ho] at ho';injection ho' with ho';subst ho';exact hej e he hbi
      ·exact M.down m o' hm' ho' e he hbi
    have hbelow':∀ j,n≤j→(listed.setIfInBounds i true).getD j false=false:=fun j hj=>by rw [getD_set (by rw [M.size];omega),if_neg (by omega)];exact M.below j hj
    cases hkk:ks[i] with
    | put dj c t c2=>
     have hiq:=hvq (fun c t p c2 e=>by rw [hkk] at e;cases e)
     have hP:=hP0 hiq (fun v e=>by rw [hkk] at e;cases e)
     rw [hkk] at hP
     obtain ⟨j,oj,op,e,hkj,hoj,hdj,hop,he,hbe,hej2⟩:=hput.put i dj c t c2 (by rw [List.getElem?_eq_getElem hki,hkk])
     rw [ho] at hop;injection hop with hop;subst hop
     have hjl:listed.getD j false=true:=hej2 ▸ hej e he hbe
     have hji:j≠i:=fun e2=>by rw [e2,hlf] at hjl;cases hjl
     have hptr:=M.fV j oj dj _ hjl hoj hdj hkj
     obtain ⟨X,hX,hX'⟩:=laidH_put (L:=fun i=>listed.getD i false) (L':=fun j=>(listed.setIfInBounds i true).getD j false) (bs:=bs) (p:=i) (j:=j) (fun m hm=>(hget m hm).symm) hlf hseti hjl (os:=l) (r:=ks) (i:=0) (Nat.zero_le _)
      (fun m c' t' q c2' _ hm hk'=>by
       rw [Nat.sub_zero] at hk'
       show (if listed.getD q false=true then c2' else c')=(if (listed.setIfInBounds i true).getD q false=true then c2' else c')
       by_cases hq:q=i
       ·subst hq
        rw [hput.uniq j m q c t c2 c' t' c2' hkj hk' (Ne.symm hm)]
        simp
       ·rw [hget q hq])
      (fun _=>by rw [Nat.sub_zero,List.getElem?_eq_getElem hki,hkk];rfl) (o:=oj) (d:=dj) (c:=c) (t:=t) (c2:=c2) (by simpa using hoj) hdj (by simpa using hkj)
     have hfr1:Fr E.N E.ds a ((dj,t (bs dj))::(depG l ks o++G++idx 0 a.tmps.toList)):=⟨M.fN,M.fd,fun s u hs=>by
      unfold look at hs
      cases hb:Nat.beq dj s with
      | true=>
       rw [hb] at hs
       have:dj=s:=Nat.eq_of_beq_eq_true hb
       subst this
       simp only [Option.some.injEq] at hs
       subst hs
       exact hptr
      | false=>rw [hb] at hs;exact hsnap.at_ s u hs⟩
     have hst1:St E.w0 E.S (c (bs dj)::(Hd (listed.getD q false)++X)) w:=M.st.perm ((List.Perm.append_left _ hX).trans List.perm_middle)
     have h1:=hP (bs dj) (idx 0 a.tmps.toList) X a w hfr1 hst1
     refine wpOp_then (wpOp_mono (fun a' w' h'=>?_) (wpOp_of_list ho h1))
     obtain ⟨hfr',hst'⟩:=h'
     have hkeep:∀ s u,a.tmps[s]?=some u→a'.tmps[s]?=some u:=fun s u hs=>by
      by_cases hsd:s=dj
      ·subst hsd
       rw [hptr] at hs
       injection hs with hs
       subst hs
       exact hfr'.at_ _ _ (by simp [look,Nat.beq_refl,PK.out])
      ·exact slot_kept hDep M.fG hfr' hsd hs
     refine ih _ a' w' bs ⟨by simp [M.size],hbelow',hdown',hfr'.size,hfr'.defers,fun s u hs=>hkeep s u (M.fG s u hs),fun m o' d' k hm' ho' hd' hk'=>?_,?_⟩ hcnt
     ·by_cases hmi:m=i
      ·subst hmi
       rw [List.getElem?_eq_getElem hki,hkk] at hk';injection hk' with hk';subst hk'
       rw [ho] at ho';injection ho' with ho';subst ho'
       exact absurd hd' (hnodst m hin (by rw [List.getElem?_eq_getElem hki,hkk];rfl) o ho d')
      ·rw [hget m hmi] at hm'
       exact hkeep _ _ (M.fV m o' d' k hm' ho' hd' hk')
     ·rw [hbq hiq]
      exact hst'.perm (List.perm_middle.symm.trans (List.Perm.append_left _ hX'.symm))
    | val v=>
     have hnp:PK.isPut ks[i]?=false:=by rw [List.getElem?_eq_getElem hki,hkk];rfl
     obtain ⟨o2,d,ho2,hdd,hGd,huniq⟩:=hdst i hin hnp
     rw [ho] at ho2
     injection ho2 with ho2
     subst ho2
     have hop:Go.wpOp P l.toArray Q.fn i (fun a' w=>∃ d,o.dst=some d∧Fr E.N E.ds a' ((d,v)::(depG l ks o++G++idx 0 a.tmps.toList))∧St E.w0 E.S (Hd ((listed.setIfInBounds i true).getD q false)++laidH (fun i=>listed.getD i false) l ks 0 bs) w) a w:=by
      have hiq:=hvq (fun c t p c2 e=>by rw [hkk] at e;cases e)
      rw [hbq hiq]
      rcases hP00 hiq with hP | ⟨e,oj,dj,v',cj,tj,pj,he,hbe,hoj,hdj,hk2,hkj,hp2⟩
      ·have hP:=hP (listed.getD q false)
       rw [hkk] at hP
       exact wpOp_then (wpOp_of_list ho (hP (idx 0 a.tmps.toList) (laidH (fun i=>listed.getD i false) l ks 0 bs) a w hsnap M.st))
      ·rw [hkk] at hk2
       injection hk2 with e1
       subst e1
       have hjl:listed.getD e.on false=true:=hej e he hbe
       have hptr:=M.fV e.on oj dj _ hjl hoj hdj hkj
       obtain ⟨X,hX⟩:=laidH_get (L:=fun i=>listed.getD i false) (bs:=bs) (j:=e.on) hjl (os:=l) (r:=ks) (i:=0) (Nat.zero_le _) (by simpa using hoj) hdj (by simpa using hkj)
       have hfr1:Fr E.N E.ds a ((dj,tj (bs dj))::(depG l ks o++G++idx 0 a.tmps.toList)):=⟨M.fN,M.fd,fun s u hs=>by
        unfold look at hs
        cases hb:Nat.beq dj s with
        | true=>
         rw [hb] at hs
         have:dj=s:=Nat.eq_of_beq_eq_true hb
         subst this
         simp only [Option.some.injEq] at hs
         subst hs
         exact hptr
        | false=>rw [hb] at hs;exact hsnap.at_ s u hs⟩
       have hst1:St E.w0 E.S (cj (bs dj)::(Hd (listed.getD q false)++X)) w:=M.st.perm ((List.Perm.append_left _ hX).trans List.perm_middle)
       have h1:=hp2 (listed.getD q false) (bs dj) (idx 0 a.tmps.toList) X a w hfr1 hst1
       refine wpOp_then (wpOp_mono (fun a' w' h'=>?_) (wpOp_of_list ho h1))
       obtain ⟨d',hd',hfr',hst'⟩:=h'
       rw [hdd] at hd'
       injection hd' with hd'
       subst hd'
       refine ⟨d,hdd,⟨hfr'.size,hfr'.defers,fun s u hs=>?_⟩,hst'.perm (List.perm_middle.symm.trans (List.Perm.append_left _ hX.symm))⟩
       unfold look at hs
       cases hb:Nat.beq d s with
       | true=>rw [hb] at hs;exact hfr'.at_ s u (by unfold look;rw [hb];exact hs)
       | false=>
        rw [hb] at hs
        refine hfr'.at_ s u (by
         unfold look
         rw [hb]
         simp only
         unfold look
         cases hb2:Nat.beq dj s with
         | false=>exact hs
         | true=>
          have:dj=s:=Nat.eq_of_beq_eq_true hb2
          subst this
          have h9:=hsnap.at_ _ u hs
          rw [hptr] at h9
          simpa [PK.out] using h9)
     refine wpOp_mono (fun a' w' h'=>?_) hop
     obtain ⟨d2,hd2,hfr',hst'⟩:=h'
     rw [hdd] at hd2
     injection hd2 with hd2
     subst hd2
     refine ih _ a' w' bs ⟨by simp [M.size],hbelow',hdown',hfr'.size,hfr'.defers,fun s u hs=>?_,fun m o' d' k hm' ho' hd' hk'=>?_,?_⟩ hcnt
     ·exact slot_kept hDep M.fG hfr' (fun e=>by subst e;rw [hGd] at hs;cases hs) (M.fG s u hs)
     ·rw [getD_set (by rw [M.size];omega)] at hm'
      by_cases hmi:i=m
      ·subst hmi
       rw [ho] at ho';injection ho' with ho';subst ho'
       rw [hdd] at hd';injection hd' with hd';subst hd'
       rw [List.getElem?_eq_getElem hki,hkk] at hk';injection hk' with hk';subst hk'
       exact hfr'.at_ _ _ (by simp [look,Nat.beq_refl,PK.out])
      ·rw [if_neg hmi] at hm'
       have hmn:m < n:=M.lt hm'
       refine slot_kept hDep M.fG hfr' (fun e=>hmi (huniq m o' d' hmn ho' hd' e.symm)) (M.fV m o' d' k hm' ho' hd' hk')
     ·have:laidH (fun i_1=>(listed.setIfInBounds i true).getD i_1 false) l ks 0 bs=laidH (fun i=>listed.getD i false) l ks 0 bs:=by
       exact laidH_val (p:=i) (v:=v) (fun j hj=>by rw [getD_set (by rw [M.size];omega),if_neg (Ne.symm hj)]) (fun _=>by rw [Nat.sub_zero,List.getElem?_eq_getElem hki,hkk]) (fun c t q c2 hm=>(hcells hnp c t q c2 hm).symm)
      rw [this];exact hst'
    | new c t q0 c2=>
     have hnp:PK.isPut ks[i]?=false:=by rw [List.getElem?_eq_getElem hki,hkk];rfl
     obtain ⟨o2,d,ho2,hdd,hGd,huniq⟩:=hdst i hin hnp
     rw [ho] at ho2
     injection ho2 with ho2
     subst ho2
     have hop:Go.wpOp P l.toArray Q.fn i (fun a' w=>∃ b d,o.dst=some d∧Fr E.N E.ds a' ((d,t b)::(depG l ks o++G++idx 0 a.tmps.toList))∧St E.w0 E.S (c b::(Hd ((listed.setIfInBounds i true).getD q false)++laidH (fun i=>listed.getD i false) l ks 0 bs)) w) a w:=by
      by_cases hi2:i=q
      ·obtain ⟨e,oj,dj,c',t',p',c2',cj,tj,pj,he,hbe,hej2,hoj,hdj,hk2,hkj,hp2⟩:=hq2 o (by omega) (by rw [← hi2];exact ho)
       rw [← hi2,List.getElem?_eq_getElem hki,hkk] at hk2
       injection hk2 with hk2
       injection hk2 with e1 e2 e3 e4
       subst e1;subst e2
       have hjl:listed.getD j2 false=true:=hej2 ▸ hej e he hbe
       have hptr:=M.fV j2 oj dj _ hjl hoj hdj hkj
       obtain ⟨X,hX⟩:=laidH_get (L:=fun i=>listed.getD i false) (bs:=bs) (j:=j2) hjl (os:=l) (r:=ks) (i:=0) (Nat.zero_le _) (by simpa using hoj) hdj (by simpa using hkj)
       have hfr1:Fr E.N E.ds a ((dj,tj (bs dj))::(depG l ks o++G++idx 0 a.tmps.toList)):=⟨M.fN,M.fd,fun s u hs=>by
        unfold look at hs
        cases hb:Nat.beq dj s with
        | true=>
         rw [hb] at hs
         have:dj=s:=Nat.eq_of_beq_eq_true hb
         subst this
         simp only [Option.some.injEq] at hs
         subst hs
         exact hptr
        | false=>rw [hb] at hs;exact hsnap.at_ s u hs⟩
       have hst0:=M.st
       rw [← hi2,hlf] at hst0
       have hst1:St E.w0 E.S (cj (bs dj)::(Hd false++X)) w:=hst0.perm ((List.Perm.append_left _ hX).trans List.perm_middle)
       have h1:=hp2 (bs dj) (idx 0 a.tmps.toList) X a w hfr1 hst1
       refine wpOp_then (wpOp_mono (fun a' w' h'=>?_) (wpOp_of_list ho h1))
       obtain ⟨b',d',hd',hfr',hst'⟩:=h'
       rw [hdd] at hd'
       injection hd' with hd'
       subst hd'
       rw [← hi2,hseti]
       refine ⟨b',d,hdd,⟨hfr'.size,hfr'.defers,fun s u hs=>?_⟩,hst'.perm (List.Perm.cons _ (List.perm_middle.symm.trans (List.Perm.append_left _ hX.symm)))⟩
       unfold look at hs
       cases hb:Nat.beq d s with
       | true=>rw [hb] at hs;exact hfr'.at_ s u (by unfold look;rw [hb];exact hs)
       | false=>
        rw [hb] at hs
        refine hfr'.at_ s u (by
         unfold look
         rw [hb]
         simp only
         unfold look
         cases hb2:Nat.beq dj s with
         | false=>exact hs
         | true=>
          have:dj=s:=Nat.eq_of_beq_eq_true hb2
          subst this
          have h9:=hsnap.at_ _ u hs
          rw [hptr] at h9
          simpa [PK.out] using h9)
      ·have hP:=hP0 hi2 (fun v e=>by rw [hkk] at e;cases e)
       rw [hkk] at hP
       rw [hbq hi2]
       exact wpOp_then (wpOp_of_list ho (hP (idx 0 a.tmps.toList) (laidH (fun i=>listed.getD i false) l ks 0 bs) a w hsnap M.st))
     refine wpOp_mono (fun a' w' h'=>?_) hop
     obtain ⟨b,d2,hd2,hfr',hst'⟩:=h'
     rw [hdd] at hd2
     injection hd2 with hd2
     subst hd2
     refine ih _ a' w' (fun s=>if s=d then b else bs s) ⟨by simp [M.size],hbelow',hdown',hfr'.size,hfr'.defers,fun s u hs=>?_,fun m o' d' k hm' ho' hd' hk'=>?_,?_⟩ hcnt
     ·exact slot_kept hDep M.fG hfr' (fun e=>by subst e;rw [hGd] at hs;cases hs) (M.fG s u hs)
     ·rw [getD_set (by rw [M.size];omega)] at hm'
      by_cases hmi:i=m
      ·subst hmi
       rw [ho] at ho';injection ho' with ho';subst ho'
       rw [hdd] at hd';injection hd' with hd';subst hd'
       rw [List.getElem?_eq_getElem hki,hkk] at hk';injection hk' with hk';subst hk'
       rw [if_pos rfl]
       exact hfr'.at_ _ _ (by simp [look,Nat.beq_refl,PK.out])
      ·rw [if_neg hmi] at hm'
       have hmn:m < n:=M.lt hm'
       have hne:d'≠d:=fun e=>hmi (huniq m o' d' hmn ho' hd' e.symm)
       rw [if_neg hne]
       exact slot_kept hDep M.fG hfr' hne (M.fV m o' d' k hm' ho' hd' hk')
     ·have hp:=laidH_add (L:=fun i=>listed.getD i false) (L':=fun j=>(listed.setIfInBounds i true).getD j false) (bs:=bs) (bs':=fun s=>if s=d then b else bs s) (p:=i) (os:=l) (r:=ks) (i:=0) (Nat.zero_le _)
       (fun j hj=>by show listed.getD j false=(listed.setIfInBounds i true).getD j false;rw [getD_set (by rw [M.size];omega),if_neg (Ne.symm hj)]) hlf (by show (listed.setIfInBounds i true).getD i false=true;rw [getD_set (by rw [M.size];omega),if_pos rfl])
       (fun j o' d' h1 h2 h3 h4=>by
        simp only [Nat.zero_add] at h4
        have hne:d'≠d:=fun e=>by
         have:=huniq j o' d' (by omega) h1 h2 e.symm
         subst this
         rw [hlf] at h4;cases h4
        simp [hne]) (hcells hnp) (o:=o) (d:=d) (c:=c) (t:=t) (by simpa using ho) hdd (by rw [Nat.sub_zero,List.getElem?_eq_getElem hki,hkk]) (by
        show (if (listed.setIfInBounds i true).getD q0 false=true then c2 else c)=c
        have hki':ks[i]?=some (.new c t q0 c2):=by rw [List.getElem?_eq_getElem hki,hkk]
        rcases hput.new i c t q0 c2 hki' with h | h
        ·rw [h];split <;> rfl
        ·cases hq:ks[q0]? with
         | none=>rw [hq] at h;cases h
         | some kq=>
          rw [hq] at h
          cases kq with
          | put dj c' t' c2'=>
           obtain ⟨j,oj,op,e,hkj,hoj,hdj,hop,he,hbe,hej2⟩:=hput.put q0 dj c' t' c2' hq
           have hqi:q0≠i:=fun e2=>by subst e2;rw [hki'] at hq;cases hq
           by_cases hji:j=i
           ·rw [hget q0 hqi]
            cases hlq:listed.getD q0 false with
            | false=>rfl
            | true=>
             have:=M.down q0 op hlq hop e he hbe
             rw [hej2,hji,hlf] at this;cases this
           ·have:=hput.uniq j i q0 c' t' c2' c t c2 hkj hki' hji
            rw [this];split <;> rfl
          | val v=>cases h
          | new _ _ _ _=>cases h)
      simp only [if_true] at hp
      refine hst'.perm ?_
      exact List.perm_middle.symm.trans (List.Perm.append_left _ hp)
 have hrep:∀ j,(Array.replicate l.toArray.size false).getD j false=false:=fun j=>by
  simp only [Array.getD_eq_getD_getElem?,Array.getElem?_replicate]
  split <;> rfl
 refine key l.toArray.size _ a w.drew (fun _=>0) ⟨by simp,fun i _=>hrep i,fun i o h=>(by rw [hrep i] at h;cases h),hfr.size,hfr.defers,hfr.at_,fun i o d k h=>(by rw [hrep i] at h;cases h),?_⟩ ?_
 ·have:laidH (fun i=>(Array.replicate l.toArray.size false).getD i false) l ks 0 (fun _=>0)=[]:=laidH_none hrep
  rw [this,List.append_nil,hrep q]
  exact hst.drew
 ·simpa using cnt_le (fun i=>(Array.replicate l.toArray.size false).getD i false) l.length
end
end Go.Proofs.YtbcdgcodnkgdoaaGreat
