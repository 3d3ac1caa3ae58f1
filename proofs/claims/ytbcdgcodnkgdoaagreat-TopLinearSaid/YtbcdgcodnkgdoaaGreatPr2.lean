/- Parts of the proof: The calculus, fifth part: a statement whose order of evaluation Go leaves open. Its first operations in whatever order (each hands back one value whatever the order, or lays one block); the others in the one order that is forced. · The calculus, seventh part: statements whose order is open, value by value; slices of one's own that read as data; copies; shifts. · The calculus, eighth part: chunks taken together, elements put in, slices of one's own laid open. · The calculus, ninth part: chunks taken out by their places. · The calculus, eleventh part: maps of one's own. · The calculus, sixteenth part: append that outgrows its room; slices of known blocks as data. · The calculus, eighteenth part: deep data of one's own. · The calculus, nineteenth part: stores into and loads from slices of one's own; deep data opened. · A theory as data; reading of data. · theory.rising, has; slices.Index, Contains, BinarySearch over numbers. · slices.Index, Contains, BinarySearch over numbers; theory.has. · The calculus (printed by gen_e4.py): open orders, an operation that sees what another has laid and turns what is given. · slices.BinarySearch over numbers; theory.has. Conditions: none. -/
import Derived.MapKept
import Derived.Test.YtbcdgcodnkgdoaaGreatPr1
/- The calculus, fifth part: a statement whose order of evaluation Go leaves open. Its first operations in whatever order (each hands back one value whatever the order, or lays one block); the others in the one order that is forced. Conditions: none; everything holds over any program. -/
set_option linter.unusedVariables false
set_option linter.unusedSimpArgs false
namespace Go.Proofs.YtbcdgcodnkgdoaaGreat
open Go Go.RowKit
section
inductive PK where
 | val (v:Value)
 | new (c:Nat→HP) (t:Nat→Value) (p:Nat) (c2:Nat→HP)
 | put (dj:Nat) (c:Nat→HP) (t:Nat→Value) (c2:Nat→HP)
def PK.out:PK→Nat→Value
 | .val v,_=>v
 | .new _ t _ _,b=>t b
 | .put _ _ _ _,_=>undef
def j5 (l:List Oper):Bool:=(List.range l.length).all fun i=>match l[i]? with
 | some o=>o.after.toList.all fun e=>decide (e.on < i) || !Region.binds .any e
 | none=>true
def bm (acc:List Nat) (o:Oper):Nat:=o.after.toList.foldl (fun s e=>if Region.binds .any e then s ||| 2 ^ e.on ||| acc.getD e.on 0 else s) 0
def bms:List Oper→List Nat→List Nat
 | [],acc=>acc
 | o::r,acc=>bms r (acc++[bm acc o])
def dL (l:List Oper) (n:Nat):Bool:=(bms l []).zipIdx.all fun p=>decide (p.2 < n) || (List.range p.2).all fun j=>p.1.testBit j
def bP:Option PK→Bool
 | some (.put _ _ _ _)=>true
 | _=>false
def sq (l:List Oper) (ks:List PK) (n:Nat) (G:List (Nat × Value)):Bool:=(List.range n).all fun i=>match l[i]? with
 | some o=>match o.dst with
  | some d=>(look G d).isNone&&(List.range n).all fun j=>decide (i=j) || (match l[j]? with
   | some o'=>match o'.dst with
    | some d'=>!(Nat.beq d d')
    | none=>true
   | none=>true)
  | none=>bP ks[i]?
 | none=>false
def ij (l:List Oper) (ks:List PK) (o:Oper):List (Nat × Value):=o.after.toList.filterMap fun e=>
 if Region.binds .any e then match l[e.on]?,ks[e.on]? with
  | some o',some (.val v)=>o'.dst.map fun d=>(d,v)
  | _,_=>none
 else none
def ul (P:Program) (E:Env) (ops:Array Oper) (Q:Pst) (Gd G:List (Nat × Value)) (H:List HP) (o:Oper):PK→Prop
 | .val v=>∀ (Gx:List (Nat × Value)) (X:List HP),RW P E ops (Pst.then (fun a w=>∃ d,o.dst=some d∧Fr E.N E.ds a ((d,v)::(Gd++G++Gx))∧St E.w0 E.S (H++X) w) Q) [o] (Gd++G++Gx) (H++X)
 | .put dj c t c2=>∀ (b:Nat) (Gx:List (Nat × Value)) (X:List HP),RW P E ops (Pst.then (fun a w=>Fr E.N E.ds a ((dj,t b)::(Gd++G++Gx))∧St E.w0 E.S (c2 b::(H++X)) w) Q) [o] ((dj,t b)::(Gd++G++Gx)) (c b::(H++X))
 | .new c t _ _=>∀ (Gx:List (Nat × Value)) (X:List HP),RW P E ops (Pst.then (fun a w=>∃ b d,o.dst=some d∧Fr E.N E.ds a ((d,t b)::(Gd++G++Gx))∧St E.w0 E.S (c b::(H++X)) w) Q) [o] (Gd++G++Gx) (H++X)
def vE (P:Program) (E:Env) (ops:Array Oper) (Q:Pst) (l:List Oper) (ks:List PK) (G:List (Nat × Value)) (H:List HP):List Oper→List PK→Prop
 | o::os,k::r=>ul P E ops Q (ij l ks o) G H o k∧vE P E ops Q l ks G H os r
 | _,_=>True
theorem vE.at_ {P:Program} {E:Env} {ops:Array Oper} {Q:Pst} {l:List Oper} {ks:List PK} {G:List (Nat × Value)} {H:List HP}:∀ {os:List Oper} {r:List PK},vE P E ops Q l ks G H os r→∀ (i:Nat) (o:Oper) (k:PK),os[i]?=some o→r[i]?=some k→ul P E ops Q (ij l ks o) G H o k:=by
 intro os;induction os with
 | nil=>intro r _ i o k h;simp at h
 | cons o os ih=>
  intro r h i o' k ho hk;cases r with
  | nil=>simp at hk
  | cons k' r=>
   obtain ⟨h1,h2⟩:=h;cases i with
   | zero=>simp at ho hk;subst ho;subst hk;exact h1
   | succ i=>exact ih h2 i o' k (by simpa using ho) (by simpa using hk)
def oR:List Oper→List PK→(Nat→Nat)→List (Nat × Value)
 | o::os,k::r,bs=>match o.dst with
  | some d=>(d,k.out (bs d))::oR os r bs
  | none=>oR os r bs
 | _,_,_=>[]
def rV:List Oper→List PK→(Nat→Nat)→List HP
 | o::os,.new c t p c2::r,bs=>match o.dst with
  | some d=>c2 (bs d)::rV os r bs
  | none=>rV os r bs
 | _::os,.val _::r,bs=>rV os r bs
 | _::os,.put _ _ _ _::r,bs=>rV os r bs
 | _,_,_=>[]
section
variable {P:Program} {E:Env} {ops:Array Oper} {Q:Pst} {K:Act→World→Prop} {rest:List Oper} {G:List (Nat × Value)} {H:List HP}
theorem cD {o:Oper} {d:Nat} {v:Value} {G':List (Nat × Value)} {H':List HP} (hd:o.dst=some d):RW P E ops (Pst.then (fun a w=>∃ d,o.dst=some d∧Fr E.N E.ds a ((d,v)::G')∧St E.w0 E.S H' w) Q) [] ((d,v)::G') H':=
 fun a w hf hw=>⟨d,hd,hf,hw⟩
end
theorem sP {P:Program} {E:Env} {ops:Array Oper} {Q:Pst} {G':List (Nat × Value)} {H':List HP}:RW P E ops (Pst.then (fun a w=>Fr E.N E.ds a G'∧St E.w0 E.S H' w) Q) [] G' H':=
 fun a w hf hw=>⟨hf,hw⟩
/-! ### the theorem -/
section
variable {P:Program} {E:Env} {Q:Pst} {G:List (Nat × Value)} {H:List HP} {l:List Oper} {n:Nat} {ks:List PK}
def bS (L:Nat→Bool):List Oper→List PK→Nat→(Nat→Nat)→List HP
 | o::os,.new c t p c2::r,i,bs=>match o.dst with
  | some d=>if L i then (if L p then c2 else c) (bs d)::bS L os r (i + 1) bs else bS L os r (i + 1) bs
  | none=>bS L os r (i + 1) bs
 | _::os,.val _::r,i,bs=>bS L os r (i + 1) bs
 | _::os,.put _ _ _ _::r,i,bs=>bS L os r (i + 1) bs
 | _,_,_,_=>[]
theorem qw {L:Nat→Bool} {bs:Nat→Nat}:∀ {os:List Oper} {r:List PK} {i:Nat},(∀ j,i≤j→j < i + r.length→L j=true)→(∀ c t p c2,PK.new c t p c2∈r→(if L p then c2 else c)=c2)→bS L os r i bs=rV os r bs:=by
 intro os;induction os with
 | nil=>intro r i _ _;cases r <;> rfl
 | cons o os ih=>
  intro r i h hF;cases r with
  | nil=>rfl
  | cons k r=>
   have ih':=ih (r:=r) (i:=i + 1) (fun j h1 h2=>h j (by omega) (by simp;omega)) (fun c t p c2 hm=>hF c t p c2 (by simp [hm]));cases k with
   | val v=>exact ih'
   | put dj c t c2=>exact ih'
   | new c t p c2=>
    unfold bS rV;cases o.dst with
    | none=>exact ih'
    | some d=>simp only [h i (Nat.le_refl _) (by simp),if_true,ih',hF c t p c2 (by simp)]
theorem r7 {L L':Nat→Bool} {bs bs':Nat→Nat}:∀ {os:List Oper} {r:List PK} {i:Nat},(∀ j,i≤j→j < i + r.length→L j=L' j)→(∀ (j:Nat) (o:Oper) (d:Nat),os[j]?=some o→o.dst=some d→j < r.length→L (i + j)=true→bs d=bs' d)→(∀ c t p c2,PK.new c t p c2∈r→(if L p then c2 else c)=(if L' p then c2 else c))→bS L os r i bs=bS L' os r i bs':=by
 intro os;induction os with
 | nil=>intro r i _ _ _;cases r <;> rfl
 | cons o os ih=>
  intro r i h hb hF;cases r with
  | nil=>rfl
  | cons k r=>
   have ih':=ih (r:=r) (i:=i + 1) (fun j h1 h2=>h j (by omega) (by simp;omega)) (fun j o d h1 h2 h3 h4=>hb (j + 1) o d (by simpa using h1) h2 (by simpa using h3) (by rwa [show i + (j + 1)=i + 1 + j from by omega])) (fun c t p c2 hm=>hF c t p c2 (by simp [hm]));cases k with
   | val v=>exact ih'
   | put dj c t c2=>exact ih'
   | new c t p c2=>
    unfold bS;cases hd:o.dst with
    | none=>exact ih'
    | some d=>
     simp only;rw [← h i (Nat.le_refl _) (by simp),ih'];cases hL:L i with
     | false=>rfl
     | true=>simp only [if_true];rw [hb 0 o d rfl hd (by simp) (by simpa using hL),hF c t p c2 (by simp)]
theorem qx {L L':Nat→Bool} {bs bs':Nat→Nat} {p:Nat}:∀ {os:List Oper} {r:List PK} {i:Nat},i≤p→(∀ j,j≠p→L j=L' j)→L p=false→L' p=true→(∀ (j:Nat) (o:Oper) (d:Nat),os[j]?=some o→o.dst=some d→j < r.length→L (i + j)=true→bs d=bs' d)→
 (∀ c t q c2,PK.new c t q c2∈r→(if L q then c2 else c)=(if L' q then c2 else c))→∀ {o:Oper} {d:Nat} {c:Nat→HP} {t:Nat→Value} {q:Nat} {c2:Nat→HP},os[p - i]?=some o→o.dst=some d→r[p - i]?=some (.new c t q c2)→(if L' q then c2 else c)=c→(c (bs' d)::bS L os r i bs).Perm (bS L' os r i bs'):=by
 intro os;induction os with
 | nil=>intro r i _ _ _ _ _ _ o d c t q c2 h;simp at h
 | cons o os ih=>
  intro r i hip hLL hp hp' hb hF o' d c t q c2 ho hd hk hc0;cases r with
  | nil=>simp at hk
  | cons k r=>
   by_cases hi:i=p
   ·subst hi
    simp only [Nat.sub_self,List.getElem?_cons_zero,Option.some.injEq] at ho hk;subst ho;subst hk;have hc:bS L os r (i + 1) bs=bS L' os r (i + 1) bs':=r7 (fun j h1 h2=>hLL j (by omega)) (fun j o d h1 h2 h3 h4=>hb (j + 1) o d (by simpa using h1) h2 (by simpa using h3) (by rwa [show i + (j + 1)=i + 1 + j from by omega])) (fun c t p c2 hm=>hF c t p c2 (by simp [hm]));unfold bS;simp only [hd,hp,hp',if_true,hc,hc0];exact List.Perm.refl _
   ·have hlt:i + 1≤p:=by omega
    have hs:p - i=(p - (i + 1)) + 1:=by omega
    rw [hs] at ho hk;have ih':=ih (r:=r) (i:=i + 1) hlt hLL hp hp' (fun j o d h1 h2 h3 h4=>hb (j + 1) o d (by simpa using h1) h2 (by simpa using h3) (by rwa [show i + (j + 1)=i + 1 + j from by omega])) (fun c t p c2 hm=>hF c t p c2 (by simp [hm])) (by simpa using ho) hd (by simpa using hk) hc0;cases k with
    | val v=>exact ih'
    | put dj c t c2=>exact ih'
    | new c3 t3 q3 c4=>
     unfold bS;cases hd2:o.dst with
     | none=>exact ih'
     | some d2=>
      simp only;rw [← hLL i hi];cases hL:L i with
      | false=>exact ih'
      | true=>
       simp only [if_true];rw [← hb 0 o d2 rfl hd2 (by simp) (by simpa using hL),← hF c3 t3 q3 c4 (by simp)];exact (List.Perm.swap _ _ _).trans (List.Perm.cons _ ih')
theorem qu {L L':Nat→Bool} {bs:Nat→Nat} {p:Nat}:∀ {os:List Oper} {r:List PK} {i:Nat} {v:Value},(∀ j,j≠p→L j=L' j)→(i≤p→r[p - i]?=some (.val v))→(∀ c t q c2,PK.new c t q c2∈r→(if L q then c2 else c)=(if L' q then c2 else c))→bS L os r i bs=bS L' os r i bs:=by
 intro os;induction os with
 | nil=>intro r i v _ _ _;cases r <;> rfl
 | cons o os ih=>
  intro r i v h hk hF;cases r with
  | nil=>rfl
  | cons k r=>
   have ih':=ih (r:=r) (i:=i + 1) (v:=v) h (fun hip=>by
    have:=hk (by omega);rw [show p - i=(p - (i + 1)) + 1 from by omega] at this
    simpa using this) (fun c t p c2 hm=>hF c t p c2 (by simp [hm]))
   cases k with
   | val v=>exact ih'
   | put dj c t c2=>exact ih'
   | new c t q c2=>
    have hip:i≠p:=fun e=>by subst e;have:=hk (Nat.le_refl _);simp at this
    unfold bS;cases o.dst with
    | none=>exact ih'
    | some d=>simp only;rw [h i hip,ih',hF c t q c2 (by simp)]
theorem qv {L L':Nat→Bool} {bs:Nat→Nat} {p j:Nat} (hLL:∀ m,m≠p→L m=L' m) (hp:L p=false) (hp':L' p=true) (hj:L j=true):∀ {os:List Oper} {r:List PK} {i:Nat},i≤j→(∀ m c t q c2,i≤m→m≠j→r[m - i]?=some (.new c t q c2)→(if L q then c2 else c)=(if L' q then c2 else c))→(i≤p→bP r[p - i]?=true)→
 ∀ {o:Oper} {d:Nat} {c:Nat→HP} {t:Nat→Value} {c2:Nat→HP},os[j - i]?=some o→o.dst=some d→r[j - i]?=some (.new c t p c2)→∃ X,(bS L os r i bs).Perm (c (bs d)::X)∧(bS L' os r i bs).Perm (c2 (bs d)::X):=by
 have hjp:j≠p:=fun e=>by rw [e,hp] at hj;cases hj
 intro os;induction os with
 | nil=>intro r i _ _ _ o d c t c2 h;simp at h
 | cons o os ih=>
  intro r i hij hF hP o' d c t c2 ho hd hk;cases r with
  | nil=>simp at hk
  | cons k r=>
   have hF':∀ m c t q c2,i + 1≤m→m≠j→r[m - (i + 1)]?=some (.new c t q c2)→(if L q then c2 else c)=(if L' q then c2 else c):=fun m c t q c2 h1 h2 h3=>hF m c t q c2 (by omega) h2 (by rw [show m - i=(m - (i + 1)) + 1 from by omega];simpa using h3)
   have hP':i + 1≤p→bP r[p - (i + 1)]?=true:=fun h1=>by
    have:=hP (by omega);rw [show p - i=(p - (i + 1)) + 1 from by omega] at this
    simpa using this
   by_cases hi:i=j
   ·subst hi
    simp only [Nat.sub_self,List.getElem?_cons_zero,Option.some.injEq] at ho hk;subst ho;subst hk
    have hc:bS L os r (i + 1) bs=bS L' os r (i + 1) bs:=by
     have key:∀ (os:List Oper) (r:List PK) (i0:Nat),(∀ m c t q c2,i0≤m→r[m - i0]?=some (.new c t q c2)→(if L q then c2 else c)=(if L' q then c2 else c))→(i0≤p→bP r[p - i0]?=true)→bS L os r i0 bs=bS L' os r i0 bs:=by
      intro os;induction os with
      | nil=>intro r i0 _ _;cases r <;> rfl
      | cons o os ih2=>
       intro r i0 h1 h2;cases r with
       | nil=>rfl
       | cons k r=>
        have ih2':=ih2 r (i0 + 1) (fun m c t q c2 h3 h4=>h1 m c t q c2 (by omega) (by rw [show m - i0=(m - (i0 + 1)) + 1 from by omega];simpa using h4)) (fun h3=>by
         have:=h2 (by omega);rw [show p - i0=(p - (i0 + 1)) + 1 from by omega] at this
         simpa using this)
        cases k with
        | val v=>exact ih2'
        | put dj c t c2=>exact ih2'
        | new c t q c2=>
         have hip:i0≠p:=fun e=>by
          subst e;have:=h2 (Nat.le_refl _);simp [bP] at this
         unfold bS;cases o.dst with
         | none=>exact ih2'
         | some d=>simp only;rw [hLL i0 hip,ih2',h1 i0 c t q c2 (Nat.le_refl _) (by simp)]
     exact key os r (i + 1) (fun m c t q c2 h1 h2=>hF' m c t q c2 h1 (by omega) h2) hP'
    have hj':L' i=true:=(hLL i hjp) ▸ hj
    have e1:bS L (o::os) (.new c t p c2::r) i bs=c (bs d)::bS L os r (i + 1) bs:=by
     rw [bS];simp only [hd,hj,hp,if_true,Bool.false_eq_true,if_false]
    have e2:bS L' (o::os) (.new c t p c2::r) i bs=c2 (bs d)::bS L os r (i + 1) bs:=by
     rw [bS];simp only [hd,hj',hp',if_true,← hc]
    exact ⟨bS L os r (i + 1) bs,e1 ▸ List.Perm.refl _,e2 ▸ List.Perm.refl _⟩
   ·have hs:j - i=(j - (i + 1)) + 1:=by omega
    rw [hs] at ho hk;obtain ⟨X,hX,hX'⟩:=ih (r:=r) (i:=i + 1) (by omega) hF' hP' (by simpa using ho) hd (by simpa using hk);cases k with
    | val v=>exact ⟨X,hX,hX'⟩
    | put dj c t c2=>exact ⟨X,hX,hX'⟩
    | new c3 t3 q3 c4=>
     have hip:i≠p:=fun e=>by
      subst e;have:=hP (Nat.le_refl _);simp [bP] at this
     unfold bS;cases hd2:o.dst with
     | none=>exact ⟨X,hX,hX'⟩
     | some d2=>
      simp only;rw [← hLL i hip,← hF i c3 t3 q3 c4 (Nat.le_refl _) hi (by simp)];cases hL:L i with
      | false=>exact ⟨X,hX,hX'⟩
      | true=>exact ⟨_,(List.Perm.cons _ hX).trans (List.Perm.swap _ _ _),(List.Perm.cons _ hX').trans (List.Perm.swap _ _ _)⟩
theorem mn {L:Nat→Bool} {bs:Nat→Nat} {j:Nat} (hj:L j=true):∀ {os:List Oper} {r:List PK} {i:Nat},i≤j→∀ {o:Oper} {d:Nat} {c:Nat→HP} {t:Nat→Value} {p:Nat},os[j - i]?=some o→o.dst=some d→r[j - i]?=some (.new c t p c)→∃ X,(bS L os r i bs).Perm (c (bs d)::X):=by
 intro os;induction os with
 | nil=>intro r i _ o d c t p h;simp at h
 | cons o os ih=>
  intro r i hij o' d c t p ho hd hk;cases r with
  | nil=>simp at hk
  | cons k r=>
   by_cases hi:i=j
   ·subst hi
    simp only [Nat.sub_self,List.getElem?_cons_zero,Option.some.injEq] at ho hk;subst ho;subst hk;refine ⟨bS L os r (i + 1) bs,?_⟩;rw [bS];simp only [hd,hj,if_true,ite_self];exact List.Perm.refl _
   ·have hs:j - i=(j - (i + 1)) + 1:=by omega
    rw [hs] at ho hk;obtain ⟨X,hX⟩:=ih (r:=r) (i:=i + 1) (by omega) (by simpa using ho) hd (by simpa using hk);cases k with
    | val v=>exact ⟨X,hX⟩
    | put dj c t c2=>exact ⟨X,hX⟩
    | new c3 t3 q3 c4=>
     unfold bS;cases hd2:o.dst with
     | none=>exact ⟨X,hX⟩
     | some d2=>
      simp only;cases hL:L i with
      | false=>exact ⟨X,hX⟩
      | true=>exact ⟨_,(List.Perm.cons _ hX).trans (List.Perm.swap _ _ _)⟩
theorem oe {L:Nat→Bool} {bs:Nat→Nat}:∀ {os:List Oper} {r:List PK} {i:Nat},(∀ j,L j=false)→bS L os r i bs=[]:=by
 intro os;induction os with
 | nil=>intro r i _;cases r <;> rfl
 | cons o os ih=>
  intro r i h;cases r with
  | nil=>rfl
  | cons k r=>
   cases k with
   | val v=>exact ih h
   | put dj c t c2=>exact ih h
   | new c t p c2=>
    unfold bS;cases o.dst with
    | none=>exact ih h
    | some d=>simp only [h i];exact ih h
structure Mid (P:Program) (E:Env) (l:List Oper) (n:Nat) (ks:List PK) (G:List (Nat × Value)) (Hd:Bool→List HP) (q:Nat) (listed:Array Bool) (a:Act) (w:World) (bs:Nat→Nat):Prop where
 size:listed.size=l.length
 below:∀ i,n≤i→listed.getD i false=false
 down:∀ (i:Nat) (o:Oper),listed.getD i false=true→l[i]?=some o→∀ e∈o.after.toList,Region.binds .any e=true→listed.getD e.on false=true
 fN:a.tmps.size=E.N
 fd:a.defers=E.ds
 fG:∀ i v,look G i=some v→a.tmps[i]?=some v
 fV:∀ (i:Nat) (o:Oper) (d:Nat) (k:PK),listed.getD i false=true→l[i]?=some o→o.dst=some d→ks[i]?=some k→a.tmps[d]?=some (k.out (bs d))
 st:St E.w0 E.S (Hd (listed.getD q false)++bS (fun i=>listed.getD i false) l ks 0 bs) w
theorem qm {bs:Nat→Nat}:∀ {os:List Oper} {r:List PK} {s:Nat} {v:Value},look (oR os r bs) s=some v→∃ (i:Nat) (o:Oper) (k:PK),os[i]?=some o∧r[i]?=some k∧o.dst=some s∧v=k.out (bs s):=by
 intro os;induction os with
 | nil=>intro r s v h;cases r <;> cases h
 | cons o os ih=>
  intro r s v h;cases r with
  | nil=>cases h
  | cons k r=>
   unfold oR at h;cases hd:o.dst with
   | none=>
    rw [hd] at h;obtain ⟨i,o',k',h1,h2,h3,h4⟩:=ih h;exact ⟨i + 1,o',k',by simpa using h1,by simpa using h2,h3,h4⟩
   | some d=>
    rw [hd] at h;simp only [look] at h;cases hb:Nat.beq d s with
    | true=>
     rw [hb] at h;have:d=s:=Nat.eq_of_beq_eq_true hb;subst this;simp only [Option.some.injEq] at h;exact ⟨0,o,k,rfl,rfl,hd,h.symm⟩
    | false=>
     rw [hb] at h;obtain ⟨i,o',k',h1,h2,h3,h4⟩:=ih h;exact ⟨i + 1,o',k',by simpa using h1,by simpa using h2,h3,h4⟩
theorem cu {A B:List (Nat × Value)} {s:Nat} {v:Value} (h:look (A++B) s=some v):look A s=some v∨look B s=some v:=by
 induction A with
 | nil=>exact .inr h
 | cons p A ih=>
  obtain ⟨i,u⟩:=p;simp only [List.cons_append,look] at h ⊢;cases hb:Nat.beq i s with
  | true=>rw [hb] at h;exact .inl h
  | false=>rw [hb] at h;exact ih h
theorem oV {A:List (Nat × Value)} {s:Nat} {v:Value} (h:look A s=some v):(s,v)∈A:=by
 induction A with
 | nil=>cases h
 | cons p A ih=>
  obtain ⟨i,u⟩:=p;simp only [look] at h;cases hb:Nat.beq i s with
  | true=>
   rw [hb] at h;have:i=s:=Nat.eq_of_beq_eq_true hb;subst this;simp only [Option.some.injEq] at h;subst h;exact List.mem_cons_self ..
  | false=>rw [hb] at h;exact List.mem_cons_of_mem _ (ih h)
theorem qn:∀ (l:List Value) (i j:Nat) (v:Value),i≤j→l[j - i]?=some v→look (idx i l) j=some v:=by
 intro l;induction l with
 | nil=>intro i j v _ h;simp at h
 | cons u l ih=>
  intro i j v hij h;simp only [idx,look];cases hb:Nat.beq i j with
  | true=>
   have:i=j:=Nat.eq_of_beq_eq_true hb;subst this
   simpa using h
  | false=>
   have hne:i≠j:=Nat.ne_of_beq_eq_false hb;refine ih (i + 1) j v (by omega) ?_;rw [show j - i=(j - (i + 1)) + 1 from by omega] at h
   simpa using h
theorem dW {A B:List (Nat × Value)} {s:Nat} (h:∀ v,look A s≠some v):look (A++B) s=look B s:=by
 induction A with
 | nil=>rfl
 | cons p A ih=>
  obtain ⟨i,u⟩:=p;simp only [List.cons_append,look] at h ⊢;cases hb:Nat.beq i s with
  | true=>rw [hb] at h;exact absurd rfl (h u)
  | false=>rw [hb] at h;exact ih h
theorem dV {A B:List (Nat × Value)} {s:Nat} {v:Value} (h:look A s=some v):look (A++B) s=some v:=by
 induction A with
 | nil=>cases h
 | cons p A ih=>
  obtain ⟨i,u⟩:=p;simp only [List.cons_append,look] at h ⊢;cases hb:Nat.beq i s with
  | true=>rw [hb] at h;exact h
  | false=>rw [hb] at h;exact ih h
theorem dc {N:Nat} {ds:List Deferred} {a a':Act} {D G:List (Nat × Value)} {d:Nat} {v:Value} (hD:∀ s u,look D s=some u→a.tmps[s]?=some u) (hG:∀ s u,look G s=some u→a.tmps[s]?=some u)
 (h:Fr N ds a' ((d,v)::(D++G++idx 0 a.tmps.toList))) {s:Nat} (hs:s≠d) {u:Value} (hu:a.tmps[s]?=some u):a'.tmps[s]?=some u:=by
 have hsn:look (idx 0 a.tmps.toList) s=some u:=qn _ 0 s u (Nat.zero_le _) (by simpa using hu);refine h.at_ s u ?_;simp only [look]
 have hb:Nat.beq d s=false:=by
  cases hb:Nat.beq d s with
  | true=>exact absurd (Nat.eq_of_beq_eq_true hb) (Ne.symm hs)
  | false=>rfl
 rw [hb];cases hDG:look (D++G) s with
 | some u'=>
  have:a.tmps[s]?=some u':=(cu hDG).elim (hD s u') (hG s u');rw [hu] at this;injection this with this;subst this;exact dV hDG
 | none=>simp only;rw [dW (fun v hv=>by rw [hDG] at hv;cases hv)];exact hsn
def cnt (L:Nat→Bool):Nat→Nat
 | 0=>0
 | m + 1=>cnt L m + cond (L m) 0 1
theorem mJ {L L':Nat→Bool} {p:Nat} (hLL:∀ j,j≠p→L' j=L j) (hp:L p=false) (hp':L' p=true):∀ m,p < m→cnt L' m + 1=cnt L m:=by
 have hsame:∀ m,m≤p→cnt L' m=cnt L m:=by
  intro m;induction m with
  | zero=>intro _;rfl
  | succ m ih=>intro h;simp only [cnt];rw [ih (by omega),hLL m (by omega)]
 intro m;induction m with
 | zero=>intro h;omega
 | succ m ih=>
  intro h;simp only [cnt];by_cases hm:m=p
  ·subst hm;rw [hsame m (Nat.le_refl _),hp,hp'];simp
  ·rw [hLL m hm]
   have:=ih (by omega);omega
theorem sD {L:Nat→Bool} {p:Nat} (hp:L p=false):∀ m,p < m→0 < cnt L m:=by
 intro m;induction m with
 | zero=>intro h;omega
 | succ m ih=>
  intro h;simp only [cnt];by_cases hm:m=p
  ·subst hm;rw [hp];simp
  ·have:=ih (by omega);omega
theorem dg {l:List Oper} {listed:Array Bool} (hs:listed.size=l.length) (i:Nat):i∈Region.ready .any l.toArray listed↔∃ o,l[i]?=some o∧listed.getD i false=false∧∀ e∈o.after.toList,Region.binds .any e=true→listed.getD e.on false=true:=by
 unfold Region.ready;rw [List.mem_filter,List.mem_range];constructor
 ·rintro ⟨hi,hc⟩
  have hi':i < l.length:=by simpa using hi
  refine ⟨l[i],List.getElem?_eq_getElem hi',?_⟩;simp only [Bool.and_eq_true,Bool.not_eq_true'] at hc;have hg:listed.getD i true=listed.getD i false:=by simp [Array.getD_eq_getD_getElem?,Array.getElem?_eq_getElem (show i < listed.size by omega)]
  refine ⟨hg ▸ hc.1,fun e he hb=>?_⟩;have h2:=hc.2;simp only [List.getElem?_toArray,List.getElem?_eq_getElem hi',Option.map_some,Option.getD_some] at h2;rw [← Array.all_toList,List.all_eq_true] at h2;have:=h2 e he
  simpa [hb] using this
 ·rintro ⟨o,ho,hl,he⟩
  have hi':i < l.length:=(List.getElem?_eq_some_iff.1 ho).1;refine ⟨by simpa using hi',?_⟩;have hg:listed.getD i true=listed.getD i false:=by simp [Array.getD_eq_getD_getElem?,Array.getElem?_eq_getElem (show i < listed.size by omega)]
  simp only [List.getElem?_toArray,ho,Option.map_some,Option.getD_some,hg,hl,Bool.not_false,Bool.true_and];rw [← Array.all_toList,List.all_eq_true];intro e hm;cases hb:Region.binds .any e with
  | false=>rfl
  | true=>rw [he e hm hb];simp
theorem a7 {L:Array Bool} {i j:Nat} (hi:i < L.size):(L.setIfInBounds i true).getD j false=if i=j then true else L.getD j false:=by
 simp only [Array.getD_eq_getD_getElem?,Array.getElem?_setIfInBounds];split
 ·rename_i h;subst h;simp [hi]
 ·rfl
theorem bG {P:Program} {l:List Oper} {Q:Exit→Act→World→Prop} {i:Nat} {o:Oper} {rest:List Oper} {a:Act} {w:World} (ho:l[i]?=some o) (h:wpList P l.toArray Q (o::rest) a w):wpOp P l.toArray Q i (wpList P l.toArray Q rest) a w:=by
 unfold wpOp;simp only [List.getElem?_toArray,ho];exact h
theorem db {P:Program} {ops:Array Oper} {Q:Pst} {K1 K:Act→World→Prop} {i:Nat} {a:Act} {w:World} (h:wpOp P ops (Pst.then K1 Q).fn i K a w):wpOp P ops Q.fn i K a w:=by
 exact h
theorem xV (acc:List Nat) (i:Nat):∀ (es:List Edge) (s:Nat),(es.foldl (fun s e=>if Region.binds .any e then s ||| 2 ^ e.on ||| acc.getD e.on 0 else s) s).testBit i=true→
 s.testBit i=true∨∃ e∈es,Region.binds .any e=true∧(e.on=i∨(acc.getD e.on 0).testBit i=true):=by
 intro es;induction es with
 | nil=>intro s h;exact .inl h
 | cons e es ih=>
  intro s h;rw [List.foldl_cons] at h;rcases ih _ h with h | ⟨e',he',hb,hr⟩
  ·split at h
   ·rename_i hb
    rw [Nat.testBit_or,Nat.testBit_or,Bool.or_eq_true,Bool.or_eq_true] at h;rcases h with (h | h) | h
    ·exact .inl h
    ·rw [Nat.testBit_two_pow] at h;exact .inr ⟨e,List.mem_cons_self ..,hb,.inl (by simpa using h)⟩
    ·exact .inr ⟨e,List.mem_cons_self ..,hb,.inr h⟩
   ·exact .inl h
  ·exact .inr ⟨e',List.mem_cons_of_mem _ he',hb,hr⟩
def GH (l:List Oper) (L:Nat→Bool) (acc:List Nat):Prop:=∀ (k:Nat) (m:Nat),acc[k]?=some m→∀ o,l[k]?=some o→(∀ e∈o.after.toList,Region.binds .any e=true→L e.on=true)→∀ i,m.testBit i=true→L i=true
theorem EU {l:List Oper} {L:Nat→Bool} (hdown:∀ (m:Nat) (o:Oper),L m=true→l[m]?=some o→∀ e∈o.after.toList,Region.binds .any e=true→L e.on=true):
 ∀ (r:List Oper) (acc:List Nat),(∃ p,l=p++r∧p.length=acc.length)→GH l L acc→GH l L (bms r acc):=by
 intro r;induction r with
 | nil=>intro acc _ h;exact h
 | cons o r ih=>
  intro acc ⟨p,hl,hp⟩ h;refine ih _ ⟨p++[o],by simp [hl],by simp [hp]⟩ ?_;intro k m hk o' ho' hej i hbit;by_cases hlt:k < acc.length
  ·rw [List.getElem?_append_left hlt] at hk
   exact h k m hk o' ho' hej i hbit
  ·have hke:k=acc.length:=by
    have:=(List.getElem?_eq_some_iff.1 hk).1;simp at this;omega
   subst hke;simp at hk;subst hk;have hoo:o'=o:=by rw [hl,← hp] at ho';simp at ho';exact ho'.symm
   subst hoo;rcases xV acc i _ _ hbit with hz | ⟨e,he,hb,hr⟩
   ·simp at hz
   ·have hLe:=hej e he hb
    rcases hr with hr | hr
    ·rw [← hr];exact hLe
    ·cases hx:acc[e.on]? with
     | none=>rw [List.getD_eq_getElem?_getD,hx] at hr;simp at hr
     | some m2=>
      rw [List.getD_eq_getElem?_getD,hx] at hr;have hin:e.on < l.length:=by have:=(List.getElem?_eq_some_iff.1 hx).1;rw [hl];simp;omega
      exact h e.on m2 hx l[e.on] (List.getElem?_eq_getElem hin) (hdown e.on _ hLe (List.getElem?_eq_getElem hin)) i hr
theorem vu:∀ (r:List Oper) (acc:List Nat),(bms r acc).length=acc.length + r.length:=by
 intro r;induction r with
 | nil=>intro acc;rfl
 | cons o r ih=>intro acc;rw [bms,ih];simp;omega
theorem fg {l:List Oper} {n i j:Nat} {o:Oper} {L:Nat→Bool} (hb:j5 l=true) (hf:dL l n=true) (hni:n≤j) (ho:l[j]?=some o) (hij:i < j)
 (hdown:∀ (m:Nat) (o:Oper),L m=true→l[m]?=some o→∀ e∈o.after.toList,Region.binds .any e=true→L e.on=true) (hej:∀ e∈o.after.toList,Region.binds .any e=true→L e.on=true):L i=true:=by
 have hjl:j < l.length:=(List.getElem?_eq_some_iff.1 ho).1;have hjb:j < (bms l []).length:=by rw [vu];simpa using hjl
 have hmem:=List.getElem?_eq_getElem hjb
 have hz:((bms l [])[j],j)∈(bms l []).zipIdx:=by
  rw [List.mem_zipIdx_iff_getElem?];exact hmem
 have h1:=(List.all_eq_true.1 hf) _ hz;simp only [Bool.or_eq_true,decide_eq_true_eq] at h1;rcases h1 with h1 | h1
 ·omega
 ·have h2:=(List.all_eq_true.1 h1) i (List.mem_range.2 hij)
  exact EU hdown l [] ⟨[],rfl,rfl⟩ (fun k m hk=>by simp at hk) j _ hmem o ho hej i h2
theorem iJ {P:Program} {l:List Oper} {Q:Exit→Act→World→Prop} {n:Nat} (hb:j5 l=true) (hf:dL l n=true):∀ (k i:Nat),i + k=l.length→n≤i→∀ (fuel:Nat) (listed:Array Bool) (a:Act) (w:World),k≤fuel→listed.size=l.length→(∀ j,j < l.length→(listed.getD j false=true↔j < i))→
 wpList P l.toArray Q (l.drop i) a w→wpAny P .any l.toArray Q fuel listed a w:=by
 have hback:∀ (i:Nat) (o:Oper),l[i]?=some o→∀ e∈o.after.toList,Region.binds .any e=true→e.on < i:=by
  intro i o ho e he hbe;have hi:i < l.length:=(List.getElem?_eq_some_iff.1 ho).1;have:=(List.all_eq_true.1 hb) i (List.mem_range.2 hi);rw [ho] at this;have h9:=(List.all_eq_true.1 this) e he
  simpa [hbe] using h9
 intro k;induction k with
 | zero=>
  intro i hik hni fuel listed a w hfu hs hl h
  have hnil:Region.ready .any l.toArray listed=[]:=by
   rw [List.eq_nil_iff_forall_not_mem];intro j hj;obtain ⟨o,ho,hlj,_⟩:=(dg hs j).1 hj;have hjl:j < l.length:=(List.getElem?_eq_some_iff.1 ho).1;have:=(hl j hjl).2 (by omega);rw [hlj] at this;cases this
  have hd:l.drop i=[]:=List.drop_of_length_le (by omega);rw [hd] at h;cases fuel with
  | zero=>exact ⟨hnil,h⟩
  | succ fuel=>exact ⟨fun _=>h,fun j hj=>by rw [hnil] at hj;cases hj⟩
 | succ k ih=>
  intro i hik hni fuel listed a w hfu hs hl h;obtain ⟨fuel,rfl⟩:∃ m,fuel=m + 1:=⟨fuel - 1,by omega⟩;have hil:i < l.length:=by omega
  have hir:i∈Region.ready .any l.toArray listed:=by
   refine (dg hs i).2 ⟨l[i],List.getElem?_eq_getElem hil,?_,fun e he hbe=>?_⟩
   ·cases hx:listed.getD i false with
    | false=>rfl
    | true=>exact absurd ((hl i hil).1 hx) (by omega)
   ·have hlt:=hback i l[i] (List.getElem?_eq_getElem hil) e he hbe
    exact (hl e.on (by omega)).2 hlt
  refine ⟨(fun hn=>by rw [hn] at hir;cases hir),fun j hj=>?_⟩;obtain ⟨o,ho,hlj,hej⟩:=(dg hs j).1 hj;have hjl:j < l.length:=(List.getElem?_eq_some_iff.1 ho).1
  have hji:j=i:=by
   rcases Nat.lt_trichotomy j i with h1 | h1 | h1
   ·have:=(hl j hjl).2 h1;rw [hlj] at this;cases this
   ·exact h1
   ·exact absurd ((hl i hil).1 (fg hb hf (by omega) ho h1 (fun m o' hm ho' e he hbe=>(hl e.on (by have:=hback m o' ho' e he hbe;have:=(List.getElem?_eq_some_iff.1 ho').1;omega)).2 (by have:=hback m o' ho' e he hbe;have:=(hl m (List.getElem?_eq_some_iff.1 ho').1).1 hm;omega)) hej)) (by omega)
  subst hji;rw [List.drop_eq_getElem_cons hil] at h;have ho':l[j]=o:=by rw [List.getElem?_eq_getElem hil] at ho;injection ho
  rw [ho'] at h;refine wpOp_mono (fun a' w' h'=>ih (j + 1) (by omega) (by omega) fuel _ a' w' (by omega) (by simp [hs]) (fun m hm=>?_) h') (bG ho h);rw [a7 (by omega)];split
  ·rename_i e;subst e;simp
  ·rename_i e;rw [hl m hm];omega
theorem yk (L:Nat→Bool):∀ m,cnt L m≤m:=by
 intro m;induction m with
 | zero=>exact Nat.le_refl _
 | succ m ih=>simp only [cnt];cases L m <;> simp <;> omega
theorem pb {L:Nat→Bool} {n:Nat} (h:∀ i,i < n→L i=true) (hb:∀ i,n≤i→L i=false):∀ m,n≤m→cnt L m=m - n:=by
 have hz:∀ q,q≤n→cnt L q=0:=by
  intro q;induction q with
  | zero=>intro _;rfl
  | succ q ihq=>intro hq;simp only [cnt];rw [ihq (by omega),h q (by omega)];rfl
 intro m;induction m with
 | zero=>intro hn;rw [hz 0 (by omega)];omega
 | succ m ihm=>
  intro hn;by_cases hm':n≤m
  ·simp only [cnt];rw [ihm hm',hb m hm'];simp;omega
  ·rw [hz (m + 1) (by omega)];omega
theorem Mid.lt {l:List Oper} {n:Nat} {ks:List PK} {G:List (Nat × Value)} {E:Env} {P:Program} {Hd:Bool→List HP} {q:Nat} {listed:Array Bool} {a:Act} {w:World} {bs:Nat→Nat} (M:Mid P E l n ks G Hd q listed a w bs) {m:Nat} (h:listed.getD m false=true):m < n:=by
 rcases Nat.lt_or_ge m n with h1 | h1
 ·exact h1
 ·rw [M.below m h1] at h;cases h
theorem qO {l:List Oper} {n:Nat} {ks:List PK} {G:List (Nat × Value)} {E:Env} {P:Program} {Hd:Bool→List HP} {q:Nat} {listed:Array Bool} {a:Act} {w:World} {bs:Nat→Nat} (M:Mid P E l n ks G Hd q listed a w bs) {o:Oper}
 (hej:∀ e∈o.after.toList,Region.binds .any e=true→listed.getD e.on false=true):∀ s u,look (ij l ks o) s=some u→a.tmps[s]?=some u:=by
 intro s u hs;have hm:=oV hs;unfold ij at hm;rw [List.mem_filterMap] at hm;obtain ⟨e,he,hv⟩:=hm;split at hv
 ·rename_i hb
  have hl:=hej e he hb;cases ho':l[e.on]? with
  | none=>rw [ho'] at hv;cases hv
  | some o'=>
   rw [ho'] at hv;cases hk:ks[e.on]? with
   | none=>rw [hk] at hv;cases hv
   | some k=>
    rw [hk] at hv;cases k with
    | new c t p c2=>cases hv
    | put dj c t c2=>cases hv
    | val v=>
     simp only [Option.map_eq_some_iff] at hv;obtain ⟨d,hd,hdv⟩:=hv;injection hdv with h1 h2;subst h1;subst h2;exact M.fV e.on o' d (.val v) hl ho' hd hk
 ·cases hv
structure rn (l:List Oper) (ks:List PK):Prop where
 put:∀ p dj c t c2,ks[p]?=some (.put dj c t c2)→∃ (j:Nat) (oj op:Oper) (e:Edge),ks[j]?=some (.new c t p c2)∧l[j]?=some oj∧oj.dst=some dj∧l[p]?=some op∧e∈op.after.toList∧Region.binds .any e=true∧e.on=j
 uniq:∀ (j j' p:Nat) c t c2 c' t' c2',ks[j]?=some (.new c t p c2)→ks[j']?=some (.new c' t' p c2')→j≠j'→c'=c2'
 new:∀ (j:Nat) c t p c2,ks[j]?=some (.new c t p c2)→c=c2∨bP ks[p]?=true
theorem rn.plain {l:List Oper} {ks:List PK} (h1:∀ dj c t c2,PK.put dj c t c2∉ks) (h2:∀ c t p c2,PK.new c t p c2∈ks→c=c2):rn l ks:=
 ⟨fun p dj c t c2 h=>absurd (List.mem_of_getElem? h) (h1 dj c t c2),fun j j' p c t c2 c' t' c2' _ h _=>h2 c' t' p c2' (List.mem_of_getElem? h),fun j c t p c2 h=>.inl (h2 c t p c2 (List.mem_of_getElem? h))⟩
def WA (P:Program) (E:Env) (l:List Oper) (Q:Pst) (G:List (Nat × Value)) (H:List HP):Prop:=∀ (a:Act) (w:World),Fr E.N E.ds a G→St E.w0 E.S H w→wpAny P .any l.toArray Q.fn l.toArray.size (Array.replicate l.toArray.size false) a w.drew
theorem y9 {id:Nat} (hm:P.follows .mixedOrders=true) (h:WA P E l Q G H):CW P E (.region id l.toArray true) Q G H:=fun a w hf hw=>wp_region_any hm (h a w hf hw)
theorem Do (q q2 j2:Nat) (Hd:Bool→List HP) (n:Nat) (ks:List PK) (hk:ks.length=n) (hn:Nat.ble n l.length=true) (hb:j5 l=true) (hf:dL l n=true) (hd:sq l ks n G=true) (iZ:rn l ks) (hpd:∀ (i:Nat) (o:Oper) (d:Nat),i < n→l[i]?=some o→o.dst=some d→bP ks[i]?=true→False)
 (hq:∀ k,ks[q]?=some k→∃ v,k=.val v) (prems:∀ (i:Nat) (o:Oper) (k:PK),i≠q→i≠q2→l[i]?=some o→ks[i]?=some k→∀ b,ul P E l.toArray Q (ij l ks o) G (Hd b) o k)
 (premq:∀ (o:Oper) (v:Value),l[q]?=some o→ks[q]?=some (.val v)→∀ (Gx:List (Nat × Value)) (X:List HP),RW P E l.toArray (Pst.then (fun a w=>∃ d,o.dst=some d∧Fr E.N E.ds a ((d,v)::(ij l ks o++G++Gx))∧St E.w0 E.S (Hd true++X) w) Q) [o] (ij l ks o++G++Gx) (Hd false++X))
 (hq2:∀ o,q2 < n→l[q2]?=some o→∃ (e:Edge) (oj:Oper) (dj:Nat) (c:Nat→HP) (t:Nat→Value) (p:Nat) (c2 cj:Nat→HP) (tj:Nat→Value) (pj:Nat),e∈o.after.toList∧Region.binds .any e=true∧e.on=j2∧l[j2]?=some oj∧oj.dst=some dj∧ks[q2]?=some (.new c t p c2)∧ks[j2]?=some (.new cj tj pj cj) ∧
  ∀ (b0:Bool) (b:Nat) (Gx:List (Nat × Value)) (X:List HP),RW P E l.toArray (Pst.then (fun a w=>∃ b' d,o.dst=some d∧Fr E.N E.ds a ((d,t b')::(dj,tj b)::(ij l ks o++G++Gx))∧St E.w0 E.S (c b'::cj b::(Hd b0++X)) w) Q) [o] ((dj,tj b)::(ij l ks o++G++Gx)) (cj b::(Hd b0++X)))
 (tail:∀ bs,RW P E l.toArray Q (l.drop n) (oR l ks bs++G) (Hd (decide (q < n))++rV l ks bs)):WA P E l Q G (Hd false):=by
 have hnl:n≤l.length:=by simpa [Nat.ble_eq] using hn
 have hback:∀ (i:Nat) (o:Oper),l[i]?=some o→∀ e∈o.after.toList,Region.binds .any e=true→e.on < i:=by
  intro i o ho e he hbe;have hi:i < l.length:=(List.getElem?_eq_some_iff.1 ho).1;have:=(List.all_eq_true.1 hb) i (List.mem_range.2 hi);rw [ho] at this;have h9:=(List.all_eq_true.1 this) e he
  simpa [hbe] using h9
 have hdst:∀ i,i < n→bP ks[i]?=false→∃ (o:Oper) (d:Nat),l[i]?=some o∧o.dst=some d∧look G d=none∧∀ (j:Nat) (o':Oper) (d':Nat),j < n→l[j]?=some o'→o'.dst=some d'→d=d'→i=j:=by
  intro i hi hnp;have h1:=(List.all_eq_true.1 hd) i (List.mem_range.2 hi);have hi':i < l.length:=by omega
  rw [List.getElem?_eq_getElem hi'] at h1;simp only at h1;cases hdd:l[i].dst with
  | none=>rw [hdd] at h1;rw [hnp] at h1;cases h1
  | some d=>
   rw [hdd] at h1;simp only [Bool.and_eq_true] at h1;refine ⟨l[i],d,List.getElem?_eq_getElem hi',hdd,by simpa using h1.1,fun j o' d' hj ho' hd' he=>?_⟩;have h2:=(List.all_eq_true.1 h1.2) j (List.mem_range.2 hj);rw [ho'] at h2;simp only [hd'] at h2;subst he
   simpa using h2
 have hnodst:∀ i,i < n→bP ks[i]?=true→∀ o,l[i]?=some o→∀ d,o.dst≠some d:=by
  intro i hi hp o ho d hdd;exact hpd i o d hi ho hdd hp
 have toTail:∀ (listed:Array Bool) (a:Act) (w:World) (bs:Nat→Nat),Mid P E l n ks G Hd q listed a w bs→(∀ i,i < n→listed.getD i false=true)→wpList P l.toArray Q.fn (l.drop n) a w:=by
  intro listed a w bs M hall;refine tail bs a w ⟨M.fN,M.fd,fun s u hs=>?_⟩ ?_
  ·rcases cu hs with hs | hs
   ·obtain ⟨i,o,k,h1,h2,h3,h4⟩:=qm hs
    have hi:i < n:=by have:=(List.getElem?_eq_some_iff.1 h2).1;omega
    rw [h4];exact M.fV i o s k (hall i hi) h1 h3 h2
   ·exact M.fG s u hs
  ·have:=M.st
   rw [show listed.getD q false=decide (q < n) from (by
    by_cases hqn:q < n
    ·rw [hall q hqn,decide_eq_true hqn]
    ·rw [M.below q (by omega),decide_eq_false hqn])] at this
   rwa [qw (fun j _ hj=>hall j (by omega)) (fun c t p c2 hm=>?_)] at this
   obtain ⟨j,hj⟩:=List.mem_iff_getElem?.1 hm;rcases iZ.new j c t p c2 hj with h | h
   ·rw [h];split <;> rfl
   ·have hp:p < n:=by
     rcases Nat.lt_or_ge p ks.length with h2 | h2
     ·omega
     ·rw [List.getElem?_eq_none h2] at h;cases h
    show (if listed.getD p false=true then c2 else c)=c2;rw [if_pos (hall p hp)]
 intro a w hfr hst
 have key:∀ (fuel:Nat) (listed:Array Bool) (a:Act) (w:World) (bs:Nat→Nat),Mid P E l n ks G Hd q listed a w bs→cnt (fun i=>listed.getD i false) l.length≤fuel→wpAny P .any l.toArray Q.fn fuel listed a w:=by
  intro fuel;induction fuel with
  | zero=>
   intro listed a w bs M hc
   -- nothing is left: n=l.length
   have hall:∀ i,i < l.length→listed.getD i false=true:=fun i hi=>by
    cases hx:listed.getD i false with
    | true=>rfl
    | false=>exact absurd (sD (L:=fun i=>listed.getD i false) hx l.length hi) (by omega)
   have hnl':n=l.length:=by
    rcases Nat.lt_or_ge n l.length with h | h
    ·have:=M.below n (Nat.le_refl _);rw [hall n h] at this;cases this
    ·omega
   refine iJ hb hf 0 l.length (by omega) (by omega) 0 listed a w (Nat.le_refl _) M.size (fun j hj=>⟨fun _=>hj,fun _=>hall j hj⟩) ?_;rw [← hnl'];exact toTail listed a w bs M (fun i hi=>hall i (by omega))
  | succ fuel ih=>
   intro listed a w bs M hc;by_cases hall:∀ i,i < n→listed.getD i false=true
   ·have hcn:l.length - n≤fuel + 1:=by
     have:cnt (fun i=>listed.getD i false) l.length=l.length - n:=pb hall M.below l.length hnl;omega
    exact iJ hb hf (l.length - n) n (by omega) (Nat.le_refl _) (fuel + 1) listed a w hcn M.size (fun j hj=>⟨fun h=>M.lt h,fun h=>hall j h⟩) (toTail listed a w bs M hall)
   ·have hex:∃ i,i < n∧listed.getD i false=false∧∀ j,j < i→listed.getD j false=true:=by
     have:∀ m,(∀ i,i < m→listed.getD i false=true)∨∃ i,i < m∧listed.getD i false=false∧∀ j,j < i→listed.getD j false=true:=by
      intro m;induction m with
      | zero=>exact .inl (fun i hi=>by omega)
      | succ m ihm=>
       rcases ihm with h | ⟨i,h1,h2,h3⟩
       ·cases hx:listed.getD m false with
        | true=>exact .inl (fun i hi=>if h4:i < m then h i h4 else (show m=i by omega) ▸ hx)
        | false=>exact .inr ⟨m,by omega,hx,h⟩
       ·exact .inr ⟨i,by omega,h2,h3⟩
     rcases this n with h | h
     ·exact absurd h hall
     ·exact h
    obtain ⟨i0,hi0,hi0f,hi0a⟩:=hex;have hrdy:i0∈Region.ready .any l.toArray listed:=(dg M.size i0).2 ⟨l[i0],List.getElem?_eq_getElem (by omega),hi0f,fun e he hbe=>hi0a _ (hback i0 _ (List.getElem?_eq_getElem (by omega)) e he hbe)⟩;refine ⟨(fun h=>by rw [h] at hrdy;cases hrdy),fun i hi=>?_⟩;obtain ⟨o,ho,hlf,hej⟩:=(dg M.size i).1 hi
    have hin:i < n:=by
     rcases Nat.lt_or_ge i n with h | h
     ·exact h
     ·have:=fg (L:=fun i=>listed.getD i false) hb hf h ho (show i0 < i by omega) M.down hej
      rw [hi0f] at this;cases this
    have hki:i < ks.length:=by omega
    have hget:∀ j,j≠i→(listed.setIfInBounds i true).getD j false=listed.getD j false:=fun j hj=>by rw [a7 (by rw [M.size];omega),if_neg (Ne.symm hj)]
    have hseti:(listed.setIfInBounds i true).getD i false=true:=by rw [a7 (by rw [M.size];omega),if_pos rfl]
    have hcells:bP ks[i]?=false→∀ c t q c2,PK.new c t q c2∈ks→(if listed.getD q false=true then c2 else c)=(if (listed.setIfInBounds i true).getD q false=true then c2 else c):=fun hnp c t q c2 hm=>by
     obtain ⟨j,hj⟩:=List.mem_iff_getElem?.1 hm;rcases iZ.new j c t q c2 hj with h | h
     ·rw [h];simp
     ·rw [hget q (fun e=>by subst e;rw [hnp] at h;cases h)]
    have hP0:i≠q→i≠q2→ul P E l.toArray Q (ij l ks o) G (Hd (listed.getD q false)) o ks[i]:=fun hiq hi2=>prems i o ks[i] hiq hi2 ho (List.getElem?_eq_getElem hki) _
    have hnew2:i=q2→∃ c t p c2,ks[i]=.new c t p c2:=fun e=>by
     obtain ⟨_,_,_,c,t,p,c2,_,_,_,_,_,_,_,_,h,_⟩:=hq2 o (by omega) (by rw [← e];exact ho);rw [← e,List.getElem?_eq_getElem hki] at h;exact ⟨c,t,p,c2,Option.some.inj h⟩
    have hbq:i≠q→(listed.setIfInBounds i true).getD q false=listed.getD q false:=fun h=>hget q (Ne.symm h)
    have hvq:(∀ v,ks[i]≠.val v)→i≠q:=fun h e=>by
     obtain ⟨v,hv⟩:=hq ks[i] (by rw [← e];exact List.getElem?_eq_getElem hki);exact h v hv
    have hDep:=qO M hej
    have hsnap:Fr E.N E.ds a (ij l ks o++G++idx 0 a.tmps.toList):=⟨M.fN,M.fd,fun s u hs=>by
     rcases cu hs with hs | hs
     ·exact (cu hs).elim (hDep s u) (M.fG s u)
     ·have:=jD _ 0 s u hs;simpa using this.2⟩
    have hcnt:cnt (fun j=>(listed.setIfInBounds i true).getD j false) l.length≤fuel:=by
     have:=mJ (L:=fun j=>listed.getD j false) (L':=fun j=>(listed.setIfInBounds i true).getD j false) (p:=i) (fun j hj=>by show (listed.setIfInBounds i true).getD j false=listed.getD j false;rw [a7 (by rw [M.size];omega),if_neg (Ne.symm hj)]) hlf (by show (listed.setIfInBounds i true).getD i false=true;rw [a7 (by rw [M.size];omega),if_pos rfl]) l.length (by omega);omega
    have hdown':∀ (m:Nat) (o':Oper),(listed.setIfInBounds i true).getD m false=true→l[m]?=some o'→∀ e∈o'.after.toList,Region.binds .any e=true→(listed.setIfInBounds i true).getD e.on false=true:=by
     intro m o' hm' ho' e he hbi;rw [a7 (by rw [M.size];omega)] at hm' ⊢;split
     ·rfl
     ·split at hm'
      ·rename_i e2;subst e2;rw [ho] at ho';injection ho' with ho';subst ho';exact hej e he hbi
      ·exact M.down m o' hm' ho' e he hbi
    have hbelow':∀ j,n≤j→(listed.setIfInBounds i true).getD j false=false:=fun j hj=>by rw [a7 (by rw [M.size];omega),if_neg (by omega)];exact M.below j hj
    cases hkk:ks[i] with
    | put dj c t c2=>
     have hiq:=hvq (fun v e=>by rw [hkk] at e;cases e);have hP:=hP0 hiq (fun e=>by obtain ⟨c,t,p,c2,h⟩:=hnew2 e;rw [hkk] at h;cases h);rw [hkk] at hP;obtain ⟨j,oj,op,e,hkj,hoj,hdj,hop,he,hbe,hej2⟩:=iZ.put i dj c t c2 (by rw [List.getElem?_eq_getElem hki,hkk]);rw [ho] at hop;injection hop with hop;subst hop;have hjl:listed.getD j false=true:=hej2 ▸ hej e he hbe;have hji:j≠i:=fun e2=>by rw [e2,hlf] at hjl;cases hjl
     have hptr:=M.fV j oj dj _ hjl hoj hdj hkj
     obtain ⟨X,hX,hX'⟩:=qv (L:=fun i=>listed.getD i false) (L':=fun j=>(listed.setIfInBounds i true).getD j false) (bs:=bs) (p:=i) (j:=j) (fun m hm=>(hget m hm).symm) hlf hseti hjl (os:=l) (r:=ks) (i:=0) (Nat.zero_le _)
      (fun m c' t' q c2' _ hm hk'=>by
       rw [Nat.sub_zero] at hk';show (if listed.getD q false=true then c2' else c')=(if (listed.setIfInBounds i true).getD q false=true then c2' else c');by_cases hq:q=i
       ·subst hq
        rw [iZ.uniq j m q c t c2 c' t' c2' hkj hk' (Ne.symm hm)];simp
       ·rw [hget q hq])
      (fun _=>by rw [Nat.sub_zero,List.getElem?_eq_getElem hki,hkk];rfl) (o:=oj) (d:=dj) (c:=c) (t:=t) (c2:=c2) (by simpa using hoj) hdj (by simpa using hkj)
     have hfr1:Fr E.N E.ds a ((dj,t (bs dj))::(ij l ks o++G++idx 0 a.tmps.toList)):=⟨M.fN,M.fd,fun s u hs=>by
      unfold look at hs;cases hb:Nat.beq dj s with
      | true=>
       rw [hb] at hs;have:dj=s:=Nat.eq_of_beq_eq_true hb;subst this;simp only [Option.some.injEq] at hs;subst hs;exact hptr
      | false=>rw [hb] at hs;exact hsnap.at_ s u hs⟩
     have hst1:St E.w0 E.S (c (bs dj)::(Hd (listed.getD q false)++X)) w:=M.st.perm ((List.Perm.append_left _ hX).trans List.perm_middle);have h1:=hP (bs dj) (idx 0 a.tmps.toList) X a w hfr1 hst1;refine db (wpOp_mono (fun a' w' h'=>?_) (bG ho h1));obtain ⟨hfr',hst'⟩:=h'
     have hkeep:∀ s u,a.tmps[s]?=some u→a'.tmps[s]?=some u:=fun s u hs=>by
      by_cases hsd:s=dj
      ·subst hsd
       rw [hptr] at hs;injection hs with hs;subst hs;exact hfr'.at_ _ _ (by simp [look,Nat.beq_refl,PK.out])
      ·exact dc hDep M.fG hfr' hsd hs
     refine ih _ a' w' bs ⟨by simp [M.size],hbelow',hdown',hfr'.size,hfr'.defers,fun s u hs=>hkeep s u (M.fG s u hs),fun m o' d' k hm' ho' hd' hk'=>?_,?_⟩ hcnt
     ·by_cases hmi:m=i
      ·subst hmi
       rw [List.getElem?_eq_getElem hki,hkk] at hk';injection hk' with hk';subst hk';rw [ho] at ho';injection ho' with ho';subst ho';exact absurd hd' (hnodst m hin (by rw [List.getElem?_eq_getElem hki,hkk];rfl) o ho d')
      ·rw [hget m hmi] at hm'
       exact hkeep _ _ (M.fV m o' d' k hm' ho' hd' hk')
     ·rw [hbq hiq]
      exact hst'.perm (List.perm_middle.symm.trans (List.Perm.append_left _ hX'.symm))
    | val v=>
     have hnp:bP ks[i]?=false:=by rw [List.getElem?_eq_getElem hki,hkk];rfl
     obtain ⟨o2,d,ho2,hdd,hGd,huniq⟩:=hdst i hin hnp;rw [ho] at ho2;injection ho2 with ho2;subst ho2
     have h1:wpList P l.toArray (Pst.then (fun a' w=>∃ d,o.dst=some d∧Fr E.N E.ds a' ((d,v)::(ij l ks o++G++idx 0 a.tmps.toList))∧St E.w0 E.S (Hd ((listed.setIfInBounds i true).getD q false)++bS (fun i=>listed.getD i false) l ks 0 bs) w) Q).fn [o] a w:=by
      by_cases hiq:i=q
      ·have hst0:=M.st
       rw [← hiq,hlf] at hst0;rw [← hiq,hseti];exact premq o v (by rw [← hiq];exact ho) (by rw [← hiq,List.getElem?_eq_getElem hki,hkk]) (idx 0 a.tmps.toList) (bS (fun i=>listed.getD i false) l ks 0 bs) a w hsnap hst0
      ·have hP:=hP0 hiq (fun e=>by obtain ⟨c,t,p,c2,h⟩:=hnew2 e;rw [hkk] at h;cases h)
       rw [hkk] at hP;rw [hbq hiq];exact hP (idx 0 a.tmps.toList) (bS (fun i=>listed.getD i false) l ks 0 bs) a w hsnap M.st
     refine db (wpOp_mono (fun a' w' h'=>?_) (bG ho h1));obtain ⟨d2,hd2,hfr',hst'⟩:=h';rw [hdd] at hd2;injection hd2 with hd2;subst hd2;refine ih _ a' w' bs ⟨by simp [M.size],hbelow',hdown',hfr'.size,hfr'.defers,fun s u hs=>?_,fun m o' d' k hm' ho' hd' hk'=>?_,?_⟩ hcnt
     ·exact dc hDep M.fG hfr' (fun e=>by subst e;rw [hGd] at hs;cases hs) (M.fG s u hs)
     ·rw [a7 (by rw [M.size];omega)] at hm'
      by_cases hmi:i=m
      ·subst hmi
       rw [ho] at ho';injection ho' with ho';subst ho';rw [hdd] at hd';injection hd' with hd';subst hd';rw [List.getElem?_eq_getElem hki,hkk] at hk';injection hk' with hk';subst hk';exact hfr'.at_ _ _ (by simp [look,Nat.beq_refl,PK.out])
      ·rw [if_neg hmi] at hm'
       have hmn:m < n:=M.lt hm';refine dc hDep M.fG hfr' (fun e=>hmi (huniq m o' d' hmn ho' hd' e.symm)) (M.fV m o' d' k hm' ho' hd' hk')
     ·have:bS (fun i_1=>(listed.setIfInBounds i true).getD i_1 false) l ks 0 bs=bS (fun i=>listed.getD i false) l ks 0 bs:=by
       exact qu (p:=i) (v:=v) (fun j hj=>by rw [a7 (by rw [M.size];omega),if_neg (Ne.symm hj)]) (fun _=>by rw [Nat.sub_zero,List.getElem?_eq_getElem hki,hkk]) (fun c t q c2 hm=>(hcells hnp c t q c2 hm).symm)
      rw [this];exact hst'
    | new c t q0 c2=>
     have hiq:=hvq (fun v e=>by rw [hkk] at e;cases e);have hnp:bP ks[i]?=false:=by rw [List.getElem?_eq_getElem hki,hkk];rfl
     obtain ⟨o2,d,ho2,hdd,hGd,huniq⟩:=hdst i hin hnp;rw [ho] at ho2;injection ho2 with ho2;subst ho2
     have hop:Go.wpOp P l.toArray Q.fn i (fun a' w=>∃ b d,o.dst=some d∧Fr E.N E.ds a' ((d,t b)::(ij l ks o++G++idx 0 a.tmps.toList))∧St E.w0 E.S (c b::(Hd (listed.getD q false)++bS (fun i=>listed.getD i false) l ks 0 bs)) w) a w:=by
      by_cases hi2:i=q2
      ·obtain ⟨e,oj,dj,c',t',p',c2',cj,tj,pj,he,hbe,hej2,hoj,hdj,hk2,hkj,hp2⟩:=hq2 o (by omega) (by rw [← hi2];exact ho)
       rw [← hi2,List.getElem?_eq_getElem hki,hkk] at hk2;injection hk2 with hk2;injection hk2 with e1 e2 e3 e4;subst e1;subst e2;have hjl:listed.getD j2 false=true:=hej2 ▸ hej e he hbe;have hptr:=M.fV j2 oj dj _ hjl hoj hdj hkj;obtain ⟨X,hX⟩:=mn (L:=fun i=>listed.getD i false) (bs:=bs) (j:=j2) hjl (os:=l) (r:=ks) (i:=0) (Nat.zero_le _) (by simpa using hoj) hdj (by simpa using hkj)
       have hfr1:Fr E.N E.ds a ((dj,tj (bs dj))::(ij l ks o++G++idx 0 a.tmps.toList)):=⟨M.fN,M.fd,fun s u hs=>by
        unfold look at hs;cases hb:Nat.beq dj s with
        | true=>
         rw [hb] at hs;have:dj=s:=Nat.eq_of_beq_eq_true hb;subst this;simp only [Option.some.injEq] at hs;subst hs;exact hptr
        | false=>rw [hb] at hs;exact hsnap.at_ s u hs⟩
       have hst1:St E.w0 E.S (cj (bs dj)::(Hd (listed.getD q false)++X)) w:=M.st.perm ((List.Perm.append_left _ hX).trans List.perm_middle);have h1:=hp2 (listed.getD q false) (bs dj) (idx 0 a.tmps.toList) X a w hfr1 hst1;refine db (wpOp_mono (fun a' w' h'=>?_) (bG ho h1));obtain ⟨b',d',hd',hfr',hst'⟩:=h';rw [hdd] at hd';injection hd' with hd';subst hd';refine ⟨b',d,hdd,⟨hfr'.size,hfr'.defers,fun s u hs=>?_⟩,hst'.perm (List.Perm.cons _ (List.perm_middle.symm.trans (List.Perm.append_left _ hX.symm)))⟩;unfold look at hs;cases hb:Nat.beq d s with
       | true=>rw [hb] at hs;exact hfr'.at_ s u (by unfold look;rw [hb];exact hs)
       | false=>
        rw [hb] at hs
        refine hfr'.at_ s u (by
         unfold look;rw [hb];simp only;unfold look;cases hb2:Nat.beq dj s with
         | false=>exact hs
         | true=>
          have:dj=s:=Nat.eq_of_beq_eq_true hb2;subst this;have h9:=hsnap.at_ _ u hs;rw [hptr] at h9
          simpa [PK.out] using h9)
      ·have hP:=hP0 hiq hi2
       rw [hkk] at hP;exact db (bG ho (hP (idx 0 a.tmps.toList) (bS (fun i=>listed.getD i false) l ks 0 bs) a w hsnap M.st))
     refine wpOp_mono (fun a' w' h'=>?_) hop;obtain ⟨b,d2,hd2,hfr',hst'⟩:=h';rw [hdd] at hd2;injection hd2 with hd2;subst hd2;refine ih _ a' w' (fun s=>if s=d then b else bs s) ⟨by simp [M.size],hbelow',hdown',hfr'.size,hfr'.defers,fun s u hs=>?_,fun m o' d' k hm' ho' hd' hk'=>?_,?_⟩ hcnt
     ·exact dc hDep M.fG hfr' (fun e=>by subst e;rw [hGd] at hs;cases hs) (M.fG s u hs)
     ·rw [a7 (by rw [M.size];omega)] at hm'
      by_cases hmi:i=m
      ·subst hmi
       rw [ho] at ho';injection ho' with ho';subst ho';rw [hdd] at hd';injection hd' with hd';subst hd';rw [List.getElem?_eq_getElem hki,hkk] at hk';injection hk' with hk';subst hk';rw [if_pos rfl];exact hfr'.at_ _ _ (by simp [look,Nat.beq_refl,PK.out])
      ·rw [if_neg hmi] at hm'
       have hmn:m < n:=M.lt hm';have hne:d'≠d:=fun e=>hmi (huniq m o' d' hmn ho' hd' e.symm);rw [if_neg hne];exact dc hDep M.fG hfr' hne (M.fV m o' d' k hm' ho' hd' hk')
     ·have hp:=qx (L:=fun i=>listed.getD i false) (L':=fun j=>(listed.setIfInBounds i true).getD j false) (bs:=bs) (bs':=fun s=>if s=d then b else bs s) (p:=i) (os:=l) (r:=ks) (i:=0) (Nat.zero_le _)
       (fun j hj=>by show listed.getD j false=(listed.setIfInBounds i true).getD j false;rw [a7 (by rw [M.size];omega),if_neg (Ne.symm hj)]) hlf (by show (listed.setIfInBounds i true).getD i false=true;rw [a7 (by rw [M.size];omega),if_pos rfl])
       (fun j o' d' h1 h2 h3 h4=>by
        simp only [Nat.zero_add] at h4
        have hne:d'≠d:=fun e=>by
         have:=huniq j o' d' (by omega) h1 h2 e.symm;subst this;rw [hlf] at h4;cases h4
        simp [hne]) (hcells hnp) (o:=o) (d:=d) (c:=c) (t:=t) (by simpa using ho) hdd (by rw [Nat.sub_zero,List.getElem?_eq_getElem hki,hkk]) (by
        show (if (listed.setIfInBounds i true).getD q0 false=true then c2 else c)=c;have hki':ks[i]?=some (.new c t q0 c2):=by rw [List.getElem?_eq_getElem hki,hkk]
        rcases iZ.new i c t q0 c2 hki' with h | h
        ·rw [h];split <;> rfl
        ·cases hq:ks[q0]? with
         | none=>rw [hq] at h;cases h
         | some kq=>
          rw [hq] at h;cases kq with
          | put dj c' t' c2'=>
           obtain ⟨j,oj,op,e,hkj,hoj,hdj,hop,he,hbe,hej2⟩:=iZ.put q0 dj c' t' c2' hq;have hqi:q0≠i:=fun e2=>by subst e2;rw [hki'] at hq;cases hq
           by_cases hji:j=i
           ·rw [hget q0 hqi]
            cases hlq:listed.getD q0 false with
            | false=>rfl
            | true=>
             have:=M.down q0 op hlq hop e he hbe;rw [hej2,hji,hlf] at this;cases this
           ·have:=iZ.uniq j i q0 c' t' c2' c t c2 hkj hki' hji
            rw [this];split <;> rfl
          | val v=>cases h
          | new _ _ _ _=>cases h)
      simp only [if_true] at hp;rw [hbq hiq];refine hst'.perm ?_;exact List.perm_middle.symm.trans (List.Perm.append_left _ hp)
 have hrep:∀ j,(Array.replicate l.toArray.size false).getD j false=false:=fun j=>by
  simp only [Array.getD_eq_getD_getElem?,Array.getElem?_replicate];split <;> rfl
 refine key l.toArray.size _ a w.drew (fun _=>0) ⟨by simp,fun i _=>hrep i,fun i o h=>(by rw [hrep i] at h;cases h),hfr.size,hfr.defers,hfr.at_,fun i o d k h=>(by rw [hrep i] at h;cases h),?_⟩ ?_
 ·have:bS (fun i=>(Array.replicate l.toArray.size false).getD i false) l ks 0 (fun _=>0)=[]:=oe hrep
  rw [this,List.append_nil,hrep q];exact hst.drew
 ·simpa using yk (fun i=>(Array.replicate l.toArray.size false).getD i false) l.length
theorem Dp (q:Nat) (Hd:Bool→List HP) (n:Nat) (ks:List PK) (hk:ks.length=n) (hn:Nat.ble n l.length=true) (hb:j5 l=true) (hf:dL l n=true) (hd:sq l ks n G=true) (iZ:rn l ks) (hpd:∀ (i:Nat) (o:Oper) (d:Nat),i < n→l[i]?=some o→o.dst=some d→bP ks[i]?=true→False)
 (hq:∀ k,ks[q]?=some k→∃ v,k=.val v) (prems:∀ (i:Nat) (o:Oper) (k:PK),i≠q→l[i]?=some o→ks[i]?=some k→∀ b,ul P E l.toArray Q (ij l ks o) G (Hd b) o k)
 (premq:∀ (o:Oper) (v:Value),l[q]?=some o→ks[q]?=some (.val v)→∀ (Gx:List (Nat × Value)) (X:List HP),RW P E l.toArray (Pst.then (fun a w=>∃ d,o.dst=some d∧Fr E.N E.ds a ((d,v)::(ij l ks o++G++Gx))∧St E.w0 E.S (Hd true++X) w) Q) [o] (ij l ks o++G++Gx) (Hd false++X))
 (tail:∀ bs,RW P E l.toArray Q (l.drop n) (oR l ks bs++G) (Hd (decide (q < n))++rV l ks bs)):WA P E l Q G (Hd false):=
 Do q l.length 0 Hd n ks hk hn hb hf hd iZ hpd hq (fun i o k h1 _ ho hk' b=>prems i o k h1 ho hk' b) premq (fun o _ ho=>by rw [List.getElem?_eq_none (Nat.le_refl _)] at ho;cases ho) tail
theorem EV (n:Nat) (ks:List PK) (hk:ks.length=n) (hn:Nat.ble n l.length=true) (hb:j5 l=true) (hf:dL l n=true) (hd:sq l ks n G=true) (iZ:rn l ks) (hpd:∀ (i:Nat) (o:Oper) (d:Nat),i < n→l[i]?=some o→o.dst=some d→bP ks[i]?=true→False)
 (prems:vE P E l.toArray Q l ks G H l ks) (tail:∀ bs,RW P E l.toArray Q (l.drop n) (oR l ks bs++G) (H++rV l ks bs)):WA P E l Q G H:=by
 have hnl:n≤l.length:=by simpa [Nat.ble_eq] using hn
 have hno:ks[l.length]?=none:=List.getElem?_eq_none (by omega);refine Dp l.length (fun _=>H) n ks hk hn hb hf hd iZ hpd (fun k h=>by rw [hno] at h;cases h) (fun i o k _ ho hk' b=>vE.at_ prems i o k ho hk') (fun o v ho _=>by rw [List.getElem?_eq_none (Nat.le_refl _)] at ho;cases ho) tail
end
end
section
section
variable {P:Program} {E:Env} {ops:Array Oper} {Q:Pst} {K:Act→World→Prop} {rest:List Oper} {G:List (Nat × Value)} {H:List HP}
/-! ### order open -/
def xv:List (Nat × PK)→Nat→Option PK
 | [],_=>none
 | (i,v)::r,j=>match Nat.beq i j with
  | true=>some v
  | false=>xv r j
def ko (l:List Oper) (D:List (Nat × PK)):List Edge→List (Nat × Value)
 | []=>[]
 | e::es=>match Region.binds .any e with
  | true=>match l[e.on]? with
   | some o'=>match o'.dst with
    | some d=>match xv D d with
     | some (.val v)=>(d,v)::ko l D es
     | _=>ko l D es
    | none=>ko l D es
   | none=>ko l D es
  | false=>ko l D es
def zd:List (Nat × PK)→(Nat→Nat)→List (Nat × Value)
 | [],_=>[]
 | (d,k)::r,bs=>(d,k.out (bs d))::zd r bs
def xc:List (Nat × PK)→(Nat→Nat)→List HP
 | [],_=>[]
 | (d,.new _ _ _ c2)::r,bs=>c2 (bs d)::xc r bs
 | (_,.val _)::r,bs=>xc r bs
 | (_,.put _ _ _ _)::r,bs=>xc r bs
def PK.plain:PK→Prop
 | .val _=>True
 | .new c _ _ c2=>c=c2
 | .put _ _ _ _=>False
def zp (l:List Oper) (acc:List PK):List (Nat × PK):=List.zipWith (fun o k=>(o.dst.getD 0,k)) l acc
def zf (l:List Oper) (n:Nat):Prop:=∀ i,i < n→∃ (o:Oper) (d:Nat),l[i]?=some o∧o.dst=some d∧∀ (j:Nat) (o':Oper),j < n→l[j]?=some o'→o'.dst=some d→i=j
theorem xu {D:List (Nat × PK)} {d:Nat} {k:PK} (h:(d,k)∈D) (hu:∀ k',(d,k')∈D→k'=k):xv D d=some k:=by
 induction D with
 | nil=>cases h
 | cons p r ih=>
  obtain ⟨i,v⟩:=p;unfold xv;cases hb:Nat.beq i d with
  | true=>
   have:i=d:=Nat.eq_of_beq_eq_true hb;subst this;simp [hu v (by simp)]
  | false=>
   have hne:i≠d:=Nat.ne_of_beq_eq_false hb;rcases List.mem_cons.1 h with h | h
   ·simp only [Prod.mk.injEq] at h;exact absurd h.1.symm hne
   ·exact ih h (fun k' hk=>hu k' (by simp [hk]))
theorem Cc {l:List Oper} {acc:List PK} {i:Nat} {o:Oper} {d:Nat} {k:PK} (ho:l[i]?=some o) (hd:o.dst=some d) (hk:acc[i]?=some k):(zp l acc)[i]?=some (d,k):=by
 simp [zp,List.getElem?_zipWith,ho,hk,hd]
theorem vQ {l:List Oper} {acc:List PK} {d:Nat} {k:PK} (h:(d,k)∈zp l acc):∃ (i:Nat) (o:Oper),l[i]?=some o∧acc[i]?=some k∧o.dst.getD 0=d:=by
 obtain ⟨i,hi⟩:=List.mem_iff_getElem?.1 h;simp only [zp,List.getElem?_zipWith] at hi;cases ho:l[i]? with
 | none=>rw [ho] at hi;simp at hi
 | some o=>
  cases hk:acc[i]? with
  | none=>rw [ho,hk] at hi;simp at hi
  | some k'=>
   rw [ho,hk] at hi;simp only [Option.some.injEq,Prod.mk.injEq] at hi;exact ⟨i,o,ho,by rw [hk,hi.2],hi.1⟩
theorem Cb {l:List Oper} {acc:List PK} {n:Nat} (hdist:zf l n) (hn:acc.length≤n) {D:List (Nat × PK)} (hD:D.reverse=zp l acc) {i:Nat} {o:Oper} {d:Nat} {k:PK} (ho:l[i]?=some o) (hd:o.dst=some d) (hk:acc[i]?=some k):xv D d=some k:=by
 have hm:∀ k',(d,k')∈D↔(d,k')∈zp l acc:=fun k'=>by rw [← hD];simp
 refine xu ((hm k).2 (List.mem_iff_getElem?.2 ⟨i,Cc ho hd hk⟩)) (fun k' hk'=>?_);obtain ⟨j,o',ho',hk2,hd'⟩:=vQ ((hm k').1 hk');have hi:i < n:=Nat.lt_of_lt_of_le (List.getElem?_eq_some_iff.1 hk).1 hn;have hj:j < n:=Nat.lt_of_lt_of_le (List.getElem?_eq_some_iff.1 hk2).1 hn;obtain ⟨o1,d1,h1,h2,h3⟩:=hdist i hi;obtain ⟨o2,d2,g1,g2,g3⟩:=hdist j hj;rw [ho'] at g1;cases g1
 rw [g2] at hd';simp only [Option.getD_some] at hd';subst hd';have:=h3 j o' hj ho' (by rw [ho] at h1;cases h1;rw [hd] at h2;cases h2;exact g2);subst this;rw [hk] at hk2;cases hk2;rfl
theorem yf {l:List Oper} {acc ks:List PK} {D:List (Nat × PK)} {n:Nat} (hdist:zf l n) (hn:acc.length≤n) (hD:D.reverse=zp l acc):∀ {es:List Edge},(∀ e∈es,Region.binds .any e=true→e.on < acc.length)→(es.filterMap fun e=>
 if Region.binds .any e then match l[e.on]?,(acc++ks)[e.on]? with
 | some o',some (.val v)=>o'.dst.map fun d=>(d,v)
 | _,_=>none
 else none)=ko l D es:=by
 intro es;induction es with
 | nil=>intro _;rfl
 | cons e es ih=>
  intro h;have ih:=ih (fun e' he'=>h e' (by simp [he']));have he:=h e (by simp);rw [List.filterMap_cons,ko,← ih];cases hbe:Region.binds .any e with
  | false=>rfl
  | true=>
   replace he:=he hbe
   simp only [if_true];cases ho:l[e.on]? with
   | none=>rfl
   | some o'=>
    have hk:(acc++ks)[e.on]?=some acc[e.on]:=by rw [List.getElem?_append_left he];simp
    have hk':acc[e.on]?=some acc[e.on]:=by simp
    rw [hk];cases hd:o'.dst with
    | none=>cases hv:acc[e.on] <;> simp [hd]
    | some d=>
     have hz:=Cb hdist hn hD ho hd hk';cases hv:acc[e.on] <;> rw [hv] at hz <;> simp [hd,hz]
theorem mi {L:List (Nat × Value)} {s:Nat} {v:Value} (h:(s,v)∈L) (hu:∀ v',(s,v')∈L→v'=v):look L s=some v:=by
 induction L with
 | nil=>cases h
 | cons p r ih=>
  obtain ⟨i,u⟩:=p;unfold look;cases hb:Nat.beq i s with
  | true=>
   have:i=s:=Nat.eq_of_beq_eq_true hb;subst this;simp [hu u (by simp)]
  | false=>
   have hne:i≠s:=Nat.ne_of_beq_eq_false hb;rcases List.mem_cons.1 h with h | h
   ·simp only [Prod.mk.injEq] at h;exact absurd h.1.symm hne
   ·exact ih h (fun k' hk=>hu k' (by simp [hk]))
theorem wS {bs:Nat→Nat}:∀ {l:List Oper} {acc:List PK},(∀ (i:Nat) (o:Oper),i < acc.length→l[i]?=some o→o.dst≠none)→oR l acc bs=(zp l acc).map (fun p=>(p.1,p.2.out (bs p.1))):=by
 intro l;induction l with
 | nil=>intro acc _;cases acc <;> rfl
 | cons o l ih=>
  intro acc h;cases acc with
  | nil=>rfl
  | cons k r=>
   have ho:=h 0 o (by simp) rfl;cases hd:o.dst with
   | none=>exact absurd hd ho
   | some d=>
    simp only [oR,hd,zp,List.zipWith_cons_cons,List.map_cons,Option.getD_some];rw [ih (fun i o' hi ho'=>h (i + 1) o' (by simpa using hi) (by simpa using ho'))]
    rfl
theorem zQ {bs:Nat→Nat} (D:List (Nat × PK)):zd D bs=D.map (fun p=>(p.1,p.2.out (bs p.1))):=by
 induction D with
 | nil=>rfl
 | cons p r ih=>obtain ⟨d,k⟩:=p;simp [zd,ih]
theorem tD {bs:Nat→Nat} (D:List (Nat × PK)):xc D bs=D.filterMap (fun p=>match p.2 with | .new _ _ _ c2=>some (c2 (bs p.1)) | .val _=>none | .put _ _ _ _=>none):=by
 induction D with
 | nil=>rfl
 | cons p r ih=>obtain ⟨d,k⟩:=p;cases k <;> simp [xc,ih]
theorem CP {bs:Nat→Nat}:∀ {l:List Oper} {acc:List PK},(∀ (i:Nat) (o:Oper),i < acc.length→l[i]?=some o→o.dst≠none)→rV l acc bs=xc (zp l acc) bs:=by
 intro l;induction l with
 | nil=>intro acc _;cases acc <;> rfl
 | cons o l ih=>
  intro acc h;cases acc with
  | nil=>rfl
  | cons k r=>
   have ho:=h 0 o (by simp) rfl;have hr:=ih (acc:=r) (fun i o' hi ho'=>h (i + 1) o' (by simpa using hi) (by simpa using ho'));cases hd:o.dst with
   | none=>exact absurd hd ho
   | some d=>cases k <;> simp [rV,hd,zp,xc,hr] <;> rfl
structure AW (P:Program) (E:Env) (Q:Pst) (l:List Oper) (G:List (Nat × Value)) (H:List HP) (D:List (Nat × PK)) (os:List Oper):Prop where
 out:∀ acc:List PK,D.reverse=zp l acc→acc.length≤l.length→(∀ (i:Nat) (o:Oper),l[i]?=some o→∀ e∈o.after.toList,Region.binds .any e=true→e.on < i)→l.drop acc.length=os→∃ ks:List PK,
  (zf l (acc++ks).length→vE P E l.toArray Q l (acc++ks) G H os ks)∧Nat.ble (acc++ks).length l.length=true∧dL l (acc++ks).length=true∧sq l [] (acc++ks).length G=true∧(∀ k∈ks,k.plain) ∧
  (zf l (acc++ks).length→∀ bs,RW P E l.toArray Q (l.drop (acc++ks).length) (oR l (acc++ks) bs++G) (H++rV l (acc++ks) bs))
theorem sX {l:List Oper} {D:List (Nat × PK)} {os:List Oper} (h2:dL l D.length=true) (h3:sq l [] D.length G=true) (tail:∀ bs,RW P E l.toArray Q os (zd D bs++G) (H++xc D bs))  {acc:List PK} (hD:D.reverse=zp l acc) (hle:acc.length≤l.length) (hos:l.drop acc.length=os):
 Nat.ble acc.length l.length=true∧dL l acc.length=true∧sq l [] acc.length G=true∧(zf l acc.length→∀ bs,RW P E l.toArray Q (l.drop acc.length) (oR l acc bs++G) (H++rV l acc bs)):=by
 have hlen:D.length=acc.length:=by
  rw [← List.length_reverse,hD,zp,List.length_zipWith,Nat.min_eq_right hle]
 rw [hlen.symm];refine ⟨by rw [Nat.ble_eq];omega,h2,h3,fun hdist bs=>?_⟩;rw [hlen,hos]
 have hsome:∀ (i:Nat) (o:Oper),i < acc.length→l[i]?=some o→o.dst≠none:=fun i o hi ho hn=>by
  obtain ⟨o',d,h1,h2',_⟩:=hdist i (by omega);rw [ho] at h1;cases h1
  rw [hn] at h2';cases h2'
 have hmem:∀ (p:Nat × Value),p∈zd D bs↔p∈oR l acc bs:=fun p=>by
  rw [zQ,wS hsome,← hD];simp
 intro a w hf hw;refine tail bs a w ⟨hf.size,hf.defers,fun s v hs=>hf.at_ s v ?_⟩ (hw.perm ?_)
 ·have huniq:∀ (p q:Nat × Value),p∈oR l acc bs→q∈oR l acc bs→p.1=q.1→p=q:=by
   intro p q hp hq he;rw [wS hsome] at hp hq;obtain ⟨⟨d1,k1⟩,hp1,rfl⟩:=List.mem_map.1 hp;obtain ⟨⟨d2,k2⟩,hq1,rfl⟩:=List.mem_map.1 hq;simp only at he;subst he;obtain ⟨i,o,ho,hk,hd⟩:=vQ hp1;obtain ⟨j,o',ho',hk',hd'⟩:=vQ hq1;have hi:=(List.getElem?_eq_some_iff.1 hk).1;have hj:=(List.getElem?_eq_some_iff.1 hk').1;obtain ⟨oi,di,e1,e2,e3⟩:=hdist i (by omega);rw [ho] at e1;cases e1
   obtain ⟨oj,dj,f1,f2,_⟩:=hdist j (by omega);rw [ho'] at f1;cases f1
   rw [e2] at hd;rw [f2] at hd';simp only [Option.getD_some] at hd hd';have:=e3 j o' (by omega) ho' (by rw [f2,hd',hd]);subst this;rw [hk] at hk';cases hk';rfl
  by_cases hx:∃ u,(s,u)∈oR l acc bs
  ·obtain ⟨u,hu⟩:=hx
   have h1:look (oR l acc bs) s=some u:=mi hu (fun v' hv'=>by have:=huniq _ _ hv' hu rfl;simpa using this);have h2:look (zd D bs) s=some u:=mi ((hmem _).2 hu) (fun v' hv'=>by have:=huniq _ _ ((hmem _).1 hv') hu rfl;simpa using this);rw [dV h2] at hs;rw [dV h1];exact hs
  ·have n1:∀ v,look (oR l acc bs) s≠some v:=fun v hv=>hx ⟨v,oV hv⟩
   have n2:∀ v,look (zd D bs) s≠some v:=fun v hv=>hx ⟨v,(hmem _).1 (oV hv)⟩;rw [dW n2] at hs;rw [dW n1];exact hs
 ·rw [CP hsome,← hD]
  refine List.Perm.append_left _ ?_;rw [tD,tD];exact List.Perm.filterMap _ (List.reverse_perm D)
theorem DL {l:List Oper} {D:List (Nat × PK)} {os:List Oper} (h2:dL l D.length=true) (h3:sq l [] D.length G=true) (tail:∀ bs,RW P E l.toArray Q os (zd D bs++G) (H++xc D bs)):AW P E Q l G H D os:=by
 refine ⟨fun acc hD hle hb hos=>⟨[],fun _=>by cases os <;> trivial,?_⟩⟩;rw [List.append_nil];obtain ⟨k1,k2,k3,k4⟩:=sX h2 h3 tail hD hle hos;exact ⟨k1,k2,k3,by simp,k4⟩
theorem Aq {l:List Oper} {D:List (Nat × PK)} {os:List Oper} (tail:∀ bs,RW P E l.toArray Q os (zd D bs++G) (H++xc D bs)) (h2:dL l D.length=true:=by kernel_rfl) (h3:sq l [] D.length G=true:=by kernel_rfl):AW P E Q l G H D os:=DL h2 h3 tail
theorem sY {l:List Oper} {D:List (Nat × PK)} {o:Oper} {os:List Oper} {d:Nat} {k:PK} (hd:o.dst=some d) {acc:List PK} (hD:D.reverse=zp l acc) (hle:acc.length≤l.length) (hos:l.drop acc.length=o::os):
 acc.length < l.length∧l[acc.length]?=some o∧l.drop (acc++[k]).length=os∧((d,k)::D).reverse=zp l (acc++[k]):=by
 have hlt:acc.length < l.length:=by
  rcases Nat.lt_or_ge acc.length l.length with h | h
  ·exact h
  ·rw [List.drop_of_length_le h] at hos;cases hos
 have ho:l[acc.length]?=some o:=by
  have:(l.drop acc.length)[0]?=some o:=by rw [hos];rfl
  simpa using this
 have hos':l.drop (acc++[k]).length=os:=by
  rw [List.length_append,List.length_singleton,← List.drop_drop,hos]
  rfl
 have hD':((d,k)::D).reverse=zp l (acc++[k]):=by
  rw [List.reverse_cons,hD];apply List.ext_getElem?;intro i;have hzl:(zp l acc).length=acc.length:=by rw [zp,List.length_zipWith];omega
  rcases Nat.lt_trichotomy i acc.length with hi | hi | hi
  ·rw [List.getElem?_append_left (by omega)]
   simp only [zp,List.getElem?_zipWith];rw [List.getElem?_append_left hi]
  ·subst hi
   rw [List.getElem?_append_right (by omega),hzl,Nat.sub_self];rw [Cc (k:=k) ho hd (by simp)]
   rfl
  ·rw [List.getElem?_eq_none (by simp;omega),List.getElem?_eq_none (by simp [zp];omega)]
 exact ⟨hlt,ho,hos',hD'⟩
theorem za {l:List Oper} {D:List (Nat × PK)} {o:Oper} {os:List Oper} {d:Nat} {k:PK} (hkp:k.plain) (hd:o.dst=some d) (hp:ul P E l.toArray Q (ko l D o.after.toList) G H o k) (h:AW P E Q l G H ((d,k)::D) os):AW P E Q l G H D (o::os):=by
 refine ⟨fun acc hD hle hb hos=>?_⟩;obtain ⟨hlt,ho,hos',hD'⟩:=sY (k:=k) hd hD hle hos;obtain ⟨ks,h1,h2,h3,h4,h6,h5⟩:=h.out (acc++[k]) hD' (by simp;omega) hb hos';have hass:acc++[k]++ks=acc++k::ks:=by simp
 rw [hass] at h1 h2 h3 h4 h5;refine ⟨k::ks,fun hdist=>⟨?_,h1 hdist⟩,h2,h3,h4,fun k' hk'=>(List.mem_cons.1 hk').elim (fun e=>e ▸ hkp) (h6 k'),h5⟩;have hdep:ij l (acc++k::ks) o=ko l D o.after.toList:=yf hdist (by simp) hD (fun e he hbe=>hb _ _ ho e he hbe);rw [hdep];exact hp
theorem uu {l:List Oper} {D:List (Nat × PK)} {o:Oper} {os:List Oper} {d:Nat} {v:Value} (hd:o.dst=some d)
 (hp:∀ (Gx:List (Nat × Value)) (X:List HP),RW P E l.toArray (Pst.then (fun a w=>∃ d,o.dst=some d∧Fr E.N E.ds a ((d,v)::(ko l D o.after.toList++G++Gx))∧St E.w0 E.S (H++X) w) Q) [o] (ko l D o.after.toList++G++Gx) (H++X))
 (h:AW P E Q l G H ((d,.val v)::D) os):AW P E Q l G H D (o::os):=za (k:=.val v) trivial hd hp h
theorem Dn {P:Program} {E:Env} {ops:Array Oper} {Q:Pst} {o:Oper} {d:Nat} {v:Value} {G':List (Nat × Value)} {H':List HP} (hd:o.dst=some d:=by exact rfl):RW P E ops (Pst.then (fun a w=>∃ d,o.dst=some d∧Fr E.N E.ds a ((d,v)::G')∧St E.w0 E.S H' w) Q) [] ((d,v)::G') H':=cD hd
theorem Aw {l:List Oper} {D:List (Nat × PK)} {o:Oper} {os:List Oper} {d:Nat} {v:Value} (hp:∀ (Gx:List (Nat × Value)) (X:List HP),RW P E l.toArray (Pst.then (fun a w=>∃ d,o.dst=some d∧Fr E.N E.ds a ((d,v)::(ko l D o.after.toList++G++Gx))∧St E.w0 E.S (H++X) w) Q) [o] (ko l D o.after.toList++G++Gx) (H++X)) (h:AW P E Q l G H ((d,.val v)::D) os) (hd:o.dst=some d:=by exact rfl):AW P E Q l G H D (o::os):=uu hd hp h
theorem Xc {l:List Oper} {D:List (Nat × PK)} {os:List Oper} {v:Value} {dst:Nat} {ty:TypeId} {pos:String} {af:Array Edge} {x:Operand} (h:AW P E Q l G H ((dst,.val v)::D) os) (hx:∀ Gx,ev (ko l D af.toList++G++Gx) x=some v:=by exact fun _=>rfl) (hN:Nat.blt dst E.N=true:=by exact rfl):AW P E Q l G H D (⟨some dst,.move x,ty,pos,af,none⟩::os):=Aw (fun Gx X=>Jc Dn (hx Gx) hN) h rfl
theorem Xe {l:List Oper} {D:List (Nat × PK)} {os:List Oper} {dst:Nat} {ty:TypeId} {pos:String} {af:Array Edge} {x:Operand} {s:TypeId} {i off B O:Nat} [F:FA P s i off] (h:AW P E Q l G H ((dst,.val (.pointer (some ⟨B,O + off,none⟩)))::D) os) (hx:∀ Gx,ev (ko l D af.toList++G++Gx) x=some (.pointer (some ⟨B,O,none⟩)):=by exact fun _=>rfl) (hN:Nat.blt dst E.N=true:=by exact rfl):AW P E Q l G H D (⟨some dst,.fieldAddr s x i,ty,pos,af,none⟩::os):=Aw (fun Gx X=>Je Dn (hx Gx) hN) h rfl
theorem Xf {l:List Oper} {D:List (Nat × PK)} {os:List Oper} {dst:Nat} {ty:TypeId} {pos:String} {af:Array Edge} {x:Operand} {A:Addr} (h:AW P E Q l G H ((dst,.val (.pointer (some A)))::D) os) (hx:∀ Gx,ev (ko l D af.toList++G++Gx) x=some (.pointer (some A)):=by exact fun _=>rfl) (hN:Nat.blt dst E.N=true:=by exact rfl):AW P E Q l G H D (⟨some dst,.nilCheck x,ty,pos,af,none⟩::os):=Aw (fun Gx X=>Jf Dn (hx Gx) hN) h rfl
theorem eD {l:List Oper} {D:List (Nat × PK)} {o:Oper} {os:List Oper} {d:Nat} (V:Nat→Value) (c:Nat→HP) (hd:o.dst=some d)
 (hp:∀ (Gx:List (Nat × Value)) (X:List HP),RW P E l.toArray (Pst.then (fun a w=>∃ b d,o.dst=some d∧Fr E.N E.ds a ((d,V b)::(ko l D o.after.toList++G++Gx))∧St E.w0 E.S (c b::(H++X)) w) Q) [o] (ko l D o.after.toList++G++Gx) (H++X))
 (h:AW P E Q l G H ((d,.new c V 0 c)::D) os):AW P E Q l G H D (o::os):=za (k:=.new c V 0 c) rfl hd hp h
theorem aU {P:Program} {E:Env} {ops:Array Oper} {Q:Pst} {o:Oper} {b d:Nat} {V:Nat→Value} {c:Nat→HP} {G':List (Nat × Value)} {H':List HP} (hd:o.dst=some d):RW P E ops (Pst.then (fun a w=>∃ b d,o.dst=some d∧Fr E.N E.ds a ((d,V b)::G')∧St E.w0 E.S (c b::H') w) Q) [] ((d,V b)::G') (c b::H'):=
 fun a w hf hw=>⟨b,d,hd,hf,hw⟩
theorem hY {l:List Oper} (hb:j5 l=true) (h:AW P E Q l G H [] l):WA P E l Q G H:=by
 have hback:∀ (i:Nat) (o:Oper),l[i]?=some o→∀ e∈o.after.toList,Region.binds .any e=true→e.on < i:=by
  intro i o ho e he hbe;have hi:i < l.length:=(List.getElem?_eq_some_iff.1 ho).1;have:=(List.all_eq_true.1 hb) i (List.mem_range.2 hi);rw [ho] at this;have h9:=(List.all_eq_true.1 this) e he
  simpa [hbe] using h9
 obtain ⟨ks,h1,h2,h3,h4,hpl,h5⟩:=h.out [] (by cases l <;> rfl) (by simp) hback rfl;rw [List.nil_append] at h1 h2 h3 h4 h5
 have hdist:zf l ks.length:=by
  intro i hi;have h6:=(List.all_eq_true.1 h4) i (List.mem_range.2 hi);have hi':i < l.length:=by rw [Nat.ble_eq] at h2;omega
  rw [List.getElem?_eq_getElem hi'] at h6;simp only at h6;cases hdd:l[i].dst with
  | none=>rw [hdd] at h6;cases h6
  | some d=>
   rw [hdd] at h6;simp only [Bool.and_eq_true] at h6;refine ⟨l[i],d,List.getElem?_eq_getElem hi',hdd,fun j o' hj ho' hd'=>?_⟩;have h7:=(List.all_eq_true.1 h6.2) j (List.mem_range.2 hj);rw [ho'] at h7;simp only [hd'] at h7
   simpa using h7
 have hnoput:∀ i:Nat,bP ks[i]?=false:=fun i=>by
  cases hk:ks[i]? with
  | none=>rfl
  | some k=>
   have:=hpl k (List.mem_of_getElem? hk);cases k with
   | put _ _ _ _=>exact this.elim
   | val v=>rfl
   | new _ _ _ _=>rfl
 have h4':sq l ks ks.length G=true:=by
  unfold sq at h4 ⊢;rw [List.all_eq_true] at h4 ⊢;intro i hi;have:=h4 i hi;rw [hnoput i];exact this
 exact EV ks.length ks rfl h2 hb h3 h4' (rn.plain (fun dj c t c2 hm=>hpl _ hm) (fun c t p c2 hm=>hpl _ hm)) (fun i o d _ _ _ hp=>by rw [hnoput i] at hp;cases hp) (h1 hdist) (h5 hdist)
theorem dZ {id:Nat} {l:List Oper} (hm:P.follows .mixedOrders=true) (hb:j5 l=true) (h:AW P E Q l G H [] l):CW P E (.region id l.toArray true) Q G H:=y9 hm (hY hb h)
theorem bR {id:Nat} {l:List Oper} {y:Code} (hm:P.follows .mixedOrders=true) (hb:j5 l=true) (h:AW P E (Pst.then (y.wp P Q.fn) Q) l G H [] l):CW P E (.seq (.region id l.toArray true) y) Q G H:=ar (dZ hm hb h)
/-! ### shifts -/
variable {dst:Nat} {ty t tx ty' e:TypeId} {pos:String} {af:Array Edge} {d d':TypeDesc} {z z':Value} {sz sz' by_ by':Nat} {x y:Operand} {u v:Value} {a b c:Int} {k kk:IntKind}
theorem Dx (hx:ev G x=some (.int .u64 a)) (hy:ev G y=some (.int .u64 1)) (hw:a.fdiv 2=c) (hN:Nat.blt dst E.N=true) (kk':RW P E ops Q rest ((dst,.int .u64 c)::G) H):
 RW P E ops Q (⟨some dst,.binOp .shr t x y ty',ty,pos,af,none⟩::rest) G H:=
 b8 hN (fun f w hf _=>by
  have hm:min (Int.toNat 1) (IntKind.bits .u64)=1:=by decide
  have h2:(2:Int) ^ 1=2:=by decide
  simp only [execOp,hf.eval hx,hf.eval hy,Sem.run_bind,aW,Result.andThen,binOp,Op.shift,hm,h2,hw]
  rfl) kk'
/-! ### a literal as a slice of one's own -/
theorem sR {n:Nat} {ps:List (Nat × Operand)} {vs:List (Nat × Value)} (es:List (List Value)) (hp:evp G ps=some vs) (hrun:∀ w,(Instr.buildSlice t n vs.toArray).run P w=.ok (.slice (some ⟨w.heap.size,0,none⟩) n n) (w.alloc (.cells es.flatten.toArray e)))
 (hn:es.length=n) (hes:∀ x∈es,x.length=sz) (hmx:n≤dK) (hN:Nat.blt dst E.N=true)
 (kk:∀ b,RW P E ops Q rest ((dst,.slice (some ⟨b,0,none⟩) n n)::G) (ax e sz (.slice (some ⟨b,0,none⟩) n n) es::H)):RW P E ops Q (⟨some dst,.buildSlice t n ps.toArray,ty,pos,af,none⟩::rest) G H:=
 eW rfl (fun a w hf hw=>by
  have h:=hf.evalp hp;have h2:ps.toArray.map (fun p=>(p.1,a.eval p.2))=vs.toArray:=by rw [← h];simp
  have h3:(execOp a.eval ⟨some dst,.buildSlice t n ps.toArray,ty,pos,af,none⟩)=(do pure (.value (← Instr.buildSlice t n vs.toArray))):=by
   simp only [execOp];rw [← h2]
  rw [h3];simp only [Sem.run_bind,hrun,Result.andThen];refine kk w.heap.size _ _ (hf.put hN _) (hw.fresh (cL.alloc _ _ _) (.inr ⟨w.heap.size,n,[],by rw [hn],⟨Nat.le_refl _,?_⟩,?_,hes,?_,by omega,hmx⟩))
  ·show _ < (w.heap.push _).size;simp
  ·show (w.heap.push _)[_]?=_;simp
  ·rw [eL hes,hn];simp)
/-! ### copies -/
/-! ### calls that turn some chunks; the others lie apart -/
section
variable {l:List Operand} {vs caps:List Value} {at_:Array TypeId} {f:FuncId} {fv:Operand}
theorem a8 {α:Type} {V:α→Value} {c:α→List HP} (C:List HP) {r:List HP} (hcall:∀ args w,(callFunc f args).run P w=.ok (.enter f args) w) (hl:evs G l=some vs)
 (hc:∀ w F,Mem.le E.ro (mem w (fun b=>¬ F b))→Sep C w F→Sep r w (fun b=>¬ F b)→iT P f vs w F V c) (hN:Nat.blt dst E.N=true)
 (kk:∀ x,RW P E ops Q rest ((dst,V x)::G) (c x++r)):RW P E ops Q (⟨some dst,.call ⟨.value (.func f),l.toArray,at_⟩,ty,pos,af,none⟩::rest) G (C++r):=
 jo hcall hl (fun a w hf hw=>by
  obtain ⟨F,hF,h1,h2⟩:=Sep.split hw.sep;refine (hc w F (fun B O v hv=>⟨⟨fun hb=>?_,(pV hw _ _ _ hv).1.2⟩,(pV hw _ _ _ hv).2⟩) h1 (Sep.up (fun b hb=>hb.2) h2)).mono ?_
  ·rcases (hF B hb).1 with h | h
   ·exact hv.1.1 h
   ·have:=World.block_lt_of_cell? E.w0 _ hv.2
    exact absurd this (Nat.not_lt.2 h)
  ·rintro e w' ⟨x,rfl,hx⟩
   exact kk x _ _ (hf.put hN _) (j7 hw.kp hF h2 hx))
end
end
/-! ### slices of one's own that read as data -/
theorem wx {e:TypeId} {t:K} {N:Mem} {sz by_:Nat} {v:Value} {es:List (List Value)} {xs:List t.V} {w:World} {F:Nat→Prop} (ho:(ax e sz v es).p w F) (hsz:sz=t.sz) (hF:Mem.le (mem w F) N) (hx:G7 (fun cs x=>Rd t N cs x) es xs) (hb:xs.length * by_≤br):Rd (.sl by_ t) N [v] xs:=by
 subst hsz;rcases ho with ⟨rfl,rfl⟩ | ⟨B,c,tl,rfl,hB,hc,hes,h1,h2,h3⟩
 ·have:xs=[]:=List.eq_nil_of_length_eq_zero hx.1.symm
  subst this;exact ⟨none,0,rfl,Nat.le_refl _,Nat.zero_le _,by simp,nv.nil⟩
 ·refine ⟨some ⟨B,0,none⟩,c,by rw [hx.1],by rw [← hx.1];exact h2,h3,hb,fun _=>⟨B,0,rfl,fun j x hj=>?_⟩⟩
  have hjl:j < es.length:=by rw [hx.1];exact (List.getElem?_eq_some_iff.1 hj).1
  have hej:es[j]?=some es[j]:=List.getElem?_eq_getElem hjl;refine ⟨es[j],hes _ (List.getElem_mem hjl),hx.2 j _ _ hej hj,fun i v hv=>hF _ _ _ ⟨⟨hB,dy hc _⟩,?_⟩⟩;have:=iP hes hej hv;refine a9 hc _ _ ?_ |> fun h=>by simpa using h
  rw [List.getElem?_append_left (List.getElem?_eq_some_iff.1 this).1];exact this
end
section
section
variable {P:Program} {E:Env} {ops:Array Oper} {Q:Pst} {K0:Act→World→Prop} {rest:List Oper} {G:List (Nat × Value)} {H:List HP}
end
theorem dY {P:Program} {E:Env} {ops:Array Oper} {Q:Pst} {rest:List Oper} {G:List (Nat × Value)} {H:List HP} {dst:Nat} {ty:TypeId} {pos:String} {af:Array Edge} {l:List Operand} {vs:List Value} {at_:Array TypeId} {f:FuncId} {α:Type} {V:α→Value} {c:α→List HP}
 (hcall:∀ args w,(callFunc f args).run P w=.ok (.enter f args) w) (hl:evs G l=some vs) (hc:∀ w,St E.w0 E.S H w→iT P f vs w No V c) (hN:Nat.blt dst E.N=true)
 (kk:∀ x,RW P E ops Q rest ((dst,V x)::G) (c x++H)):RW P E ops Q (⟨some dst,.call ⟨.value (.func f),l.toArray,at_⟩,ty,pos,af,none⟩::rest) G H:=
 jo hcall hl (fun a w hf hw=>(hc w hw).mono (by
  rintro e w' ⟨x,rfl,hx⟩
  exact kk x _ _ (hf.put hN _) (j7 (F:=No) hw.kp (fun b hb=>hb.elim) (Sep.up (fun b hb=>⟨hb,fun k=>k.elim⟩) hw.sep) hx)))
theorem uR {e:TypeId} {sz B c n:Nat} {es:List (List Value)} {cells:List Value} {w:World} {F:Nat→Prop} (h:(blk B cells e).p w F) (tl:List Value) (hc:cells=es.flatten++tl) (hn:es.length=n) (hs:∀ x∈es,x.length=sz) (hl:cells.length=c * sz) (h1:n≤c) (h2:c≤dK):(ax e sz (.slice (some ⟨B,0,none⟩) n c) es).p w F:=by
 subst hc;subst hn;exact .inr ⟨B,c,tl,rfl,h.1,h.2,hs,by rw [← List.length_append];exact hl,h1,h2⟩
end
section
def Gh:HP where
 p _ _:=True
 st:=fun _ _ k=>k
 up:=fun _ k=>k
def Er:Nat→List HP→Option HP
 | _,[]=>none
 | 0,x::_=>some x
 | n + 1,_::l=>Er n l
def FI:Nat→List HP→List HP
 | _,[]=>[]
 | 0,_::l=>Gh::l
 | n + 1,x::l=>x::FI n l
def lO:List Nat→List HP→List HP
 | [],_=>[]
 | i::is,H=>match Er i H with
  | none=>[]
  | some x=>x::lO is (FI i H)
theorem Dt {w:World}:∀ {i:Nat} {H:List HP} {x:HP} {A:Nat→Prop},Er i H=some x→Sep H w A→Sep (x::FI i H) w A:=by
 intro i;induction i with
 | zero=>
  intro H x A h hs;cases H with
  | nil=>cases h
  | cons y H=>
   simp only [Er,Option.some.injEq] at h;subst h;obtain ⟨F,hF,hp,hr⟩:=hs;exact ⟨F,hF,hp,No,fun b hb=>hb.elim,trivial,Sep.up (fun b hb=>⟨hb,fun k=>k.elim⟩) hr⟩
 | succ i ih=>
  intro H x A h hs;cases H with
  | nil=>cases h
  | cons y H=>
   obtain ⟨F,hF,hp,hr⟩:=hs;have:=ih (H:=H) h hr;exact Sep.swap ⟨F,hF,hp,this⟩
theorem Sep.take {w:World}:∀ (is:List Nat) {H:List HP} {A:Nat→Prop},Sep H w A→Sep (lO is H) w A:=by
 intro is;induction is with
 | nil=>intro H A _;trivial
 | cons i is ih=>
  intro H A hs;rw [lO];cases hn:Er i H with
  | none=>trivial
  | some x=>
   obtain ⟨F,hF,hp,hr⟩:=Dt hn hs;exact ⟨F,hF,hp,ih hr⟩
theorem St.take {w0 w:World} {S:Nat→Prop} {H:List HP} (is:List Nat) (h:St w0 S H w):St w0 S (lO is H) w:=⟨h.kp,Sep.take is h.sep⟩
section
variable {P:Program} {E:Env} {ops:Array Oper} {Q:Pst} {K0:Act→World→Prop} {rest:List Oper} {G:List (Nat × Value)} {H:List HP}
theorem yV (is:List Nat) (k:PW E K0 G (lO is H)):PW E K0 G H:=fun a w hf hw=>k a w hf (hw.take is)
theorem yL (is:List Nat) (k:RW P E ops Q rest G (lO is H)):RW P E ops Q rest G H:=yV is k
theorem DJ {c0:Code} (is:List Nat) (k:CW P E c0 Q G (lO is H)):CW P E c0 Q G H:=yV is k
end
theorem pt {P:Program} {E:Env} {ops:Array Oper} {Q:Pst} {rest:List Oper} {G:List (Nat × Value)} {H:List HP} {dst:Nat} {ty:TypeId} {pos:String} {af:Array Edge} {l:List Operand} {vs:List Value} {at_:Array TypeId} {f:FuncId} {α:Type} {V:α→Value} {c:α→List HP} (is:List Nat) (C:List HP) {r:List HP}
 (hl:evs G l=some vs) (hN:Nat.blt dst E.N=true) (hH:lO is H=C++r) (hcall:∀ args w,(callFunc f args).run P w=.ok (.enter f args) w)
 (hc:∀ w F,Mem.le E.ro (mem w (fun b=>¬ F b))→Sep C w F→Sep r w (fun b=>¬ F b)→iT P f vs w F V c)
 (kk:∀ x,RW P E ops Q rest ((dst,V x)::G) (c x++r)):RW P E ops Q (⟨some dst,.call ⟨.value (.func f),l.toArray,at_⟩,ty,pos,af,none⟩::rest) G H:=
 yL is (hH ▸ a8 C hcall hl hc hN kk)
theorem kc {E:Env} {G:List (Nat × Value)} {H:List HP} {ι:Type} {g:ι→List (Nat × Value)} {h:ι→List HP} {m:ι→Nat} {n:Nat} (j:ι) (is:List Nat) (hs:Sub (g j) G) (hh:lO is H=h j) (hm:m j < n):
 PW E (fun a w=>∃ j,Fr E.N E.ds a (g j)∧St E.w0 E.S (h j) w∧m j < n) G H:=fun a w hf hw=>⟨j,hf.sub hs,hh ▸ hw.take is,hm⟩
theorem lG {E:Env} {G:List (Nat × Value)} {H:List HP} {ι:Type} {g:ι→List (Nat × Value)} {h:ι→List HP} (j:ι) (is:List Nat) (hs:Sub (g j) G) (hh:lO is H=h j):
 PW E (fun a w=>∃ j,Fr E.N E.ds a (g j)∧St E.w0 E.S (h j) w) G H:=fun a w hf hw=>⟨j,hf.sub hs,hh ▸ hw.take is⟩
end
end Go.Proofs.YtbcdgcodnkgdoaaGreat
namespace Go.Proofs.YtbcdgcodnkgdoaaGreat
open Go Go.RowKit Go.MapKept
class KeyOK {κ:Type} (ι:κ→Value) (d:TypeDesc):Prop where
 inj:∀ a b,ι a=ι b→a=b
 isKey:∀ a,IsKey d (ι a)
instance DR:KeyOK Value.string .string:=⟨fun a b h=>by injection h,fun a=>trivial⟩
instance Ga (k:IntKind):KeyOK (Value.int k) (.int k):=⟨fun a b h=>by injection h,fun a=>rfl⟩
section
variable {κ α:Type} [DecidableEq κ]
def i2:List (κ × α)→κ→Option α
 | [],_=>none
 | (k',v)::r,k=>if k'=k then some v else i2 r k
def m9:List (κ × α)→κ→α→List (κ × α)
 | [],k,v=>[(k,v)]
 | (k',v')::r,k,v=>if k'=k then (k,v)::r else (k',v')::m9 r k v
theorem xU {D:List (κ × α)} {k:κ} (h:∀ x∈D,x.1≠k):i2 D k=none:=by
 induction D with
 | nil=>rfl
 | cons x D ih=>
  rw [i2,if_neg (h x (by simp))];exact ih fun y hy=>h y (by simp [hy])
theorem wA {D:List (κ × α)} {k:κ} (h:∀ x∈D,x.1≠k) (v:α):m9 D k v=D++[(k,v)]:=by
 induction D with
 | nil=>rfl
 | cons x D ih=>
  rw [m9,if_neg (h x (by simp)),ih fun y hy=>h y (by simp [hy])]
  rfl
theorem C3 {D:List (κ × α)} {k:κ} {u:α}:∀ {j:Nat},(D.map (·.1)).Nodup→D[j]?=some (k,u)→i2 D k=some u∧∀ v,m9 D k v=D.set j (k,v):=by
 induction D with
 | nil=>intro j _ h;simp at h
 | cons x D ih=>
  intro j hn hj;rw [List.map_cons,List.nodup_cons] at hn;cases j with
  | zero=>
   simp only [List.getElem?_cons_zero,Option.some.injEq] at hj;subst hj;exact ⟨by rw [i2,if_pos rfl],fun v=>by rw [m9,if_pos rfl];rfl⟩
  | succ j=>
   simp only [List.getElem?_cons_succ] at hj;have hne:¬ x.1=k:=fun he=>hn.1 (List.mem_map.2 ⟨_,List.mem_of_getElem? hj,he.symm⟩);obtain ⟨h1,h2⟩:=ih hn.2 hj;exact ⟨by rw [i2,if_neg hne,h1],fun v=>by rw [m9,if_neg hne,h2];rfl⟩
theorem tS (D:List (κ × α)) (k k':κ) (v:α):i2 (m9 D k v) k'=if k=k' then some v else i2 D k':=by
 induction D with
 | nil=>rw [m9,i2];rfl
 | cons x D ih=>
  rw [m9];by_cases h:x.1=k
  ·rw [if_pos h,i2,i2]
   by_cases h2:k=k'
   ·rw [if_pos h2,if_pos h2]
   ·rw [if_neg h2,if_neg h2,if_neg (fun e=>h2 (h.symm.trans e))]
  ·rw [if_neg h,i2,i2,ih]
   by_cases h3:x.1=k'
   ·rw [if_pos h3,if_pos h3,if_neg (fun e=>h (h3.trans e.symm))]
   ·rw [if_neg h3,if_neg h3]
end
def DF {κ α:Type} (w:World) (ι:κ→Value) (υ:α→Value) (b:Nat) (D:List (κ × α)):Prop:=∃ es clock,w.heap[b]?=some (.map es clock)∧Stamped es clock∧es.toList.map (fun e=>(e.key,e.val))=D.map (fun x=>(ι x.1,υ x.2))
def uX {κ α:Type} (ι:κ→Value) (υ:α→Value) (d:TypeDesc) (b:Nat) (D:List (κ × α)):HP where
 p w F:=F b∧DF w ι υ b D
 st:=fun h _ ⟨hb,es,clock,h1,h2⟩=>⟨hb,es,clock,(h b hb (Array.getElem?_eq_some_iff.1 h1).1).trans h1,h2⟩
 up:=fun h ⟨hb,k⟩=>⟨h b hb,k⟩
section
variable {κ α:Type} {ι:κ→Value} {υ:α→Value} {d:TypeDesc} {D:List (κ × α)} {es:Array MapEntry} {clock:Nat}
theorem zZ [KO:KeyOK ι d] (h:es.toList.map (fun e=>(e.key,e.val))=D.map (fun x=>(ι x.1,υ x.2))):∀ x∈es.toList,IsKey d x.key:=by
 intro x hx;have:(x.key,x.val)∈D.map (fun x=>(ι x.1,υ x.2)):=by rw [← h];exact List.mem_map.2 ⟨x,hx,rfl⟩
 obtain ⟨y,_,he⟩:=List.mem_map.1 this;injection he with h1 h2;rw [← h1];exact KO.isKey _
theorem xl (h:es.toList.map (fun e=>(e.key,e.val))=D.map (fun x=>(ι x.1,υ x.2))) (hs:Stamped es clock):(D.map (·.1)).Nodup:=by
 have h1:es.toList.map (·.key)=D.map fun x=>ι x.1:=by
  have:=congrArg (List.map Prod.fst) h;rw [List.map_map,List.map_map] at this;exact this
 have h2:=hs.2.2;rw [h1,show (D.map fun x=>ι x.1)=(D.map (·.1)).map ι from (List.map_map ..).symm] at h2;exact List.Pairwise.of_map ι (fun a b hab he=>hab (by rw [he])) h2
theorem tE [DecidableEq κ] [KO:KeyOK ι d] (h:es.toList.map (fun e=>(e.key,e.val))=D.map (fun x=>(ι x.1,υ x.2))) (hs:Stamped es clock) (k:κ):
 (Instr.findNow d (ι k) es.toList 0=some none∧i2 D k=none∧(∀ x∈es.toList,x.key≠ι k)∧∀ v,m9 D k v=D++[(k,v)]) ∨
 ∃ j e u,Instr.findNow d (ι k) es.toList 0=some (some (j,υ u))∧es[j]?=some e∧e.key=ι k∧e.val=υ u∧i2 D k=some u∧∀ v,m9 D k v=D.set j (k,v):=by
 rcases findNow_spec (KO.isKey k) es.toList 0 (zZ h) with ⟨h1,h2⟩ | ⟨j,e,h1,h2,h3⟩
 ·have hn:∀ x∈D,x.1≠k:=fun x hx he=>by
   have:(ι x.1,υ x.2)∈es.toList.map (fun e=>(e.key,e.val)):=by rw [h];exact List.mem_map.2 ⟨x,hx,rfl⟩
   obtain ⟨y,hy,he'⟩:=List.mem_map.1 this;injection he' with h4 h5;exact h2 y hy (by rw [h4,he])
  exact .inl ⟨h1,xU hn,h2,fun v=>wA hn v⟩
 ·have hj:(D.map (fun x=>(ι x.1,υ x.2)))[j]?=some (e.key,e.val):=by rw [← h,List.getElem?_map,h2];rfl
  rw [List.getElem?_map] at hj;cases hd:D[j]? with
  | none=>rw [hd] at hj;cases hj
  | some x=>
   rw [hd] at hj;simp only [Option.map_some,Option.some.injEq,Prod.mk.injEq] at hj;have hk:x.1=k:=KO.inj _ _ (hj.1.trans h3);obtain ⟨x1,x2⟩:=x;simp only at hk hj;subst hk;obtain ⟨g1,g2⟩:=C3 (xl h hs) hd;rw [Nat.zero_add,← hj.2] at h1;exact .inr ⟨j,e,x2,h1,by rw [← Array.getElem?_toList];exact h2,h3,hj.2.symm,g1,g2⟩
end
section
variable {P:Program} {E:Env} {ops:Array Oper} {Q:Pst} {rest:List Oper} {G:List (Nat × Value)} {H:List HP}
variable {dst:Nat} {ty:TypeId} {pos:String} {af:Array Edge} {t kt et:TypeId} {kd ed:TypeDesc} {z kz ez v:Value} {sz by_ ksz kby esz eby:Nat} {x y u:Operand}
variable {κ α:Type} {ι:κ→Value} {υ:α→Value} {D:List (κ × α)} {b:Nat} {k:κ}
theorem m8 [DecidableEq κ] [T:Ty P t (.map kt et) z sz by_] [TK:Ty P kt kd kz ksz kby] [TE:Ty P et ed ez esz eby] [KO:KeyOK ι kd] {w:World} {a0:α} (hz:ez=υ a0) (h:DF w ι υ b D) (k:κ) (ok:Bool):
 (Instr.lookup t (.map (some b)) (ι k) ok).run P w=.ok (if ok then .tuple #[υ ((i2 D k).getD a0),.bool (i2 D k).isSome] else υ ((i2 D k).getD a0)) w:=by
 obtain ⟨es,clock,hb,hs,hm⟩:=h;rcases tE (KO:=KO) hm hs k with ⟨h1,h2,_,_⟩ | ⟨j,e,a,h1,_,_,_,h2,_⟩
 ·cases ok <;> simp [Instr.lookup,T.runUnd,Go.MapKept.run_getObj_map hb,Go.MapKept.run_checkKey TK.und (KO.isKey k),Go.MapKept.run_findKey TK.und h1,TE.runZero,Result.andThen,h2,hz]
 ·cases ok <;> simp [Instr.lookup,T.runUnd,Go.MapKept.run_getObj_map hb,Go.MapKept.run_checkKey TK.und (KO.isKey k),Go.MapKept.run_findKey TK.und h1,Result.andThen,h2]
theorem yR [DecidableEq κ] [T:Ty P t (.map kt et) z sz by_] [TK:Ty P kt kd kz ksz kby] [TE:Ty P et ed ez esz eby] [KO:KeyOK ι kd] (pre:List HP) {r:List HP} {a0:α} (hz:ez=υ a0) (hx:ev G x=some (.map (some b))) (hy:ev G y=some (ι k)) (hN:Nat.blt dst E.N=true)
 (kk:RW P E ops Q rest ((dst,υ ((i2 D k).getD a0))::G) (pre++uX ι υ kd b D::r)):RW P E ops Q (⟨some dst,.lookup t x y false,ty,pos,af,none⟩::rest) G (pre++uX ι υ kd b D::r):=
 b8 hN (fun a w hf hw=>by
  obtain ⟨F,hp,_⟩:=hw.get;simp [execOp,hf.eval hx,hf.eval hy,m8 hz hp.2 k false,Result.andThen]) kk
theorem St.setobj {w0 w:World} {S:Nat→Prop} {pre r:List HP} {c d:HP} (h:St w0 S (pre++c::r) w) {B:Nat} {o:Obj} (hB:∀ F,c.p w F→F B) (hd:∀ F,c.p w F→d.p { w with heap:=w.heap.setIfInBounds B o } F):St w0 S (pre++d::r) { w with heap:=w.heap.setIfInBounds B o }:=by
 obtain ⟨F,hF,hc,hr⟩:=fh h.sep;have hs:(w.heap.setIfInBounds B o).size=w.heap.size:=by simp
 have hne:∀ i,i≠B→(w.heap.setIfInBounds B o)[i]?=w.heap[i]?:=fun i hi=>by simp [Ne.symm hi]
 refine ⟨h.kp.trans (S2:=fun i=>i=B) ⟨rfl,rfl,rfl,by show _≤(w.heap.setIfInBounds B o).size;rw [hs];exact Nat.le_refl _,fun i _ hn=>hne i hn⟩ (fun i hi=>hi ▸ (hF B (hB F hc)).1),Sep.push ⟨F,fun b hb=>⟨(hF b hb).1,by show _ < (w.heap.setIfInBounds B o).size;rw [hs];exact (hF b hb).2⟩,hd F hc,?_⟩⟩;exact Sep.keep (fun i hi _=>hne i (fun e=>hi.2 (e ▸ hB F hc))) (by show _≤(w.heap.setIfInBounds B o).size;rw [hs];exact Nat.le_refl _) hr
theorem vB [T:Ty P t (.map kt et) z sz by_] (ι:κ→Value) (υ:α→Value) (kd:TypeDesc) {res:Option Operand} (hres:∀ o,res=some o→∃ n:Int,ev G o=some (.int .i64 n)) (hN:Nat.blt dst E.N=true)
 (kk:∀ b,RW P E ops Q rest ((dst,.map (some b))::G) (uX ι υ kd b ([]:List (κ × α))::H)):RW P E ops Q (⟨some dst,.makeMap t res,ty,pos,af,none⟩::rest) G H:=
 eW rfl (fun a w hf hw=>by
  have hrun:(execOp a.eval ⟨some dst,.makeMap t res,ty,pos,af,none⟩).run P w=.ok (.value (.map (some w.heap.size))) (w.alloc (.map #[] 0)):=by
   cases res with
   | none=>simp [execOp,Instr.makeMap,newObj,Result.andThen];rfl
   | some o=>
    obtain ⟨n,hn⟩:=hres o rfl;simp [execOp,Instr.makeMap,newObj,hf.eval hn,T.runUnd,asInt,asIntOf,Result.andThen];rfl
  rw [hrun];refine kk w.heap.size _ _ (hf.put hN _) (hw.fresh (cL.alloc _ _ _) ⟨⟨Nat.le_refl _,?_⟩,#[],0,?_,stamped_empty 0,rfl⟩)
  ·show _ < (w.heap.push _).size;simp
  ·exact (heap_alloc w _).1)
theorem map_set {es:Array MapEntry} {j:Nat} {e:MapEntry} {clock:Nat} {kd:TypeDesc} [KO:KeyOK ι kd] {a:α} (hm:es.toList.map (fun e=>(e.key,e.val))=D.map (fun x=>(ι x.1,υ x.2))) (hs:Stamped es clock) (hj:es[j]?=some e) (hk:e.key=ι k):
 Stamped (es.modify j fun e=>{ e with key:=ι k,val:=υ a }) clock∧(es.modify j fun e=>{ e with key:=ι k,val:=υ a }).toList.map (fun e=>(e.key,e.val))=(D.set j (k,a)).map (fun x=>(ι x.1,υ x.2)):=by
 refine ⟨stamped_modify hs _ _ (fun _ _=>rfl) (fun e' _ he'=>by rw [hj] at he';cases he';exact hk.symm),?_⟩;rw [List.map_set,← hm];apply List.ext_getElem?;intro i;simp only [List.getElem?_map,Array.getElem?_toList,Array.getElem?_modify,List.getElem?_set,List.length_map,Array.length_toList];by_cases hij:j=i
 ·subst hij
  have hlt:=(Array.getElem?_eq_some_iff.1 hj).1;simp [hlt]
 ·simp [hij]
theorem re [DecidableEq κ] [T:Ty P t (.map kt et) z sz by_] [TK:Ty P kt kd kz ksz kby] [KO:KeyOK ι kd] (pre:List HP) {r:List HP} {a:α} {dst:Option Nat} (hdst:dst=none) (hx:ev G x=some (.map (some b))) (hy:ev G y=some (ι k)) (hu:ev G u=some (υ a))
 (kk:RW P E ops Q rest G (pre++uX ι υ kd b (m9 D k a)::r)):RW P E ops Q (⟨dst,.mapUpdate t x y u,ty,pos,af,none⟩::rest) G (pre++uX ι υ kd b D::r):=by
 subst hdst
 exact eW rfl (fun f w hf hw=>by
  obtain ⟨F,⟨_,es,clock,hb,hs,hm⟩,_⟩:=hw.get;rcases tE (KO:=KO) hm hs k with ⟨h1,_,h2,h3⟩ | ⟨j,e,u0,h1,hj,hk,_,_,h3⟩
  ·have hrun:(execOp f.eval ⟨none,.mapUpdate t x y u,ty,pos,af,none⟩).run P w=.ok .skip { w with heap:=w.heap.setIfInBounds b (.map (es.push { key:=ι k,val:=υ a,born:=clock }) (clock + 1)) }:=by
    simp [execOp,hf.eval hx,hf.eval hy,hf.eval hu,Instr.mapUpdate,T.runUnd,Go.MapKept.run_getObj_map hb,Go.MapKept.run_checkKey TK.und (KO.isKey k),Go.MapKept.run_findKey TK.und h1,Go.MapKept.run_setObj_map _ hb,Result.andThen]
   rw [hrun];refine kk _ _ (hf.skip _) (hw.setobj (fun F hp=>hp.1) (fun F hp=>⟨hp.1,_,_,(heap_set hb).1,stamped_push hs h2,?_⟩));rw [h3,Array.toList_push,List.map_append,List.map_append,hm];rfl
  ·have hrun:(execOp f.eval ⟨none,.mapUpdate t x y u,ty,pos,af,none⟩).run P w=.ok .skip { w with heap:=w.heap.setIfInBounds b (.map (es.modify j fun e=>{ e with key:=ι k,val:=υ a }) clock) }:=by
    simp [execOp,hf.eval hx,hf.eval hy,hf.eval hu,Instr.mapUpdate,T.runUnd,Go.MapKept.run_getObj_map hb,Go.MapKept.run_checkKey TK.und (KO.isKey k),Go.MapKept.run_findKey TK.und h1,hj,hk,Go.MapKept.run_keyThatStays (KO.isKey k),Go.MapKept.run_setObj_map _ hb,Result.andThen]
   rw [hrun];obtain ⟨g1,g2⟩:=map_set (KO:=KO) (a:=a) hm hs hj hk;exact kk _ _ (hf.skip _) (hw.setobj (fun F hp=>hp.1) (fun F hp=>⟨hp.1,_,_,(heap_set hb).1,g1,by rw [h3];exact g2⟩)))
end
end Go.Proofs.YtbcdgcodnkgdoaaGreat
namespace Go.Proofs.YtbcdgcodnkgdoaaGreat
open Go Go.RowKit
section
section
variable {P:Program} {E:Env} {ops:Array Oper} {Q:Pst} {rest:List Oper} {G:List (Nat × Value)} {H:List HP}
variable {dst:Nat} {ty:TypeId} {pos:String} {af:Array Edge} {t e:TypeId} {d:TypeDesc} {z z':Value} {sz by_ sz' by':Nat} {x y:Operand}
end
theorem enc (b c:Nat) (h:c≤dK):∃ n,b=n / 9223372036854775808∧c=n % 9223372036854775808:=⟨b * 9223372036854775808 + c,by unfold dK at h;omega,by unfold dK at h;omega⟩
/-! ### data by hand -/
theorem D8 {M:Mem} {by_ b:Nat} {t:K} {cs:List Value} {x:t.V} (hc:∀ (j:Nat) (v:Value),cs[j]?=some v→M b j v) (hx:Rd t M cs x) (hb:Nat.ble by_ br=true):Rd (.sl by_ t) M [.slice (some ⟨b,0,none⟩) 1 1] ([x]:List t.V):=by
 refine ⟨some ⟨b,0,none⟩,1,rfl,Nat.le_refl _,by decide,by simpa [Nat.ble_eq] using hb,fun _=>⟨b,0,rfl,fun j y hj=>?_⟩⟩;cases j with
 | zero=>
  simp only [List.getElem?_cons_zero,Option.some.injEq] at hj;subst hj;exact ⟨cs,hx.len,hx,fun i v hv=>by simpa using hc i v hv⟩
 | succ j=>simp at hj
end
section
def rx:(t:K)→World→(Nat→Prop)→List Value→t.V→Prop
 | .int k,_,_,cs,x=>cs=[.int k x]∧inR k x
 | .bool,_,_,cs,x=>cs=[.bool x]
 | .str,_,_,cs,x=>cs=[.string x]∧x.size≤br
 | .sl by_ t,w,F,cs,x=>∃ (v:Value) (e:TypeId) (es:List (List Value)) (F0:Nat→Prop) (G:Nat→Nat→Prop),cs=[v]∧(ax e t.sz v es).p w F0∧(∀ b,F0 b→F b)∧List.length (α:=t.V) x * by_≤br∧es.length=List.length (α:=t.V) x∧(∀ i b,G i b→F b∧¬ F0 b)∧(∀ i j b,i≠j→G i b→¬ G j b) ∧
  ∀ (i:Nat) (cs':List Value) (y:t.V),es[i]?=some cs'→(show List t.V from x)[i]?=some y→rx t w (G i) cs' y
 | .pr a b,w,F,cs,x=>∃ (c1 c2:List Value) (G:Nat→Prop),cs=c1++c2∧(∀ b,G b→F b)∧rx a w G c1 x.1∧rx b w (fun b=>F b∧¬ G b) c2 x.2
theorem rx.up:∀ {t:K} {w:World} {F F':Nat→Prop} {cs:List Value} {x:t.V},(∀ b,F b→F' b)→rx t w F cs x→rx t w F' cs x:=by
 intro t;induction t with
 | int k=>intro _ _ _ _ _ _ h;exact h
 | bool=>intro _ _ _ _ _ _ h;exact h
 | str=>intro _ _ _ _ _ _ h;exact h
 | sl e t ih=>
  intro w F F' cs x hF h;obtain ⟨v,e,es,F0,G,h1,h2,h3,h4,h5,h6,h7,h8⟩:=h;exact ⟨v,e,es,F0,G,h1,h2,fun b hb=>hF b (h3 b hb),h4,h5,fun i b hb=>⟨hF b (h6 i b hb).1,(h6 i b hb).2⟩,h7,h8⟩
 | pr a b iha ihb=>
  intro w F F' cs x hF h;obtain ⟨c1,c2,G,h1,h2,h3,h4⟩:=h;exact ⟨c1,c2,G,h1,fun b hb=>hF b (h2 b hb),h3,ihb (fun b hb=>⟨hF b hb.1,hb.2⟩) h4⟩
theorem rx.st:∀ {t:K} {w w':World} {F:Nat→Prop} {cs:List Value} {x:t.V},(∀ b,F b→b < w.heap.size→w'.heap[b]?=w.heap[b]?)→w.heap.size≤w'.heap.size→rx t w F cs x→rx t w' F cs x:=by
 intro t;induction t with
 | int k=>intro _ _ _ _ _ _ _ h;exact h
 | bool=>intro _ _ _ _ _ _ _ h;exact h
 | str=>intro _ _ _ _ _ _ _ h;exact h
 | sl e t ih=>
  intro w w' F cs x hF hs h;obtain ⟨v,e,es,F0,G,h1,h2,h3,h4,h5,h6,h7,h8⟩:=h;exact ⟨v,e,es,F0,G,h1,(ax e t.sz v es).st (fun b hb=>hF b (h3 b hb)) hs h2,h3,h4,h5,h6,h7,fun i cs' y hc hy=>ih (fun b hb=>hF b (h6 i b hb).1) hs (h8 i cs' y hc hy)⟩
 | pr a b iha ihb=>
  intro w w' F cs x hF hs h;obtain ⟨c1,c2,G,h1,h2,h3,h4⟩:=h;exact ⟨c1,c2,G,h1,h2,iha (fun b hb=>hF b (h2 b hb)) hs h3,ihb (fun b hb=>hF b hb.1) hs h4⟩
theorem yY:∀ {t:K} {w:World} {F:Nat→Prop} {cs:List Value} {x:t.V},rx t w F cs x→Rd t (mem w F) cs x:=by
 intro t;induction t with
 | int k=>intro _ _ _ _ h;exact h
 | bool=>intro _ _ _ _ h;exact h
 | str=>intro _ _ _ _ h;exact h
 | sl e t ih=>
  intro w F cs x h;obtain ⟨v,e,es,F0,G,rfl,h2,h3,h4,h5,h6,h7,h8⟩:=h;exact wx h2 rfl (n6 h3) ⟨h5,fun i cs' y hc hy=>(ih (h8 i cs' y hc hy)).mono (n6 fun b hb=>(h6 i b hb).1)⟩ h4
 | pr a b iha ihb=>
  intro w F cs x h;obtain ⟨c1,c2,G,rfl,h2,h3,h4⟩:=h;exact ⟨c1,c2,rfl,(iha h3).mono (n6 h2),(ihb h4).mono (n6 fun b hb=>hb.1)⟩
def i5 (t:K) (cs:List Value) (x:t.V):HP where
 p w F:=rx t w F cs x
 st:=fun h hs k=>k.st h hs
 up:=fun h k=>k.up h
def C8 (o:Option Nat) (t:K) (es:List (List Value)) (xs:List t.V):HP where
 p w F:=es.length=xs.length∧∃ G:Nat→Nat→Prop,(∀ i b,G i b→F b)∧(∀ i j b,i≠j→G i b→¬ G j b)∧∀ (i:Nat) (cs:List Value) (y:t.V),o≠some i→es[i]?=some cs→xs[i]?=some y→rx t w (G i) cs y
 st:=fun h hs ⟨h1,G,h2,h3,h4⟩=>⟨h1,G,h2,h3,fun i cs y ho hc hy=>(h4 i cs y ho hc hy).st (fun b hb=>h b (h2 i b hb)) hs⟩
 up:=fun h ⟨h1,G,h2,h3,h4⟩=>⟨h1,G,fun i b hb=>h b (h2 i b hb),h3,h4⟩
section
variable {t:K} {w:World} {A F F2:Nat→Prop} {es:List (List Value)} {xs:List t.V} {cs:List Value} {x:t.V} {r:List HP}
theorem rD {by_:Nat} {v:Value} {e:TypeId} {sz:Nat} (hsz:sz=t.sz) (hb:xs.length * by_≤br) (h:Sep (ax e sz v es::C8 none t es xs::r) w A):Sep (i5 (.sl by_ t) [v] xs::r) w A:=by
 subst hsz;obtain ⟨F,hF,hp,F2,hF2,⟨h1,G,h2,h3,h4⟩,hr⟩:=h;exact ⟨fun b=>F b∨F2 b,fun b hb=>hb.elim (hF b) (fun k=>⟨(hF2 b k).1.1,(hF2 b k).2⟩),⟨v,e,es,F,G,rfl,hp,fun b hb=>.inl hb,hb,h1,fun i b hb=>⟨.inr (h2 i b hb),(hF2 b (h2 i b hb)).1.2⟩,h3,fun i cs y hc hy=>h4 i cs y (by simp) hc hy⟩,Sep.up (fun b hb=>⟨hb.1.1,fun k=>k.elim hb.1.2 hb.2⟩) hr⟩
end
section
variable {E:Env} {K0:Act→World→Prop} {G:List (Nat × Value)} {H H':List HP}
theorem fI (hs:∀ w A,Sep H w A→Sep H' w A) (k:PW E K0 G H'):PW E K0 G H:=fun a w hf hw=>k a w hf ⟨hw.kp,hs _ _ hw.sep⟩
theorem mP {P:Program} {ops:Array Oper} {Q:Pst} {rest:List Oper} (H':List HP) (hs:∀ w A,Sep H w A→Sep H' w A) (k:RW P E ops Q rest G H'):RW P E ops Q rest G H:=fI hs k
theorem cI {P:Program} {Q:Pst} {c:Code} (H':List HP) (hs:∀ w A,Sep H w A→Sep H' w A) (k:CW P E c Q G H'):CW P E c Q G H:=fI hs k
end
end
section
theorem sj {es:List (List Value)} {sz:Nat} (h:∀ x∈es,x.length=sz) {i:Nat} {cs:List Value} (hx:es[i]?=some cs) {j:Nat} {v:Value} (hj:j < cs.length):es.flatten.set (i * sz + j) v=(es.set i (cs.set j v)).flatten:=by
 induction es generalizing i with
 | nil=>simp at hx
 | cons y es ih=>
  have hy:y.length=sz:=h y (by simp);rw [List.flatten_cons];cases i with
  | zero=>
   simp at hx;subst hx;rw [Nat.zero_mul,Nat.zero_add,List.set_append_left _ _ hj]
   rfl
  | succ i=>
   rw [List.set_append_right _ _ (by rw [hy,Nat.add_mul];omega),hy,show (i + 1) * sz + j - sz=i * sz + j from by rw [Nat.add_mul];omega,ih (fun z hz=>h z (by simp [hz])) (by simpa using hx)]
   rfl
theorem wQ {w0 w:World} {S:Nat→Prop} {pre r:List HP} {e:TypeId} {sz B n c:Nat} {es:List (List Value)} (h:St w0 S (pre++ax e sz (.slice (some ⟨B,0,none⟩) n c) es::r) w) {i:Nat} {cs:List Value} (hi:es[i]?=some cs):bj w B (i * sz) cs:=by
 have hl:∀ x∈es,x.length=sz:=by
  rcases iN h with ⟨h1,_⟩ | ⟨_,_,_,_,_,_,h1⟩
  ·cases h1
  ·exact h1
 intro j v hv;have:=wP h (i * sz + j) v (iP hl hi hv)
 simpa using this
section
variable {P:Program} {E:Env} {ops:Array Oper} {Q:Pst} {rest:List Oper} {G:List (Nat × Value)} {H:List HP} {K0:Act→World→Prop}
variable {dst:Nat} {ty:TypeId} {pos:String} {af:Array Edge} {t e:TypeId} {d:TypeDesc} {z:Value} {sz n by_:Nat} {x y:Operand} {v:Value}
theorem AZ {ι:Type} (φ:ι→Prop) (H':ι→List HP) (hs:∀ w A,Sep H w A→∃ i,φ i∧Sep (H' i) w A) (k:∀ i,φ i→PW E K0 G (H' i)):PW E K0 G H:=fun a w hf hw=>by
 obtain ⟨i,hi,h⟩:=hs _ _ hw.sep;exact k i hi a w hf ⟨hw.kp,h⟩
theorem iW {ι:Type} {c:Code} (φ:ι→Prop) (H':ι→List HP) (hs:∀ w A,Sep H w A→∃ i,φ i∧Sep (H' i) w A) (k:∀ i,φ i→CW P E c Q G (H' i)):CW P E c Q G H:=AZ φ H' hs k
theorem az [T:Ty P t d z sz by_] (pre:List HP) {r:List HP} {B O c i j:Nat} {sz':Nat} {es:List (List Value)} {cs:List Value} (hx:ev G x=some (.pointer (some ⟨B,O,none⟩))) (hO:O=i * sz' + j) (hi:es[i]?=some cs) (hv:cs[j]?=some v) (hd:bH d=false) (hN:Nat.blt dst E.N=true)
 (k:RW P E ops Q rest ((dst,v)::G) (pre++ax e sz' (.slice (some ⟨B,0,none⟩) n c) es::r)):RW P E ops Q (⟨some dst,.load t x,ty,pos,af,none⟩::rest) G (pre++ax e sz' (.slice (some ⟨B,0,none⟩) n c) es::r):=
 iH hx hd hN (fun w hw=>by rw [hO];exact wQ hw hi j v hv) k
theorem oE [T:Ty P t d z sz by_] (pre:List HP) {r:List HP} {B O c i:Nat} {es:List (List Value)} {cs:List Value} (hx:ev G x=some (.pointer (some ⟨B,O,none⟩))) (hO:O=i * sz) (hi:es[i]?=some cs) (hs:cs.length=sz) (hd:bH d=true) (hN:Nat.blt dst E.N=true)
 (k:RW P E ops Q rest ((dst,.agg cs.toArray)::G) (pre++ax e sz (.slice (some ⟨B,0,none⟩) n c) es::r)):RW P E ops Q (⟨some dst,.load t x,ty,pos,af,none⟩::rest) G (pre++ax e sz (.slice (some ⟨B,0,none⟩) n c) es::r):=
 fj hx hd hs hN (fun w hw=>by rw [hO];exact wQ hw hi) k
theorem aM [T:Ty P t d z 1 by_] (pre:List HP) {r:List HP} {B O c i j:Nat} {es:List (List Value)} {cs:List Value} (hx:ev G x=some (.pointer (some ⟨B,O,none⟩))) (hO:O=i * sz + j) (hy:ev G y=some v) (hv:v.cells=#[v]) (h1:v.oneCell'=true) (hi:es[i]?=some cs) (hj:j < cs.length)
 (k:RW P E ops Q rest G (pre++ax e sz (.slice (some ⟨B,0,none⟩) n c) (es.set i (cs.set j v))::r)):RW P E ops Q (⟨none,.store t x y,ty,pos,af,none⟩::rest) G (pre++ax e sz (.slice (some ⟨B,0,none⟩) n c) es::r):=by
 refine AX pre (fun tl:List Value=>s5 (s9 (n=es.length∧(∀ x∈es,x.length=sz)∧es.flatten.length + tl.length=c * sz∧es.length≤c∧c≤dK)) (blk B (es.flatten++tl) e)) (fun w F hp=>?_) fun tl=>?_
 ·rcases hp with ⟨hp,_⟩ | ⟨B',c',tl,h1,h2,h3,h4,h5,h6,h7⟩
  ·cases hp
  ·simp only [Value.slice.injEq,Option.some.injEq,Addr.mk.injEq] at h1
   obtain ⟨⟨rfl,_⟩,hn,rfl⟩:=h1;exact ⟨tl,fun _=>False,fun _ h=>h.elim,⟨hn,h4,h5,h6,h7⟩,⟨⟨h2,fun h=>h.elim⟩,h3⟩⟩
 refine yK pre ?_;refine yM pre fun ⟨hn,h4,h5,h6,h7⟩=>?_;have hl:i * sz + j < es.flatten.length:=(List.getElem?_eq_some_iff.1 (iP h4 hi (List.getElem?_eq_getElem hj))).1;have hcs:cs.length=sz:=h4 cs (List.mem_of_getElem? hi);refine bQ pre rfl hx hy hv h1 (by rw [hO,List.length_append];omega) ?_;refine mQ pre _ (fun w F hp=>uR hp tl ?_ (by rw [List.length_set];exact hn.symm) (fun x hx=>?_) (by rw [List.length_set,List.length_append];exact h5) (by omega) h7) k
 ·rw [hO,List.set_append_left _ _ hl,sj h4 hi hj]
 ·rcases List.mem_or_eq_of_mem_set hx with h | h
  ·exact h4 x h
  ·rw [h,List.length_set];exact hcs
end
section
variable {t:K} {w:World} {A:Nat→Prop} {es:List (List Value)} {xs:List t.V} {cs:List Value} {r:List HP}
end
section
variable {P:Program} {E:Env} {ops:Array Oper} {Q:Pst} {rest:List Oper} {G:List (Nat × Value)} {H:List HP} {K0:Act→World→Prop}
end
section
variable {P:Program} {E:Env} {ops:Array Oper} {Q:Pst} {rest:List Oper} {G:List (Nat × Value)} {K0:Act→World→Prop}
variable {t:K} {es:List (List Value)} {xs:List t.V} {cs:List Value} {x:t.V} {r:List HP} {i:Nat}
end
end
set_option maxRecDepth 10000
section
abbrev kI:K:=.int .i64
abbrev cO:K:=.sl 8 kI
abbrev en:K:=.sl 24 cO
abbrev C0:K:=.pr kI (.pr kI cO)
abbrev tN:K:=.sl 40 C0
abbrev kTh:K:=.pr kI (.pr en (.pr tN en))
abbrev i3:=Int × Int × List Int
abbrev ThV:=Int × List (List Int) × List i3 × List (List Int)
abbrev GR (t:ThV):Int:=t.1
abbrev aH (t:ThV):List (List Int):=t.2.1
abbrev ao (t:ThV):List i3:=t.2.2.1
abbrev aN (t:ThV):List (List Int):=t.2.2.2
abbrev aK (b:Nat):Value:=.pointer (some ⟨b,0,none⟩)
abbrev G1 (x:Int):Value:=.int .i64 x
abbrev bY (x:Int):List Value:=[.int .i64 x]
theorem ky {M:Mem} {by_:Nat} {t:K} {cs:List Value} {xs:List t.V} (h:Rd (.sl by_ t) M cs xs):∃ A c,cs=[.slice A xs.length c]:=by
 obtain ⟨A,c,he,_⟩:=h;exact ⟨A,c,he⟩
theorem aP {M:Mem} {by_:Nat} {t:K} {cs:List Value} {xs:List t.V} (h:Rd (.sl by_ t) M cs xs):xs.length * by_≤br:=by
 obtain ⟨A,c,_,_,_,h4,_⟩:=h;exact h4
theorem wd {M:Mem} {by_:Nat} {t:K} {A:Option Addr} {n c:Nat} {xs:List t.V} (h:Rd (.sl by_ t) M [.slice A n c] xs) {i:Nat} {x:t.V} (hi:xs[i]?=some x):
 ∃ B O cs,A=some ⟨B,O,none⟩∧cs.length=t.sz∧Rd t M cs x∧∀ (j:Nat) (v:Value),cs[j]?=some v→M B (O + i * t.sz + j) v:=by
 obtain ⟨A',c',he,_,_,_,hr⟩:=h;have:=(List.cons.inj he).1;injection this with h1 h2 h3;subst h1;exact hr.get hi
theorem aR {M:Mem} {A:Option Addr} {n c:Nat} {l:List Int} (h:Rd cO M [.slice A n c] l) {i:Nat} {x:Int} (hi:l[i]?=some x):∃ B O,A=some ⟨B,O,none⟩∧M B (O + i) (.int .i64 x)∧inR .i64 x:=by
 obtain ⟨B,O,cs,h1,_,h2,h3⟩:=wd h hi;obtain ⟨rfl,h4⟩:=h2;exact ⟨B,O,h1,by have:=h3 0 _ rfl;simpa [K.sz] using this,h4⟩
theorem dQ {M:Mem} {A:Option Addr} {n c:Nat} {l:List (List Int)} (h:Rd en M [.slice A n c] l) {i:Nat} {x:List Int} (hi:l[i]?=some x):∃ B O A2 c2,A=some ⟨B,O,none⟩∧M B (O + i) (.slice A2 x.length c2)∧Rd cO M [.slice A2 x.length c2] x:=by
 obtain ⟨B,O,cs,h1,_,h2,h3⟩:=wd h hi;obtain ⟨A2,c2,rfl⟩:=ky h2;exact ⟨B,O,A2,c2,h1,by have:=h3 0 _ rfl;simpa [K.sz] using this,h2⟩
theorem zA {M:Mem} {cs:List Value} {r:i3} (h:Rd C0 M cs r):∃ A c,cs=[.int .i64 r.1,.int .i64 r.2.1,.slice A r.2.2.length c]∧Rd cO M [.slice A r.2.2.length c] r.2.2∧inR .i64 r.1∧inR .i64 r.2.1:=by
 obtain ⟨c1,c2,rfl,⟨rfl,h1⟩,c3,c4,rfl,⟨rfl,h3⟩,h4⟩:=h;obtain ⟨A,c,rfl⟩:=ky h4;exact ⟨A,c,rfl,h4,h1,h3⟩
theorem iu {M:Mem} {A:Option Addr} {n c:Nat} {l:List i3} (h:Rd tN M [.slice A n c] l) {i:Nat} {r:i3} (hi:l[i]?=some r):∃ B O A2 c2,A=some ⟨B,O,none⟩∧(∀ (j:Nat) (v:Value),([.int .i64 r.1,.int .i64 r.2.1,.slice A2 r.2.2.length c2]:List Value)[j]?=some v→M B (O + i * 3 + j) v)∧Rd cO M [.slice A2 r.2.2.length c2] r.2.2∧inR .i64 r.1∧inR .i64 r.2.1:=by
 obtain ⟨B,O,cs,h1,_,h2,h3⟩:=wd h hi;obtain ⟨A2,c2,rfl,h4⟩:=zA h2;exact ⟨B,O,A2,c2,h1,h3,h4⟩
structure TC where
 (A1 A2 A3:Option Addr)
 (c1 c2 c3:Nat)
@[reducible] def TC.th (x:TC) (t:ThV):List Value:=[.int .i64 t.1,.slice x.A1 (aH t).length x.c1,.slice x.A2 (ao t).length x.c2,.slice x.A3 (aN t).length x.c3]
structure gp (M:Mem) (t:ThV) (x:TC):Prop where
 lits:inR .i64 t.1
 foes:Rd en M [.slice x.A1 (aH t).length x.c1] (aH t)
 rules:Rd tN M [.slice x.A2 (ao t).length x.c2] (ao t)
 beats:Rd en M [.slice x.A3 (aN t).length x.c3] (aN t)
theorem gp.mono {M M':Mem} {t:ThV} {x:TC} (h:gp M t x) (hM:Mem.le M M'):gp M' t x:=⟨h.lits,h.foes.mono hM,h.rules.mono hM,h.beats.mono hM⟩
theorem FK {M:Mem} {cs:List Value} {t:ThV} (h:Rd kTh M cs t):∃ x:TC,cs=x.th t∧gp M t x:=by
 obtain ⟨c1,c2,rfl,⟨rfl,h1⟩,c3,c4,rfl,h3,c5,c6,rfl,h5,h6⟩:=h;obtain ⟨A1,k1,rfl⟩:=ky h3;obtain ⟨A2,k2,rfl⟩:=ky h5;obtain ⟨A3,k3,rfl⟩:=ky h6;exact ⟨⟨A1,A2,A3,k1,k2,k3⟩,rfl,h1,h3,h5,h6⟩
theorem Bu {w w':World} {S ok ok':Nat→Prop} (k:cL S w w') (hS:∀ b,ok b→b < w.heap.size→¬ S b∧ok' b):Mem.le (mem w ok) (mem w' ok'):=fun B O v h=>by
 have hl:=World.block_lt_of_cell? w _ h.2;obtain ⟨h1,h2⟩:=hS B h.1.1 hl;have h3:=k.block B hl h1;exact ⟨⟨h2,(mz h3 _).trans h.1.2⟩,by simpa [World.cell?,h3] using h.2⟩
theorem au {E:Env} {H:List HP} {w:World} (hw:St E.w0 E.S H w):Mem.le E.ro (mem w (fun b=>¬ No b)):=Bu hw.kp (fun b hb hl=>⟨hb,fun k=>k⟩)
attribute [local irreducible] RW CW
theorem hq0 (w:World):Mem.le (mem w (fun b=>¬ No b)) (mem w (fun b=>¬ No b)):=Mem.le_refl _
section
variable {P:Program} {E:Env} {ops:Array Oper} {Q:Pst} {rest:List Oper} {G:List (Nat × Value)} {H:List HP}
variable {dst:Nat} {ty t:TypeId} {pos:String} {af:Array Edge} {z z':Value} {d:TypeDesc} {sz by_ sz' by':Nat} {x y:Operand} {k:IntKind} {a:Int}
theorem aa {e:TypeId} {A:Option Addr} {B O n cp:Nat} [T:Ty P t (.slice e) z sz by_] [T2:Ty P e d z' sz' by'] (hA:A=some ⟨B,O,none⟩) (hx:ev G x=some (.slice A n cp)) (hy:ev G y=some (.int k a)) (h0:0≤a) (h1:a < n) (hN:Nat.blt dst E.N=true)
 (kk:RW P E ops Q rest ((dst,.pointer (some ⟨B,O + a.toNat * sz',none⟩))::G) H):RW P E ops Q (⟨some dst,.indexAddr t x y,ty,pos,af,none⟩::rest) G H:=by
 subst hA;exact av hx hy h0 h1 hN kk
end
theorem aT {M:Mem} {B O i:Nat} {v:Value} (h:M B (O + i) v):M B (O + (i:Int).toNat * 1) v:=by simpa using h
theorem vZ:TyK Tryz.prog 3 kI:=.int Tryz.underlying3
theorem zk:TyK Tryz.prog 49 kI:=.int Tryz.underlying49
theorem ry:TyK Tryz.prog 26 cO:=.sl Tryz.underlying26 (by kernel_rfl) (by kernel_rfl) vZ
theorem sV:TyK Tryz.prog 22 en:=.sl Tryz.underlying22 (by kernel_rfl) (by kernel_rfl) ry
theorem Cf:TyK Tryz.prog 51 C0:=.st Tryz.underlying51 (by kernel_rfl) (.cons rfl (by kernel_rfl) zk (.cons rfl (by kernel_rfl) vZ (.one rfl (by kernel_rfl) ry)))
theorem zj:TyK Tryz.prog 23 tN:=.sl Tryz.underlying23 (by kernel_rfl) (by kernel_rfl) Cf
theorem Fz:TyK Tryz.prog 25 kTh:=.st Tryz.underlying25 (by kernel_rfl) (.cons rfl (by kernel_rfl) vZ (.cons rfl (by kernel_rfl) sV (.cons rfl (by kernel_rfl) zj (.one rfl (by kernel_rfl) sV))))
end
section
def du (n:Int):Int→List Int→Bool
 | _,[]=>true
 | p,x::r=>decide (0≤x∧x < n∧p < x)&&du n x r
def bg (l:List Int) (n:Int):Bool:=du n (-1) l
def dP (l:List Int) (k:Nat):Int:=if k=0 then -1 else l.getD (k - 1) 0
theorem rM {l:List Int} {k:Nat} (h:k < l.length):dP l (k + 1)=l[k]:=by
 unfold dP;rw [if_neg (by omega),Nat.add_sub_cancel,List.getD_eq_getElem?_getD,List.getElem?_eq_getElem h]
 rfl
theorem lZ {l:List Int} {n:Int} {k:Nat} (h:k < l.length):du n (dP l k) (l.drop k)=(decide (0≤l[k]∧l[k] < n∧dP l k < l[k])&&du n (dP l (k + 1)) (l.drop (k + 1))):=by
 rw [List.drop_eq_getElem_cons h,rM h]
 rfl
attribute [local irreducible] RW CW
theorem iK {A:Option Addr} {c:Nat} {l:List Int} {n:Int} {w:World} (h:Rd cO (mem w (fun b=>¬ No b)) [.slice A l.length c] l):Ret Tryz.prog 78 [.slice A l.length c,.int .i64 n] w (.bool (bg l n)):=by
 have hsm:=aP h;unfold br at hsm;have hle:=hq0 w;refine Calls.enter Tryz.func78 rfl _ rfl rfl (S:=No) (H:=[]) trivial ?_;refine Ja (Jd (Jb ?_));refine ar ?_;refine Ja (Jc (Jg (Jc (Jb ?_))));refine ak ?_;refine aI (ι:={ k:Nat // k≤l.length∧bg l n=du n (dP l k) (l.drop k) }) (fun k=>[(0,.slice A l.length c),(1,.int .i64 n),(7,.slice A l.length c),(8,.int .i64 l.length),(9,.int .i64 k.1)]) (fun _=>[]) (fun k=>l.length - k.1) ⟨0,Nat.zero_le _,rfl⟩ ⟨rfl,rfl,rfl,rfl,rfl,trivial⟩ (fun h=>h) ?_;intro ⟨k,hk,hS⟩;dsimp only at hk hS ⊢;refine Ja (Jk (Jb ?_));refine ar ?_;refine ay rfl (fun hlt=>?_) (fun hge=>?_);rotate_left
 ·have hge':l.length≤k:=by omega
  rw [List.drop_eq_nil_of_le hge'] at hS;refine aG rfl (ah ?_);refine Ja (Jd (Jb ?_));exact aw rfl Tryz.results78 rfl rfl fun w hw=>⟨by rw [hS];rfl,hw.kp⟩
 have hlt':k < l.length:=by omega
 rw [lZ hlt'] at hS;obtain ⟨B,O,hA,hm,_⟩:=aR h (List.getElem?_eq_getElem hlt');have bad:¬ (0≤l[k]∧l[k] < n∧dP l k < l[k])→bg l n=false:=fun h=>by rw [hS,decide_eq_false h];rfl
 have good:(0≤l[k]∧l[k] < n∧dP l k < l[k])→bg l n=du n (dP l (k + 1)) (l.drop (k + 1)):=fun h=>by rw [hS,decide_eq_true h];rfl
 have hp0:k=0→dP l k=-1:=fun h=>by unfold dP;rw [if_pos h]
 have hp1:0 < k→∃ v,l[k - 1]?=some v∧dP l k=v:=fun h=>by
  refine ⟨l[k - 1],List.getElem?_eq_getElem (by omega),?_⟩;unfold dP;rw [if_neg (by omega),List.getD_eq_getElem?_getD,List.getElem?_eq_getElem (by omega)]
  rfl
 generalize hx:l[k]=x at *;refine al (ah ?_);refine ar ?_;refine ak ?_;refine Ja (Jc ?_);refine aa hA rfl rfl (by omega) hlt rfl ?_;refine ac rfl hle (aT hm) rfl rfl ?_;refine Jd (Jd (Jb (Ja (Jc (Jk (Jc ?_))))));refine aY 16 rfl (fun h1=>?_) (fun h1=>?_)
 ·(iterate 3 refine Jz ?_);refine Jv (Jc ?_);(iterate 11 refine Jz ?_);refine Jv (Jb ?_)
  refine cn rfl ?_;refine Ja (Jd (Jb ?_));exact aw rfl Tryz.results78 rfl rfl fun w hw=>⟨by rw [bad (by omega)],hw.kp⟩
 refine Jy (Jc ?_);refine Jy (Jc ?_);refine Jy (Jn (Jw (Jc ?_)));refine aY 21 rfl (fun h2=>?_) (fun h2=>?_)
 ·(iterate 11 refine Jz ?_);refine Jv (Jb ?_)
  refine cn rfl ?_;refine Ja (Jd (Jb ?_));exact aw rfl Tryz.results78 rfl rfl fun w hw=>⟨by rw [bad (by omega)],hw.kp⟩
 refine Jy (Jc ?_);refine Jy (Jm ?_);refine Jy (Jc ?_);refine aY 24 rfl (fun h3=>?_) (fun h3=>?_)
 ·obtain ⟨v,hv,hpv⟩:=hp1 (by omega)
  obtain ⟨B1,O1,hA1,hm1,_⟩:=aR h hv;refine Jy (Jc ?_);refine Jy (Jc ?_);refine Jy (Jc ?_);refine Jy ?_;refine eG rfl rfl (w64 (by omega) (by omega)) rfl ?_;refine Jy ?_;refine aa hA1 rfl rfl (by omega) (by omega) rfl ?_;refine Jy ?_;refine ac (v:=.int .i64 v) rfl hle (by rw [show ((k:Int) - 1).toNat=k - 1 by omega,Nat.mul_one];exact hm1) rfl rfl ?_;refine Jy (Jl ?_);refine Jy (Jv (Jw (Jb ?_)));refine ay rfl (fun h4=>?_) (fun h4=>?_)
  ·refine Ja (Jd (Jb ?_))
   exact aw rfl Tryz.results78 rfl rfl fun w hw=>⟨by rw [bad (by omega)],hw.kp⟩
  refine al (ah ?_);refine aj ?_;refine Ka ?_;refine Jc ?_;refine aq ?_;exact Pa ⟨k + 1,hlt',good (by omega)⟩
 ·(iterate 7 refine Jz ?_);refine Jy (Jw (Jw (Jb ?_)))
  refine ch rfl ?_;refine al (ah ?_);refine aj ?_;refine Ka ?_;refine Jc ?_;refine aq ?_;exact Pa ⟨k + 1,hlt',good (by have:=hp0 (by omega);omega)⟩
end
section
def jf (v:Int):List Int→Int→Int
 | [],_=>-1
 | x::r,i=>if v=x then i else jf v r (i + 1)
def xN (l:List Int) (v:Int):Int:=jf v l 0
theorem sb (v:Int):∀ (l:List Int) (i:Int),0≤i→(decide (0≤jf v l i))=decide (v∈l):=by
 intro l;induction l with
 | nil=>intro i _;simp [jf]
 | cons x r ih=>
  intro i hi;unfold jf;by_cases h:v=x
  ·rw [if_pos h];simp [h,hi]
  ·rw [if_neg h,ih _ (by omega)];simp [h]
theorem u9 (l:List Int) (v:Int):decide (0≤xN l v)=decide (v∈l):=sb v l 0 (Int.le_refl _)
attribute [local irreducible] RW CW
theorem xM {A:Option Addr} {c:Nat} {l:List Int} {v:Int} {w:World} (h:Rd cO (mem w (fun b=>¬ No b)) [.slice A l.length c] l):Ret Tryz.prog 165 [.slice A l.length c,.int .i64 v] w (.int .i64 (xN l v)):=by
 have hsm:=aP h;unfold br at hsm;have hle:=hq0 w;refine Calls.enter Tryz.func165 rfl _ rfl rfl (S:=No) (H:=[]) trivial ?_;refine Ja (Jd (Jb ?_));refine ar ?_;refine Ja (Jc (Jg (Jc (Jb ?_))));refine ak ?_;refine aI (ι:={ k:Nat // k≤l.length∧xN l v=jf v (l.drop k) k }) (fun k=>[(0,.slice A l.length c),(1,.int .i64 v),(7,.int .i64 l.length),(8,.int .i64 k.1)]) (fun _=>[]) (fun k=>l.length - k.1) ⟨0,Nat.zero_le _,rfl⟩ ⟨rfl,rfl,rfl,rfl,trivial⟩ (fun h=>h) ?_;intro ⟨k,hk,hS⟩;dsimp only at hk hS ⊢;refine Ja (Jk (Jb ?_));refine ar ?_;refine ay rfl (fun hlt=>?_) (fun hge=>?_);rotate_left
 ·have hge':l.length≤k:=by omega
  rw [List.drop_eq_nil_of_le hge'] at hS;refine aG rfl (ah ?_);refine Ja (Jd (Jb ?_));exact aw rfl Tryz.results165 rfl rfl fun w hw=>⟨by rw [hS];rfl,hw.kp⟩
 have hlt':k < l.length:=by omega
 rw [List.drop_eq_getElem_cons hlt',jf] at hS;obtain ⟨B,O,hA,hm,_⟩:=aR h (List.getElem?_eq_getElem hlt');generalize l[k]=x at *;refine al (ah ?_);refine ar ?_;refine ak ?_;refine Ja (Jc (Jd (Jb (Ja (Jc (Jc (Jc ?_)))))));refine aa hA rfl rfl (by omega) hlt rfl ?_;refine ac rfl hle (aT hm) rfl rfl ?_;refine Ji (Jb ?_);refine ay rfl (fun h1=>?_) (fun h1=>?_)
 ·rw [if_pos h1] at hS
  refine Ja (Jc (Jd (Jb ?_)));exact aw rfl Tryz.results165 rfl rfl fun w hw=>⟨by rw [hS],hw.kp⟩
 rw [if_neg h1] at hS;refine al (ah ?_);refine aj ?_;refine Ka ?_;refine Jc ?_;refine aq ?_;exact Pa ⟨k + 1,hlt',hS⟩
theorem q5 {A:Option Addr} {c:Nat} {l:List Int} {v:Int} {w:World} (h:Rd cO (mem w (fun b=>¬ No b)) [.slice A l.length c] l):Ret Tryz.prog 116 [.slice A l.length c,.int .i64 v] w (.bool (decide (v∈l))):=by
 refine Calls.enter Tryz.func116 rfl _ rfl rfl (S:=No) (H:=[]) trivial ?_;refine Ja (Jd (Jb (Ja (Jc (Jc ?_)))));refine aD Tryz.call165 rfl (fun w2 hw=>xM (h.mono (au hw))) rfl ?_;refine Jn (Jd (Jb ?_));exact aw rfl Tryz.results116 rfl rfl fun w hw=>⟨by rw [u9],hw.kp⟩
theorem xK (a:Int) (w:World):Ret Tryz.prog 217 [.int .i64 a] w (.bool false):=by
 refine Calls.enter Tryz.func217 rfl _ rfl rfl (S:=No) (H:=[]) trivial ?_;refine Ja (Jd (Jb (Ja (Jc (Jc (Jj (Jd (Jb ?_))))))));exact aw rfl Tryz.results217 rfl rfl fun w hw=>⟨by simp,hw.kp⟩
theorem u7 (a:Int) (w:World):Ret Tryz.prog 187 [.int .i64 a] w (.bool false):=by
 refine Calls.enter Tryz.func187 rfl _ rfl rfl (S:=No) (H:=[]) trivial ?_;refine Ja (Jd (Jb (Ja (Jc (Jc (Jj (Jd (Jb ?_))))))));exact aw rfl Tryz.results187 rfl rfl fun w hw=>⟨by simp,hw.kp⟩
theorem z5 (a b:Int) (w:World):Ret Tryz.prog 186 [.int .i64 a,.int .i64 b] w (.bool (decide (a < b))):=by
 refine Calls.enter Tryz.func186 rfl _ rfl rfl (S:=No) (H:=[]) trivial ?_;refine Ja (Jd (Jb (Ja (Jc ?_))));refine aD Tryz.call217 rfl (fun w _=>xK _ w) rfl ?_;refine Jc ?_;(iterate 3 refine Jz ?_);refine Jw (Jc ?_);refine Jy (Jc ?_);refine Jy (Jc ?_);refine Jy (Jk (Jw (Jd (Jb ?_))));exact aw rfl Tryz.results186 rfl rfl fun w hw=>⟨rfl,hw.kp⟩
end
section
section
variable {P:Program} {E:Env} {Q:Pst} {G:List (Nat × Value)} {H:List HP} {l:List Oper} {n:Nat} {ks:List PK}
theorem Dr (q j2:Nat) (Hd:Bool→List HP) (n:Nat) (ks:List PK) (hk:ks.length=n) (hn:Nat.ble n l.length=true) (hb:j5 l=true) (hf:dL l n=true) (hd:sq l ks n G=true) (iZ:rn l ks) (hpd:∀ (i:Nat) (o:Oper) (d:Nat),i < n→l[i]?=some o→o.dst=some d→bP ks[i]?=true→False)
 (prems:∀ (i:Nat) (o:Oper) (k:PK),i≠q→l[i]?=some o→ks[i]?=some k→(∀ b,ul P E l.toArray Q (ij l ks o) G (Hd b) o k)∨∃ (e:Edge) (oj:Oper) (dj:Nat) (v:Value) (cj:Nat→HP) (tj:Nat→Value) (pj:Nat),e∈o.after.toList∧Region.binds .any e=true∧l[e.on]?=some oj∧oj.dst=some dj∧k=.val v∧ks[e.on]?=some (.new cj tj pj cj)∧∀ (b0:Bool) (b:Nat) (Gx:List (Nat × Value)) (X:List HP),RW P E l.toArray (Pst.then (fun a w=>∃ d,o.dst=some d∧Fr E.N E.ds a ((d,v)::(dj,tj b)::(ij l ks o++G++Gx))∧St E.w0 E.S (cj b::(Hd b0++X)) w) Q) [o] ((dj,tj b)::(ij l ks o++G++Gx)) (cj b::(Hd b0++X)))
 (hq2:∀ o,q < n→l[q]?=some o→∃ (e:Edge) (oj:Oper) (dj:Nat) (c:Nat→HP) (t:Nat→Value) (p:Nat) (c2 cj:Nat→HP) (tj:Nat→Value) (pj:Nat),e∈o.after.toList∧Region.binds .any e=true∧e.on=j2∧l[j2]?=some oj∧oj.dst=some dj∧ks[q]?=some (.new c t p c2)∧ks[j2]?=some (.new cj tj pj cj) ∧
  ∀ (b:Nat) (Gx:List (Nat × Value)) (X:List HP),RW P E l.toArray (Pst.then (fun a w=>∃ b' d,o.dst=some d∧Fr E.N E.ds a ((d,t b')::(dj,tj b)::(ij l ks o++G++Gx))∧St E.w0 E.S (c b'::cj b::(Hd true++X)) w) Q) [o] ((dj,tj b)::(ij l ks o++G++Gx)) (cj b::(Hd false++X)))
 (tail:∀ bs,RW P E l.toArray Q (l.drop n) (oR l ks bs++G) (Hd (decide (q < n))++rV l ks bs)):WA P E l Q G (Hd false):=by
 have hnl:n≤l.length:=by simpa [Nat.ble_eq] using hn
 have hback:∀ (i:Nat) (o:Oper),l[i]?=some o→∀ e∈o.after.toList,Region.binds .any e=true→e.on < i:=by
  intro i o ho e he hbe;have hi:i < l.length:=(List.getElem?_eq_some_iff.1 ho).1;have:=(List.all_eq_true.1 hb) i (List.mem_range.2 hi);rw [ho] at this;have h9:=(List.all_eq_true.1 this) e he
  simpa [hbe] using h9
 have hdst:∀ i,i < n→bP ks[i]?=false→∃ (o:Oper) (d:Nat),l[i]?=some o∧o.dst=some d∧look G d=none∧∀ (j:Nat) (o':Oper) (d':Nat),j < n→l[j]?=some o'→o'.dst=some d'→d=d'→i=j:=by
  intro i hi hnp;have h1:=(List.all_eq_true.1 hd) i (List.mem_range.2 hi);have hi':i < l.length:=by omega
  rw [List.getElem?_eq_getElem hi'] at h1;simp only at h1;cases hdd:l[i].dst with
  | none=>rw [hdd] at h1;rw [hnp] at h1;cases h1
  | some d=>
   rw [hdd] at h1;simp only [Bool.and_eq_true] at h1;refine ⟨l[i],d,List.getElem?_eq_getElem hi',hdd,by simpa using h1.1,fun j o' d' hj ho' hd' he=>?_⟩;have h2:=(List.all_eq_true.1 h1.2) j (List.mem_range.2 hj);rw [ho'] at h2;simp only [hd'] at h2;subst he
   simpa using h2
 have hnodst:∀ i,i < n→bP ks[i]?=true→∀ o,l[i]?=some o→∀ d,o.dst≠some d:=by
  intro i hi hp o ho d hdd;exact hpd i o d hi ho hdd hp
 have toTail:∀ (listed:Array Bool) (a:Act) (w:World) (bs:Nat→Nat),Mid P E l n ks G Hd q listed a w bs→(∀ i,i < n→listed.getD i false=true)→wpList P l.toArray Q.fn (l.drop n) a w:=by
  intro listed a w bs M hall;refine tail bs a w ⟨M.fN,M.fd,fun s u hs=>?_⟩ ?_
  ·rcases cu hs with hs | hs
   ·obtain ⟨i,o,k,h1,h2,h3,h4⟩:=qm hs
    have hi:i < n:=by have:=(List.getElem?_eq_some_iff.1 h2).1;omega
    rw [h4];exact M.fV i o s k (hall i hi) h1 h3 h2
   ·exact M.fG s u hs
  ·have:=M.st
   rw [show listed.getD q false=decide (q < n) from (by
    by_cases hqn:q < n
    ·rw [hall q hqn,decide_eq_true hqn]
    ·rw [M.below q (by omega),decide_eq_false hqn])] at this
   rwa [qw (fun j _ hj=>hall j (by omega)) (fun c t p c2 hm=>?_)] at this
   obtain ⟨j,hj⟩:=List.mem_iff_getElem?.1 hm;rcases iZ.new j c t p c2 hj with h | h
   ·rw [h];split <;> rfl
   ·have hp:p < n:=by
     rcases Nat.lt_or_ge p ks.length with h2 | h2
     ·omega
     ·rw [List.getElem?_eq_none h2] at h;cases h
    show (if listed.getD p false=true then c2 else c)=c2;rw [if_pos (hall p hp)]
 intro a w hfr hst
 have key:∀ (fuel:Nat) (listed:Array Bool) (a:Act) (w:World) (bs:Nat→Nat),Mid P E l n ks G Hd q listed a w bs→cnt (fun i=>listed.getD i false) l.length≤fuel→wpAny P .any l.toArray Q.fn fuel listed a w:=by
  intro fuel;induction fuel with
  | zero=>
   intro listed a w bs M hc
   -- nothing is left: n=l.length
   have hall:∀ i,i < l.length→listed.getD i false=true:=fun i hi=>by
    cases hx:listed.getD i false with
    | true=>rfl
    | false=>exact absurd (sD (L:=fun i=>listed.getD i false) hx l.length hi) (by omega)
   have hnl':n=l.length:=by
    rcases Nat.lt_or_ge n l.length with h | h
    ·have:=M.below n (Nat.le_refl _);rw [hall n h] at this;cases this
    ·omega
   refine iJ hb hf 0 l.length (by omega) (by omega) 0 listed a w (Nat.le_refl _) M.size (fun j hj=>⟨fun _=>hj,fun _=>hall j hj⟩) ?_;rw [← hnl'];exact toTail listed a w bs M (fun i hi=>hall i (by omega))
  | succ fuel ih=>
   intro listed a w bs M hc;by_cases hall:∀ i,i < n→listed.getD i false=true
   ·have hcn:l.length - n≤fuel + 1:=by
     have:cnt (fun i=>listed.getD i false) l.length=l.length - n:=pb hall M.below l.length hnl;omega
    exact iJ hb hf (l.length - n) n (by omega) (Nat.le_refl _) (fuel + 1) listed a w hcn M.size (fun j hj=>⟨fun h=>M.lt h,fun h=>hall j h⟩) (toTail listed a w bs M hall)
   ·have hex:∃ i,i < n∧listed.getD i false=false∧∀ j,j < i→listed.getD j false=true:=by
     have:∀ m,(∀ i,i < m→listed.getD i false=true)∨∃ i,i < m∧listed.getD i false=false∧∀ j,j < i→listed.getD j false=true:=by
      intro m;induction m with
      | zero=>exact .inl (fun i hi=>by omega)
      | succ m ihm=>
       rcases ihm with h | ⟨i,h1,h2,h3⟩
       ·cases hx:listed.getD m false with
        | true=>exact .inl (fun i hi=>if h4:i < m then h i h4 else (show m=i by omega) ▸ hx)
        | false=>exact .inr ⟨m,by omega,hx,h⟩
       ·exact .inr ⟨i,by omega,h2,h3⟩
     rcases this n with h | h
     ·exact absurd h hall
     ·exact h
    obtain ⟨i0,hi0,hi0f,hi0a⟩:=hex;have hrdy:i0∈Region.ready .any l.toArray listed:=(dg M.size i0).2 ⟨l[i0],List.getElem?_eq_getElem (by omega),hi0f,fun e he hbe=>hi0a _ (hback i0 _ (List.getElem?_eq_getElem (by omega)) e he hbe)⟩;refine ⟨(fun h=>by rw [h] at hrdy;cases hrdy),fun i hi=>?_⟩;obtain ⟨o,ho,hlf,hej⟩:=(dg M.size i).1 hi
    have hin:i < n:=by
     rcases Nat.lt_or_ge i n with h | h
     ·exact h
     ·have:=fg (L:=fun i=>listed.getD i false) hb hf h ho (show i0 < i by omega) M.down hej
      rw [hi0f] at this;cases this
    have hki:i < ks.length:=by omega
    have hget:∀ j,j≠i→(listed.setIfInBounds i true).getD j false=listed.getD j false:=fun j hj=>by rw [a7 (by rw [M.size];omega),if_neg (Ne.symm hj)]
    have hseti:(listed.setIfInBounds i true).getD i false=true:=by rw [a7 (by rw [M.size];omega),if_pos rfl]
    have hcells:bP ks[i]?=false→∀ c t q c2,PK.new c t q c2∈ks→(if listed.getD q false=true then c2 else c)=(if (listed.setIfInBounds i true).getD q false=true then c2 else c):=fun hnp c t q c2 hm=>by
     obtain ⟨j,hj⟩:=List.mem_iff_getElem?.1 hm;rcases iZ.new j c t q c2 hj with h | h
     ·rw [h];simp
     ·rw [hget q (fun e=>by subst e;rw [hnp] at h;cases h)]
    have hP00:=fun (hiq:i≠q)=>prems i o ks[i] hiq ho (List.getElem?_eq_getElem hki);have hP0:i≠q→(∀ v,ks[i]≠.val v)→ul P E l.toArray Q (ij l ks o) G (Hd (listed.getD q false)) o ks[i]:=fun hiq hv=>(hP00 hiq).elim (fun h=>h _) (fun ⟨_,_,_,v,_,_,_,_,_,_,_,h,_⟩=>absurd h (hv v))
    have hnew2:i=q→∃ c t p c2,ks[i]=.new c t p c2:=fun e=>by
     obtain ⟨_,_,_,c,t,p,c2,_,_,_,_,_,_,_,_,h,_⟩:=hq2 o (by omega) (by rw [← e];exact ho);rw [← e,List.getElem?_eq_getElem hki] at h;exact ⟨c,t,p,c2,Option.some.inj h⟩
    have hbq:i≠q→(listed.setIfInBounds i true).getD q false=listed.getD q false:=fun h=>hget q (Ne.symm h)
    have hvq:(∀ c t p c2,ks[i]≠.new c t p c2)→i≠q:=fun h e=>by
     obtain ⟨c,t,p,c2,hh⟩:=hnew2 e;exact h _ _ _ _ hh
    have hDep:=qO M hej
    have hsnap:Fr E.N E.ds a (ij l ks o++G++idx 0 a.tmps.toList):=⟨M.fN,M.fd,fun s u hs=>by
     rcases cu hs with hs | hs
     ·exact (cu hs).elim (hDep s u) (M.fG s u)
     ·have:=jD _ 0 s u hs;simpa using this.2⟩
    have hcnt:cnt (fun j=>(listed.setIfInBounds i true).getD j false) l.length≤fuel:=by
     have:=mJ (L:=fun j=>listed.getD j false) (L':=fun j=>(listed.setIfInBounds i true).getD j false) (p:=i) (fun j hj=>by show (listed.setIfInBounds i true).getD j false=listed.getD j false;rw [a7 (by rw [M.size];omega),if_neg (Ne.symm hj)]) hlf (by show (listed.setIfInBounds i true).getD i false=true;rw [a7 (by rw [M.size];omega),if_pos rfl]) l.length (by omega);omega
    have hdown':∀ (m:Nat) (o':Oper),(listed.setIfInBounds i true).getD m false=true→l[m]?=some o'→∀ e∈o'.after.toList,Region.binds .any e=true→(listed.setIfInBounds i true).getD e.on false=true:=by
     intro m o' hm' ho' e he hbi;rw [a7 (by rw [M.size];omega)] at hm' ⊢;split
     ·rfl
     ·split at hm'
      ·rename_i e2;subst e2;rw [ho] at ho';injection ho' with ho';subst ho';exact hej e he hbi
      ·exact M.down m o' hm' ho' e he hbi
    have hbelow':∀ j,n≤j→(listed.setIfInBounds i true).getD j false=false:=fun j hj=>by rw [a7 (by rw [M.size];omega),if_neg (by omega)];exact M.below j hj
    cases hkk:ks[i] with
    | put dj c t c2=>
     have hiq:=hvq (fun c t p c2 e=>by rw [hkk] at e;cases e);have hP:=hP0 hiq (fun v e=>by rw [hkk] at e;cases e);rw [hkk] at hP;obtain ⟨j,oj,op,e,hkj,hoj,hdj,hop,he,hbe,hej2⟩:=iZ.put i dj c t c2 (by rw [List.getElem?_eq_getElem hki,hkk]);rw [ho] at hop;injection hop with hop;subst hop;have hjl:listed.getD j false=true:=hej2 ▸ hej e he hbe;have hji:j≠i:=fun e2=>by rw [e2,hlf] at hjl;cases hjl
     have hptr:=M.fV j oj dj _ hjl hoj hdj hkj
     obtain ⟨X,hX,hX'⟩:=qv (L:=fun i=>listed.getD i false) (L':=fun j=>(listed.setIfInBounds i true).getD j false) (bs:=bs) (p:=i) (j:=j) (fun m hm=>(hget m hm).symm) hlf hseti hjl (os:=l) (r:=ks) (i:=0) (Nat.zero_le _)
      (fun m c' t' q c2' _ hm hk'=>by
       rw [Nat.sub_zero] at hk';show (if listed.getD q false=true then c2' else c')=(if (listed.setIfInBounds i true).getD q false=true then c2' else c');by_cases hq:q=i
       ·subst hq
        rw [iZ.uniq j m q c t c2 c' t' c2' hkj hk' (Ne.symm hm)];simp
       ·rw [hget q hq])
      (fun _=>by rw [Nat.sub_zero,List.getElem?_eq_getElem hki,hkk];rfl) (o:=oj) (d:=dj) (c:=c) (t:=t) (c2:=c2) (by simpa using hoj) hdj (by simpa using hkj)
     have hfr1:Fr E.N E.ds a ((dj,t (bs dj))::(ij l ks o++G++idx 0 a.tmps.toList)):=⟨M.fN,M.fd,fun s u hs=>by
      unfold look at hs;cases hb:Nat.beq dj s with
      | true=>
       rw [hb] at hs;have:dj=s:=Nat.eq_of_beq_eq_true hb;subst this;simp only [Option.some.injEq] at hs;subst hs;exact hptr
      | false=>rw [hb] at hs;exact hsnap.at_ s u hs⟩
     have hst1:St E.w0 E.S (c (bs dj)::(Hd (listed.getD q false)++X)) w:=M.st.perm ((List.Perm.append_left _ hX).trans List.perm_middle);have h1:=hP (bs dj) (idx 0 a.tmps.toList) X a w hfr1 hst1;refine db (wpOp_mono (fun a' w' h'=>?_) (bG ho h1));obtain ⟨hfr',hst'⟩:=h'
     have hkeep:∀ s u,a.tmps[s]?=some u→a'.tmps[s]?=some u:=fun s u hs=>by
      by_cases hsd:s=dj
      ·subst hsd
       rw [hptr] at hs;injection hs with hs;subst hs;exact hfr'.at_ _ _ (by simp [look,Nat.beq_refl,PK.out])
      ·exact dc hDep M.fG hfr' hsd hs
     refine ih _ a' w' bs ⟨by simp [M.size],hbelow',hdown',hfr'.size,hfr'.defers,fun s u hs=>hkeep s u (M.fG s u hs),fun m o' d' k hm' ho' hd' hk'=>?_,?_⟩ hcnt
     ·by_cases hmi:m=i
      ·subst hmi
       rw [List.getElem?_eq_getElem hki,hkk] at hk';injection hk' with hk';subst hk';rw [ho] at ho';injection ho' with ho';subst ho';exact absurd hd' (hnodst m hin (by rw [List.getElem?_eq_getElem hki,hkk];rfl) o ho d')
      ·rw [hget m hmi] at hm'
       exact hkeep _ _ (M.fV m o' d' k hm' ho' hd' hk')
     ·rw [hbq hiq]
      exact hst'.perm (List.perm_middle.symm.trans (List.Perm.append_left _ hX'.symm))
    | val v=>
     have hnp:bP ks[i]?=false:=by rw [List.getElem?_eq_getElem hki,hkk];rfl
     obtain ⟨o2,d,ho2,hdd,hGd,huniq⟩:=hdst i hin hnp;rw [ho] at ho2;injection ho2 with ho2;subst ho2
     have hop:Go.wpOp P l.toArray Q.fn i (fun a' w=>∃ d,o.dst=some d∧Fr E.N E.ds a' ((d,v)::(ij l ks o++G++idx 0 a.tmps.toList))∧St E.w0 E.S (Hd ((listed.setIfInBounds i true).getD q false)++bS (fun i=>listed.getD i false) l ks 0 bs) w) a w:=by
      have hiq:=hvq (fun c t p c2 e=>by rw [hkk] at e;cases e);rw [hbq hiq];rcases hP00 hiq with hP | ⟨e,oj,dj,v',cj,tj,pj,he,hbe,hoj,hdj,hk2,hkj,hp2⟩
      ·have hP:=hP (listed.getD q false)
       rw [hkk] at hP;exact db (bG ho (hP (idx 0 a.tmps.toList) (bS (fun i=>listed.getD i false) l ks 0 bs) a w hsnap M.st))
      ·rw [hkk] at hk2
       injection hk2 with e1;subst e1;have hjl:listed.getD e.on false=true:=hej e he hbe;have hptr:=M.fV e.on oj dj _ hjl hoj hdj hkj;obtain ⟨X,hX⟩:=mn (L:=fun i=>listed.getD i false) (bs:=bs) (j:=e.on) hjl (os:=l) (r:=ks) (i:=0) (Nat.zero_le _) (by simpa using hoj) hdj (by simpa using hkj)
       have hfr1:Fr E.N E.ds a ((dj,tj (bs dj))::(ij l ks o++G++idx 0 a.tmps.toList)):=⟨M.fN,M.fd,fun s u hs=>by
        unfold look at hs;cases hb:Nat.beq dj s with
        | true=>
         rw [hb] at hs;have:dj=s:=Nat.eq_of_beq_eq_true hb;subst this;simp only [Option.some.injEq] at hs;subst hs;exact hptr
        | false=>rw [hb] at hs;exact hsnap.at_ s u hs⟩
       have hst1:St E.w0 E.S (cj (bs dj)::(Hd (listed.getD q false)++X)) w:=M.st.perm ((List.Perm.append_left _ hX).trans List.perm_middle);have h1:=hp2 (listed.getD q false) (bs dj) (idx 0 a.tmps.toList) X a w hfr1 hst1;refine db (wpOp_mono (fun a' w' h'=>?_) (bG ho h1));obtain ⟨d',hd',hfr',hst'⟩:=h';rw [hdd] at hd';injection hd' with hd';subst hd';refine ⟨d,hdd,⟨hfr'.size,hfr'.defers,fun s u hs=>?_⟩,hst'.perm (List.perm_middle.symm.trans (List.Perm.append_left _ hX.symm))⟩;unfold look at hs;cases hb:Nat.beq d s with
       | true=>rw [hb] at hs;exact hfr'.at_ s u (by unfold look;rw [hb];exact hs)
       | false=>
        rw [hb] at hs
        refine hfr'.at_ s u (by
         unfold look;rw [hb];simp only;unfold look;cases hb2:Nat.beq dj s with
         | false=>exact hs
         | true=>
          have:dj=s:=Nat.eq_of_beq_eq_true hb2;subst this;have h9:=hsnap.at_ _ u hs;rw [hptr] at h9
          simpa [PK.out] using h9)
     refine wpOp_mono (fun a' w' h'=>?_) hop;obtain ⟨d2,hd2,hfr',hst'⟩:=h';rw [hdd] at hd2;injection hd2 with hd2;subst hd2;refine ih _ a' w' bs ⟨by simp [M.size],hbelow',hdown',hfr'.size,hfr'.defers,fun s u hs=>?_,fun m o' d' k hm' ho' hd' hk'=>?_,?_⟩ hcnt
     ·exact dc hDep M.fG hfr' (fun e=>by subst e;rw [hGd] at hs;cases hs) (M.fG s u hs)
     ·rw [a7 (by rw [M.size];omega)] at hm'
      by_cases hmi:i=m
      ·subst hmi
       rw [ho] at ho';injection ho' with ho';subst ho';rw [hdd] at hd';injection hd' with hd';subst hd';rw [List.getElem?_eq_getElem hki,hkk] at hk';injection hk' with hk';subst hk';exact hfr'.at_ _ _ (by simp [look,Nat.beq_refl,PK.out])
      ·rw [if_neg hmi] at hm'
       have hmn:m < n:=M.lt hm';refine dc hDep M.fG hfr' (fun e=>hmi (huniq m o' d' hmn ho' hd' e.symm)) (M.fV m o' d' k hm' ho' hd' hk')
     ·have:bS (fun i_1=>(listed.setIfInBounds i true).getD i_1 false) l ks 0 bs=bS (fun i=>listed.getD i false) l ks 0 bs:=by
       exact qu (p:=i) (v:=v) (fun j hj=>by rw [a7 (by rw [M.size];omega),if_neg (Ne.symm hj)]) (fun _=>by rw [Nat.sub_zero,List.getElem?_eq_getElem hki,hkk]) (fun c t q c2 hm=>(hcells hnp c t q c2 hm).symm)
      rw [this];exact hst'
    | new c t q0 c2=>
     have hnp:bP ks[i]?=false:=by rw [List.getElem?_eq_getElem hki,hkk];rfl
     obtain ⟨o2,d,ho2,hdd,hGd,huniq⟩:=hdst i hin hnp;rw [ho] at ho2;injection ho2 with ho2;subst ho2
     have hop:Go.wpOp P l.toArray Q.fn i (fun a' w=>∃ b d,o.dst=some d∧Fr E.N E.ds a' ((d,t b)::(ij l ks o++G++idx 0 a.tmps.toList))∧St E.w0 E.S (c b::(Hd ((listed.setIfInBounds i true).getD q false)++bS (fun i=>listed.getD i false) l ks 0 bs)) w) a w:=by
      by_cases hi2:i=q
      ·obtain ⟨e,oj,dj,c',t',p',c2',cj,tj,pj,he,hbe,hej2,hoj,hdj,hk2,hkj,hp2⟩:=hq2 o (by omega) (by rw [← hi2];exact ho)
       rw [← hi2,List.getElem?_eq_getElem hki,hkk] at hk2;injection hk2 with hk2;injection hk2 with e1 e2 e3 e4;subst e1;subst e2;have hjl:listed.getD j2 false=true:=hej2 ▸ hej e he hbe;have hptr:=M.fV j2 oj dj _ hjl hoj hdj hkj;obtain ⟨X,hX⟩:=mn (L:=fun i=>listed.getD i false) (bs:=bs) (j:=j2) hjl (os:=l) (r:=ks) (i:=0) (Nat.zero_le _) (by simpa using hoj) hdj (by simpa using hkj)
       have hfr1:Fr E.N E.ds a ((dj,tj (bs dj))::(ij l ks o++G++idx 0 a.tmps.toList)):=⟨M.fN,M.fd,fun s u hs=>by
        unfold look at hs;cases hb:Nat.beq dj s with
        | true=>
         rw [hb] at hs;have:dj=s:=Nat.eq_of_beq_eq_true hb;subst this;simp only [Option.some.injEq] at hs;subst hs;exact hptr
        | false=>rw [hb] at hs;exact hsnap.at_ s u hs⟩
       have hst0:=M.st;rw [← hi2,hlf] at hst0;have hst1:St E.w0 E.S (cj (bs dj)::(Hd false++X)) w:=hst0.perm ((List.Perm.append_left _ hX).trans List.perm_middle);have h1:=hp2 (bs dj) (idx 0 a.tmps.toList) X a w hfr1 hst1;refine db (wpOp_mono (fun a' w' h'=>?_) (bG ho h1));obtain ⟨b',d',hd',hfr',hst'⟩:=h';rw [hdd] at hd';injection hd' with hd';subst hd';rw [← hi2,hseti];refine ⟨b',d,hdd,⟨hfr'.size,hfr'.defers,fun s u hs=>?_⟩,hst'.perm (List.Perm.cons _ (List.perm_middle.symm.trans (List.Perm.append_left _ hX.symm)))⟩;unfold look at hs;cases hb:Nat.beq d s with
       | true=>rw [hb] at hs;exact hfr'.at_ s u (by unfold look;rw [hb];exact hs)
       | false=>
        rw [hb] at hs
        refine hfr'.at_ s u (by
         unfold look;rw [hb];simp only;unfold look;cases hb2:Nat.beq dj s with
         | false=>exact hs
         | true=>
          have:dj=s:=Nat.eq_of_beq_eq_true hb2;subst this;have h9:=hsnap.at_ _ u hs;rw [hptr] at h9
          simpa [PK.out] using h9)
      ·have hP:=hP0 hi2 (fun v e=>by rw [hkk] at e;cases e)
       rw [hkk] at hP;rw [hbq hi2];exact db (bG ho (hP (idx 0 a.tmps.toList) (bS (fun i=>listed.getD i false) l ks 0 bs) a w hsnap M.st))
     refine wpOp_mono (fun a' w' h'=>?_) hop;obtain ⟨b,d2,hd2,hfr',hst'⟩:=h';rw [hdd] at hd2;injection hd2 with hd2;subst hd2;refine ih _ a' w' (fun s=>if s=d then b else bs s) ⟨by simp [M.size],hbelow',hdown',hfr'.size,hfr'.defers,fun s u hs=>?_,fun m o' d' k hm' ho' hd' hk'=>?_,?_⟩ hcnt
     ·exact dc hDep M.fG hfr' (fun e=>by subst e;rw [hGd] at hs;cases hs) (M.fG s u hs)
     ·rw [a7 (by rw [M.size];omega)] at hm'
      by_cases hmi:i=m
      ·subst hmi
       rw [ho] at ho';injection ho' with ho';subst ho';rw [hdd] at hd';injection hd' with hd';subst hd';rw [List.getElem?_eq_getElem hki,hkk] at hk';injection hk' with hk';subst hk';rw [if_pos rfl];exact hfr'.at_ _ _ (by simp [look,Nat.beq_refl,PK.out])
      ·rw [if_neg hmi] at hm'
       have hmn:m < n:=M.lt hm';have hne:d'≠d:=fun e=>hmi (huniq m o' d' hmn ho' hd' e.symm);rw [if_neg hne];exact dc hDep M.fG hfr' hne (M.fV m o' d' k hm' ho' hd' hk')
     ·have hp:=qx (L:=fun i=>listed.getD i false) (L':=fun j=>(listed.setIfInBounds i true).getD j false) (bs:=bs) (bs':=fun s=>if s=d then b else bs s) (p:=i) (os:=l) (r:=ks) (i:=0) (Nat.zero_le _)
       (fun j hj=>by show listed.getD j false=(listed.setIfInBounds i true).getD j false;rw [a7 (by rw [M.size];omega),if_neg (Ne.symm hj)]) hlf (by show (listed.setIfInBounds i true).getD i false=true;rw [a7 (by rw [M.size];omega),if_pos rfl])
       (fun j o' d' h1 h2 h3 h4=>by
        simp only [Nat.zero_add] at h4
        have hne:d'≠d:=fun e=>by
         have:=huniq j o' d' (by omega) h1 h2 e.symm;subst this;rw [hlf] at h4;cases h4
        simp [hne]) (hcells hnp) (o:=o) (d:=d) (c:=c) (t:=t) (by simpa using ho) hdd (by rw [Nat.sub_zero,List.getElem?_eq_getElem hki,hkk]) (by
        show (if (listed.setIfInBounds i true).getD q0 false=true then c2 else c)=c;have hki':ks[i]?=some (.new c t q0 c2):=by rw [List.getElem?_eq_getElem hki,hkk]
        rcases iZ.new i c t q0 c2 hki' with h | h
        ·rw [h];split <;> rfl
        ·cases hq:ks[q0]? with
         | none=>rw [hq] at h;cases h
         | some kq=>
          rw [hq] at h;cases kq with
          | put dj c' t' c2'=>
           obtain ⟨j,oj,op,e,hkj,hoj,hdj,hop,he,hbe,hej2⟩:=iZ.put q0 dj c' t' c2' hq;have hqi:q0≠i:=fun e2=>by subst e2;rw [hki'] at hq;cases hq
           by_cases hji:j=i
           ·rw [hget q0 hqi]
            cases hlq:listed.getD q0 false with
            | false=>rfl
            | true=>
             have:=M.down q0 op hlq hop e he hbe;rw [hej2,hji,hlf] at this;cases this
           ·have:=iZ.uniq j i q0 c' t' c2' c t c2 hkj hki' hji
            rw [this];split <;> rfl
          | val v=>cases h
          | new _ _ _ _=>cases h)
      simp only [if_true] at hp;refine hst'.perm ?_;exact List.perm_middle.symm.trans (List.Perm.append_left _ hp)
 have hrep:∀ j,(Array.replicate l.toArray.size false).getD j false=false:=fun j=>by
  simp only [Array.getD_eq_getD_getElem?,Array.getElem?_replicate];split <;> rfl
 refine key l.toArray.size _ a w.drew (fun _=>0) ⟨by simp,fun i _=>hrep i,fun i o h=>(by rw [hrep i] at h;cases h),hfr.size,hfr.defers,hfr.at_,fun i o d k h=>(by rw [hrep i] at h;cases h),?_⟩ ?_
 ·have:bS (fun i=>(Array.replicate l.toArray.size false).getD i false) l ks 0 (fun _=>0)=[]:=oe hrep
  rw [this,List.append_nil,hrep q];exact hst.drew
 ·simpa using yk (fun i=>(Array.replicate l.toArray.size false).getD i false) l.length
end
end
section
theorem Gc (n:Nat):Int.fdiv (n:Int) 2=((n / 2:Nat):Int):=by
 rw [Int.fdiv_eq_ediv_of_nonneg _ (by omega)];omega
def yu (p:Nat→Bool):Nat→Nat→Nat→Nat
 | 0,i,_=>i
 | f + 1,i,j=>if i < j then (if p ((i + j) / 2) then yu p f ((i + j) / 2 + 1) j else yu p f i ((i + j) / 2)) else i
def mj (l:List Int) (x:Int) (h:Nat):Bool:=match l[h]? with
 | some y=>decide (y < x)
 | none=>false
def bsD (l:List Int) (x:Int):Nat:=yu (mj l x) l.length 0 l.length
def vK (l:List Int) (x:Int):Bool:=match l[bsD l x]? with
 | some y=>decide (y=x)
 | none=>false
theorem pd (p:Nat→Bool):∀ (f i j:Nat),j - i≤f→i≤j→(∀ k,k < i→p k=true)→(∀ k,j≤k→p k=false)→(∀ a b,a≤b→p b=true→p a=true)→yu p f i j≤j∧(∀ k,k < yu p f i j→p k=true)∧(∀ k,yu p f i j≤k→p k=false)
 | 0,i,j,hf,hij,h1,h2,_=>by
  have:i=j:=by omega
  subst this;exact ⟨Nat.le_refl _,h1,h2⟩
 | f + 1,i,j,hf,hij,h1,h2,hm=>by
  unfold yu;by_cases h:i < j
  ·rw [if_pos h]
   by_cases hp:p ((i + j) / 2)=true
   ·rw [if_pos hp]
    exact pd p f _ _ (by omega) (by omega) (fun k hk=>hm k _ (by omega) hp) h2 hm
   ·rw [if_neg hp]
    have h3:=pd p f i ((i + j) / 2) (by omega) (by omega) h1 (fun k hk=>by
     cases hk2:p k with
     | false=>rfl
     | true=>exact absurd (hm _ _ hk hk2) hp) hm
    exact ⟨by omega,h3.2⟩
  ·rw [if_neg h]
   have:i=j:=by omega
   subst this;exact ⟨Nat.le_refl _,h1,h2⟩
attribute [local irreducible] RW CW
theorem ET {A:Option Addr} {c:Nat} {l:List Int} {x:Int} {w:World} (h:Rd cO (mem w (fun b=>¬ No b)) [.slice A l.length c] l):Ret Tryz.prog 125 [.slice A l.length c,.int .i64 x] w (.tuple #[.int .i64 (bsD l x),.bool (vK l x)]):=by
 have hsm:=aP h;unfold br at hsm;have hle:=hq0 w;refine Calls.enter Tryz.func125 rfl _ rfl rfl (S:=No) (H:=[]) trivial ?_;refine Ja (Jd (Jd (Jb (Ja (Jc (Jg (Jd (Jb (Ja ?_)))))))));refine Jc (Jd (Jd (Jb ?_)));refine ar ?_;refine ak ?_
 refine aI (ι:={ q:Nat × Nat × Nat // q.1≤q.2.1∧q.2.1≤l.length∧q.2.1 - q.1≤q.2.2∧bsD l x=yu (mj l x) q.2.2 q.1 q.2.1 })
  (fun q=>[(0,.slice A l.length c),(1,.int .i64 x),(6,.int .i64 l.length),(7,.int .i64 q.1.1),(8,.int .i64 q.1.2.1)])
  (fun _=>[]) (fun q=>q.1.2.1 - q.1.1) ⟨(0,l.length,l.length),Nat.zero_le _,Nat.le_refl _,Nat.le_refl _,rfl⟩ ⟨rfl,rfl,rfl,rfl,rfl,trivial⟩ (fun h=>h) ?_
 intro ⟨(i,j,f),hij,hjn,hf,ho⟩;dsimp only at hij hjn hf ho ⊢;refine ar ?_;refine Ja (Jc (Jc (Jk (Jb ?_))));refine ay rfl (fun hlt=>?_) (fun hge=>?_)
 ·have hlt':i < j:=by omega
  have hsum:((i:Int) + (j:Int))=((i + j:Nat):Int):=by omega
  obtain ⟨f',rfl⟩:∃ f',f=f' + 1:=⟨f - 1,by omega⟩;have hmid:(i + j) / 2 < l.length:=by omega
  obtain ⟨B,O,hA,hm,_⟩:=aR h (List.getElem?_eq_getElem hmid);have hless:mj l x ((i + j) / 2)=decide (l[(i + j) / 2] < x):=by rw [mj,List.getElem?_eq_getElem hmid]
  refine JM ?_;refine ak ?_;refine Ja (Jc (Jc ?_));refine Ka ?_;refine sQ rfl (IntWalk.u64_in _ (by omega)) rfl ?_;rw [hsum];refine Dx rfl rfl (Gc _) rfl ?_;refine sQ rfl (w64 (by omega) (by omega)) rfl ?_;refine Jd (Jb (Ja (Jc (Jc ?_))));refine aa hA rfl rfl (by omega) (by omega) rfl ?_;refine ac rfl hle (aT hm) rfl rfl ?_;refine Jc ?_;refine aD Tryz.call186 rfl (fun w _=>z5 _ _ w) rfl ?_;refine Jb ?_;refine ay rfl (fun hc=>?_) (fun hc=>?_)
  ·refine aj ?_
   refine Jc ?_;refine cY (c:=(((i + j) / 2 + 1:Nat):Int)) rfl rfl (by rw [w64 (by omega) (by omega)];omega) rfl ?_;refine Jd (aq ?_);refine bp ⟨((i + j) / 2 + 1,j,f'),by dsimp only;omega,hjn,by dsimp only;omega,?_⟩ ⟨rfl,rfl,rfl,rfl,rfl,trivial⟩ (fun h=>h) (by dsimp only;omega);rw [ho,yu,if_pos hlt',hless,if_pos (decide_eq_true hc)]
  ·refine aj ?_
   refine Jc (Jd ?_);refine aq ?_;refine bp ⟨(i,(i + j) / 2,f'),by dsimp only;omega,by dsimp only;omega,by dsimp only;omega,?_⟩ ⟨rfl,rfl,rfl,rfl,rfl,trivial⟩ (fun h=>h) (by dsimp only;omega);rw [ho,yu,if_pos hlt',hless,decide_eq_false hc]
   rfl
 ·refine aG rfl (ah ?_)
  have hij':i=j:=by omega
  have hbs:bsD l x=i:=by
   rw [ho];cases f with
   | zero=>rfl
   | succ f=>rw [yu,if_neg (by omega)]
  refine Ja (Jc (Jc (Jc (Jk (Jc ?_)))));refine aY 35 rfl (fun hin=>?_) (fun hin=>?_)
  ·have hin':i < l.length:=by omega
   obtain ⟨B,O,hA,hm,_⟩:=aR h (List.getElem?_eq_getElem hin');have hhas:vK l x=decide (l[i]=x):=by rw [vK,hbs,List.getElem?_eq_getElem hin']
   refine Jy (Jc ?_);refine Jy (Jc ?_);refine Jy ?_;refine aa hA rfl rfl (by omega) (by omega) rfl ?_;refine Jy ?_;refine ac rfl hle (aT hm) rfl rfl ?_;refine Jy (Jc ?_);refine Jy (Ji ?_);refine Jy (Jc ?_);refine aY 42 rfl (fun he=>?_) (fun he=>?_)
   ·(iterate 9 refine Jz ?_);refine Jy (Jv (Jv (Jd (Jd (Jb ?_)))))
    exact aZ (rs:=[.tmp 4,.tmp 5]) (vs:=[_,_]) rfl Tryz.results125 rfl (aL.tmp rfl (aL.tmp rfl aL.nil)) fun w hw=>⟨by rw [hbs,hhas,decide_eq_true he];rfl,hw.kp⟩
   ·refine Jy (Jc ?_);refine Jy (Jc ?_);refine Jy ?_
    refine aa hA rfl rfl (by omega) (by omega) rfl ?_;refine Jy ?_;refine ac rfl hle (aT hm) rfl rfl ?_;refine Jy ?_;refine aD Tryz.call187 rfl (fun w _=>u7 _ w) rfl ?_;refine Jy (Jc ?_);refine Jz ?_;refine Jz ?_;refine Jy (Jw ?_);refine Jy (Jw (Jv (Jd (Jd (Jb ?_)))));exact aZ (rs:=[.tmp 4,.tmp 5]) (vs:=[_,_]) rfl Tryz.results125 rfl (aL.tmp rfl (aL.tmp rfl aL.nil)) fun w hw=>⟨by rw [hbs,hhas,decide_eq_false he];rfl,hw.kp⟩
  ·(iterate 17 refine Jz ?_);refine Jw (Jd (Jd (Jb ?_)))
   exact aZ (rs:=[.tmp 4,.tmp 5]) (vs:=[_,_]) rfl Tryz.results125 rfl (aL.tmp rfl (aL.tmp rfl aL.nil)) fun w hw=>⟨by rw [hbs,show vK l x=false by rw [vK,hbs,List.getElem?_eq_none (by omega)]];rfl,hw.kp⟩
theorem xR {A:Option Addr} {c:Nat} {l:List Int} {x:Int} {w:World} (h:Rd cO (mem w (fun b=>¬ No b)) [.slice A l.length c] l):Ret Tryz.prog 115 [.slice A l.length c,.int .i64 x] w (.bool (vK l x)):=by
 refine Calls.enter Tryz.func115 rfl _ rfl rfl (S:=No) (H:=[]) trivial ?_;refine Ja (Jd (Jb (Ja (Jc (Jc ?_)))));refine aD Tryz.call125 rfl (fun w2 hw=>ET (h.mono (au hw))) rfl ?_;refine Jc ?_;refine Jt ?_;refine Jt (Jd (Jd (Jb (Ja (Jc (Jd (Jb ?_)))))));exact aw rfl Tryz.results115 rfl rfl fun w hw=>⟨rfl,hw.kp⟩
end
end Go.Proofs.YtbcdgcodnkgdoaaGreat
