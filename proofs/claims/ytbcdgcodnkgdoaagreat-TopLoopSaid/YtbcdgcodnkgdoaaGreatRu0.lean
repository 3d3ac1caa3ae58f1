/- A runner for closed calls: a program's function at closed arguments is run by the kernel, on names in place of blocks. This text: the runner itself. Conditions: none. -/
import Derived.Test.YtbcdgcodnkgdoaaGreatB
import Derived.Test.YtbcdgcodnkgdoaaGreatProg
set_option linter.unusedVariables false
namespace Go.Proofs.YtbcdgcodnkgdoaaGreat.Run
open Go

noncomputable abbrev PG : Program := Tryz.prog
/-- The types that are compared cell by cell, as numbers. -/
def et (t : TypeId) : Bool := Nat.beq t 111 || Nat.beq t 95

/-! ### tables by number -/
inductive T (α : Type) where
  | e
  | lf (v : α)
  | nd (l r : T α)
noncomputable def T.at {α : Type} (t : T α) : Nat → Option α :=
  T.rec (motive := fun _ => Nat → Option α) (fun _ => none) (fun v _ => some v) (fun _ _ gl gr k => Bool.rec (motive := fun _ => Option α) (gr (Nat.div k 2)) (gl (Nat.div k 2)) (Nat.beq (Nat.mod k 2) 0)) t
noncomputable def T.fst {α : Type} (t : T α) : T α := T.rec (motive := fun _ => T α) .e (fun _ => .e) (fun l _ _ _ => l) t
noncomputable def T.snd {α : Type} (t : T α) : T α := T.rec (motive := fun _ => T α) .e (fun _ => .e) (fun _ r _ _ => r) t
noncomputable def T.put {α : Type} (d : Nat) : T α → Nat → T α → T α :=
  Nat.rec (motive := fun _ => T α → Nat → T α → T α) (fun _ _ v => v) (fun _ ih t k v =>
    Bool.rec (motive := fun _ => T α) (.nd t.fst (ih t.snd (Nat.div k 2) v)) (.nd (ih t.fst (Nat.div k 2) v) t.snd) (Nat.beq (Nat.mod k 2) 0)) d
noncomputable def iteB {α : Type} (b : Bool) (x y : α) : α := Bool.rec (motive := fun _ => α) y x b

/-! ### answers -/
inductive R (α : Type) where
  | ok (x : α)
  | er (l : List Nat)
noncomputable def R.bind {α β : Type} (r : R α) (f : α → R β) : R β := R.rec (motive := fun _ => R β) f (fun l => .er l) r
noncomputable def R.of {α : Type} (k : Nat) (o : Option α) : R α := Option.rec (motive := fun _ => R α) (.er [k]) (fun x => .ok x) o
noncomputable def R.tag {α : Type} (k : Nat) (r : R α) : R α := R.rec (motive := fun _ => R α) (fun x => .ok x) (fun l => .er (k :: l)) r
noncomputable def R.when {α : Type} (k : Nat) (b : Bool) (r : R α) : R α := Bool.rec (motive := fun _ => R α) (.er [k]) r b

/-! ### values and objects -/
inductive V where
  | b (x : Bool)
  | i (k : IntKind) (n : Int)
  | s (x : ByteArray)
  | p0
  | p (m o : Nat)
  | l0
  | l (m off o n : Nat)
  | m0
  | m (m : Nat)
  | f0
  | f (g : FuncId) (pre caps : List V)
  | y (m : Nat)
  | i0
  | a (l : List V)
  | t (l : List V)
inductive B where
  | cells (c : List V) (t : TypeId)
  | buf (c : List V) (t : TypeId)
  | map (es : List (V × V))
  | loop (ready : Bool) (fr : T V) (N : Nat) (ps : List Nat) (asg body : Code) (fn : FuncId) (d : Nat)
  | dfr
structure Hp where
  t : T B
  n : Nat
inductive Df where
  | fn (g : FuncId) (caps args : List V)
  | mark (m : Nat)
structure X where
  fr : T V
  h : Hp
  ds : List Df
inductive Xt where
  | nrm
  | ret
  | exi (id : Nat)
structure A where
  v : V
  h : Hp

/-- The places of a frame: below its size. -/
noncomputable def fget (N : Nat) (t : T V) (k : Nat) : Option V := iteB (Nat.blt k N) (t.at k) none
noncomputable def fset (N : Nat) (t : T V) (k : Nat) (v : V) : T V := t.put (Nat.succ (Nat.log2 N)) k (.lf v)
noncomputable def Hp.get (h : Hp) (k : Nat) : Option B := Hp.rec (motive := fun _ => Option B) (fun t _ => iteB (Nat.blt k 4096) (t.at k) none) h
noncomputable def hput (t : T B) (k : Nat) (b : T B) : T B := iteB (Nat.blt k 4096) (t.put 12 k b) t
noncomputable def Hp.set (h : Hp) (k : Nat) (b : B) : Hp := Hp.rec (motive := fun _ => Hp) (fun t n => ⟨hput t k (.lf b), n⟩) h
noncomputable def Hp.del (h : Hp) (k : Nat) : Hp := Hp.rec (motive := fun _ => Hp) (fun t n => ⟨hput t k .e, n⟩) h
noncomputable def Hp.new (h : Hp) (b : B) : Hp := Hp.rec (motive := fun _ => Hp) (fun t n => ⟨hput t n (.lf b), Nat.succ n⟩) h

def ofV1 : Value → Option V
  | .bool b => some (.b b)
  | .int k n => some (.i k n)
  | .string s => some (.s s)
  | .pointer none => some .p0
  | .slice none 0 0 => some .l0
  | .map none => some .m0
  | .nilFunc => some .f0
  | .nilIface => some .i0
  | _ => none
def ofVs : List Value → Option (List V)
  | [] => some []
  | v :: r => match ofV1 v with
    | some x => match ofVs r with
      | some l => some (x :: l)
      | none => none
    | none => none
def ofV : Value → Option V
  | .agg cs => match ofVs cs.toList with
    | some l => some (.a l)
    | none => none
  | .tuple cs => match cs.toList with
    | [] => some (.t [])
    | _ => none
  | .func (.func g) pre caps => match pre.toList, caps.toList with
    | [], [] => some (.f g [] [])
    | _, _ => none
  | v => ofV1 v
def V.flat : V → List V
  | .a c => c
  | x => [x]
def V.one : V → Bool
  | .a _ => false
  | .t _ => false
  | _ => true
noncomputable def xe (N : Nat) (fr : T V) (x : Operand) : Option V := Operand.rec (motive := fun _ => Option V) (fun t => fget N fr t) (fun v => ofV v) (fun _ => none) (fun f => some (.f f [] [])) x
noncomputable def xes (N : Nat) (fr : T V) (l : List Operand) : Option (List V) :=
  List.rec (motive := fun _ => Option (List V)) (some []) (fun x _ ih => Option.rec (motive := fun _ => Option (List V)) none (fun v => Option.rec (motive := fun _ => Option (List V)) none (fun vs => some (v :: vs)) ih) (xe N fr x)) l
noncomputable def zcs (t : TypeId) : Option (List V) := match PG.info? t with
  | some i => match i.zero with
    | some z => ofVs z.cells.toList
    | none => none
  | none => none
noncomputable def zvt (t : TypeId) : Option V := match PG.info? t with
  | some i => match i.zero with
    | some z => ofV z
    | none => none
  | none => none
noncomputable def szt (t : TypeId) : Option Nat := match PG.info? t with
  | some i => match i.zero with
    | some _ => some i.size
    | none => none
  | none => none
noncomputable def byt (t : TypeId) : Option Nat := match PG.info? t with
  | some i => some i.bytes
  | none => none
/-- How a type's variables are read: none: one cell; some n: so many. -/
noncomputable def rdt (t : TypeId) : Option (Option Nat) := match PG.underlying t with
  | some d => match isAggD d with
    | true => match szt t with
      | some n => some (some n)
      | none => none
    | false => some none
  | none => none

/-! ### memory -/
noncomputable def Hp.row (h : Hp) (m : Nat) : Option (List V) := Option.rec (motive := fun _ => Option (List V)) none (fun b => B.rec (motive := fun _ => Option (List V)) (fun c _ => some c) (fun c _ => some c) (fun _ => none) (fun _ _ _ _ _ _ _ _ => none) none b) (h.get m)
noncomputable def Hp.setRow (h : Hp) (m : Nat) (c : List V) : Hp := match h.get m with
  | some (.cells _ t) => h.set m (.cells c t)
  | some (.buf _ t) => h.set m (.buf c t)
  | _ => h
noncomputable def rdC (q : Option (Option Nat)) (c : List V) (o : Nat) : R V := Option.rec (motive := fun _ => R V) (.er [14]) (fun q => Option.rec (motive := fun _ => R V) (R.of 13 c[o]?)
    (fun sz => R.when 11 (Nat.ble (o + sz) c.length) (.ok (.a ((c.drop o).take sz)))) q) q
noncomputable def rd (h : Hp) (t : TypeId) (v : V) : R V := match v with
  | .p m o => Option.rec (motive := fun _ => R V) (.er [15, m]) (fun c => rdC (rdt t) c o) (h.row m)
  | _ => .er [16]
def over (c : List V) (o : Nat) (vs : List V) : List V := match vs with
  | [v] => c.set o v
  | vs => c.take o ++ vs ++ c.drop (o + vs.length)
noncomputable def wr2 (h : Hp) (sz m o : Nat) (c : List V) (vs : List V) : R Hp :=
  R.when 20 (Nat.beq vs.length sz && Nat.ble (o + sz) c.length && vs.all V.one) (.ok (h.setRow m (over c o vs)))
noncomputable def wr (h : Hp) (t : TypeId) (a v : V) : R Hp := match a with
  | .p m o => match h.row m, szt t with
    | some c, some sz => wr2 h sz m o c v.flat
    | _, _ => .er [22, m]
  | _ => .er [23]
def fillV (place : Nat → Option (Nat × Nat)) (c : List V) : List (Nat × V) → Option (List V)
  | [] => some c
  | (i, v) :: r => match place i with
    | some (off, sz) => match Nat.beq v.flat.length sz && Nat.ble (off + v.flat.length) c.length with
      | true => fillV place (over c off v.flat) r
      | false => none
    | none => none
noncomputable def xps (N : Nat) (fr : T V) : List (Nat × Operand) → Option (List (Nat × V))
  | [] => some []
  | (i, x) :: r => match xe N fr x with
    | some v => match xps N fr r with
      | some vs => some ((i, v) :: vs)
      | none => none
    | none => none
noncomputable def reps (n : Nat) (c : List V) : List V := Nat.rec (motive := fun _ => List V) [] (fun _ l => c ++ l) n
noncomputable def placeS (fs : Array Field) (i : Nat) : Option (Nat × Nat) := match fs[i]? with
  | some f => match szt f.type with
    | some sz => some (f.offset, sz)
    | none => none
  | none => none

/-! ### numbers -/
def arith (op : BinOp) (k : IntKind) (a b : Int) : R V := match op with
  | .add => .ok (.i k (k.wrap (a + b)))
  | .sub => .ok (.i k (k.wrap (a - b)))
  | .mul => .ok (.i k (k.wrap (a * b)))
  | .quo => match decide (b = 0) with
    | true => .er [30]
    | false => .ok (.i k (k.wrap (a.tdiv b)))
  | .rem => match decide (b = 0) with
    | true => .er [31]
    | false => .ok (.i k (a.tmod b))
  | .and => .ok (.i k (k.wrap (BitVec.ofInt k.bits a &&& BitVec.ofInt k.bits b).toNat))
  | .or => .ok (.i k (k.wrap (BitVec.ofInt k.bits a ||| BitVec.ofInt k.bits b).toNat))
  | .xor => .ok (.i k (k.wrap (BitVec.ofInt k.bits a ^^^ BitVec.ofInt k.bits b).toNat))
  | .eql => .ok (.b (decide (a = b)))
  | .neq => .ok (.b (!decide (a = b)))
  | .lss => .ok (.b (decide (a < b)))
  | .leq => .ok (.b (decide (a ≤ b)))
  | .gtr => .ok (.b (decide (b < a)))
  | .geq => .ok (.b (decide (b ≤ a)))
  | _ => .er [32]
def shl1 (k : IntKind) (a b : Int) : R V := match decide (b < 0) with
  | true => .er [33]
  | false => .ok (.i k (k.wrap (a * 2 ^ (min b.toNat k.bits))))
def shr1 (k : IntKind) (a b : Int) : R V := match decide (b < 0) with
  | true => .er [34]
  | false => .ok (.i k (a.fdiv (2 ^ (min b.toNat k.bits))))
/-- Flat numbers of the same kinds: are they equal? -/
def eqInts : List V → List V → Option Bool
  | [], [] => some true
  | .i k a :: r, .i k' b :: q => match decide (k = k') with
    | true => match eqInts r q with
      | some c => some (decide (a = b) && c)
      | none => none
    | false => none
  | _, _ => none
noncomputable def eqA (t : TypeId) (x y : List V) : Option Bool := match et t, szt t with
  | true, some sz => match Nat.beq x.length sz && Nat.beq y.length sz with
    | true => eqInts x y
    | false => none
  | _, _ => none
noncomputable def eqV (t : TypeId) (u v : V) : Option Bool := match PG.underlying t, u, v with
  | some .bool, .b x, .b y => some (x == y)
  | some (.pointer _), .p0, .p0 => some true
  | some (.pointer _), .p0, .p _ _ => some false
  | some (.pointer _), .p _ _, .p0 => some false
  | some (.slice _), .l0, .l0 => some true
  | some (.slice _), .l0, .l _ _ _ _ => some false
  | some (.slice _), .l _ _ _ _, .l0 => some false
  | some (.map _ _), .m0, .m0 => some true
  | some (.map _ _), .m0, .m _ => some false
  | some (.map _ _), .m _, .m0 => some false
  | some (.func _ _ _), .f0, .f0 => some true
  | some (.func _ _ _), .f0, .f _ _ _ => some false
  | some (.func _ _ _), .f _ _ _, .f0 => some false
  | some _, .a x, .a y => eqA t x y
  | _, _, _ => none
def isConst0 : Operand → Bool
  | .const .nilIface => true
  | _ => false
noncomputable def isIf (t : TypeId) : Bool := match PG.underlying t with
  | some (.interface _) => true
  | _ => false
def bopN (op : BinOp) (k k' : IntKind) (a b : Int) : R V := match op with
  | .shl => shl1 k a b
  | .shr => shr1 k a b
  | op => match decide (k = k') with
    | true => arith op k a b
    | false => .er [35]
noncomputable def bopE (op : BinOp) (t : TypeId) (y : Operand) (u v : V) : R V := match u, v with
  | .i0, .i0 => match isConst0 y && isIf t, op with
    | true, .eql => .ok (.b true)
    | true, .neq => .ok (.b false)
    | _, _ => .er [36]
  | u, v => match op with
    | .eql => match eqV t u v with
      | some c => .ok (.b c)
      | none => .er [37, t]
    | .neq => match eqV t u v with
      | some c => .ok (.b (!c))
      | none => .er [38, t]
    | _ => .er [39]
noncomputable def bop (op : BinOp) (t : TypeId) (y : Operand) (u v : V) : R V := match u, v with
  | .i k a, .i k' b => bopN op k k' a b
  | u, v => bopE op t y u v

/-! ### maps: keys are numbers, or rows of numbers -/
noncomputable def eqK (kt : TypeId) (d : TypeDesc) : V → V → Option Bool
  | .i k a, .i k' b => match d, decide (k = k') with
    | .int _, true => some (decide (a = b))
    | _, _ => none
  | .a x, .a y => match d with
    | .struct _ => eqA kt x y
    | _ => none
  | _, _ => none
noncomputable def findK (kt : TypeId) (d : TypeDesc) (k : V) : List (V × V) → Option (Option V)
  | [] => some none
  | e :: r => match eqK kt d k e.1 with
    | some true => some (some e.2)
    | some false => findK kt d k r
    | none => none
noncomputable def setK (kt : TypeId) (d : TypeDesc) (k v : V) : List (V × V) → Option (List (V × V))
  | [] => some [(k, v)]
  | e :: r => match eqK kt d k e.1 with
    | some true => some ((k, v) :: r)
    | some false => match setK kt d k v r with
      | some l => some (e :: l)
      | none => none
    | none => none
noncomputable def keyOk (kt : TypeId) (d : TypeDesc) (k : V) : Bool := match eqK kt d k k with
  | some true => true
  | _ => false

/-! ### operations -/
noncomputable def makeSl (h : Hp) (t : TypeId) (a b : V) : R A := match a, b with
  | .i _ a, .i _ b => match PG.underlying t with
    | some (.slice e) => match szt e, byt e, zcs e with
      | some sz, some by_, some z => R.when 40 (decide (0 ≤ a) && decide (a = b) && decide (b ≤ 1000000) && Nat.ble by_ 1000 && Nat.beq z.length sz && !(Nat.beq sz 0)) (.ok ⟨.l h.n 0 0 a.toNat, h.new (.buf (reps a.toNat z) e)⟩)
      | _, _, _ => .er [41]
    | _ => .er [42]
  | _, _ => .er [43]
noncomputable def roomOk (h : Hp) (e sz m off o n : Nat) : Bool := match h.get m with
  | some (.buf c e') => Nat.beq e e' && Nat.beq off (o * sz) && Nat.ble (off + n * sz) c.length && Nat.blt 0 sz
  | some (.cells c _) => Nat.beq sz 1 && Nat.beq off o && Nat.ble (o + n) c.length
  | _ => false
noncomputable def sliceV (h : Hp) (t : TypeId) (x : V) (lo hi : Option V) : R V := match x with
  | .l m off o n => match PG.underlying t with
    | some (.slice e) => match szt e with
      | some sz => match lo, hi with
        | none, some (.i _ b) => R.when 44 (decide (0 ≤ b) && Nat.ble b.toNat n && roomOk h e sz m off o n) (.ok (.l m off o b.toNat))
        | some (.i _ a), none => R.when 45 (decide (0 ≤ a) && Nat.blt a.toNat n && roomOk h e sz m off o n) (.ok (.l m (off + a.toNat * sz) (o + a.toNat) (n - a.toNat)))
        | _, _ => .er [46]
      | none => .er [47]
    | _ => .er [48]
  | .l0 => match PG.underlying t with
    | some (.slice e) => match lo, hi with
      | none, some (.i _ b) => R.when 49 (decide (b = 0) && (szt e).isSome) (.ok .l0)
      | _, _ => .er [50]
    | _ => .er [51]
  | .p m o => match PG.underlying t with
    | some (.array n e) => match szt e, lo, hi, h.get m with
      | some sz, none, none, some (.cells c _) => R.when 52 (Nat.beq o 0 && Nat.beq sz 1 && Nat.beq c.length n && Nat.blt 0 n) (.ok (.l m 0 0 n))
      | _, _, _, _ => .er [53]
    | _ => .er [54]
  | _ => .er [55]
/-- The cells of a slice. -/
noncomputable def sliceCells (h : Hp) (e : TypeId) (x : V) : R (List V × Nat) := match x with
  | .l0 => .ok ([], 0)
  | .l m off _ n => match szt e, h.row m with
    | some sz, some c => R.when 56 (Nat.ble (off + n * sz) c.length) (.ok ((c.drop off).take (n * sz), n))
    | _, _ => .er [57, m]
  | _ => .er [58]
noncomputable def appendV (h : Hp) (t t2 : TypeId) (x y : V) : R A := match PG.underlying t, Nat.beq t t2 with
  | some (.slice e), true => (sliceCells h e y).bind fun q => match szt e, byt e, zcs e with
    | some sz, some by_, some z => match q.2 with
      | 0 => match x with
        | .l0 => .ok ⟨.l0, h⟩
        | .l m off o n => R.when 59 (roomOk h e sz m off o n) (.ok ⟨.l m off o n, h⟩)
        | _ => .er [59]
      | k + 1 => match x with
        | .l0 => R.when 60 (Nat.ble by_ 1000 && Nat.beq z.length sz && Nat.ble q.2 100000 && q.1.all V.one) (.ok ⟨.l h.n 0 0 q.2, h.new (.buf q.1 e)⟩)
        | .l m off o n => match h.get m with
          | some (.buf c e') => R.when 61 (Nat.beq off 0 && Nat.beq o 0 && Nat.beq (n * sz) c.length && Nat.beq e e' && Nat.ble by_ 1000 && Nat.beq z.length sz && Nat.ble (n + q.2) 100000 && q.1.all V.one) (.ok ⟨.l h.n 0 0 (n + q.2), (h.del m).new (.buf (c ++ q.1) e)⟩)
          | _ => .er [62, m]
        | _ => .er [63]
    | _, _, _ => .er [64]
  | _, _ => .er [65]
noncomputable def mapEs (h : Hp) (x : V) : Option (List (V × V)) := match x with
  | .m0 => some []
  | .m m => match h.get m with
    | some (.map es) => some es
    | _ => none
  | _ => none
def lookR (ok : Bool) (z : V) (r : Option (Option V)) : R V := match r with
  | some (some v) => .ok (match ok with | true => .t [v, .b true] | false => v)
  | some none => .ok (match ok with | true => .t [z, .b false] | false => z)
  | none => .er [72]
noncomputable def lookupV (h : Hp) (t : TypeId) (x k : V) (ok : Bool) : R V := match PG.underlying t with
  | some (.map kt e) => match PG.underlying kt, zvt e, mapEs h x with
    | some d, some z, some es => R.when 70 (keyOk kt d k) (lookR ok z (findK kt d k es))
    | _, _, _ => .er [74]
  | _ => .er [75]
noncomputable def updateV (h : Hp) (t : TypeId) (x k v : V) : R A := match PG.underlying t, x with
  | some (.map kt _), .m m => match PG.underlying kt, h.get m with
    | some d, some (.map es) => R.when 76 (keyOk kt d k) (match setK kt d k v es with
      | some es' => .ok ⟨.t [], h.set m (.map es')⟩
      | none => .er [77])
    | _, _ => .er [78]
  | _, _ => .er [79]
noncomputable def with_ (h : Hp) (r : R V) : R A := r.bind fun v => .ok ⟨v, h⟩
noncomputable def o1 (h : Hp) (k : Nat) (v : Option V) : R A := Option.rec (motive := fun _ => R A) (.er [k]) (fun v => .ok ⟨v, h⟩) v
noncomputable def oPick (N : Nat) (fr : T V) (h : Hp) (c x y : Operand) : R A := match xe N fr c with
  | some (.b true) => o1 h 82 (xe N fr x)
  | some (.b false) => o1 h 83 (xe N fr y)
  | _ => .er [84]
noncomputable def oAlloc (h : Hp) (t : TypeId) : R A := match zcs t with
  | some z => .ok ⟨.p h.n 0, h.new (.cells z t)⟩
  | none => .er [85]
noncomputable def oBox (h : Hp) (t : TypeId) (v : Option V) : R A := match v with
  | some v => R.when 86 (v.flat.all V.one) (.ok ⟨.p h.n 0, h.new (.cells v.flat t)⟩)
  | none => .er [87]
noncomputable def placeOf (t : TypeId) : Option (Nat → Option (Nat × Nat)) := match PG.underlying t with
  | some (.struct fs) => match fs.toList.all (fun f => (szt f.type).isSome) with
    | true => some (placeS fs)
    | false => none
  | some (.array _ e) => match szt e with
    | some sz => some (fun i => some (i * sz, sz))
    | none => none
  | _ => none
noncomputable def oBuild (h : Hp) (t : TypeId) (ps : Option (List (Nat × V))) : R A := match placeOf t, zcs t, ps with
  | some pl, some z, some ps => match fillV pl z ps with
    | some c => .ok ⟨.a c, h⟩
    | none => .er [88]
  | _, _, _ => .er [91]
noncomputable def oBuildSl2 (h : Hp) (e : TypeId) (n : Nat) (ps : List (Nat × V)) : R A := match szt e, zcs e with
  | some sz, some z => match fillV (fun i => some (i * sz, sz)) (reps n z) ps with
    | some c => R.when 92 (Nat.beq z.length sz && !(Nat.beq sz 0) && Nat.ble (n * sz) 100000 && c.all V.one) (.ok ⟨.l h.n 0 0 n, h.new (.buf c e)⟩)
    | none => .er [93]
  | _, _ => .er [94]
noncomputable def oBuildSl (h : Hp) (t : TypeId) (n : Nat) (ps : Option (List (Nat × V))) : R A := match PG.underlying t, ps with
  | some (.slice e), some ps => oBuildSl2 h e n ps
  | _, _ => .er [95]
noncomputable def oLoad (h : Hp) (t : TypeId) (v : Option V) : R A := Option.rec (motive := fun _ => R A) (.er [96]) (fun v => with_ h (rd h t v)) v
noncomputable def oStore (h : Hp) (t : TypeId) (a v : Option V) : R A := match a, v with
  | some a, some v => (wr h t a v).bind fun h' => .ok ⟨.t [], h'⟩
  | _, _ => .er [97]
noncomputable def oNil (h : Hp) (v : Option V) : R A := match v with
  | some (.p m o) => .ok ⟨.p m o, h⟩
  | some (.f g pre caps) => .ok ⟨.f g pre caps, h⟩
  | _ => .er [98]
noncomputable def oBin (h : Hp) (op : BinOp) (t : TypeId) (y : Operand) (u v : Option V) : R A := match u, v with
  | some u, some v => with_ h (bop op t y u v)
  | _, _ => .er [99]
noncomputable def oUn (h : Hp) (op : UnOp) (v : Option V) : R A := match op, v with
  | .not, some (.b c) => .ok ⟨.b (!c), h⟩
  | .neg, some (.i k a) => .ok ⟨.i k (k.wrap (0 - a)), h⟩
  | .xor, some (.i k a) => with_ h (arith .xor k (if k.signed then -1 else k.max) a)
  | _, _ => .er [100]
noncomputable def oConv (h : Hp) (src dst : TypeId) (v : Option V) : R A := match PG.underlying src, PG.underlying dst, v with
  | some _, some (.int k), some (.i _ a) => .ok ⟨.i k (k.wrap a), h⟩
  | some (.slice _), some (.slice e), some (.l m off o n) => match Nat.beq src dst, PG.underlying e with
    | true, some (.int .u8) => R.when 105 (h.row m).isSome (.ok ⟨.l m off o n, h⟩)
    | _, _ => .er [104]
  | _, _, _ => .er [103]
noncomputable def oFunc (h : Hp) (f : Fn) (p c : Option (List V)) : R A := match f, p, c with
  | .func g, some p, some c => .ok ⟨.f g p c, h⟩
  | _, _, _ => .er [104]
noncomputable def oMakeMap (h : Hp) (r : Option Operand) : R A := match r with
  | none => .ok ⟨.m h.n, h.new (.map [])⟩
  | some _ => .er [135]
noncomputable def oMakeSl (h : Hp) (t : TypeId) (a b : Option V) : R A := match a, b with
  | some a, some b => makeSl h t a b
  | _, _ => .er [105]
noncomputable def oSlice (N : Nat) (fr : T V) (h : Hp) (t : TypeId) (v : Option V) (lo hi mx : Option Operand) : R A := match v, lo, hi, mx with
  | some v, none, none, none => with_ h (sliceV h t v none none)
  | some v, some l, none, none => match xe N fr l with
    | some a => with_ h (sliceV h t v (some a) none)
    | none => .er [106]
  | some v, none, some l, none => match xe N fr l with
    | some a => with_ h (sliceV h t v none (some a))
    | none => .er [107]
  | _, _, _, _ => .er [108]
noncomputable def fieldOff (s : TypeId) (i : Nat) : Option Nat := match PG.underlying s with
  | some (.struct fs) => match placeS fs i with
    | some (off, _ + 1) => some off
    | _ => none
  | _ => none
noncomputable def oFieldA (h : Hp) (q : Option Nat) (v : Option V) : R A := match q, v with
  | some off, some (.p m o) => .ok ⟨.p m (o + off), h⟩
  | _, _ => .er [112]
noncomputable def oField (h : Hp) (s : TypeId) (i : Nat) (v : Option V) : R A := match PG.underlying s, v with
  | some (.struct fs), some (.a c) => match fs[i]? with
    | some f => with_ h (rdC (rdt f.type) c f.offset)
    | none => .er [113]
  | _, _ => .er [114]
noncomputable def oIdxA2 (h : Hp) (e : TypeId) (m off n : Nat) (a : Int) : R A := match szt e with
  | some sz => R.when 115 (decide (0 ≤ a) && Nat.blt a.toNat n) (.ok ⟨.p m (off + a.toNat * sz), h⟩)
  | none => .er [116]
noncomputable def oIdxA (h : Hp) (d : Option TypeDesc) (u v : Option V) : R A := match d, u, v with
  | some (.slice e), some (.l m off _ n), some (.i _ a) => oIdxA2 h e m off n a
  | some (.array n e), some (.p m o), some (.i _ a) => oIdxA2 h e m o n a
  | _, _, _ => .er [119]
noncomputable def oIdx (h : Hp) (t : TypeId) (u v : Option V) : R A := match PG.underlying t, u, v with
  | some .string, some (.s s), some (.i _ a) => R.when 120 (decide (0 ≤ a)) (match s.data.toList[a.toNat]? with
    | some c => .ok ⟨.i .u8 c.toNat, h⟩
    | none => .er [121])
  | some (.array n e), some (.a c), some (.i _ a) => match szt e with
    | some sz => R.when 122 (decide (0 ≤ a) && Nat.blt a.toNat n) (with_ h (rdC (rdt e) c (a.toNat * sz)))
    | none => .er [123]
  | _, _, _ => .er [124]
noncomputable def oLook (h : Hp) (t : TypeId) (m k : Option V) (ok : Bool) : R A := match m, k with
  | some m, some k => with_ h (lookupV h t m k ok)
  | _, _ => .er [125]
noncomputable def oUpd (h : Hp) (t : TypeId) (m k v : Option V) : R A := match m, k, v with
  | some m, some k, some v => R.when 126 v.one (updateV h t m k v)
  | _, _, _ => .er [127]
noncomputable def oExt (h : Hp) (i : Nat) (v : Option V) : R A := match v with
  | some (.t l) => o1 h 128 l[i]?
  | _ => .er [129]
noncomputable def oLen (h : Hp) (t : TypeId) (v : V) : R A := match v, PG.underlying t with
  | .l _ _ _ n, some (.slice _) => .ok ⟨.i .i64 n, h⟩
  | .l0, some (.slice _) => .ok ⟨.i .i64 0, h⟩
  | .s s, some .string => .ok ⟨.i .i64 s.data.toList.length, h⟩
  | _, _ => .er [130]
noncomputable def oBuiltin (h : Hp) (bt : Builtin) (vs : Option (List V)) (ats : List TypeId) : R A := match bt, vs, ats with
  | .len, some [v], t :: _ => oLen h t v
  | .append, some [x, y], [t, t2] => appendV h t t2 x y
  | .min, some [.i k a, .i _ b], _ => .ok ⟨.i k (if b < a then b else a), h⟩
  | _, _, _ => .er [133]
noncomputable def oCall (N : Nat) (fr : T V) (h : Hp) (c : Call) : R A := match c with
  | ⟨.builtin bt, args, ats⟩ => oBuiltin h bt (xes N fr args.toList) ats.toList
  | _ => .er [136]
noncomputable def opL (N : Nat) (fr : T V) (h : Hp) (op : Op) : R A := Op.rec (motive := fun _ => R A)
  (fun x => o1 h 80 (xe N fr x))
  (fun x => o1 h 81 (xe N fr x))
  (fun c x y => oPick N fr h c x y)
  (fun t => oAlloc h t)
  (fun t x => oBox h t (xe N fr x))
  (fun t ps => oBuild h t (xps N fr ps.toList))
  (fun t n ps => oBuildSl h t n (xps N fr ps.toList))
  (fun _ _ _ _ => .er [201])
  (fun t x => oLoad h t (xe N fr x))
  (fun t x y => oStore h t (xe N fr x) (xe N fr y))
  (fun _ => .er [202])
  (fun _ => .er [203])
  (fun x => oNil h (xe N fr x))
  (fun op t x y _ => oBin h op t y (xe N fr x) (xe N fr y))
  (fun op _ x => oUn h op (xe N fr x))
  (fun src dst x => oConv h src dst (xe N fr x))
  (fun _ _ => .er [204])
  (fun _ _ => .er [205])
  (fun f pre caps => oFunc h f (xes N fr pre.toList) (xes N fr caps.toList))
  (fun _ r => oMakeMap h r)
  (fun _ _ => .er [206])
  (fun t l c => oMakeSl h t (xe N fr l) (xe N fr c))
  (fun t x lo hi mx => oSlice N fr h t (xe N fr x) lo hi mx)
  (fun s x i => oFieldA h (fieldOff s i) (xe N fr x))
  (fun s x i => oField h s i (xe N fr x))
  (fun t x y => oIdxA h (PG.underlying t) (xe N fr x) (xe N fr y))
  (fun t x y => oIdx h t (xe N fr x) (xe N fr y))
  (fun t x k ok => oLook h t (xe N fr x) (xe N fr k) ok)
  (fun t x k v => oUpd h t (xe N fr x) (xe N fr k) (xe N fr v))
  (fun _ _ _ => .er [207])
  (fun _ _ _ _ => .er [208])
  (fun _ _ => .er [209])
  (fun _ _ => .er [210])
  (fun _ => .er [211])
  (fun _ _ _ _ => .er [212])
  (fun x i => oExt h i (xe N fr x))
  (fun c => oCall N fr h c)
  (fun _ => .er [213])
  (fun _ => .er [214])
  (fun _ => .er [215])
  (fun _ _ => .er [216])
  (fun _ _ _ => .er [217])
  (fun _ _ => .er [218]) op

/-! ### calls, code -/
abbrev CF := FuncId → List V → Hp → R A
abbrev RC := Nat → Code → X → R (Xt × X)
noncomputable def putD (N : Nat) (fr : T V) (d : Option Nat) (v : V) : R (T V) := Option.rec (motive := fun _ => R (T V)) (.ok fr) (fun d => R.when 140 (Nat.blt d N) (.ok (fset N fr d v))) d
noncomputable def putAll (N : Nat) : List Nat → List V → T V → R (T V)
  | [], [], fr => .ok fr
  | d :: ds, v :: vs, fr => R.when 141 (Nat.blt d N) (putAll N ds vs (fset N fr d v))
  | _, _, _ => .er [142]
/-- One round of a range over a function. -/
noncomputable def yield3 (m : Nat) (q : Xt × X) : R A := match q.1, q.2.h.get m with
  | .nrm, some (.loop false fr N ps asg body fn d) => .ok ⟨.b true, q.2.h.set m (.loop true fr N ps asg body fn d)⟩
  | _, _ => .er [143]
noncomputable def yield2 (rc : RC) (m : Nat) (N0 : Nat) (body0 : Code) (q : Xt × X) : R A := match q.1, q.2.h.get m with
  | .nrm, some (.loop true fr N ps asg body fn d) => (rc N0 body0 ⟨q.2.fr, q.2.h.set m (.loop false fr N ps asg body fn d), q.2.ds⟩).bind (yield3 m)
  | _, _ => .er [145]
noncomputable def yieldV (rc : RC) (m : Nat) (vs : List V) (h : Hp) : R A := match h.get m with
  | some (.loop true fr N ps asg body fn d) => (putAll N ps vs fr).bind fun fr1 => (rc N asg ⟨fr1, h, []⟩).bind (yield2 rc m N body)
  | _ => .er [147]
structure AD where
  v : V
  h : Hp
  ds : List Df
noncomputable def withD (ds : List Df) (r : R A) : R AD := r.bind fun q => A.rec (motive := fun _ => R AD) (fun v h => .ok ⟨v, h, ds⟩) q
noncomputable def callV (cf : CF) (rc : RC) (h : Hp) (f : Option V) (vs : Option (List V)) : R A := match f, vs with
  | some (.f g pre caps), some vs => cf g (pre ++ vs ++ caps) h
  | some (.y m), some vs => yieldV rc m vs h
  | _, _ => .er [150]
noncomputable def oCallS (cf : CF) (rc : RC) (N : Nat) (fr : T V) (h : Hp) (ds : List Df) (c : Call) : R AD := match c with
  | ⟨.value f, args, _⟩ => withD ds (callV cf rc h (xe N fr f) (xes N fr args.toList))
  | c => withD ds (oCall N fr h c)
noncomputable def oDefer (rnd : Bool) (N : Nat) (fr : T V) (h : Hp) (ds : List Df) (c : Call) : R AD := match c with
  | ⟨.value f, args, _⟩ => match rnd, xe N fr f, xes N fr args.toList with
    | false, some (.f g [] caps), some vs => .ok ⟨.t [], h, .fn g caps vs :: ds⟩
    | _, _, _ => .er [151]
  | _ => .er [151]
/-- The kinds of operations: 0 plain, 1 reads, 2 lays, 3 touches (4: a call, 5: a deferral). -/
def kindB : Builtin → Nat
  | .append => 3
  | _ => 0
def kindC (c : Call) : Nat := match c.callee with
  | .value _ => 4
  | .builtin b => kindB b
  | _ => 0
def kindCv : Option TypeDesc → Nat
  | some (.int _) => 0
  | _ => 3
noncomputable def kindOp : Op → Nat
  | .load _ _ => 1
  | .lookup _ _ _ _ => 1
  | .slice _ _ _ _ _ => 1
  | .alloc _ => 2
  | .box _ _ => 2
  | .buildSlice _ _ _ => 2
  | .convert src _ _ => kindCv (PG.underlying src)
  | .makeMap _ _ => 2
  | .makeSlice _ _ _ => 2
  | .store _ _ _ => 3
  | .mapUpdate _ _ _ _ => 3
  | .call c => kindC c
  | .defer _ => 5
  | _ => 0
noncomputable def opS (cf : CF) (rc : RC) (rnd : Bool) (N : Nat) (fr : T V) (h : Hp) (ds : List Df) (op : Op) : R AD := match op with
  | .call c => oCallS cf rc N fr h ds c
  | .defer c => oDefer rnd N fr h ds c
  | op => withD ds (opL N fr h op)
/-- What is fixed of an operation: where its guard's answer lies, its kind, the places that it waits for (a mask). -/
structure Dg where
  o : Oper
  g : Option (Option Nat × Bool)
  k : Nat
  m : Nat
def maskOf (acc : List Nat) (o : Oper) : Nat := o.after.toList.foldl (fun s e => if Region.binds .any e then s ||| 2 ^ e.on ||| acc.getD e.on 0 else s) 0
def guardOf (ops : List Oper) (o : Oper) : Option (Option Nat × Bool) := match o.guard with
  | none => none
  | some (j, w) => match ops[j]? with
    | some o' => some (o'.dst, w)
    | none => some (none, w)
noncomputable def dig (ops : List Oper) : List Oper → List Nat → List Dg
  | [], _ => []
  | o :: r, acc => ⟨o, guardOf ops o, kindOp o.op, maskOf acc o⟩ :: dig ops r (acc ++ [maskOf acc o])
/-- Is an operation wanted? -/
noncomputable def wants (N : Nat) (fr : T V) (g : Option (Option Nat × Bool)) : Option Bool := match g with
  | none => some true
  | some (some d, w) => match fget N fr d with
    | some (.b x) => some (x == w)
    | some (.t _) => some false
    | _ => none
  | some (none, _) => none
structure VX where
  v : V
  x : X
noncomputable def stepA (N : Nat) (fr : T V) (d : Option Nat) (r : R AD) : R VX := r.bind fun q => AD.rec (motive := fun _ => R VX) (fun v h ds => (putD N fr d v).bind fun fr => .ok ⟨v, ⟨fr, h, ds⟩⟩) q
noncomputable def stepO (cf : CF) (rc : RC) (rnd : Bool) (N : Nat) (g : Option (Option Nat × Bool)) (d : Option Nat) (op : Op) (x : X) : R VX :=
  X.rec (motive := fun _ => R VX) (fun fr h ds => Option.rec (motive := fun _ => R VX) (.er [152]) (fun b => Bool.rec (motive := fun _ => R VX) (stepA N fr d (.ok ⟨.t [], h, ds⟩)) (stepA N fr d (opS cf rc rnd N fr h ds op)) b) (wants N fr g)) x
noncomputable def exO (cf : CF) (rc : RC) (rnd : Bool) (N : Nat) (l : List Dg) : X → R X :=
  List.rec (motive := fun _ => X → R X) (fun x => .ok x) (fun g _ ih x => (R.tag (match g.o.dst with | some d => 1000 + d | none => 999) (stepO cf rc rnd N g.g g.o.dst g.o.op x)).bind fun q => VX.rec (motive := fun _ => R X) (fun _ x => ih x) q) l

/-! ### a statement in open order -/
def eq1 : V → V → Bool
  | .b x, .b y => x == y
  | .i k a, .i k' b => decide (k = k') && decide (a = b)
  | .s x, .s y => x.data.toList == y.data.toList
  | .p0, .p0 => true
  | .p m o, .p m' o' => Nat.beq m m' && Nat.beq o o'
  | .l0, .l0 => true
  | .l m f o n, .l m' f' o' n' => Nat.beq m m' && Nat.beq f f' && Nat.beq o o' && Nat.beq n n'
  | .m0, .m0 => true
  | .m m, .m m' => Nat.beq m m'
  | .f0, .f0 => true
  | .f g [] [], .f g' [] [] => Nat.beq g g'
  | .y m, .y m' => Nat.beq m m'
  | .i0, .i0 => true
  | _, _ => false
def eqL : List V → List V → Bool
  | [], [] => true
  | x :: r, y :: q => eq1 x y && eqL r q
  | _, _ => false
def eqW : V → V → Bool
  | .a l, .a l' => eqL l l'
  | .t l, .t l' => eqL l l'
  | x, y => eq1 x y
structure Rs where
  i : Nat
  op : Op
  fr : T V
  v : V
/-- What is known in a statement in open order: the place; who has touched, who has laid so far (masks); the memory behind the last that has touched, ahead of each of them; who has read (each with its frame and answer). -/
structure An where
  i : Nat
  tm : Nat
  am : Nat
  ht : Hp
  th : List (Nat × Hp)
  rs : List Rs
  x : X
def within (a b : Nat) : Bool := Nat.beq (a &&& b) a
noncomputable def same (N : Nat) (fr : T V) (h : Hp) (op : Op) (v : V) : Bool := R.rec (motive := fun _ => Bool) (fun q => A.rec (motive := fun _ => Bool) (fun u _ => eqW u v) q) (fun _ => false) (opL N fr h op)
noncomputable def thOk (N : Nat) (m : Nat) (fr : T V) (op : Op) (v : V) (th : List (Nat × Hp)) : Bool := List.rec (motive := fun _ => Bool) true (fun r _ ih => iteB (m.testBit r.1) ih (iteB (same N fr r.2 op v) ih false)) th
noncomputable def rsOk (N : Nat) (m : Nat) (h : Hp) (rs : List Rs) : Bool := List.rec (motive := fun _ => Bool) true (fun r _ ih => iteB (m.testBit r.i) ih (iteB (same N r.fr h r.op r.v) ih false)) rs
def isSome1 : Option Bool → Bool
  | some true => true
  | _ => false
noncomputable def exP (N : Nat) (fr : T V) (d : Option Nat) (op : Op) (b : Bool) (ht : Hp) : R VX := (Bool.rec (motive := fun _ => R A) (.ok ⟨.t [], ht⟩) (opL N fr ht op) b).bind fun q => A.rec (motive := fun _ => R VX) (fun v _ => (putD N fr d v).bind fun fr' => .ok ⟨v, ⟨fr', ht, []⟩⟩) q
noncomputable def exA1 (cf : CF) (rc : RC) (rnd : Bool) (N : Nat) (d : Option Nat) (op : Op) (b : Bool) (k m : Nat) (i tm am : Nat) (ht : Hp) (th : List (Nat × Hp)) (rs : List Rs) (fr : T V) (h : Hp) (ds : List Df) : R An := match k with
  | 0 => (exP N fr d op b ht).bind fun q => .ok ⟨Nat.succ i, tm, am, ht, th, rs, ⟨q.x.fr, h, ds⟩⟩
  | 1 => (exP N fr d op b ht).bind fun q => R.when 162 (Bool.rec (motive := fun _ => Bool) true (thOk N m fr op q.v th) b) (.ok ⟨Nat.succ i, tm, am, ht, th, Bool.rec (motive := fun _ => List Rs) rs (⟨i, op, fr, q.v⟩ :: rs) b, ⟨q.x.fr, h, ds⟩⟩)
  | 2 => (stepA N fr d (Bool.rec (motive := fun _ => R AD) (.ok ⟨.t [], h, ds⟩) (withD ds (opL N fr h op)) b)).bind fun q => R.when 161 (within tm m) (.ok ⟨Nat.succ i, tm, am ||| 2 ^ i, ht, th, rs, q.x⟩)
  | _ => (stepA N fr d (Bool.rec (motive := fun _ => R AD) (.ok ⟨.t [], h, ds⟩) (opS cf rc rnd N fr h ds op) b)).bind fun q => R.when 160 (within (tm ||| am) m && rsOk N m q.x.h rs) (.ok ⟨Nat.succ i, tm ||| 2 ^ i, am, q.x.h, (i, ht) :: th, rs, q.x⟩)
noncomputable def exA2 (cf : CF) (rc : RC) (rnd : Bool) (N : Nat) (d : Option Nat) (op : Op) (g : Option (Option Nat × Bool)) (k m : Nat) (i tm am : Nat) (ht : Hp) (th : List (Nat × Hp)) (rs : List Rs) (x : X) : R An :=
  X.rec (motive := fun _ => R An) (fun fr h ds => Option.rec (motive := fun _ => R An) (.er [163]) (fun b => R.tag (match d with | some d => 2000 + d | none => 1999) (exA1 cf rc rnd N d op b k m i tm am ht th rs fr h ds)) (wants N fr g)) x
noncomputable def exA (cf : CF) (rc : RC) (rnd : Bool) (N : Nat) (l : List Dg) : An → R An :=
  List.rec (motive := fun _ => An → R An) (fun s => .ok s) (fun g _ ih s => (Dg.rec (motive := fun _ => R An) (fun o g k m => An.rec (motive := fun _ => R An) (fun i tm am ht th rs x => exA2 cf rc rnd N o.dst o.op g k m i tm am ht th rs x) s) g).bind ih) l
/-- The temporaries that an operation looks at. -/
def tmpsO : List Operand → List Nat
  | [] => []
  | .tmp t :: r => t :: tmpsO r
  | _ :: r => tmpsO r
def Dg.looks (g : Dg) : List Nat := (match g.g with
  | some (some d, _) => [d]
  | _ => []) ++ tmpsO g.o.op.operands.toList
def hasN (l : List Nat) (d : Option Nat) : Bool := match d with
  | some d => l.any fun t => Nat.beq t d
  | none => false
/-- Two operations that share a temporary one of them writes wait for one another. -/
def prevOk (g : Dg) (lk : List Nat) : List (Nat × Dg × List Nat) → Bool
  | [] => true
  | (j, p, lp) :: r => (g.m.testBit j || !(hasN lk p.o.dst || hasN lp g.o.dst || hasN g.o.dst.toList p.o.dst)) && prevOk g lk r
def backOk (i : Nat) : List Edge → Bool
  | [] => true
  | e :: r => (!Region.binds .any e || Nat.blt e.on i) && backOk i r
def tmpsOk : List Dg → Nat → List (Nat × Dg × List Nat) → Bool
  | [], _, _ => true
  | g :: r, i, acc => backOk i g.o.after.toList && prevOk g g.looks acc && tmpsOk r (i + 1) ((i, g, g.looks) :: acc)

abbrev EC := Bool → Nat → FuncId → Code → X → R (Xt × X)
noncomputable def cSeq (ih : EC) (rnd : Bool) (N : Nat) (fn : FuncId) (b : Code) (q : Xt × X) : R (Xt × X) :=
  Prod.rec (motive := fun _ => R (Xt × X)) (fun e x => Xt.rec (motive := fun _ => R (Xt × X)) (ih rnd N fn b x) (.ok (.ret, x)) (fun j => .ok (.exi j, x)) e) q
noncomputable def cCond (ih : EC) (rnd : Bool) (N : Nat) (fn : FuncId) (v : Option V) (a b : Code) (x : X) : R (Xt × X) := match v with
  | some (.b true) => ih rnd N fn a x
  | some (.b false) => ih rnd N fn b x
  | _ => .er [171]
noncomputable def cBlock (id : Nat) (q : Xt × X) : R (Xt × X) :=
  Prod.rec (motive := fun _ => R (Xt × X)) (fun e x => Xt.rec (motive := fun _ => R (Xt × X)) (.ok (.nrm, x)) (.ok (.ret, x)) (fun j => .ok (iteB (Nat.beq j id) .nrm (.exi j), x)) e) q
noncomputable def cRange2 (k : Nat) (x : X) (q : A) : R (Xt × X) := match q.h.get (Nat.succ k) with
  | some (.loop true _ _ _ _ _ _ _) => .ok (.nrm, ⟨x.fr, q.h.del (Nat.succ k), .mark k :: x.ds⟩)
  | _ => .er [173]
noncomputable def cRange (cf : CF) (rnd : Bool) (N : Nat) (fn : FuncId) (v : Option V) (ps : Array Tmp) (asg body : Code) (x : X) : R (Xt × X) := match rnd, v with
  | false, some (.f g pre caps) => (cf g (pre ++ [.y (Nat.succ x.h.n)] ++ caps) ((x.h.new .dfr).new (.loop true x.fr N ps.toList asg body fn x.h.n))).bind fun q => cRange2 x.h.n x q
  | _, _ => .er [174]
noncomputable def cReg (cf : CF) (rc : RC) (rnd : Bool) (N : Nat) (l : List Dg) (dr : Bool) (x : X) : R (Xt × X) :=
  Bool.rec (motive := fun _ => R (Xt × X)) ((exO cf rc rnd N l x).bind fun x => .ok (.nrm, x)) (R.when 164 (tmpsOk l 0 []) ((exA cf rc rnd N l ⟨0, 0, 0, x.h, [], [], x⟩).bind fun s => .ok (.nrm, s.x))) dr
noncomputable def exC1 (cf : CF) (ih : EC) (rnd : Bool) (N : Nat) (fn : FuncId) (c : Code) (x : X) : R (Xt × X) := Code.casesOn (motive := fun _ => R (Xt × X)) c
  (.ok (.nrm, x))
  (fun id ops dr => R.tag (10000 + id) (cReg cf (fun N c x => ih true N fn c x) rnd N (dig ops.toList ops.toList []) dr x))
  (fun a b => (ih rnd N fn a x).bind (cSeq ih rnd N fn b))
  (fun c a b => cCond ih rnd N fn (xe N x.fr c) a b x)
  (fun id c => (ih rnd N fn c x).bind (cBlock id))
  (fun c => (ih rnd N fn c x).bind (cSeq ih rnd N fn (.loop c)))
  (fun f ps asg body => cRange cf rnd N fn (xe N x.fr f) ps asg body x)
  (fun id => .ok (.exi id, x))
  (fun _ => .er [175])
  (fun _ => .ok (.nrm, x))
  (fun _ => .er [176])
  (.ok (.ret, x))
  (fun _ => .er [177])
noncomputable def exC (cf : CF) (fuel : Nat) : EC :=
  Nat.rec (motive := fun _ => EC) (fun _ _ _ _ _ => .er [170]) (fun _ ih => exC1 cf ih) fuel
noncomputable def resV (N : Nat) (fr : T V) (h : Hp) : List ResultVar → R (List V)
  | [] => .ok []
  | .tmp t :: r => match fget N fr t with
    | some v => (resV N fr h r).bind fun l => .ok (v :: l)
    | none => .er [178]
  | .cell a t :: r => match fget N fr a with
    | some p => (rd h t p).bind fun v => (resV N fr h r).bind fun l => .ok (v :: l)
    | none => .er [179]
def tupV : List V → V
  | [v] => v
  | l => .t l
noncomputable def args0 (N : Nat) : Nat → List V → T V → T V
  | _, [], t => t
  | i, v :: r, t => args0 N (Nat.succ i) r (fset N t i v)
/-- A deferred call behind a return: it asks what unwinds (nothing), and goes on. -/
noncomputable def exD2 (q : Xt × X) : R Hp := match q.1, q.2.ds with
  | .nrm, [] => .ok q.2.h
  | .ret, [] => .ok q.2.h
  | _, _ => .er [181]
noncomputable def exD1 (cf : CF) (fuel : Nat) (g N : Nat) (ops : List Oper) (y : Code) (args : List V) (h : Hp) : R Hp := match ops with
  | [⟨some d0, .call ⟨.builtin .recover, as0, _⟩, _, _, _, none⟩, ⟨some d1, .assign (.tmp d2), _, _, _, none⟩] =>
    R.when 180 (Nat.beq d0 d2 && Nat.blt d0 N && Nat.blt d1 N && Nat.ble args.length N && (match as0.toList with | [] => true | _ => false)) ((exC cf fuel false N g y ⟨fset N (fset N (args0 N 0 args .e) d0 .i0) d1 .i0, h, []⟩).bind exD2)
  | _ => .er [182]
noncomputable def exD0 (cf : CF) (fuel : Nat) (g N : Nat) (c : Option Code) (rs : List ResultVar) (args : List V) (h : Hp) : R Hp := match c, rs with
  | some (.seq (.region _ ops false) y), [] => exD1 cf fuel g N ops.toList y args h
  | _, _ => .er [183]
noncomputable def exD (cf : CF) (fuel : Nat) (g : FuncId) (args : List V) (h : Hp) : R Hp := match PG.funcs[g]? with
  | some fn => R.when 184 (!(fn.name == "runtime.NumGoroutine")) (exD0 cf fuel g fn.ntmps fn.body fn.results.toList args h)
  | none => .er [184]
noncomputable def leave (cf : CF) (fuel : Nat) : List Df → Hp → R Hp
  | [], h => .ok h
  | .fn g caps args :: ds, h => (exD cf fuel g (args ++ caps) h).bind fun h' => leave cf fuel ds h'
  | .mark m :: ds, h => match h.get m with
    | some .dfr => leave cf fuel ds (h.del m)
    | _ => .er [185]
noncomputable def leave1 (cf : CF) (fuel : Nat) (q : Xt × X) : R Hp := match q.1 with
  | .exi _ => .er [192]
  | _ => leave cf fuel q.2.ds q.2.h
noncomputable def exF (cf : CF) (fuel : Nat) (g : FuncId) (nm : String) (N : Nat) (rs : List ResultVar) (c : Code) (args : List V) (h : Hp) : R A :=
  R.when 191 (!(nm == "runtime.NumGoroutine") && Nat.ble args.length N) ((exC cf fuel false N g c ⟨args0 N 0 args .e, h, []⟩).bind fun q => (leave1 cf fuel q).bind fun h' => (resV N q.2.fr h' rs).bind fun vs => .ok ⟨tupV vs, h'⟩)
noncomputable def exF1 (cf : CF) (fuel : Nat) (g : FuncId) (o : Option Func) (args : List V) (h : Hp) : R A := match o with
  | some fn => match fn.body with
    | some c => exF cf fuel g fn.name fn.ntmps fn.results.toList c args h
    | none => .er [193]
  | none => .er [194]
noncomputable def exN (fuel : Nat) (d : Nat) : CF :=
  Nat.rec (motive := fun _ => CF) (fun _ _ _ => .er [190]) (fun _ ih g args h => R.tag (100000 + g) (exF1 ih fuel g PG.funcs[g]? args h)) d
end Go.Proofs.YtbcdgcodnkgdoaaGreat.Run
