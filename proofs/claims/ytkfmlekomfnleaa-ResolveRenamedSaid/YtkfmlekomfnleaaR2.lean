/- A statute as data; what a resolver holds. Conditions: none. -/
import Derived.Test.YtkfmlekomfnleaaR1
import Derived.Test.YtkfmlekomfnleaaS
set_option linter.unusedVariables false
set_option linter.unusedSimpArgs false
set_option maxRecDepth 10000
namespace Go.Proofs.Ytkfmlekomfnleaa
open Go Go.RowKit

abbrev kI : K := .int .i64
abbrev kStrs : K := .sl 16 .str
abbrev kInts : K := .sl 8 kI
abbrev kMember : K := .pr .str .str
abbrev kPredT : K := .pr .str (.pr kI (.pr kStrs kInts))
abbrev kSource : K := .pr .str kI
abbrev kLitT : K := .pr .bool (.pr .str (.pr kStrs (.pr .bool kI)))
abbrev kTerm : K := .pr kI (.pr .str (.pr kStrs kI))
abbrev kTerms : K := .sl 56 kTerm
abbrev kGuard : K := .pr kTerms (.pr kI kTerms)
abbrev kPrem : K := .pr kI (.pr kLitT (.pr kGuard (.pr .str .str)))
abbrev kPrems : K := .sl 160 kPrem
abbrev kRule : K := .pr .str (.pr .str (.pr kI (.pr kI (.pr kPrems (.pr kI kLitT)))))
abbrev kExc : K := .pr .str .str
abbrev kTotal : K := .pr .str (.pr .str (.pr kStrs (.pr .bool kI)))
abbrev kStat : K := .pr .str (.pr kStrs (.pr (.sl 32 kMember) (.pr (.sl 72 kPredT) (.pr (.sl 24 kStrs) (.pr (.sl 24 kSource) (.pr (.sl 144 kRule) (.pr (.sl 32 kExc) (.sl 72 kTotal))))))))
abbrev Str := ByteArray
/-- A statute's parts. -/
abbrev sKinds (s : kStat.V) : List Str := s.2.1
abbrev sMembers (s : kStat.V) : List kMember.V := s.2.2.1
abbrev sPreds (s : kStat.V) : List kPredT.V := s.2.2.2.1
abbrev sClasses (s : kStat.V) : List (List Str) := s.2.2.2.2.1
abbrev sSources (s : kStat.V) : List kSource.V := s.2.2.2.2.2.1
abbrev sRules (s : kStat.V) : List kRule.V := s.2.2.2.2.2.2.1
abbrev sExcepts (s : kStat.V) : List kExc.V := s.2.2.2.2.2.2.2.1
abbrev sTotals (s : kStat.V) : List kTotal.V := s.2.2.2.2.2.2.2.2
def nameOf {b : K} (x : (K.pr .str b).V) : Str := x.1
/-- The first place of each name. -/
def indexGo : List Str → Int → List (Str × Int) → List (Str × Int)
  | [], _, m => m
  | x :: r, i, m => indexGo r (i + 1) (match getM m x with | some _ => m | none => putM m x i)
def indexD (l : List Str) : List (Str × Int) := indexGo l 0 []
def fst? : List Str → Str → Option Int
  | [], _ => none
  | x :: r, k => if x = k then some 0 else (fst? r k).map (· + 1)
theorem fst?_some : ∀ {l : List Str} {k : Str} {i : Int}, fst? l k = some i → 0 ≤ i ∧ i < l.length ∧ l[i.toNat]? = some k := by
  intro l
  induction l with
  | nil => intro k i h; cases h
  | cons x r ih =>
    intro k i h
    rw [fst?] at h
    by_cases hx : x = k
    · rw [if_pos hx] at h
      cases h
      exact ⟨by omega, by simp, by simp [hx]⟩
    · rw [if_neg hx] at h
      cases hr : fst? r k with
      | none => rw [hr] at h; cases h
      | some j =>
        rw [hr] at h
        simp only [Option.map_some, Option.some.injEq] at h
        obtain ⟨h1, h2, h3⟩ := ih hr
        refine ⟨by omega, by simp; omega, ?_⟩
        rw [show i.toNat = j.toNat + 1 by omega]
        simpa using h3
theorem indexGo_get : ∀ (l : List Str) (i : Int) (m : List (Str × Int)) (k : Str), getM (indexGo l i m) k = match getM m k with | some v => some v | none => (fst? l k).map (fun n => i + n) := by
  intro l
  induction l with
  | nil => intro i m k; rw [indexGo]; cases getM m k <;> rfl
  | cons x r ih =>
    intro i m k
    rw [indexGo, ih, fst?]
    have hmap : ((fst? r k).map (· + 1)).map (fun n : Int => i + n) = (fst? r k).map fun n : Int => i + 1 + n := by
      cases fst? r k with
      | none => rfl
      | some n => simp; omega
    cases hx : getM m x with
    | some v =>
      by_cases h : x = k
      · subst h; simp only [hx]
      · rw [if_neg h, hmap]
    | none =>
      simp only [getM_put]
      by_cases h : x = k
      · subst h; simp [hx]
      · rw [if_neg h, if_neg h, hmap]
theorem indexD_get (l : List Str) (k : Str) : getM (indexD l) k = fst? l k := by
  unfold indexD
  rw [indexGo_get]
  show (fst? l k).map _ = _
  cases fst? l k with
  | none => rfl
  | some n => simp
/-! ### reading data -/
theorem sl_cell {M : Mem} {by_ : Nat} {t : K} {cs : List Value} {xs : List t.V} (h : Rd (.sl by_ t) M cs xs) : ∃ A c, cs = [.slice A xs.length c] := by
  obtain ⟨A, c, he, _⟩ := h
  exact ⟨A, c, he⟩
theorem sl_small {M : Mem} {by_ : Nat} {t : K} {cs : List Value} {xs : List t.V} (h : Rd (.sl by_ t) M cs xs) : xs.length * by_ ≤ reach := by
  obtain ⟨A, c, _, _, _, h4, _⟩ := h
  exact h4
theorem sl_get {M : Mem} {by_ : Nat} {t : K} {A : Option Addr} {n c : Nat} {xs : List t.V} (h : Rd (.sl by_ t) M [.slice A n c] xs) {i : Nat} {x : t.V} (hi : xs[i]? = some x) :
    ∃ B O cs, A = some ⟨B, O, none⟩ ∧ cs.length = t.sz ∧ Rd t M cs x ∧ ∀ (j : Nat) (v : Value), cs[j]? = some v → M B (O + i * t.sz + j) v := by
  obtain ⟨A', c', he, _, _, _, hr⟩ := h
  have := (List.cons.inj he).1
  injection this with h1 h2 h3
  subst h1
  exact hr.get hi
theorem str_cell {M : Mem} {cs : List Value} {x : Str} (h : Rd .str M cs x) : cs = [.string x] := h.1
theorem int_cell {M : Mem} {cs : List Value} {x : Int} (h : Rd kI M cs x) : cs = [.int .i64 x] := h.1
theorem i64_in {x : Int} (h : inR .i64 x) : -9223372036854775808 ≤ x ∧ x ≤ 9223372036854775807 := by
  simp [inR, Lit.wf, IntKind.min, IntKind.max, IntKind.signed, IntKind.bits] at h
  omega
theorem rd_name {M : Mem} {b : K} {cs : List Value} {x : (K.pr .str b).V} (h : Rd (.pr .str b) M cs x) : ∃ c2, cs = .string (nameOf x) :: c2 := by
  obtain ⟨c1, c2, rfl, h1, _⟩ := h
  exact ⟨c2, by rw [h1.1]; rfl⟩
/-! ### what a resolver holds -/
structure RC where
  (A1 A2 A3 A4 A5 A6 A7 A8 : Option Addr)
  (c1 c2 c3 c4 c5 c6 c7 c8 : Nat)
  (b1 b2 b3 b4 b5 b6 : Nat)
@[reducible] def RC.stat (x : RC) (s : kStat.V) : List Value := [.string s.1, .slice x.A1 (sKinds s).length x.c1, .slice x.A2 (sMembers s).length x.c2, .slice x.A3 (sPreds s).length x.c3, .slice x.A4 (sClasses s).length x.c4, .slice x.A5 (sSources s).length x.c5, .slice x.A6 (sRules s).length x.c6, .slice x.A7 (sExcepts s).length x.c7, .slice x.A8 (sTotals s).length x.c8]
@[reducible] def RC.cells (x : RC) (s : kStat.V) (at_ : Int) : List Value := [.string s.1, .slice x.A1 (sKinds s).length x.c1, .slice x.A2 (sMembers s).length x.c2, .slice x.A3 (sPreds s).length x.c3, .slice x.A4 (sClasses s).length x.c4, .slice x.A5 (sSources s).length x.c5, .slice x.A6 (sRules s).length x.c6, .slice x.A7 (sExcepts s).length x.c7, .slice x.A8 (sTotals s).length x.c8,
  .int .i64 at_, .map (some x.b1), .map (some x.b2), .map (some x.b3), .map (some x.b4), .map (some x.b5), .map (some x.b6)]
abbrev strK (x : Str) : Value := .string x
abbrev intK (x : Int) : Value := .int .i64 x
/-- A map that lies where one may read. -/
def MapOn (w : World) (ok : Nat → Prop) (b : Nat) (D : List (Str × Int)) : Prop := ok b ∧ MapAt w strK intK b D
/-- A statute's data. -/
structure StatOn (M : Mem) (s : kStat.V) (x : RC) : Prop where
  kinds : Rd kStrs M [.slice x.A1 (sKinds s).length x.c1] (sKinds s)
  members : Rd (.sl 32 kMember) M [.slice x.A2 (sMembers s).length x.c2] (sMembers s)
  preds : Rd (.sl 72 kPredT) M [.slice x.A3 (sPreds s).length x.c3] (sPreds s)
  classes : Rd (.sl 24 kStrs) M [.slice x.A4 (sClasses s).length x.c4] (sClasses s)
  sources : Rd (.sl 24 kSource) M [.slice x.A5 (sSources s).length x.c5] (sSources s)
  rules : Rd (.sl 144 kRule) M [.slice x.A6 (sRules s).length x.c6] (sRules s)
  excepts : Rd (.sl 32 kExc) M [.slice x.A7 (sExcepts s).length x.c7] (sExcepts s)
  totals : Rd (.sl 72 kTotal) M [.slice x.A8 (sTotals s).length x.c8] (sTotals s)
theorem StatOn.mono {M M' : Mem} {s : kStat.V} {x : RC} (h : StatOn M s x) (hM : Mem.le M M') : StatOn M' s x :=
  ⟨h.kinds.mono hM, h.members.mono hM, h.preds.mono hM, h.classes.mono hM, h.sources.mono hM, h.rules.mono hM, h.excepts.mono hM, h.totals.mono hM⟩
structure RS (w : World) (ok : Nat → Prop) (br : Nat) (s : kStat.V) (at_ : Int) (x : RC) : Prop where
  cell : ∀ (j : Nat) (v : Value), (x.cells s at_)[j]? = some v → mem w ok br j v
  stat : StatOn (mem w ok) s x
  kinds : MapOn w ok x.b1 (indexD (sKinds s))
  members : MapOn w ok x.b2 (indexD ((sMembers s).map nameOf))
  preds : MapOn w ok x.b3 (indexD ((sPreds s).map nameOf))
  sources : MapOn w ok x.b4 (indexD ((sSources s).map nameOf))
  rules : MapOn w ok x.b5 (indexD ((sRules s).map nameOf))
  totals : MapOn w ok x.b6 (indexD ((sTotals s).map nameOf))
theorem MapAt.lt {w : World} {b : Nat} {D : List (Str × Int)} (h : MapAt w strK intK b D) : b < w.heap.size := by
  obtain ⟨es, clock, h1, _⟩ := h
  exact (Array.getElem?_eq_some_iff.1 h1).1
theorem MapOn.to {w w' : World} {S ok ok' : Nat → Prop} {b : Nat} {D : List (Str × Int)} (h : MapOn w ok b D) (k : Keeps S w w') (hS : ∀ b, ok b → b < w.heap.size → ¬ S b ∧ ok' b) : MapOn w' ok' b D :=
  have h2 := hS b h.1 h.2.lt
  ⟨h2.2, h.2.keeps k h2.1⟩
theorem mem_to {w w' : World} {S ok ok' : Nat → Prop} (k : Keeps S w w') (hS : ∀ b, ok b → b < w.heap.size → ¬ S b ∧ ok' b) : Mem.le (mem w ok) (mem w' ok') := fun B O v h => by
  have hl := World.block_lt_of_cell? w _ h.2
  obtain ⟨h1, h2⟩ := hS B h.1.1 hl
  have h3 := k.block B hl h1
  exact ⟨⟨h2, (frozen_same h3 _).trans h.1.2⟩, by simpa [World.cell?, h3] using h.2⟩
/-- What it holds, later, where it was not turned. -/
theorem RS.to {w w' : World} {S ok ok' : Nat → Prop} {br : Nat} {s : kStat.V} {at_ : Int} {x : RC} (h : RS w ok br s at_ x) (k : Keeps S w w') (hS : ∀ b, ok b → b < w.heap.size → ¬ S b ∧ ok' b) : RS w' ok' br s at_ x :=
  ⟨fun j v hj => mem_to k hS _ _ _ (h.cell j v hj), h.stat.mono (mem_to k hS), h.kinds.to k hS, h.members.to k hS, h.preds.to k hS, h.sources.to k hS, h.rules.to k hS, h.totals.to k hS⟩
abbrev RSE (E : Env) (br : Nat) (s : kStat.V) (at_ : Int) (x : RC) : Prop := RS E.w0 (fun b => ¬ E.S b) br s at_ x
/-- For a callee that turns nothing. -/
theorem RS.call {E : Env} {H : List HP} {w : World} {br : Nat} {s : kStat.V} {at_ : Int} {x : RC} (h : RSE E br s at_ x) (hw : St E.w0 E.S H w) : RS w (fun b => ¬ No b) br s at_ x := h.to hw.kp (fun b hb _ => ⟨hb, fun k => k⟩)
/-- For a callee that turns chunks. -/
theorem RS.callF {E : Env} {H : List HP} {w : World} {F : Nat → Prop} {br : Nat} {s : kStat.V} {at_ : Int} {x : RC} (h : RSE E br s at_ x) (hw : St E.w0 E.S H w) (hF : ∀ b, F b → E.S b ∨ E.w0.heap.size ≤ b) : RS w (fun b => ¬ F b) br s at_ x :=
  h.to hw.kp (fun b hb hl => ⟨hb, fun k => (hF b k).elim hb (fun k2 => absurd hl (by omega))⟩)
theorem ro_callF {E : Env} {H : List HP} {w : World} {F : Nat → Prop} (hw : St E.w0 E.S H w) (hF : ∀ b, F b → E.S b ∨ E.w0.heap.size ≤ b) : Mem.le E.ro (mem w (fun b => ¬ F b)) :=
  mem_to hw.kp (fun b hb hl => ⟨hb, fun k => (hF b k).elim hb (fun k2 => absurd hl (by omega))⟩)
theorem ro_call {E : Env} {H : List HP} {w : World} (hw : St E.w0 E.S H w) : Mem.le E.ro (mem w (fun b => ¬ No b)) := mem_to hw.kp (fun b hb hl => ⟨hb, fun k => k⟩)
theorem RS.at_cell {E : Env} {H : List HP} {w : World} {br : Nat} {s : kStat.V} {at_ : Int} {x : RC} (h : RSE E br s at_ x) (hw : St E.w0 E.S H w) : w.cell? ⟨br, 9, none⟩ = some (.int .i64 at_) :=
  ((h.call hw).cell 9 _ rfl).2
section
variable {P : Program} {E : Env} {ops : Array Oper} {Q : Pst} {rest : List Oper} {G : List (Nat × Value)} {H : List HP}
variable {dst : Nat} {ty t kt et : TypeId} {pos : String} {af : Array Edge} {kz z ez : Value} {ksz kby sz by_ esz eby : Nat} {x y : Operand} {b : Nat} {D : List (Str × Int)} {k : Str}
theorem RW.lookupM [T : Ty P t (.map kt et) z sz by_] [TK : Ty P kt .string kz ksz kby] [TE : Ty P et (.int .i64) ez esz eby] (hm : MapOn E.w0 (fun b => ¬ E.S b) b D) (hx : ev G x = some (.map (some b))) (hy : ev G y = some (.string k)) (hz : ez = .int .i64 0) (hN : Nat.blt dst E.N = true)
    (kk : RW P E ops Q rest ((dst, .int .i64 ((getM D k).getD 0)) :: G) H) : RW P E ops Q (⟨some dst, .lookup t x y false, ty, pos, af, none⟩ :: rest) G H :=
  RW.lookup_ro (ι := strK) (υ := intK) (kd := .string) (a0 := 0) (KO := key_string) hz hm.2 hm.1 hx hy hN kk
theorem RW.lookupMOk [T : Ty P t (.map kt et) z sz by_] [TK : Ty P kt .string kz ksz kby] [TE : Ty P et (.int .i64) ez esz eby] (hm : MapOn E.w0 (fun b => ¬ E.S b) b D) (hx : ev G x = some (.map (some b))) (hy : ev G y = some (.string k)) (hz : ez = .int .i64 0) (hN : Nat.blt dst E.N = true)
    (kk : RW P E ops Q rest ((dst, .tuple #[.int .i64 ((getM D k).getD 0), .bool (getM D k).isSome]) :: G) H) : RW P E ops Q (⟨some dst, .lookup t x y true, ty, pos, af, none⟩ :: rest) G H :=
  RW.lookupOk_ro (ι := strK) (υ := intK) (kd := .string) (a0 := 0) (KO := key_string) hz hm.2 hm.1 hx hy hN kk
end
attribute [local irreducible] RW CW
/-! ### want, kind, fresh -/
def wantD (b : Bool) (e at_ : Int) : Ex Unit := if b then .ok () else .error (e, at_)
abbrev vd : Unit → Unit → Value := fun _ _ => .tuple #[]
theorem want_ret {br : Nat} {b : Bool} {e at_ : Int} {w : World} (hc : w.cell? ⟨br, 9, none⟩ = some (.int .i64 at_)) :
    RetE0 Try.prog 69 [.pointer (some ⟨br, 0, none⟩), .bool b, .int .i64 e] w (wantD b e at_) (fun _ => .tuple #[]) := by
  refine Calls.enter Try.func69 rfl _ rfl rfl (S := No) (H := []) trivial ?_
  repeat (first|refine Ja ?_|refine Jb ?_|refine Jc ?_|refine Jd ?_|refine Je ?_|refine Jf ?_|refine Jg ?_|refine Jh ?_|refine Ji ?_|refine Jj ?_|refine Jk ?_|refine Jl ?_|refine Jm ?_|refine Jn ?_|refine Jo ?_|refine Jp ?_|refine Jq ?_|refine Jr ?_|refine Js ?_|refine Jt ?_|refine Ju ?_|refine Jv ?_|refine Jw ?_|refine Jx ?_|refine Jy ?_|refine Jz ?_|refine JA ?_|refine JB ?_|refine JC ?_|refine JD ?_|refine JE ?_|refine JF ?_|refine JG ?_|refine JH ?_|refine JI ?_|refine JJ ?_|refine JK ?_|refine JL ?_|refine JM ?_|refine CW.skip (PW.code ?_)|refine RW.nil (PW.code ?_))
  refine CW.cond rfl (fun h => ?_) (fun h => ?_)
  · have hb : b = false := by simpa using h
    subst hb
    refine CW.region ?_
    repeat (first|refine Ja ?_|refine Jb ?_|refine Jc ?_|refine Jd ?_|refine Je ?_|refine Jf ?_|refine Jg ?_|refine Jh ?_|refine Ji ?_|refine Jj ?_|refine Jk ?_|refine Jl ?_|refine Jm ?_|refine Jn ?_|refine Jo ?_|refine Jp ?_|refine Jq ?_|refine Jr ?_|refine Js ?_|refine Jt ?_|refine Ju ?_|refine Jv ?_|refine Jw ?_|refine Jx ?_|refine Jy ?_|refine Jz ?_|refine JA ?_|refine JB ?_|refine JC ?_|refine JD ?_|refine JE ?_|refine JF ?_|refine JG ?_|refine JH ?_|refine JI ?_|refine JJ ?_|refine JK ?_|refine JL ?_|refine JM ?_|refine CW.skip (PW.code ?_)|refine RW.nil (PW.code ?_))
    refine RW.load_old rfl hc (fun k => k) rfl rfl ?_
    refine RW.build (v := .agg #[.int .i64 e, .int .i64 at_]) rfl (fun w => by kernel_rfl) rfl ?_
    refine RW.makeInterface (fun ms hm => by cases hm) rfl rfl ?_
    exact RW.panic rfl rfl rfl fun w hw => XP.err rfl hw
  · have hb : b = true := by simpa using h
    subst hb
    refine CW.skip ?_
    refine PW.ret (rs := []) (vs := []) Try.results69 rfl ResOK.nil fun w hw => XP.ok () rfl hw
end Go.Proofs.Ytkfmlekomfnleaa
