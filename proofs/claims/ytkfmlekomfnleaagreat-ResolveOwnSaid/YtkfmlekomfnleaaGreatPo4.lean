/- Parts of the proof: The calculus, tenth part: stores into data of one's own. · A statute as data; what a resolver holds. · The resolver's small functions: kind, fresh, equal, has; money.Check. · The resolver's pred and class. · The resolver's class; a scope's see. · A rule's scope: see, arg, args. · The resolver's literal, term, unlike. · calendar.Parts, as far as a resolver asks of it: is it a day? · The resolver's guard, premise, rule. · The resolver's premise, rule. · The resolver's ruleItem, total. Conditions: none. -/
import Derived.Test.YtkfmlekomfnleaaGreatPo3
/- The calculus, tenth part: stores into data of one's own. Conditions: none; everything holds over any program. -/
set_option linter.unusedVariables false
set_option linter.unusedSimpArgs false
namespace Go.Proofs.YtkfmlekomfnleaaGreat
open Go Go.RowKit

theorem setCell_heap (w : World) (p : Addr) (v : Value) (i : Nat) : (w.setCell p v).heap[i]? = (w.heap[i]?).map fun o => if i = p.block then (match o with | .cells c t fr => .cells (if p.spot.isSome then c else c.setIfInBounds p.off v) t fr | o => o) else o := by
  simp only [World.setCell, Array.getElem?_modify]
  by_cases h : i = p.block
  · subst h
    rw [if_pos rfl]
    cases w.heap[p.block]? with
    | none => rfl
    | some o => cases o <;> simp
  · rw [if_neg (Ne.symm h)]
    cases w.heap[i]? <;> simp [h]
theorem setCell_frozen (w : World) (p q : Addr) (v : Value) : (w.setCell p v).frozen? q = w.frozen? q := by
  unfold World.frozen?
  rw [setCell_heap]
  cases w.heap[q.block]? with
  | none => rfl
  | some o =>
    by_cases h : q.block = p.block
    · cases o <;> simp [h]
    · cases o <;> simp [h]
theorem setCell_cell {w : World} {p q : Addr} {v u : Value} (h : w.cell? q = some u) : ∃ u', (w.setCell p v).cell? q = some u' := by
  unfold World.cell? at h ⊢
  rw [setCell_heap]
  cases ho : w.heap[q.block]? with
  | none => rw [ho] at h; cases h
  | some o =>
    rw [ho] at h
    cases o with
    | cells c t fr =>
      by_cases hs : q.spot.isSome = true
      · simp [hs] at h
      · simp only [hs] at h
        by_cases hb : q.block = p.block
        · simp only [Option.map_some, hb, if_true, hs]
          have hlt := (Array.getElem?_eq_some_iff.1 h).1
          refine ⟨_, Array.getElem?_eq_getElem (?_ : q.off < (if p.spot.isSome = true then c else c.setIfInBounds p.off v).size)⟩
          split <;> simpa using hlt
        · simp only [Option.map_some, hb, if_false, hs]
          exact ⟨u, h⟩
    | _ => cases h
/-- Cells of one's own, whatever they hold. -/
def areaHP (φ : Nat → Nat → Prop) : HP where
  p w F := ∀ B O, φ B O → ∃ v, mem w F B O v
  st := fun h _ k B O hb => (k B O hb).imp fun v hv => mem_same h _ _ _ hv
  up := fun h k B O hb => (k B O hb).imp fun v hv => mem_up h _ _ _ hv
theorem St.store_area {w0 w : World} {S : Nat → Prop} {pre r : List HP} {φ : Nat → Nat → Prop} {B O : Nat} (h : St w0 S (pre ++ areaHP φ :: r) w) (hφ : φ B O) (v : Value) : St w0 S (pre ++ areaHP φ :: r) (w.setCell ⟨B, O, none⟩ v) := by
  obtain ⟨F, hF, hc, hr⟩ := Sep.pull h.sep
  obtain ⟨v0, hv0⟩ := hc B O hφ
  have hb : F B := hv0.1.1
  refine ⟨h.kp.trans (S2 := fun i => i = B) (Keeps.set w _ v rfl) (fun i hi => hi ▸ (hF B hb).1), Sep.push ⟨F, fun i hi => ⟨(hF i hi).1, by rw [heap_set_size]; exact (hF i hi).2⟩, fun B' O' hb' => ?_, ?_⟩⟩
  · obtain ⟨u, hu⟩ := hc B' O' hb'
    obtain ⟨u', hu'⟩ := setCell_cell (p := ⟨B, O, none⟩) (v := v) hu.2
    exact ⟨u', ⟨hu.1.1, by rw [setCell_frozen]; exact hu.1.2⟩, hu'⟩
  · exact Sep.keep (fun i hi _ => heap_set_ne w _ v i (fun e => hi.2 (e ▸ hb))) (by rw [heap_set_size]; exact Nat.le_refl _) hr
theorem RW.store_area {P : Program} {E : Env} {ops : Array Oper} {Q : Pst} {rest : List Oper} {G : List (Nat × Value)} {ty : TypeId} {pos : String} {af : Array Edge} {t : TypeId} {d : TypeDesc} {z v : Value} {by_ : Nat} {x y : Operand} [T : Ty P t d z 1 by_] (pre : List HP) {r : List HP} {φ : Nat → Nat → Prop} {B O : Nat} {dst : Option Nat} (hdst : dst = none)
    (hx : ev G x = some (.pointer (some ⟨B, O, none⟩))) (hy : ev G y = some v) (hv : v.cells = #[v]) (h1 : v.oneCell' = true) (hφ : φ B O) (k : RW P E ops Q rest G (pre ++ areaHP φ :: r)) : RW P E ops Q (⟨dst, .store t x y, ty, pos, af, none⟩ :: rest) G (pre ++ areaHP φ :: r) := by
  subst hdst
  exact RW.step rfl (fun a w hf hw => by
    obtain ⟨F, hp, _⟩ := hw.get
    obtain ⟨v0, hv0⟩ := hp B O hφ
    have hcell := hv0.2
    have hst : (store ⟨B, O, none⟩ v).run P w = .ok () (w.setCell ⟨B, O, none⟩ v) := by
      rw [run_store _ _ _ _ _ h1]
      simp [stored, hcell, hv0.1.2]
    have hrun : (execOp a.eval ⟨none, .store t x y, ty, pos, af, none⟩).run P w = .ok .skip (w.setCell ⟨B, O, none⟩ v) := by
      simp [execOp, Instr.storeAt, Instr.sureAddr, hf.eval hx, hf.eval hy, storeVar, hv, T.runSize, storeCells, Addr.add, hst]
    rw [hrun]
    exact k _ _ (hf.skip _) (hw.store_area hφ v))
end Go.Proofs.YtkfmlekomfnleaaGreat
/- A statute as data; what a resolver holds. Conditions: none. -/
set_option linter.unusedVariables false
set_option linter.unusedSimpArgs false
set_option maxRecDepth 10000
namespace Go.Proofs.YtkfmlekomfnleaaGreat
open Go Go.RowKit

abbrev kI : K := .int .i64
abbrev kStrs : K := .sl 16 .str
abbrev kInts : K := .sl 8 kI
abbrev kMember : K := .pr .str .str
abbrev kPredT : K := .pr .str (.pr kI (.pr kStrs kInts))
abbrev kSource : K := .pr .str kI
abbrev kLitT : K := .pr .bool (.pr .str (.pr kStrs (.pr .bool kI)))
abbrev kTerm : K := .pr kI (.pr .str (.pr kStrs kI))
abbrev kTerms : K := .sl 56 kTerm
abbrev kGuard : K := .pr kTerms (.pr kI kTerms)
abbrev kPrem : K := .pr kI (.pr kLitT (.pr kGuard (.pr .str .str)))
abbrev kPrems : K := .sl 160 kPrem
abbrev kRule : K := .pr .str (.pr .str (.pr kI (.pr kI (.pr kPrems (.pr kI kLitT)))))
abbrev kExc : K := .pr .str .str
abbrev kTotal : K := .pr .str (.pr .str (.pr kStrs (.pr .bool kI)))
abbrev kStat : K := .pr .str (.pr kStrs (.pr (.sl 32 kMember) (.pr (.sl 72 kPredT) (.pr (.sl 24 kStrs) (.pr (.sl 24 kSource) (.pr (.sl 144 kRule) (.pr (.sl 32 kExc) (.sl 72 kTotal))))))))
abbrev Str := ByteArray
/-- A statute's parts. -/
abbrev sKinds (s : kStat.V) : List Str := s.2.1
abbrev sMembers (s : kStat.V) : List kMember.V := s.2.2.1
abbrev sPreds (s : kStat.V) : List kPredT.V := s.2.2.2.1
abbrev sClasses (s : kStat.V) : List (List Str) := s.2.2.2.2.1
abbrev sSources (s : kStat.V) : List kSource.V := s.2.2.2.2.2.1
abbrev sRules (s : kStat.V) : List kRule.V := s.2.2.2.2.2.2.1
abbrev sExcepts (s : kStat.V) : List kExc.V := s.2.2.2.2.2.2.2.1
abbrev sTotals (s : kStat.V) : List kTotal.V := s.2.2.2.2.2.2.2.2
def nameOf {b : K} (x : (K.pr .str b).V) : Str := x.1
/-- The first place of each name. -/
def indexGo : List Str → Int → List (Str × Int) → List (Str × Int)
  | [], _, m => m
  | x :: r, i, m => indexGo r (i + 1) (match getM m x with | some _ => m | none => putM m x i)
def indexD (l : List Str) : List (Str × Int) := indexGo l 0 []
def fst? : List Str → Str → Option Int
  | [], _ => none
  | x :: r, k => if x = k then some 0 else (fst? r k).map (· + 1)
theorem fst?_some : ∀ {l : List Str} {k : Str} {i : Int}, fst? l k = some i → 0 ≤ i ∧ i < l.length ∧ l[i.toNat]? = some k := by
  intro l
  induction l with
  | nil => intro k i h; cases h
  | cons x r ih =>
    intro k i h
    rw [fst?] at h
    by_cases hx : x = k
    · rw [if_pos hx] at h
      cases h
      exact ⟨by omega, by simp, by simp [hx]⟩
    · rw [if_neg hx] at h
      cases hr : fst? r k with
      | none => rw [hr] at h; cases h
      | some j =>
        rw [hr] at h
        simp only [Option.map_some, Option.some.injEq] at h
        obtain ⟨h1, h2, h3⟩ := ih hr
        refine ⟨by omega, by simp; omega, ?_⟩
        rw [show i.toNat = j.toNat + 1 by omega]
        simpa using h3
theorem indexGo_get : ∀ (l : List Str) (i : Int) (m : List (Str × Int)) (k : Str), getM (indexGo l i m) k = match getM m k with | some v => some v | none => (fst? l k).map (fun n => i + n) := by
  intro l
  induction l with
  | nil => intro i m k; rw [indexGo]; cases getM m k <;> rfl
  | cons x r ih =>
    intro i m k
    rw [indexGo, ih, fst?]
    have hmap : ((fst? r k).map (· + 1)).map (fun n : Int => i + n) = (fst? r k).map fun n : Int => i + 1 + n := by
      cases fst? r k with
      | none => rfl
      | some n => simp; omega
    cases hx : getM m x with
    | some v =>
      by_cases h : x = k
      · subst h; simp only [hx]
      · rw [if_neg h, hmap]
    | none =>
      simp only [getM_put]
      by_cases h : x = k
      · subst h; simp [hx]
      · rw [if_neg h, if_neg h, hmap]
theorem indexD_get (l : List Str) (k : Str) : getM (indexD l) k = fst? l k := by
  unfold indexD
  rw [indexGo_get]
  show (fst? l k).map _ = _
  cases fst? l k with
  | none => rfl
  | some n => simp
/-! ### reading data -/
theorem sl_cell {M : Mem} {by_ : Nat} {t : K} {cs : List Value} {xs : List t.V} (h : Rd (.sl by_ t) M cs xs) : ∃ A c, cs = [.slice A xs.length c] := by
  obtain ⟨A, c, he, _⟩ := h
  exact ⟨A, c, he⟩
theorem sl_small {M : Mem} {by_ : Nat} {t : K} {cs : List Value} {xs : List t.V} (h : Rd (.sl by_ t) M cs xs) : xs.length * by_ ≤ reach := by
  obtain ⟨A, c, _, _, _, h4, _⟩ := h
  exact h4
theorem sl_get {M : Mem} {by_ : Nat} {t : K} {A : Option Addr} {n c : Nat} {xs : List t.V} (h : Rd (.sl by_ t) M [.slice A n c] xs) {i : Nat} {x : t.V} (hi : xs[i]? = some x) :
    ∃ B O cs, A = some ⟨B, O, none⟩ ∧ cs.length = t.sz ∧ Rd t M cs x ∧ ∀ (j : Nat) (v : Value), cs[j]? = some v → M B (O + i * t.sz + j) v := by
  obtain ⟨A', c', he, _, _, _, hr⟩ := h
  have := (List.cons.inj he).1
  injection this with h1 h2 h3
  subst h1
  exact hr.get hi
theorem str_cell {M : Mem} {cs : List Value} {x : Str} (h : Rd .str M cs x) : cs = [.string x] := h.1
theorem int_cell {M : Mem} {cs : List Value} {x : Int} (h : Rd kI M cs x) : cs = [.int .i64 x] := h.1
theorem i64_in {x : Int} (h : inR .i64 x) : -9223372036854775808 ≤ x ∧ x ≤ 9223372036854775807 := by
  simp [inR, Lit.wf, IntKind.min, IntKind.max, IntKind.signed, IntKind.bits] at h
  omega
theorem rd_name {M : Mem} {b : K} {cs : List Value} {x : (K.pr .str b).V} (h : Rd (.pr .str b) M cs x) : ∃ c2, cs = .string (nameOf x) :: c2 := by
  obtain ⟨c1, c2, rfl, h1, _⟩ := h
  exact ⟨c2, by rw [h1.1]; rfl⟩
/-! ### what a resolver holds -/
structure RC where
  (A1 A2 A3 A4 A5 A6 A7 A8 : Option Addr)
  (c1 c2 c3 c4 c5 c6 c7 c8 : Nat)
  (b1 b2 b3 b4 b5 b6 : Nat)
@[reducible] def RC.stat (x : RC) (s : kStat.V) : List Value := [.string s.1, .slice x.A1 (sKinds s).length x.c1, .slice x.A2 (sMembers s).length x.c2, .slice x.A3 (sPreds s).length x.c3, .slice x.A4 (sClasses s).length x.c4, .slice x.A5 (sSources s).length x.c5, .slice x.A6 (sRules s).length x.c6, .slice x.A7 (sExcepts s).length x.c7, .slice x.A8 (sTotals s).length x.c8]
@[reducible] def RC.cells (x : RC) (s : kStat.V) (at_ : Int) : List Value := [.string s.1, .slice x.A1 (sKinds s).length x.c1, .slice x.A2 (sMembers s).length x.c2, .slice x.A3 (sPreds s).length x.c3, .slice x.A4 (sClasses s).length x.c4, .slice x.A5 (sSources s).length x.c5, .slice x.A6 (sRules s).length x.c6, .slice x.A7 (sExcepts s).length x.c7, .slice x.A8 (sTotals s).length x.c8,
  .int .i64 at_, .map (some x.b1), .map (some x.b2), .map (some x.b3), .map (some x.b4), .map (some x.b5), .map (some x.b6)]
abbrev strK (x : Str) : Value := .string x
abbrev intK (x : Int) : Value := .int .i64 x
/-- A map that lies where one may read. -/
def MapOn (w : World) (ok : Nat → Prop) (b : Nat) (D : List (Str × Int)) : Prop := ok b ∧ MapAt w strK intK b D
/-- A statute's data. -/
structure StatOn (M : Mem) (s : kStat.V) (x : RC) : Prop where
  kinds : Rd kStrs M [.slice x.A1 (sKinds s).length x.c1] (sKinds s)
  members : Rd (.sl 32 kMember) M [.slice x.A2 (sMembers s).length x.c2] (sMembers s)
  preds : Rd (.sl 72 kPredT) M [.slice x.A3 (sPreds s).length x.c3] (sPreds s)
  classes : Rd (.sl 24 kStrs) M [.slice x.A4 (sClasses s).length x.c4] (sClasses s)
  sources : Rd (.sl 24 kSource) M [.slice x.A5 (sSources s).length x.c5] (sSources s)
  rules : Rd (.sl 144 kRule) M [.slice x.A6 (sRules s).length x.c6] (sRules s)
  excepts : Rd (.sl 32 kExc) M [.slice x.A7 (sExcepts s).length x.c7] (sExcepts s)
  totals : Rd (.sl 72 kTotal) M [.slice x.A8 (sTotals s).length x.c8] (sTotals s)
theorem StatOn.mono {M M' : Mem} {s : kStat.V} {x : RC} (h : StatOn M s x) (hM : Mem.le M M') : StatOn M' s x :=
  ⟨h.kinds.mono hM, h.members.mono hM, h.preds.mono hM, h.classes.mono hM, h.sources.mono hM, h.rules.mono hM, h.excepts.mono hM, h.totals.mono hM⟩
structure RS (w : World) (ok : Nat → Prop) (br : Nat) (s : kStat.V) (at_ : Int) (x : RC) : Prop where
  cell : ∀ (j : Nat) (v : Value), (x.cells s at_)[j]? = some v → mem w ok br j v
  stat : StatOn (mem w ok) s x
  kinds : MapOn w ok x.b1 (indexD (sKinds s))
  members : MapOn w ok x.b2 (indexD ((sMembers s).map nameOf))
  preds : MapOn w ok x.b3 (indexD ((sPreds s).map nameOf))
  sources : MapOn w ok x.b4 (indexD ((sSources s).map nameOf))
  rules : MapOn w ok x.b5 (indexD ((sRules s).map nameOf))
  totals : MapOn w ok x.b6 (indexD ((sTotals s).map nameOf))
theorem MapAt.lt {w : World} {b : Nat} {D : List (Str × Int)} (h : MapAt w strK intK b D) : b < w.heap.size := by
  obtain ⟨es, clock, h1, _⟩ := h
  exact (Array.getElem?_eq_some_iff.1 h1).1
theorem MapOn.to {w w' : World} {S ok ok' : Nat → Prop} {b : Nat} {D : List (Str × Int)} (h : MapOn w ok b D) (k : Keeps S w w') (hS : ∀ b, ok b → b < w.heap.size → ¬ S b ∧ ok' b) : MapOn w' ok' b D :=
  have h2 := hS b h.1 h.2.lt
  ⟨h2.2, h.2.keeps k h2.1⟩
theorem mem_to {w w' : World} {S ok ok' : Nat → Prop} (k : Keeps S w w') (hS : ∀ b, ok b → b < w.heap.size → ¬ S b ∧ ok' b) : Mem.le (mem w ok) (mem w' ok') := fun B O v h => by
  have hl := World.block_lt_of_cell? w _ h.2
  obtain ⟨h1, h2⟩ := hS B h.1.1 hl
  have h3 := k.block B hl h1
  exact ⟨⟨h2, (frozen_same h3 _).trans h.1.2⟩, by simpa [World.cell?, h3] using h.2⟩
/-- What it holds, later, where it was not turned. -/
theorem RS.to {w w' : World} {S ok ok' : Nat → Prop} {br : Nat} {s : kStat.V} {at_ : Int} {x : RC} (h : RS w ok br s at_ x) (k : Keeps S w w') (hS : ∀ b, ok b → b < w.heap.size → ¬ S b ∧ ok' b) : RS w' ok' br s at_ x :=
  ⟨fun j v hj => mem_to k hS _ _ _ (h.cell j v hj), h.stat.mono (mem_to k hS), h.kinds.to k hS, h.members.to k hS, h.preds.to k hS, h.sources.to k hS, h.rules.to k hS, h.totals.to k hS⟩
abbrev RSE (E : Env) (br : Nat) (s : kStat.V) (at_ : Int) (x : RC) : Prop := RS E.w0 (fun b => ¬ E.S b) br s at_ x
/-- For a callee that turns nothing. -/
theorem RS.call {E : Env} {H : List HP} {w : World} {br : Nat} {s : kStat.V} {at_ : Int} {x : RC} (h : RSE E br s at_ x) (hw : St E.w0 E.S H w) : RS w (fun b => ¬ No b) br s at_ x := h.to hw.kp (fun b hb _ => ⟨hb, fun k => k⟩)
/-- For a callee that turns chunks. -/
theorem RS.callF {E : Env} {H : List HP} {w : World} {F : Nat → Prop} {br : Nat} {s : kStat.V} {at_ : Int} {x : RC} (h : RSE E br s at_ x) (hw : St E.w0 E.S H w) (hF : ∀ b, F b → E.S b ∨ E.w0.heap.size ≤ b) : RS w (fun b => ¬ F b) br s at_ x :=
  h.to hw.kp (fun b hb hl => ⟨hb, fun k => (hF b k).elim hb (fun k2 => absurd hl (by omega))⟩)
theorem ro_callF {E : Env} {H : List HP} {w : World} {F : Nat → Prop} (hw : St E.w0 E.S H w) (hF : ∀ b, F b → E.S b ∨ E.w0.heap.size ≤ b) : Mem.le E.ro (mem w (fun b => ¬ F b)) :=
  mem_to hw.kp (fun b hb hl => ⟨hb, fun k => (hF b k).elim hb (fun k2 => absurd hl (by omega))⟩)
theorem ro_call {E : Env} {H : List HP} {w : World} (hw : St E.w0 E.S H w) : Mem.le E.ro (mem w (fun b => ¬ No b)) := mem_to hw.kp (fun b hb hl => ⟨hb, fun k => k⟩)
theorem RS.at_cell {E : Env} {H : List HP} {w : World} {br : Nat} {s : kStat.V} {at_ : Int} {x : RC} (h : RSE E br s at_ x) (hw : St E.w0 E.S H w) : w.cell? ⟨br, 9, none⟩ = some (.int .i64 at_) :=
  ((h.call hw).cell 9 _ rfl).2
section
variable {P : Program} {E : Env} {ops : Array Oper} {Q : Pst} {rest : List Oper} {G : List (Nat × Value)} {H : List HP}
variable {dst : Nat} {ty t kt et : TypeId} {pos : String} {af : Array Edge} {kz z ez : Value} {ksz kby sz by_ esz eby : Nat} {x y : Operand} {b : Nat} {D : List (Str × Int)} {k : Str}
theorem RW.lookupM [T : Ty P t (.map kt et) z sz by_] [TK : Ty P kt .string kz ksz kby] [TE : Ty P et (.int .i64) ez esz eby] (hm : MapOn E.w0 (fun b => ¬ E.S b) b D) (hx : ev G x = some (.map (some b))) (hy : ev G y = some (.string k)) (hz : ez = .int .i64 0) (hN : Nat.blt dst E.N = true)
    (kk : RW P E ops Q rest ((dst, .int .i64 ((getM D k).getD 0)) :: G) H) : RW P E ops Q (⟨some dst, .lookup t x y false, ty, pos, af, none⟩ :: rest) G H :=
  RW.lookup_ro (ι := strK) (υ := intK) (kd := .string) (a0 := 0) (KO := key_string) hz hm.2 hm.1 hx hy hN kk
theorem RW.lookupMOk [T : Ty P t (.map kt et) z sz by_] [TK : Ty P kt .string kz ksz kby] [TE : Ty P et (.int .i64) ez esz eby] (hm : MapOn E.w0 (fun b => ¬ E.S b) b D) (hx : ev G x = some (.map (some b))) (hy : ev G y = some (.string k)) (hz : ez = .int .i64 0) (hN : Nat.blt dst E.N = true)
    (kk : RW P E ops Q rest ((dst, .tuple #[.int .i64 ((getM D k).getD 0), .bool (getM D k).isSome]) :: G) H) : RW P E ops Q (⟨some dst, .lookup t x y true, ty, pos, af, none⟩ :: rest) G H :=
  RW.lookupOk_ro (ι := strK) (υ := intK) (kd := .string) (a0 := 0) (KO := key_string) hz hm.2 hm.1 hx hy hN kk
end
attribute [local irreducible] RW CW
/-! ### want, kind, fresh -/
def wantD (b : Bool) (e at_ : Int) : Ex Unit := if b then .ok () else .error (e, at_)
abbrev vd : Unit → Unit → Value := fun _ _ => .tuple #[]
theorem want_ret {br : Nat} {b : Bool} {e at_ : Int} {w : World} (hc : w.cell? ⟨br, 9, none⟩ = some (.int .i64 at_)) :
    RetE0 Tryz.prog 100 [.pointer (some ⟨br, 0, none⟩), .bool b, .int .i64 e] w (wantD b e at_) (fun _ => .tuple #[]) := by
  refine Calls.enter Tryz.func100 rfl _ rfl rfl (S := No) (H := []) trivial ?_
  refine Ja ?_;refine Jc ?_;refine Js ?_;refine Jb ?_
  refine CW.cond rfl (fun h => ?_) (fun h => ?_)
  · have hb : b = false := by simpa using h
    subst hb
    refine CW.region ?_
    refine Jc ?_;refine Jc ?_;refine Jf ?_;refine Je ?_
    refine RW.load_old rfl hc (fun k => k) rfl rfl ?_
    refine RW.build (v := .agg #[.int .i64 e, .int .i64 at_]) rfl (fun w => by kernel_rfl) rfl ?_
    refine RW.makeInterface (fun ms hm => by cases hm) rfl rfl ?_
    exact RW.panic rfl rfl rfl fun w hw => XP.err rfl hw
  · have hb : b = true := by simpa using h
    subst hb
    refine CW.skip ?_
    refine PW.ret (rs := []) (vs := []) Tryz.results100 rfl ResOK.nil fun w hw => XP.ok () rfl hw
end Go.Proofs.YtkfmlekomfnleaaGreat
/- The resolver's small functions: kind, fresh, equal, has; money.Check. Conditions: none. -/
set_option linter.unusedVariables false
set_option linter.unusedSimpArgs false
set_option maxRecDepth 10000
namespace Go.Proofs.YtkfmlekomfnleaaGreat
open Go Go.RowKit

attribute [local irreducible] RW CW
section
variable {E : Env} {ops : Array Oper} {Q : Pst} {rest : List Oper} {G : List (Nat × Value)} {H : List HP}
variable {dst : Nat} {ty : TypeId} {pos : String} {af : Array Edge}
theorem RW.want {fn : Func} {l : List Operand} {at2 : Array TypeId} {br : Nat} {b b0 : Bool} {e at_ : Int} {γ δ : Type} {SP : Ex γ} {V' : γ → δ → Value} {c' : γ → δ → List HP} {k : Unit → Ex γ} (hSP : SP = bnd (wantD b0 e at_) k)
    (hl : evs G l = some [.pointer (some ⟨br, 0, none⟩), .bool b, .int .i64 e]) (hb : b = b0) (hc : ∀ w, St E.w0 E.S H w → w.cell? ⟨br, 9, none⟩ = some (.int .i64 at_)) (hQ : Q.pan = PanP Tryz.prog fn (XP E.w0 E.S SP V' c')) (hds : E.ds = []) (hN : Nat.blt dst E.N = true)
    (kk : b = true → SP = k () → RW Tryz.prog E ops Q rest ((dst, .tuple #[]) :: G) H) : RW Tryz.prog E ops Q (⟨some dst, .call ⟨.value (.func 100), l.toArray, at2⟩, ty, pos, af, none⟩ :: rest) G H := by
  subst hb
  refine RW.callE0 hSP Tryz.call100 hl (fun w hw => want_ret (hc w hw)) hQ hds hN (fun x hx hS => kk ?_ hS)
  cases b with
  | true => rfl
  | false => cases hx
end
/-- All of a list, one by one. -/
def foldX {σ α : Type} (f : σ → α → Ex σ) : σ → List α → Ex σ
  | m, [] => .ok m
  | m, x :: r => bnd (f m x) fun m' => foldX f m' r
abbrev allX {α : Type} (f : α → Ex Unit) (l : List α) : Ex Unit := foldX (fun _ x => f x) () l
theorem foldX_step {σ α γ : Type} {f : σ → α → Ex σ} {m : σ} {xs : List α} {k : Nat} {r : σ → Ex γ} (h : k < xs.length) : bnd (foldX f m (xs.drop k)) r = bnd (f m xs[k]) fun m' => bnd (foldX f m' (xs.drop (k + 1))) r := by
  rw [List.drop_eq_getElem_cons h, foldX, bnd_assoc]
theorem foldX_end {σ α γ : Type} {f : σ → α → Ex σ} {m : σ} {xs : List α} {k : Nat} {r : σ → Ex γ} (h : xs.length ≤ k) : bnd (foldX f m (xs.drop k)) r = r m := by
  rw [List.drop_eq_nil_of_le h, foldX]; rfl
theorem evals_u {α : Type} {x : Ex Unit} {k : Unit → Ex α} {u : Unit} (h : x = .ok u) : bnd x k = k () := by rw [h]; rfl
def kindD (s : kStat.V) (at_ : Int) (name : Str) : Ex Unit := bnd (wantD (getM (indexD (sKinds s)) name).isSome 81 at_) fun _ => .ok ()
theorem kind_ret {br : Nat} {s : kStat.V} {at_ : Int} {x : RC} {w : World} {name : Str} (hR : RS w (fun b => ¬ No b) br s at_ x) :
    RetE0 Tryz.prog 106 [.pointer (some ⟨br, 0, none⟩), .string name] w (kindD s at_ name) (fun _ => .tuple #[]) := by
  generalize hS : kindD s at_ name = SP
  have hS := hS.symm
  unfold kindD at hS
  refine Calls.enter Tryz.func106 rfl _ rfl rfl (S := No) (H := []) trivial ?_
  refine Ja ?_;refine Jc ?_;refine Jf ?_;refine Je ?_
  refine RW.load_ro rfl (Mem.le_refl _) (hR.cell 10 _ rfl) rfl rfl ?_
  refine Jc ?_
  refine RW.lookupMOk hR.kinds rfl rfl rfl rfl ?_
  refine Jc ?_;refine Jt ?_;refine Jt ?_;refine Jd ?_;refine Jd ?_;refine Jb ?_
  refine CW.region ?_
  refine Jc ?_;refine Jc ?_
  refine RW.want hS rfl (rfl) (fun w hw => RS.at_cell hR hw) rfl rfl rfl fun hb hS => ?_
  skip
  exact RW.nil (PW.ret (rs := []) (vs := []) Tryz.results106 rfl ResOK.nil fun w hw => XP.ok () hS (hw.sub (List.nil_sublist _)))
def freshD (names : List Str) (at_ : Int) (name : Str) (i : Int) : Ex Unit :=
  bnd (wantD (isNameD name) 71 at_) fun _ => bnd (wantD (decide ((getM (indexD names) name).getD 0 = i)) 6 at_) fun _ => .ok ()
theorem fresh_ret {br b : Nat} {s : kStat.V} {at_ i : Int} {x : RC} {w : World} {names : List Str} {name : Str} (hR : RS w (fun b => ¬ No b) br s at_ x) (hm : MapOn w (fun b => ¬ No b) b (indexD names)) :
    RetE0 Tryz.prog 103 [.pointer (some ⟨br, 0, none⟩), .map (some b), .string name, .int .i64 i] w (freshD names at_ name i) (fun _ => .tuple #[]) := by
  generalize hS : freshD names at_ name i = SP
  have hS := hS.symm
  unfold freshD at hS
  refine Calls.enter Tryz.func103 rfl _ rfl rfl (S := No) (H := []) trivial ?_
  refine Ja ?_;refine Jc ?_;refine Jc ?_
  refine RW.call Tryz.call165 rfl (fun w hw => IsName_ret) rfl ?_
  refine RW.want hS rfl (rfl) (fun w hw => RS.at_cell hR hw) rfl rfl rfl fun hb hS => ?_
  refine Jb ?_
  refine CW.region ?_
  refine Jc ?_;refine Jc ?_;refine Jc ?_
  refine RW.lookupM hm rfl rfl rfl rfl ?_
  refine Jc ?_;refine Ji ?_
  refine RW.want hS rfl (rfl) (fun w hw => RS.at_cell hR hw) rfl rfl rfl fun hb hS => ?_
  skip
  exact RW.nil (PW.ret (rs := []) (vs := []) Tryz.results103 rfl ResOK.nil fun w hw => XP.ok () hS (hw.sub (List.nil_sublist _)))
def moneyD (v : Int) : Int := if v < -1000000000000000 then 22 else if 1000000000000000 < v then 22 else 0
theorem moneyCheck_ret {v : Int} {w : World} : Ret Tryz.prog 166 [.int .i64 v] w (.int .i64 (moneyD v)) := by
  unfold moneyD
  refine Calls.enter Tryz.func166 rfl _ rfl rfl (S := No) (H := []) trivial ?_
  refine Ja ?_;refine Jd ?_;refine Jb ?_
  refine CW.seq ?_
  refine Ja ?_;refine Jc ?_;refine Jk ?_;refine Jc ?_
  refine RW.splitD 5 rfl (fun h => ?_) (fun h => ?_)
  · refine Jz ?_;refine Jz ?_;refine Jv ?_;refine Jb ?_
    refine CW.ct rfl ?_
    refine Ja ?_;refine Jd ?_;refine Jb ?_
    rw [if_pos h]
    exact CW.ret1 rfl Tryz.results166 rfl rfl fun w hw => ⟨rfl, hw.kp⟩
  · refine Jy ?_;refine Jc ?_;refine Jy ?_;refine Jm ?_;refine Jw ?_;refine Jb ?_
    rw [if_neg h]
    refine CW.ite rfl (fun h2 => ?_) (fun h2 => ?_)
    · refine Ja ?_;refine Jd ?_;refine Jb ?_
      rw [if_pos h2]
      exact CW.ret1 rfl Tryz.results166 rfl rfl fun w hw => ⟨rfl, hw.kp⟩
    · refine JM ?_;refine Ja ?_;refine Jd ?_;refine Jb ?_
      rw [if_neg h2]
      exact CW.ret1 rfl Tryz.results166 rfl rfl fun w hw => ⟨rfl, hw.kp⟩
theorem has_ret {N : Mem} {A : Option Addr} {c : Nat} {xs : List Int} {v : Int} {w : World} (hN : Mem.le N (mem w (fun b => ¬ No b))) (h : Rd kInts N [.slice A xs.length c] xs) :
    Ret Tryz.prog 135 [.slice A xs.length c, .int .i64 v] w (.bool (xs.any fun x => decide (x = v))) := by
  have hsm := sl_small h
  unfold reach at hsm
  refine Calls.enter Tryz.func135 rfl _ rfl rfl (S := No) (H := []) trivial ?_
  refine Ja ?_;refine Jd ?_;refine Jb ?_
  refine CW.seq ?_
  refine Ja ?_;refine Jc ?_;refine Jg ?_;refine Jc ?_;refine Jb ?_
  refine CW.block ?_
  refine CW.loop (ι := { k : Nat // k ≤ xs.length ∧ ∀ (i : Nat) (hi : i < k) (hl : i < xs.length), ¬ xs[i] = v }) (fun k => [(1, .int .i64 v), (7, .slice A xs.length c), (8, .int .i64 xs.length), (9, .int .i64 k.1)]) (fun _ => []) (fun k => xs.length - k.1) ⟨0, Nat.zero_le _, fun i hi => absurd hi (by omega)⟩ ⟨rfl, rfl, rfl, rfl, trivial⟩ (fun h => h) ?_
  intro ⟨k, hk, ho⟩
  dsimp only
  refine Ja ?_;refine Jk ?_;refine Jb ?_
  refine CW.seq ?_
  refine CW.ite rfl (fun hlt => ?_) (fun hge => ?_)
  · have hlt' : k < xs.length := by simpa using hlt
    obtain ⟨B1, O1, es1, rfl, hl1, hr, hm⟩ := sl_get h (List.getElem?_eq_getElem hlt')
    obtain rfl := int_cell hr
    refine JM ?_
    refine CW.seq ?_
    refine CW.block ?_
    refine Ja ?_
    refine RW.indexAddr rfl rfl (by omega) hlt rfl ?_
    skip
    refine RW.load_ro rfl hN (hm 0 _ rfl) rfl rfl ?_
    refine Jd ?_;refine Jb ?_;refine Ja ?_;refine Jc ?_;refine Jc ?_;refine Ji ?_;refine Jb ?_
    refine CW.ite rfl (fun ht => ?_) (fun hf => ?_)
    · refine Ja ?_;refine Jd ?_;refine Jb ?_
      refine CW.ret1 rfl Tryz.results135 rfl rfl fun w hw => ⟨?_, hw.kp⟩
      rw [List.any_eq_true.2 ⟨xs[k], List.getElem_mem hlt', decide_eq_true ht⟩]
    · refine CW.skip ?_
      refine PW.code ?_
      refine CW.region ?_
      refine RW.add rfl rfl (w64 (by omega) (by omega)) rfl ?_
      refine Jc ?_
      refine RW.nil ?_
      refine PW.again ⟨k + 1, hlt', fun i hi hl => ?_⟩ ⟨rfl, rfl, rfl, rfl, trivial⟩ (fun h => h) (by show xs.length - (k + 1) < xs.length - k; omega)
      rcases Nat.lt_or_ge i k with h | h
      · exact ho i h hl
      · have : i = k := by omega
        subst this
        exact hf
  · refine CW.exit rfl ?_
    refine PW.code ?_
    refine Ja ?_;refine Jd ?_;refine Jb ?_
    refine CW.ret1 rfl Tryz.results135 rfl rfl fun w hw => ⟨?_, hw.kp⟩
    have hge' : xs.length ≤ k := by simpa using hge
    rw [List.any_eq_false.2 fun x hx => by
      obtain ⟨i, hi, rfl⟩ := List.mem_iff_getElem.1 hx
      simpa using ho i (by omega) hi]
theorem equal_ret {N : Mem} {A B : Option Addr} {c d : Nat} {xs ys : List Str} {w : World} (hN : Mem.le N (mem w (fun b => ¬ No b))) (h : Rd kStrs N [.slice A xs.length c] xs) (g : Rd kStrs N [.slice B ys.length d] ys) :
    Ret Tryz.prog 167 [.slice A xs.length c, .slice B ys.length d] w (.bool (decide (xs = ys))) := by
  have hsm := sl_small h
  unfold reach at hsm
  refine Calls.enter Tryz.func167 rfl _ rfl rfl (S := No) (H := []) trivial ?_
  refine Ja ?_;refine Jd ?_;refine Jb ?_
  refine CW.seq ?_
  refine Ja ?_;refine Jc ?_;refine Jg ?_;refine Jc ?_;refine Jg ?_;refine Jj ?_;refine Jb ?_
  refine CW.ite rfl (fun h1 => ?_) (fun h1 => ?_)
  · refine Ja ?_;refine Jd ?_;refine Jb ?_
    refine CW.ret1 rfl Tryz.results167 rfl rfl fun w hw => ⟨?_, hw.kp⟩
    rw [decide_eq_false (fun he => h1 (by rw [he]))]
  have hlen : xs.length = ys.length := by omega
  refine JM ?_
  refine CW.seq ?_
  refine Ja ?_;refine Jc ?_;refine Jg ?_;refine Jc ?_;refine Jb ?_
  refine CW.block ?_
  refine CW.loop (ι := { k : Nat // k ≤ xs.length ∧ ∀ (i : Nat) (hi : i < k), xs[i]? = ys[i]? }) (fun k => [(0, .slice A xs.length c), (1, .slice B ys.length d), (12, .int .i64 xs.length), (13, .int .i64 k.1)]) (fun _ => []) (fun k => xs.length - k.1) ⟨0, Nat.zero_le _, fun i hi => absurd hi (by omega)⟩ ⟨rfl, rfl, rfl, rfl, trivial⟩ (fun h => h) ?_
  intro ⟨k, hk, ho⟩
  dsimp only
  refine Ja ?_;refine Jk ?_;refine Jb ?_
  refine CW.seq ?_
  refine CW.ite rfl (fun hlt => ?_) (fun hge => ?_)
  · have hlt' : k < xs.length := by simpa using hlt
    have hlt2 : k < ys.length := by omega
    obtain ⟨B1, O1, es1, rfl, hl1, hr1, hm1⟩ := sl_get h (List.getElem?_eq_getElem hlt')
    obtain ⟨B2, O2, es2, rfl, hl2, hr2, hm2⟩ := sl_get g (List.getElem?_eq_getElem hlt2)
    obtain rfl := str_cell hr1
    obtain rfl := str_cell hr2
    refine JM ?_
    refine CW.seq ?_
    refine CW.block ?_
    refine Ja ?_;refine Jc ?_;refine Jd ?_;refine Jb ?_
    refine CW.seqA (by kernel_rfl) rfl ?_
    refine AW.val rfl (fun _ _ => by refine Jc ?_;exact RW.done rfl) ?_;refine AW.val rfl (fun _ _ => by refine Jc ?_;exact RW.done rfl) ?_
    (apply AW.val rfl; · intro Gx X; (first | refine RW.yes rfl ?_ | skip); refine RW.indexAddr rfl rfl (by omega) hlt rfl ?_; exact RW.done rfl)
    skip
    (apply AW.val rfl; · intro Gx X; (first | refine RW.yes rfl ?_ | skip); refine RW.load_ro rfl hN (hm1 0 _ rfl) rfl rfl ?_; exact RW.done rfl)
    refine AW.val rfl (fun _ _ => by refine Jc ?_;exact RW.done rfl) ?_;refine AW.val rfl (fun _ _ => by refine Jc ?_;exact RW.done rfl) ?_
    (apply AW.val rfl; · intro Gx X; (first | refine RW.yes rfl ?_ | skip); refine RW.indexAddr rfl rfl (by omega) (by omega) rfl ?_; exact RW.done rfl)
    skip
    (apply AW.val rfl; · intro Gx X; (first | refine RW.yes rfl ?_ | skip); refine RW.load_ro rfl hN (hm2 0 _ rfl) rfl rfl ?_; exact RW.done rfl)
    refine AW.val rfl (fun _ _ => by refine Jp ?_;exact RW.done rfl) ?_
    refine AW.stop (by kernel_rfl) (by kernel_rfl) fun bs => ?_
    refine Jb ?_
    refine CW.ite rfl (fun ht => ?_) (fun hf => ?_)
    · refine Ja ?_;refine Jd ?_;refine Jb ?_
      refine CW.ret1 rfl Tryz.results167 rfl rfl fun w hw => ⟨?_, hw.kp⟩
      rw [decide_eq_false (fun he => ht (by subst he; rfl))]
    · refine CW.skip ?_
      refine PW.code ?_
      refine CW.region ?_
      refine RW.add rfl rfl (w64 (by omega) (by omega)) rfl ?_
      refine Jc ?_
      refine RW.nil ?_
      refine PW.again ⟨k + 1, hlt', fun i hi => ?_⟩ ⟨rfl, rfl, rfl, rfl, trivial⟩ (fun h => h) (by show xs.length - (k + 1) < xs.length - k; omega)
      rcases Nat.lt_or_ge i k with h | h
      · exact ho i h
      · have : i = k := by omega
        subst this
        rw [List.getElem?_eq_getElem hlt', List.getElem?_eq_getElem hlt2, Classical.not_not.1 hf]
  · refine CW.exit rfl ?_
    refine PW.code ?_
    refine Ja ?_;refine Jd ?_;refine Jb ?_
    refine CW.ret1 rfl Tryz.results167 rfl rfl fun w hw => ⟨?_, hw.kp⟩
    have hge' : xs.length ≤ k := by simpa using hge
    rw [decide_eq_true (List.ext_getElem? fun i => by
      rcases Nat.lt_or_ge i k with h | h
      · exact ho i h
      · rw [List.getElem?_eq_none (by omega), List.getElem?_eq_none (by omega)])]
end Go.Proofs.YtkfmlekomfnleaaGreat
/- The resolver's pred and class. Conditions: none. -/
set_option linter.unusedVariables false
set_option linter.unusedSimpArgs false
set_option maxRecDepth 10000
namespace Go.Proofs.YtkfmlekomfnleaaGreat
open Go Go.RowKit

attribute [local irreducible] RW CW
section
variable {P : Program} {E : Env} {ops : Array Oper} {Q : Pst} {rest : List Oper} {G : List (Nat × Value)} {H : List HP}
variable {dst : Nat} {ty t : TypeId} {pos : String} {af : Array Edge} {z z' : Value} {d : TypeDesc} {sz by_ sz' by' : Nat} {x y : Operand} {k : IntKind} {a : Int}
theorem RW.indexAddrE {e : TypeId} {A : Option Addr} {B O n cp : Nat} [T : Ty P t (.slice e) z sz by_] [T2 : Ty P e d z' sz' by'] (hA : A = some ⟨B, O, none⟩) (hx : ev G x = some (.slice A n cp)) (hy : ev G y = some (.int k a)) (h0 : 0 ≤ a) (h1 : a < n) (hN : Nat.blt dst E.N = true)
    (kk : RW P E ops Q rest ((dst, .pointer (some ⟨B, O + a.toNat * sz', none⟩)) :: G) H) : RW P E ops Q (⟨some dst, .indexAddr t x y, ty, pos, af, none⟩ :: rest) G H := by
  subst hA
  exact RW.indexAddr hx hy h0 h1 hN kk
end
/-- A predicate's text, by its parts. -/
theorem Rd.predT {M : Mem} {cs : List Value} {p : kPredT.V} (h : Rd kPredT M cs p) : ∃ A c B d, cs = [.string p.1, .int .i64 p.2.1, .slice A p.2.2.1.length c, .slice B p.2.2.2.length d] ∧ Rd kStrs M [.slice A p.2.2.1.length c] p.2.2.1 ∧ Rd kInts M [.slice B p.2.2.2.length d] p.2.2.2 := by
  obtain ⟨c1, c2, rfl, h1, c3, c4, rfl, h3, c5, c6, rfl, h5, h6⟩ := h
  obtain rfl := str_cell h1
  obtain rfl := int_cell h3
  obtain ⟨A, c, rfl⟩ := sl_cell h5
  obtain ⟨B, d, rfl⟩ := sl_cell h6
  exact ⟨A, c, B, d, rfl, h5, h6⟩
theorem Rd.predT_mk {M : Mem} {p : kPredT.V} {A B : Option Addr} {c d : Nat} (h1 : p.1.size ≤ reach) (h2 : inR .i64 p.2.1) (h3 : Rd kStrs M [.slice A p.2.2.1.length c] p.2.2.1) (h4 : Rd kInts M [.slice B p.2.2.2.length d] p.2.2.2) : Rd kPredT M [.string p.1, .int .i64 p.2.1, .slice A p.2.2.1.length c, .slice B p.2.2.2.length d] p :=
  ⟨[_], _, rfl, ⟨rfl, h1⟩, [_], _, rfl, ⟨rfl, h2⟩, [_], _, rfl, h3, h4⟩
def noPred : kPredT.V := (ByteArray.empty, (0 : Int), ([] : List Str), ([] : List Int))
def pGet (s : kStat.V) (name : Str) : Option Int := getM (indexD ((sPreds s).map nameOf)) name
def pIdx (s : kStat.V) (name : Str) : Int := (pGet s name).getD 0
def predAt (s : kStat.V) (name : Str) : kPredT.V := ((sPreds s)[(pIdx s name).toNat]?).getD noPred
theorem pGet_lt {s : kStat.V} {name : Str} {i : Int} (h : pGet s name = some i) : 0 ≤ i ∧ i < (sPreds s).length ∧ ((sPreds s)[i.toNat]?).map nameOf = some name := by
  unfold pGet at h
  rw [indexD_get] at h
  obtain ⟨h1, h2, h3⟩ := fst?_some h
  rw [List.getElem?_map] at h3
  exact ⟨h1, by simpa using h2, h3⟩
theorem pIdx_lt {s : kStat.V} (name : Str) (h : 0 < (sPreds s).length) : 0 ≤ pIdx s name ∧ pIdx s name < (sPreds s).length := by
  unfold pIdx
  cases hg : pGet s name with
  | none => exact ⟨Int.le_refl _, by show (0 : Int) < _; omega⟩
  | some i => exact ⟨(pGet_lt hg).1, (pGet_lt hg).2.1⟩
theorem pSome {s : kStat.V} {name : Str} (h : (pGet s name).isSome = true) : 0 < (sPreds s).length := by
  obtain ⟨i, hi⟩ := Option.isSome_iff_exists.1 h
  have := pGet_lt hi
  omega
theorem predAt_get {s : kStat.V} (name : Str) (h : 0 < (sPreds s).length) : (sPreds s)[(pIdx s name).toNat]? = some (predAt s name) := by
  have h1 := pIdx_lt name h
  unfold predAt
  rw [List.getElem?_eq_getElem (by omega)]; rfl
def seenD (at_ : Int) (m : List (Int × Int)) (v : Int) : Ex (List (Int × Int)) := bnd (wantD (decide (0 ≤ v) && decide (moneyD v = 0) && decide ((getM m v).getD 0 = 0)) 85 at_) fun _ => .ok (putM m v 1)
def predD (s : kStat.V) (at_ : Int) (p : kPredT.V) (i : Int) : Ex Unit :=
  bnd (freshD ((sPreds s).map nameOf) at_ p.1 i) fun _ =>
  bnd (wantD (decide (1 ≤ p.2.1) && decide (p.2.1 ≤ 3)) 84 at_) fun _ =>
  bnd (wantD (decide ((p.2.2.1.length : Int) ≤ 4) && decide ((p.2.2.2.length : Int) ≤ 64)) 3 at_) fun _ =>
  bnd (allX (kindD s at_) p.2.2.1) fun _ =>
  if p.2.1 = 3 then bnd (wantD (decide (0 < (p.2.2.2.length : Int))) 85 at_) fun _ => bnd (foldX (seenD at_) [] p.2.2.2) fun _ => .ok ()
  else bnd (wantD (decide ((p.2.2.2.length : Int) = 0)) 85 at_) fun _ => .ok ()
set_option maxHeartbeats 4000000 in
theorem pred_ret {br : Nat} {s : kStat.V} {at_ i : Int} {x : RC} {w : World} {p : kPredT.V} {cs : List Value} (hR : RS w (fun b => ¬ No b) br s at_ x) (h : Rd kPredT (mem w (fun b => ¬ No b)) cs p) :
    RetE0 Tryz.prog 108 [.pointer (some ⟨br, 0, none⟩), .agg cs.toArray, .int .i64 i] w (predD s at_ p i) (fun _ => .tuple #[]) := by
  generalize hS : predD s at_ p i = SP
  have hS := hS.symm
  unfold predD at hS
  obtain ⟨A, c, B, d, rfl, hkd, hvd⟩ := Rd.predT h
  have hk1 := sl_small hkd
  have hv1 := sl_small hvd
  unfold reach at hk1 hv1
  have hle : Mem.le (mem w (fun b => ¬ No b)) (mem w (fun b => ¬ No b)) := Mem.le_refl _
  refine Calls.enter Tryz.func108 rfl _ rfl rfl (S := No) (H := []) trivial ?_
  refine CW.seqR ?_
  refine RW.box_agg rfl rfl fun b4 _ => ?_
  refine RW.next ?_
  refine CW.seqA (by kernel_rfl) rfl ?_
  refine AW.val rfl (fun _ _ => by refine Jc ?_;exact RW.done rfl) ?_;refine AW.val rfl (fun _ _ => by refine Jc ?_;exact RW.done rfl) ?_;refine AW.val rfl (fun _ _ => by refine Jf ?_;exact RW.done rfl) ?_;refine AW.val rfl (fun _ _ => by refine Je ?_;exact RW.done rfl) ?_
  (apply AW.val rfl; · intro Gx X; (first | refine RW.yes rfl ?_ | skip); refine RW.load_ro rfl hle (hR.cell 12 _ rfl) rfl rfl ?_; exact RW.done rfl)
  refine AW.val rfl (fun _ _ => by refine Je ?_;exact RW.done rfl) ?_;refine AW.val rfl (fun _ _ => by refine JA ?_;exact RW.done rfl) ?_;refine AW.val rfl (fun _ _ => by refine Jc ?_;exact RW.done rfl) ?_
  refine AW.stop (by kernel_rfl) (by kernel_rfl) fun bs => ?_
  refine RW.callE0 hS Tryz.call103 rfl (fun w hw => fresh_ret (RS.call hR hw) (RS.call hR hw).preds) rfl rfl rfl fun _ _ hS => ?_
  refine Jb ?_;refine Ja ?_;refine Jc ?_;refine Je ?_;refine JA ?_;refine Jn ?_;refine Jc ?_
  refine RW.splitD 24 rfl (fun h1 => ?_) (fun h1 => ?_)
  · refine Jy ?_;refine Je ?_;refine Jy ?_;refine JA ?_;refine Jy ?_;refine Jl ?_;refine Jv ?_
    refine RW.want hS rfl ((by rw [decide_eq_true h1, Bool.true_and])) (fun w hw => RS.at_cell hR hw) rfl rfl rfl fun hb hS => ?_
    refine Jb ?_;refine Ja ?_;refine Jc ?_;refine Je ?_;refine JA ?_;refine Jg ?_;refine Jl ?_;refine Jc ?_
    refine RW.splitD 35 rfl (fun h2 => ?_) (fun h2 => ?_)
    · refine Jy ?_;refine Je ?_;refine Jy ?_;refine JA ?_;refine Jy ?_;refine Jg ?_;refine Jy ?_;refine Jl ?_;refine Jv ?_
      refine RW.want hS rfl ((by rw [decide_eq_true h2, Bool.true_and])) (fun w hw => RS.at_cell hR hw) rfl rfl rfl fun hb hS => ?_
      refine Jb ?_
      refine CW.seq ?_
      refine Ja ?_;refine Je ?_;refine JA ?_;refine Jg ?_;refine Jc ?_;refine Jb ?_
      refine CW.block ?_
      refine CW.loop (ι := { k : Nat // k ≤ p.2.2.1.length ∧ SP = bnd (allX (kindD s at_) (p.2.2.1.drop k)) _ }) (fun k => [(0, .pointer (some ⟨br, 0, none⟩)), (2, .int .i64 i), (4, .pointer (some ⟨b4, 0, none⟩)), (43, .slice A p.2.2.1.length c), (44, .int .i64 p.2.2.1.length), (45, .int .i64 k.1)])
        (fun _ => [blk b4 [.string p.1, .int .i64 p.2.1, .slice A p.2.2.1.length c, .slice B p.2.2.2.length d] 151]) (fun k => p.2.2.1.length - k.1) ⟨0, Nat.zero_le _, hS⟩ ⟨rfl, rfl, rfl, rfl, rfl, rfl, trivial⟩ (fun h => h.sub (List.Sublist.cons_cons _ (List.nil_sublist _))) ?_
      intro ⟨k, hk, hS⟩
      dsimp only
      refine Ja ?_;refine Jk ?_;refine Jb ?_
      refine CW.seq ?_
      refine CW.ite rfl (fun hlt => ?_) (fun hge => ?_)
      · have hlt' : k < p.2.2.1.length := by simpa using hlt
        rw [foldX_step hlt'] at hS
        obtain ⟨B1, O1, es1, hA, hl1, hr, hm⟩ := sl_get hkd (List.getElem?_eq_getElem hlt')
        obtain rfl := str_cell hr
        refine JM ?_
        refine CW.seq ?_
        refine CW.block ?_
        refine Ja ?_
        refine RW.indexAddrE hA rfl rfl (by omega) hlt rfl ?_
        skip
        refine RW.load_ro rfl hle (hm 0 _ rfl) rfl rfl ?_
        refine Jd ?_;refine Jb ?_
        refine CW.region ?_
        refine Jc ?_;refine Jc ?_
        refine RW.callE0 hS Tryz.call106 rfl (fun w hw => kind_ret (RS.call hR hw)) rfl rfl rfl fun _ _ hS => ?_
        refine RW.nil ?_
        refine PW.code ?_
        refine CW.region ?_
        refine RW.add rfl rfl (w64 (by omega) (by omega)) rfl ?_
        refine Jc ?_
        refine RW.nil ?_
        exact PW.again ⟨k + 1, hlt', hS⟩ ⟨rfl, rfl, rfl, rfl, rfl, rfl, trivial⟩ (fun h => h) (by show p.2.2.1.length - (k + 1) < p.2.2.1.length - k; omega)
      · have hge' : p.2.2.1.length ≤ k := by simpa using hge
        rw [foldX_end hge'] at hS
        refine CW.exit rfl ?_
        refine PW.code ?_
        refine CW.seq ?_
        refine Ja ?_;refine Je ?_;refine JA ?_;refine Jj ?_;refine Jb ?_
        refine CW.ite rfl (fun h3 => ?_) (fun h3 => ?_)
        · rw [if_neg h3] at hS
          refine Ja ?_;refine Jc ?_;refine Je ?_;refine JA ?_;refine Jg ?_;refine Ji ?_
          refine RW.want hS rfl (rfl) (fun w hw => RS.at_cell hR hw) rfl rfl rfl fun hb hS => ?_
          refine Jb ?_
          exact CW.ret rfl (PW.ret (rs := []) (vs := []) Tryz.results108 rfl ResOK.nil fun w hw => XP.ok () hS (hw.sub (List.nil_sublist _)))
        · rw [if_pos (Classical.not_not.1 h3)] at hS
          refine JM ?_;refine Ja ?_;refine Jc ?_;refine Je ?_;refine JA ?_;refine Jg ?_;refine Jm ?_
          refine RW.want hS rfl (rfl) (fun w hw => RS.at_cell hR hw) rfl rfl rfl fun hb hS => ?_
          refine Jb ?_;refine Ja ?_
          refine RW.makeMap (κ := Int) (α := Int) intK intK (.int .i64) (fun o ho => by cases ho) rfl fun b8 => ?_
          refine Jd ?_;refine Jb ?_;refine Ja ?_;refine Je ?_;refine JB ?_;refine Jg ?_;refine Jc ?_;refine Jb ?_
          refine CW.block ?_
          refine CW.loop (ι := { y : Nat × List (Int × Int) // y.1 ≤ p.2.2.2.length ∧ SP = bnd (foldX (seenD at_) y.2 (p.2.2.2.drop y.1)) _ }) (fun y => [(0, .pointer (some ⟨br, 0, none⟩)), (8, .map (some b8)), (70, .slice B p.2.2.2.length d), (71, .int .i64 p.2.2.2.length), (72, .int .i64 y.1.1)])
            (fun y => [mapHP intK intK (.int .i64) b8 y.1.2]) (fun y => p.2.2.2.length - y.1.1) ⟨(0, []), Nat.zero_le _, hS⟩ ⟨rfl, rfl, rfl, rfl, rfl, trivial⟩ (fun h => h.sub (List.Sublist.cons_cons _ (List.nil_sublist _))) ?_
          intro ⟨⟨k, m⟩, hk, hS⟩
          dsimp only at hS hk ⊢
          refine Ja ?_;refine Jk ?_;refine Jb ?_
          refine CW.seq ?_
          refine CW.ite rfl (fun hlt => ?_) (fun hge => ?_)
          · have hlt' : k < p.2.2.2.length := by simpa using hlt
            rw [foldX_step hlt', seenD, bnd_assoc] at hS
            obtain ⟨B1, O1, es1, hA, hl1, hr, hm⟩ := sl_get hvd (List.getElem?_eq_getElem hlt')
            obtain rfl := int_cell hr
            generalize hv : p.2.2.2[k] = v at *
            refine JM ?_
            refine CW.seq ?_
            refine CW.block ?_
            refine Ja ?_
            refine RW.indexAddrE hA rfl rfl (by omega) hlt rfl ?_
            skip
            refine RW.load_ro rfl hle (hm 0 _ rfl) rfl rfl ?_
            refine Jd ?_;refine Jb ?_;refine Ja ?_;refine Jc ?_;refine Jc ?_;refine Jn ?_;refine Jc ?_
            refine RW.splitD 79 rfl (fun h4 => ?_) (fun h4 => ?_)
            · refine Jy ?_;refine Jc ?_;refine Jy ?_
              refine RW.call Tryz.call166 rfl (fun w hw => moneyCheck_ret) rfl ?_
              refine Jy ?_;refine Ji ?_;refine Jv ?_;refine Jc ?_
              refine RW.splitD 84 rfl (fun h5 => ?_) (fun h5 => ?_)
              · refine Jy ?_;refine Jc ?_;refine Jy ?_;refine Jc ?_;refine Jy ?_
                refine RW.lookup [] (a0 := (0 : Int)) rfl rfl rfl rfl ?_
                refine Jy ?_;refine Ji ?_;refine Jv ?_
                refine RW.want hS rfl (by rw [decide_eq_true h4, decide_eq_true h5, Bool.true_and, Bool.true_and]) (fun w hw => RS.at_cell hR hw) rfl rfl rfl fun hb hS => ?_
                refine Jb ?_
                refine CW.region ?_
                refine Jc ?_;refine Jc ?_
                refine RW.lookup [] (a0 := (0 : Int)) rfl rfl rfl rfl ?_
                rw [show (getM m v).getD 0 = 0 from of_decide_eq_true hb]
                refine RW.add rfl rfl (w64 (by omega) (by omega)) rfl ?_
                refine RW.mapUpdate [] (a := (1 : Int)) rfl rfl rfl rfl ?_
                refine RW.nil ?_
                refine PW.code ?_
                refine CW.region ?_
                refine RW.add rfl rfl (w64 (by omega) (by omega)) rfl ?_
                refine Jc ?_
                refine RW.nil ?_
                exact PW.again ⟨(k + 1, putM m v 1), hlt', hS⟩ ⟨rfl, rfl, rfl, rfl, rfl, trivial⟩ (fun h => h) (by show p.2.2.2.length - (k + 1) < p.2.2.2.length - k; omega)
              · refine Jz ?_;refine Jz ?_;refine Jz ?_;refine Jz ?_;refine Jw ?_
                refine RW.want hS rfl ((by rw [decide_eq_false h5, Bool.and_false, Bool.false_and])) (fun w hw => RS.at_cell hR hw) rfl rfl rfl fun hb _ => absurd hb (by decide)
            · refine Jz ?_;refine Jz ?_;refine Jz ?_;refine Jw ?_;refine Jc ?_;refine Jz ?_;refine Jz ?_;refine Jz ?_;refine Jz ?_;refine Jw ?_
              refine RW.splitD 84 (p := False) rfl (fun h5 => h5.elim) (fun h5 => ?_)
              skip
              refine RW.want hS rfl ((by rw [decide_eq_false h4, Bool.false_and, Bool.false_and])) (fun w hw => RS.at_cell hR hw) rfl rfl rfl fun hb _ => absurd hb (by decide)
          · have hge' : p.2.2.2.length ≤ k := by simpa using hge
            rw [foldX_end hge'] at hS
            refine CW.exit rfl ?_
            exact PW.ret (rs := []) (vs := []) Tryz.results108 rfl ResOK.nil fun w hw => XP.ok () hS (hw.sub (List.nil_sublist _))
    · refine Jz ?_;refine Jz ?_;refine Jz ?_;refine Jz ?_;refine Jw ?_
      refine RW.want hS rfl ((by rw [decide_eq_false h2, Bool.false_and])) (fun w hw => RS.at_cell hR hw) rfl rfl rfl fun hb _ => absurd hb (by decide)
  · refine Jz ?_;refine Jz ?_;refine Jz ?_;refine Jw ?_
    refine RW.want hS rfl ((by rw [decide_eq_false h1, Bool.false_and])) (fun w hw => RS.at_cell hR hw) rfl rfl rfl fun hb _ => absurd hb (by decide)
end Go.Proofs.YtkfmlekomfnleaaGreat
/- The resolver's class; a scope's see. Conditions: none. -/
set_option linter.unusedVariables false
set_option linter.unusedSimpArgs false
set_option maxRecDepth 10000
namespace Go.Proofs.YtkfmlekomfnleaaGreat
open Go Go.RowKit

attribute [local irreducible] RW CW
def classStep (s : kStat.V) (at_ : Int) (l0 : Str) (m : List (Str × Int)) (name : Str) : Ex (List (Str × Int)) :=
  bnd (wantD (pGet s name).isSome 82 at_) fun _ =>
  bnd (wantD (decide ((predAt s name).2.1 = 1)) 84 at_) fun _ =>
  bnd (wantD (decide ((predAt s name).2.2.1 = (predAt s l0).2.2.1)) 87 at_) fun _ =>
  bnd (wantD (decide ((getM m name).getD 0 = 0)) 6 at_) fun _ => .ok (putM m name 1)
def classD (s : kStat.V) (at_ : Int) (l : List Str) (m : List (Str × Int)) : Ex (List (Str × Int)) :=
  bnd (wantD (decide (2 ≤ (l.length : Int)) && decide ((l.length : Int) ≤ 16)) 3 at_) fun _ => bnd (foldX (classStep s at_ (l[0]?.getD ByteArray.empty)) m l) .ok
set_option maxHeartbeats 4000000 in
theorem class_ret {br bi : Nat} {s : kStat.V} {at_ : Int} {x : RC} {w : World} {F : Nat → Prop} {A : Option Addr} {c : Nat} {l : List Str} {m : List (Str × Int)} (hR : RS w (fun b => ¬ F b) br s at_ x) (hl : Rd kStrs (mem w (fun b => ¬ F b)) [.slice A l.length c] l)
    (hH : Sep [mapHP strK intK .string bi m] w F) :
    RetE Tryz.prog 111 [.pointer (some ⟨br, 0, none⟩), .slice A l.length c, .map (some bi)] w F (classD s at_ l m) (fun _ _ => .tuple #[]) (fun m' (_ : Unit) => [mapHP strK intK .string bi m']) := by
  generalize hS : classD s at_ l m = SP
  have hS := hS.symm
  unfold classD at hS
  have hle : Mem.le (mem w (fun b => ¬ F b)) (mem w (fun b => ¬ F b)) := Mem.le_refl _
  have hl1 := sl_small hl
  unfold reach at hl1
  refine Calls.enter Tryz.func111 rfl _ rfl rfl (S := F) (H := [mapHP strK intK .string bi m]) hH ?_
  refine Ja ?_;refine Jc ?_;refine Jc ?_;refine Jg ?_;refine Jn ?_;refine Jc ?_
  refine RW.splitD 15 rfl (fun h1 => ?_) (fun h1 => ?_)
  · refine Jy ?_;refine Jc ?_;refine Jy ?_;refine Jg ?_;refine Jy ?_;refine Jl ?_;refine Jv ?_
    refine RW.want hS rfl ((by rw [decide_eq_true h1, Bool.true_and])) (fun w hw => RS.at_cell hR hw) rfl rfl rfl fun hb hS => ?_
    refine Jb ?_;refine Ja ?_;refine Jc ?_;refine Jg ?_;refine Jc ?_;refine Jb ?_
    refine CW.block ?_
    refine CW.loop (ι := { y : Nat × List (Str × Int) // y.1 ≤ l.length ∧ SP = bnd (foldX (classStep s at_ (l[0]?.getD ByteArray.empty)) y.2 (l.drop y.1)) _ }) (fun y => [(0, .pointer (some ⟨br, 0, none⟩)), (1, .slice A l.length c), (2, .map (some bi)), (21, .slice A l.length c), (22, .int .i64 l.length), (23, .int .i64 y.1.1)])
      (fun y => [mapHP strK intK .string bi y.1.2]) (fun y => l.length - y.1.1) ⟨(0, m), Nat.zero_le _, hS⟩ ⟨rfl, rfl, rfl, rfl, rfl, rfl, trivial⟩ (fun h => h) ?_
    intro ⟨⟨k, m⟩, hk, hS⟩
    dsimp only at hS hk ⊢
    refine Ja ?_;refine Jk ?_;refine Jb ?_
    refine CW.seq ?_
    refine CW.ite rfl (fun hlt => ?_) (fun hge => ?_)
    · have hlt' : k < l.length := by simpa using hlt
      rw [foldX_step hlt', classStep, bnd_assoc] at hS
      obtain ⟨B1, O1, es1, hA, hl1, hr, hm⟩ := sl_get hl (List.getElem?_eq_getElem hlt')
      obtain rfl := str_cell hr
      obtain ⟨B0, O0, es0, hA0, _, hr0, hm0⟩ := sl_get hl (List.getElem?_eq_getElem (i := 0) (by omega))
      obtain rfl := str_cell hr0
      have h00 : l[0]?.getD ByteArray.empty = l[0] := by rw [List.getElem?_eq_getElem (by omega)]; rfl
      rw [h00] at hS
      generalize hnm : l[k] = name at *
      generalize hn0 : l[0] = name0 at *
      refine JM ?_
      refine CW.seq ?_
      refine CW.block ?_
      refine Ja ?_
      refine RW.indexAddrE hA rfl rfl (by omega) hlt rfl ?_
      skip
      refine RW.load_ro rfl hle (hm 0 _ rfl) rfl rfl ?_
      refine Jd ?_;refine Jb ?_;refine Ja ?_;refine Jc ?_;refine Jf ?_;refine Je ?_
      refine RW.load_ro rfl hle (hR.cell 12 _ rfl) rfl rfl ?_
      refine Jc ?_
      refine RW.lookupMOk (D := indexD ((sPreds s).map nameOf)) hR.preds rfl rfl rfl rfl ?_
      refine Jc ?_;refine Jt ?_;refine Jt ?_;refine Jd ?_;refine Jd ?_;refine Jb ?_;refine Ja ?_;refine Jc ?_;refine Jc ?_
      refine RW.want hS rfl (rfl) (fun w hw => RS.at_cell hR hw) rfl rfl rfl fun hb hS => ?_
      have hp := pSome (s := s) hb
      have hi := pIdx_lt name hp
      have hi0 := pIdx_lt name0 hp
      obtain ⟨B2, O2, es2, hA2, _, hr2, hm2⟩ := sl_get hR.stat.preds (predAt_get name hp)
      obtain ⟨B3, O3, es3, hA3, _, hr3, hm3⟩ := sl_get hR.stat.preds (predAt_get name0 hp)
      obtain ⟨PA, pc, PB, pd, rfl, hpk, _⟩ := Rd.predT hr2
      obtain ⟨QA, qc, QB, qd, rfl, hqk, _⟩ := Rd.predT hr3
      rw [bnd_assoc] at hS
      generalize hpn : predAt s name = p at *
      generalize hqn : predAt s name0 = q at *
      refine Jb ?_;refine Ja ?_;refine Jc ?_;refine Jf ?_;refine Je ?_;refine Je ?_
      refine RW.load_ro rfl hle (hR.cell 3 _ rfl) rfl rfl ?_
      refine Jc ?_
      refine RW.indexAddrE hA2 rfl rfl hi.1 hi.2 rfl ?_
      refine RW.load_ros rfl hle hm2 rfl rfl (Nat.zero_lt_succ _) rfl ?_
      refine RW.alloc (c := [.string ByteArray.empty, .int .i64 0, .slice none 0 0, .slice none 0 0]) rfl rfl fun b10 _ => ?_
      refine RW.store_whole [] rfl rfl rfl rfl rfl (by simp [Value.oneCell']) ?_
      refine Jb ?_;refine Ja ?_;refine Jc ?_;refine Je ?_;refine JA ?_;refine Ji ?_
      refine RW.want hS rfl (rfl) (fun w hw => RS.at_cell hR hw) rfl rfl rfl fun hb hS => ?_
      rw [bnd_assoc] at hS
      refine Jb ?_
      refine CW.seqA (by kernel_rfl) rfl ?_
      refine AW.val rfl (fun _ _ => by refine Jc ?_;exact RW.done rfl) ?_;refine AW.val rfl (fun _ _ => by refine Je ?_;exact RW.done rfl) ?_;refine AW.val rfl (fun _ _ => by refine JA ?_;exact RW.done rfl) ?_;refine AW.val rfl (fun _ _ => by refine Jc ?_;exact RW.done rfl) ?_;refine AW.val rfl (fun _ _ => by refine Jf ?_;exact RW.done rfl) ?_;refine AW.val rfl (fun _ _ => by refine Je ?_;exact RW.done rfl) ?_;refine AW.val rfl (fun _ _ => by refine Je ?_;exact RW.done rfl) ?_
      (apply AW.val rfl; · intro Gx X; (first | refine RW.yes rfl ?_ | skip); refine RW.load_ro rfl hle (hR.cell 3 _ rfl) rfl rfl ?_; exact RW.done rfl)
      refine AW.val rfl (fun _ _ => by refine Jc ?_;exact RW.done rfl) ?_;refine AW.val rfl (fun _ _ => by refine Jf ?_;exact RW.done rfl) ?_;refine AW.val rfl (fun _ _ => by refine Je ?_;exact RW.done rfl) ?_
      (apply AW.val rfl; · intro Gx X; (first | refine RW.yes rfl ?_ | skip); refine RW.load_ro rfl hle (hR.cell 12 _ rfl) rfl rfl ?_; exact RW.done rfl)
      refine AW.val rfl (fun _ _ => by refine Jc ?_;exact RW.done rfl) ?_
      (apply AW.val rfl; · intro Gx X; (first | refine RW.yes rfl ?_ | skip); refine RW.indexAddrE hA0 rfl rfl (by omega) (by omega) rfl ?_; exact RW.done rfl)
      (apply AW.val rfl; · intro Gx X; (first | refine RW.yes rfl ?_ | skip); refine RW.load_ro rfl hle (hm0 0 _ rfl) rfl rfl ?_; exact RW.done rfl)
      (apply AW.val rfl; · intro Gx X; (first | refine RW.yes rfl ?_ | skip); refine RW.lookupM (D := indexD ((sPreds s).map nameOf)) hR.preds rfl rfl rfl rfl ?_; exact RW.done rfl)
      (apply AW.val rfl; · intro Gx X; (first | refine RW.yes rfl ?_ | skip); refine RW.indexAddrE hA3 rfl rfl hi0.1 hi0.2 rfl ?_; exact RW.done rfl)
      refine AW.val rfl (fun _ _ => by refine Je ?_;exact RW.done rfl) ?_
      (apply AW.val rfl; · intro Gx X; (first | refine RW.yes rfl ?_ | skip); refine RW.load_ro rfl hle (hm3 2 _ rfl) rfl rfl ?_; exact RW.done rfl)
      (apply AW.val rfl; · intro Gx X; (first | refine RW.yes rfl ?_ | skip); refine RW.call Tryz.call167 rfl (fun w2 hw => equal_ret (N := mem w (fun b => ¬ F b)) (ro_call hw) hpk hqk) rfl ?_; exact RW.done rfl)
      refine AW.stop (by kernel_rfl) (by kernel_rfl) fun bs => ?_
      refine RW.want hS rfl (rfl) (fun w hw => RS.at_cell hR hw) rfl rfl rfl fun hb hS => ?_
      rw [bnd_assoc] at hS
      refine Jb ?_;refine Ja ?_;refine Jc ?_;refine Jc ?_;refine Jc ?_
      refine RW.lookup [_] (a0 := (0 : Int)) rfl rfl rfl rfl ?_
      refine Ji ?_
      refine RW.want hS rfl (rfl) (fun w hw => RS.at_cell hR hw) rfl rfl rfl fun hb hS => ?_
      refine Jb ?_
      refine CW.region ?_
      refine Jc ?_;refine Jc ?_
      refine RW.lookup [_] (a0 := (0 : Int)) rfl rfl rfl rfl ?_
      rw [show (getM m name).getD 0 = 0 from of_decide_eq_true hb]
      refine RW.add rfl rfl (w64 (by omega) (by omega)) rfl ?_
      refine RW.mapUpdate [_] (a := (1 : Int)) rfl rfl rfl rfl ?_
      refine RW.nil ?_
      refine PW.code ?_
      refine CW.region ?_
      refine RW.add rfl rfl (w64 (by omega) (by omega)) rfl ?_
      refine Jc ?_
      refine RW.nil ?_
      exact PW.again ⟨(k + 1, putM m name 1), hlt', by rw [h00]; exact hS⟩ ⟨rfl, rfl, rfl, rfl, rfl, rfl, trivial⟩ (fun h => h.sub (List.Sublist.cons _ (List.Sublist.cons_cons _ (List.nil_sublist _)))) (by show l.length - (k + 1) < l.length - k; omega)
    · have hge' : l.length ≤ k := by simpa using hge
      rw [foldX_end hge'] at hS
      refine CW.exit rfl ?_
      exact PW.ret (rs := []) (vs := []) Tryz.results111 rfl ResOK.nil fun w hw => XP.ok () hS hw
  · refine Jz ?_;refine Jz ?_;refine Jz ?_;refine Jw ?_
    refine RW.want hS rfl ((by rw [decide_eq_false h1, Bool.false_and])) (fun w hw => RS.at_cell hR hw) rfl rfl rfl fun hb _ => absurd hb (by decide)
end Go.Proofs.YtkfmlekomfnleaaGreat
/- A rule's scope: see, arg, args. Conditions: none. -/
set_option linter.unusedVariables false
set_option linter.unusedSimpArgs false
set_option maxRecDepth 10000
namespace Go.Proofs.YtkfmlekomfnleaaGreat
open Go Go.RowKit

attribute [local irreducible] RW CW
/-- A scope: its variables in their order; the kinds by name. -/
structure Sc where
  names : List Str
  km : List (Str × Str)
abbrev strE (x : Str) : List Value := [.string x]
abbrev scH (bc bm : Nat) (fr : Bool) (x : Sc) (v : Value) : List HP := [blk bc [v, .map (some bm), .bool fr] 123, ownHP 9 1 v (x.names.map strE), mapHP strK strK .string bm x.km]
def seeD (x : Sc) (a : Str) : Sc := match getM x.km a with
  | some _ => x
  | none => ⟨x.names ++ [a], putM x.km a ByteArray.empty⟩
theorem seeD_len (x : Sc) (a : Str) : (seeD x a).names.length ≤ x.names.length + 1 := by
  unfold seeD
  split
  · omega
  · simp
set_option maxHeartbeats 2000000 in
theorem see_ret {bc bm : Nat} {fr : Bool} {x : Sc} {v : Value} {a : Str} {w : World} {F : Nat → Prop} (hH : Sep (scH bc bm fr x v) w F) (hb : x.names.length ≤ 1000000) :
    RetC Tryz.prog 192 [.pointer (some ⟨bc, 0, none⟩), .string a] w F (fun _ : Value => .tuple #[]) (fun v' => scH bc bm fr (seeD x a) v') := by
  refine Calls.enter Tryz.func192 rfl _ rfl rfl (S := F) (H := scH bc bm fr x v) hH ?_
  refine Ja ?_;refine Jc ?_;refine Jf ?_;refine Je ?_;refine JA ?_;refine Jc ?_
  refine RW.lookupOk [_, _] (a0 := ByteArray.empty) rfl rfl rfl rfl ?_
  refine Jc ?_;refine Jt ?_;refine Jt ?_;refine Jd ?_;refine Jd ?_;refine Jb ?_;refine Ja ?_;refine Jc ?_;refine Js ?_;refine Jb ?_
  cases hg : getM x.km a with
  | some u =>
    refine CW.cf rfl ?_
    refine CW.skip ?_
    refine PW.ret (rs := []) (vs := []) Tryz.results192 rfl ResOK.nil fun w hw => ⟨v, rfl, ?_⟩
    rw [show seeD x a = x by unfold seeD; rw [hg]]
    exact hw
  | none =>
    refine CW.ct rfl ?_
    refine Ja ?_;refine Jc ?_;refine Jf ?_;refine Je ?_;refine JA ?_;refine Jc ?_
    refine RW.mapUpdate [_, _] (a := ByteArray.empty) rfl rfl rfl rfl ?_
    refine Jb ?_
    refine CW.region ?_
    refine Jc ?_;refine Jc ?_;refine Jf ?_;refine Je ?_;refine JA ?_;refine Jc ?_
    refine RW.buildSlice (e := 9) (c := [.string a]) rfl (fun w => by kernel_rfl) rfl fun b28 _ => ?_
    refine RW.append [_, _] (e := 9) (sz := 1) (news := [[.string a]]) (zc := [.string ByteArray.empty]) rfl rfl rfl rfl rfl (by simp) (by simp [Value.oneCell']) (fun w hw hn => ?_) ?_ ?_ rfl fun v' => ?_
    · exact ⟨b28, 0, rfl, CellsAt.of_blk (St.blk (pre := []) hw)⟩
    · rw [List.length_map]; omega
    · rw [List.length_map]; unfold maxN; omega
    dsimp only [List.cons_append, List.nil_append]
    refine Jf ?_;refine Je ?_
    refine RW.have_ (φ := v'.cells = #[v'] ∧ v'.oneCell' = true) (fun w hw => ?_) (fun hv => ?_)
    · obtain ⟨F2, hp, _⟩ := St.get (pre := [_, _]) hw
      rcases hp with ⟨rfl, _⟩ | ⟨B, c, tl, rfl, _⟩ <;> exact ⟨rfl, rfl⟩
    refine RW.store_blk [_] rfl rfl rfl hv.1 hv.2 (by show 0 < _; simp) ?_
    refine RW.nil ?_
    refine PW.ret (rs := []) (vs := []) Tryz.results192 rfl ResOK.nil fun w hw => ⟨v', rfl, ?_⟩
    rw [show seeD x a = ⟨x.names ++ [a], putM x.km a ByteArray.empty⟩ by unfold seeD; rw [hg]]
    unfold scH
    rw [List.map_append]
    exact hw.sub (List.Sublist.cons _ (List.Sublist.refl _))
def mGet (s : kStat.V) (name : Str) : Option Int := getM (indexD ((sMembers s).map nameOf)) name
def memAt (s : kStat.V) (name : Str) : kMember.V := ((sMembers s)[((mGet s name).getD 0).toNat]?).getD (ByteArray.empty, ByteArray.empty)
theorem mGet_lt {s : kStat.V} {name : Str} {i : Int} (h : mGet s name = some i) : 0 ≤ i ∧ i < (sMembers s).length ∧ ((sMembers s)[i.toNat]?).map nameOf = some name := by
  unfold mGet at h
  rw [indexD_get] at h
  obtain ⟨h1, h2, h3⟩ := fst?_some h
  rw [List.getElem?_map] at h3
  exact ⟨h1, by simpa using h2, h3⟩
theorem memAt_get {s : kStat.V} {name : Str} (h : (mGet s name).isSome = true) : 0 ≤ (mGet s name).getD 0 ∧ (mGet s name).getD 0 < (sMembers s).length ∧ (sMembers s)[((mGet s name).getD 0).toNat]? = some (memAt s name) := by
  obtain ⟨i, hi⟩ := Option.isSome_iff_exists.1 h
  have := mGet_lt hi
  unfold memAt
  rw [hi]
  refine ⟨this.1, this.2.1, ?_⟩
  show (sMembers s)[i.toNat]? = some (((sMembers s)[i.toNat]?).getD _)
  rw [List.getElem?_eq_getElem (by omega)]; rfl
def argD (s : kStat.V) (at_ : Int) (fr : Bool) (x : Sc) (a kind : Str) : Ex Sc :=
  if isVarD a = true then
    bnd (wantD (!fr) 86 at_) fun _ =>
    bnd (wantD (decide ((getM (seeD x a).km a).getD ByteArray.empty = ByteArray.empty) || decide ((getM (seeD x a).km a).getD ByteArray.empty = kind)) 81 at_) fun _ => .ok ⟨(seeD x a).names, putM (seeD x a).km a kind⟩
  else
    bnd (wantD (isNameD a) 71 at_) fun _ =>
    bnd (wantD (mGet s a).isSome 82 at_) fun _ =>
    bnd (wantD (decide ((memAt s a).2 = kind)) 81 at_) fun _ => .ok x
theorem argD_len {s : kStat.V} {at_ : Int} {fr : Bool} {x x' : Sc} {a kind : Str} (h : argD s at_ fr x a kind = .ok x') : x'.names.length ≤ x.names.length + 1 := by
  unfold argD at h
  split at h
  · obtain ⟨_, _, h⟩ := bnd_inv h
    obtain ⟨_, _, h⟩ := bnd_inv h
    cases h
    exact seeD_len x a
  · obtain ⟨_, _, h⟩ := bnd_inv h
    obtain ⟨_, _, h⟩ := bnd_inv h
    obtain ⟨_, _, h⟩ := bnd_inv h
    cases h
    omega
set_option maxHeartbeats 4000000 in
theorem arg_ret {br bc bm : Nat} {s : kStat.V} {at_ : Int} {x : RC} {fr : Bool} {y : Sc} {v : Value} {a kind : Str} {w : World} {F : Nat → Prop} (hR : RS w (fun b => ¬ F b) br s at_ x) (hH : Sep (scH bc bm fr y v) w F) (hbd : y.names.length ≤ 1000000) :
    RetE Tryz.prog 180 [.pointer (some ⟨br, 0, none⟩), .pointer (some ⟨bc, 0, none⟩), .string a, .string kind] w F (argD s at_ fr y a kind) (fun _ _ => .tuple #[]) (fun y' (v' : Value) => scH bc bm fr y' v') := by
  generalize hS : argD s at_ fr y a kind = SP
  have hS := hS.symm
  unfold argD at hS
  have hle : Mem.le (mem w (fun b => ¬ F b)) (mem w (fun b => ¬ F b)) := Mem.le_refl _
  refine Calls.enter Tryz.func180 rfl _ rfl rfl (S := F) (H := scH bc bm fr y v) hH ?_
  refine CW.seq ?_
  refine Ja ?_;refine Jc ?_
  refine RW.call Tryz.call191 rfl (fun w hw => IsVar_ret) rfl ?_
  refine Jb ?_
  refine CW.cond rfl (fun h1 => ?_) (fun h1 => ?_)
  · rw [if_pos h1] at hS
    refine Ja ?_;refine Jc ?_;refine Jc ?_;refine Jf ?_;refine Je ?_;refine JA ?_;refine Js ?_
    refine RW.want hS rfl (rfl) (fun w hw => RS.at_cell hR hw) rfl rfl rfl fun hb hS => ?_
    refine Jb ?_;refine Ja ?_;refine Jc ?_;refine Jc ?_
    refine RW.callD (r := []) (scH bc bm fr y v) Tryz.call192 rfl (fun w2 F2 _ h1 _ => see_ret h1 hbd) rfl fun v' => ?_
    generalize hz : seeD y a = z at *
    refine Jb ?_;refine Ja ?_;refine Jc ?_;refine Jc ?_;refine Jf ?_;refine Je ?_;refine JA ?_;refine Jc ?_
    refine RW.lookup [_, _] (a0 := ByteArray.empty) rfl rfl rfl rfl ?_
    refine Jo ?_;refine Jc ?_
    refine RW.splitD 30 rfl (fun h2 => ?_) (fun h2 => ?_)
    · refine Jz ?_;refine Jz ?_;refine Jz ?_;refine Jz ?_;refine Jz ?_;refine Jz ?_;refine Jz ?_;refine Jz ?_;refine Jv ?_
      refine RW.want hS rfl ((by rw [decide_eq_true (show (getM z.km a).getD ByteArray.empty = ByteArray.empty from h2), Bool.true_or])) (fun w hw => RS.at_cell hR hw) rfl rfl rfl fun hb hS => ?_
      refine Jb ?_;refine Ja ?_;refine Jc ?_;refine Jf ?_;refine Je ?_;refine JA ?_;refine Jc ?_;refine Jc ?_
      refine RW.mapUpdate [_, _] (a := kind) rfl rfl rfl rfl ?_
      refine Jb ?_
      exact CW.ret rfl (PW.ret (rs := []) (vs := []) Tryz.results180 rfl ResOK.nil fun w hw => XP.ok (V := fun _ _ => .tuple #[]) v' hS hw)
    · refine Jy ?_;refine Jc ?_;refine Jy ?_;refine Jf ?_;refine Jy ?_;refine Je ?_;refine Jy ?_;refine JA ?_;refine Jy ?_;refine Jc ?_;refine Jy ?_
      refine RW.lookup [_, _] (a0 := ByteArray.empty) rfl rfl rfl rfl ?_
      refine Jy ?_;refine Jc ?_;refine Jy ?_;refine Jo ?_;refine Jw ?_
      refine RW.want hS rfl ((by rw [decide_eq_false (show ¬ (getM z.km a).getD ByteArray.empty = ByteArray.empty from h2), Bool.false_or])) (fun w hw => RS.at_cell hR hw) rfl rfl rfl fun hb hS => ?_
      refine Jb ?_;refine Ja ?_;refine Jc ?_;refine Jf ?_;refine Je ?_;refine JA ?_;refine Jc ?_;refine Jc ?_
      refine RW.mapUpdate [_, _] (a := kind) rfl rfl rfl rfl ?_
      refine Jb ?_
      exact CW.ret rfl (PW.ret (rs := []) (vs := []) Tryz.results180 rfl ResOK.nil fun w hw => XP.ok (V := fun _ _ => .tuple #[]) v' hS hw)
  · rw [if_neg (by simp [h1])] at hS
    refine JM ?_;refine Ja ?_;refine Jc ?_;refine Jc ?_
    refine RW.call Tryz.call165 rfl (fun w hw => IsName_ret) rfl ?_
    refine RW.want hS rfl (rfl) (fun w hw => RS.at_cell hR hw) rfl rfl rfl fun hb hS => ?_
    refine Jb ?_;refine Ja ?_;refine Jc ?_;refine Jf ?_;refine Je ?_
    refine RW.load_ro rfl hle (hR.cell 11 _ rfl) rfl rfl ?_
    refine Jc ?_
    refine RW.lookupMOk (D := indexD ((sMembers s).map nameOf)) hR.members rfl rfl rfl rfl ?_
    refine Jc ?_;refine Jt ?_;refine Jt ?_;refine Jd ?_;refine Jd ?_;refine Jb ?_;refine Ja ?_;refine Jc ?_;refine Jc ?_
    refine RW.want hS rfl (rfl) (fun w hw => RS.at_cell hR hw) rfl rfl rfl fun hb hS => ?_
    obtain ⟨hi0, hi1, hg⟩ := memAt_get (s := s) (name := a) hb
    obtain ⟨B2, O2, es2, hA2, _, hr2, hm2⟩ := sl_get hR.stat.members hg
    obtain ⟨c1, c2, rfl, h5, h6⟩ := hr2
    obtain rfl := str_cell h5
    obtain rfl := str_cell h6
    generalize hmm : memAt s a = mm at *
    refine Jb ?_
    refine CW.region ?_
    refine Jc ?_;refine Jc ?_;refine Jf ?_;refine Je ?_;refine Je ?_
    refine RW.load_ro rfl hle (hR.cell 2 _ rfl) rfl rfl ?_
    refine Jc ?_
    refine RW.indexAddrE hA2 rfl rfl hi0 hi1 rfl ?_
    refine Je ?_
    refine RW.load_ro rfl hle (hm2 1 _ rfl) rfl rfl ?_
    refine Jc ?_;refine Jo ?_
    refine RW.want hS rfl (rfl) (fun w hw => RS.at_cell hR hw) rfl rfl rfl fun hb hS => ?_
    refine RW.nil ?_
    exact PW.ret (rs := []) (vs := []) Tryz.results180 rfl ResOK.nil fun w hw => XP.ok (V := fun _ _ => .tuple #[]) v hS hw
def argsD (s : kStat.V) (at_ : Int) (fr : Bool) (x : Sc) (l : List Str) (p : kPredT.V) : Ex Sc :=
  bnd (wantD (decide ((l.length : Int) = p.2.2.1.length)) 83 at_) fun _ => bnd (foldX (fun x (a : Str × Str) => argD s at_ fr x a.1 a.2) x (l.zip p.2.2.1)) .ok
theorem foldX_len {σ α : Type} {f : σ → α → Ex σ} {n : σ → Nat} {d : Nat} (h : ∀ x a x', f x a = .ok x' → n x' ≤ n x + d) : ∀ {l : List α} {x x' : σ}, foldX f x l = .ok x' → n x' ≤ n x + d * l.length := by
  intro l
  induction l with
  | nil => intro x x' hx; cases hx; omega
  | cons a r ih =>
    intro x x' hx
    obtain ⟨x1, h1, h2⟩ := bnd_inv hx
    have := h _ _ _ h1
    have := ih h2
    rw [List.length_cons, Nat.mul_add]
    omega
theorem argsD_len {s : kStat.V} {at_ : Int} {fr : Bool} {x x' : Sc} {l : List Str} {p : kPredT.V} (h : argsD s at_ fr x l p = .ok x') : x'.names.length ≤ x.names.length + p.2.2.1.length := by
  obtain ⟨_, h1, h⟩ := bnd_inv h
  obtain ⟨_, h2, h⟩ := bnd_inv h
  cases h
  have h3 := foldX_len (n := fun x => x.names.length) (d := 1) (fun _ _ _ h => argD_len h) h2
  rw [List.length_zip] at h3
  omega
set_option maxHeartbeats 4000000 in
theorem args_ret {br bc bm : Nat} {s : kStat.V} {at_ : Int} {x : RC} {fr : Bool} {y : Sc} {v : Value} {A : Option Addr} {c : Nat} {l : List Str} {cs : List Value} {p : kPredT.V} {w : World} {F : Nat → Prop} (hR : RS w (fun b => ¬ F b) br s at_ x) (hl : Rd kStrs (mem w (fun b => ¬ F b)) [.slice A l.length c] l) (hp : Rd kPredT (mem w (fun b => ¬ F b)) cs p)
    (hH : Sep (scH bc bm fr y v) w F) (hbd : y.names.length + p.2.2.1.length ≤ 1000000) :
    RetE Tryz.prog 134 [.pointer (some ⟨br, 0, none⟩), .pointer (some ⟨bc, 0, none⟩), .slice A l.length c, .agg cs.toArray] w F (argsD s at_ fr y l p) (fun _ _ => .tuple #[]) (fun y' (v' : Value) => scH bc bm fr y' v') := by
  generalize hS : argsD s at_ fr y l p = SP
  have hS := hS.symm
  unfold argsD at hS
  obtain ⟨PA, pc, PB, pd, rfl, hkd, hvd⟩ := Rd.predT hp
  have hl1 := sl_small hl
  unfold reach at hl1
  have hle : Mem.le (mem w (fun b => ¬ F b)) (mem w (fun b => ¬ F b)) := Mem.le_refl _
  refine Calls.enter Tryz.func134 rfl _ rfl rfl (S := F) (H := scH bc bm fr y v) hH ?_
  refine CW.seqR ?_
  refine RW.box_agg rfl rfl fun b7 _ => ?_
  refine Jb ?_;refine Ja ?_;refine Jc ?_;refine Jc ?_;refine Jg ?_;refine Je ?_;refine JA ?_;refine Jg ?_;refine Ji ?_
  refine RW.want hS rfl (rfl) (fun w hw => RS.at_cell hR hw) rfl rfl rfl fun hb hS => ?_
  have hlen : l.length = p.2.2.1.length := by have := of_decide_eq_true hb; omega
  refine Jb ?_;refine Ja ?_;refine Jc ?_;refine Jg ?_;refine Jc ?_;refine Jb ?_
  refine CW.block ?_
  refine CW.loop (ι := { q : Nat × Sc × Value // q.1 ≤ l.length ∧ q.2.1.names.length ≤ y.names.length + q.1 ∧ SP = bnd (foldX (fun x (a : Str × Str) => argD s at_ fr x a.1 a.2) q.2.1 ((l.zip p.2.2.1).drop q.1)) _ }) (fun q => [(0, .pointer (some ⟨br, 0, none⟩)), (1, .pointer (some ⟨bc, 0, none⟩)), (7, .pointer (some ⟨b7, 0, none⟩)), (18, .slice A l.length c), (19, .int .i64 l.length), (20, .int .i64 q.1.1)])
    (fun q => blk b7 [.string p.1, .int .i64 p.2.1, .slice PA p.2.2.1.length pc, .slice PB p.2.2.2.length pd] 151 :: scH bc bm fr q.1.2.1 q.1.2.2) (fun q => l.length - q.1.1) ⟨(0, y, v), Nat.zero_le _, Nat.le_refl _, hS⟩ ⟨rfl, rfl, rfl, rfl, rfl, rfl, trivial⟩ (fun h => h) ?_
  intro ⟨⟨k, z, u⟩, hk, hn, hS⟩
  dsimp only at hS hk hn ⊢
  refine Ja ?_;refine Jk ?_;refine Jb ?_
  refine CW.seq ?_
  refine CW.ite rfl (fun hlt => ?_) (fun hge => ?_)
  · have hlt' : k < l.length := by simpa using hlt
    have hlt2 : k < p.2.2.1.length := by omega
    have hlt3 : k < (l.zip p.2.2.1).length := by rw [List.length_zip]; omega
    rw [foldX_step hlt3, List.getElem_zip] at hS
    obtain ⟨B1, O1, es1, hA, hl1, hr, hm⟩ := sl_get hl (List.getElem?_eq_getElem hlt')
    obtain rfl := str_cell hr
    obtain ⟨B2, O2, es2, hA2, hl2, hr2, hm2⟩ := sl_get hkd (List.getElem?_eq_getElem hlt2)
    obtain rfl := str_cell hr2
    refine JM ?_
    refine CW.seq ?_
    refine CW.block ?_
    refine Ja ?_;refine Jc ?_
    refine RW.indexAddrE hA rfl rfl (by omega) hlt rfl ?_
    skip
    refine RW.load_ro rfl hle (hm 0 _ rfl) rfl rfl ?_
    refine Jd ?_;refine Jd ?_;refine Jb ?_
    refine CW.region ?_
    refine Jc ?_;refine Jc ?_;refine Jc ?_;refine Je ?_;refine JA ?_;refine Jc ?_
    refine RW.indexAddrE hA2 rfl rfl (by omega) (by omega) rfl ?_
    skip
    refine RW.load_ro rfl hle (hm2 0 _ rfl) rfl rfl ?_
    refine RW.take [1, 2, 3, 0] ?_
    refine RW.callE (r := [_]) (scH bc bm fr z u) hS Tryz.call180 rfl (fun w2 F2 hw2 hF2 h1 _ => arg_ret (RS.callF hR hw2 hF2) h1 (by omega)) rfl rfl rfl fun z' u' hz hS => ?_
    have hn' := argD_len hz
    refine RW.nil ?_
    refine PW.code ?_
    refine CW.region ?_
    refine RW.add rfl rfl (w64 (by omega) (by omega)) rfl ?_
    refine Jc ?_
    refine RW.nil ?_
    exact PW.againT ⟨(k + 1, z', u'), hlt', by show z'.names.length ≤ _; omega, hS⟩ [3, 0, 1, 2] ⟨rfl, rfl, rfl, rfl, rfl, rfl, trivial⟩ rfl (by show l.length - (k + 1) < l.length - k; omega)
  · have hge' : l.length ≤ k := by simpa using hge
    rw [foldX_end (by rw [List.length_zip]; omega)] at hS
    refine CW.exit rfl ?_
    exact PW.ret (rs := []) (vs := []) Tryz.results134 rfl ResOK.nil fun w hw => XP.ok (V := fun _ _ => .tuple #[]) u hS (hw.sub (List.Sublist.cons _ (List.Sublist.refl _)))
end Go.Proofs.YtkfmlekomfnleaaGreat
/- The resolver's literal, term, unlike. Conditions: none. -/
set_option linter.unusedVariables false
set_option linter.unusedSimpArgs false
set_option maxRecDepth 10000
namespace Go.Proofs.YtkfmlekomfnleaaGreat
open Go Go.RowKit

attribute [local irreducible] RW CW
/-- A literal's text, by its parts. -/
theorem Rd.litT {M : Mem} {cs : List Value} {l : kLitT.V} (h : Rd kLitT M cs l) : ∃ A c, cs = [.bool l.1, .string l.2.1, .slice A l.2.2.1.length c, .bool l.2.2.2.1, .int .i64 l.2.2.2.2] ∧ Rd kStrs M [.slice A l.2.2.1.length c] l.2.2.1 := by
  obtain ⟨c1, c2, rfl, h1, c3, c4, rfl, h3, c5, c6, rfl, h5, c7, c8, rfl, h7, h8⟩ := h
  obtain rfl : c1 = [.bool l.1] := h1
  obtain rfl := str_cell h3
  obtain ⟨A, c, rfl⟩ := sl_cell h5
  obtain rfl : c7 = [.bool l.2.2.2.1] := h7
  obtain rfl := int_cell h8
  exact ⟨A, c, rfl, h5⟩
theorem Rd.termT {M : Mem} {cs : List Value} {l : kTerm.V} (h : Rd kTerm M cs l) : ∃ A c, cs = [.int .i64 l.1, .string l.2.1, .slice A l.2.2.1.length c, .int .i64 l.2.2.2] ∧ Rd kStrs M [.slice A l.2.2.1.length c] l.2.2.1 := by
  obtain ⟨c1, c2, rfl, h1, c3, c4, rfl, h3, c5, c6, rfl, h5, h8⟩ := h
  obtain rfl := int_cell h1
  obtain rfl := str_cell h3
  obtain ⟨A, c, rfl⟩ := sl_cell h5
  obtain rfl := int_cell h8
  exact ⟨A, c, rfl, h5⟩
def literalD (s : kStat.V) (at_ : Int) (fr : Bool) (x : Sc) (l : kLitT.V) : Ex Sc :=
  bnd (wantD (pGet s l.2.1).isSome 82 at_) fun _ =>
  bnd (wantD (decide (¬ (predAt s l.2.1).2.1 = 2)) 84 at_) fun _ =>
  bnd (argsD s at_ fr x l.2.2.1 (predAt s l.2.1)) fun x' =>
  bnd (wantD (decide (l.2.2.2.1 = decide ((predAt s l.2.1).2.1 = 3)) && (l.2.2.2.1 || decide (l.2.2.2.2 = 0))) 84 at_) fun _ =>
  bnd (wantD (!l.2.2.2.1 || (predAt s l.2.1).2.2.2.any (fun x => decide (x = l.2.2.2.2))) 85 at_) fun _ => .ok x'
def termD (s : kStat.V) (at_ : Int) (fr : Bool) (x : Sc) (t : kTerm.V) : Ex Sc :=
  if t.2.1 = ByteArray.empty then
    bnd (wantD (decide (t.1 = 0) && decide ((t.2.2.1.length : Int) = 0)) 101 at_) fun _ =>
    bnd (wantD (decide (moneyD t.2.2.2 = 0)) 22 at_) fun _ => .ok x
  else
    bnd (wantD (pGet s t.2.1).isSome 82 at_) fun _ =>
    bnd (wantD (decide ((predAt s t.2.1).2.1 = 2)) 84 at_) fun _ =>
    bnd (wantD (decide (¬ t.1 = 0) && decide (-1000 ≤ t.1) && decide (t.1 ≤ 1000) && decide (t.2.2.2 = 0)) 101 at_) fun _ =>
    bnd (argsD s at_ fr x t.2.2.1 (predAt s t.2.1)) .ok
def fourK (s : kStat.V) : Prop := ∀ p ∈ sPreds s, p.2.2.1.length ≤ 4
theorem predAt_four {s : kStat.V} (hK : fourK s) (name : Str) : (predAt s name).2.2.1.length ≤ 4 := by
  unfold predAt
  cases h : (sPreds s)[(pIdx s name).toNat]? with
  | none => exact Nat.zero_le _
  | some p => exact hK p (List.mem_of_getElem? h)
theorem literalD_len {s : kStat.V} {at_ : Int} {fr : Bool} {x x' : Sc} {l : kLitT.V} (hK : fourK s) (h : literalD s at_ fr x l = .ok x') : x'.names.length ≤ x.names.length + 4 := by
  obtain ⟨_, _, h⟩ := bnd_inv h
  obtain ⟨_, _, h⟩ := bnd_inv h
  obtain ⟨x1, h1, h⟩ := bnd_inv h
  obtain ⟨_, _, h⟩ := bnd_inv h
  obtain ⟨_, _, h⟩ := bnd_inv h
  cases h
  have := argsD_len h1
  have := predAt_four hK l.2.1
  omega
theorem termD_len {s : kStat.V} {at_ : Int} {fr : Bool} {x x' : Sc} {l : kTerm.V} (hK : fourK s) (h : termD s at_ fr x l = .ok x') : x'.names.length ≤ x.names.length + 4 := by
  unfold termD at h
  split at h
  · obtain ⟨_, _, h⟩ := bnd_inv h
    obtain ⟨_, _, h⟩ := bnd_inv h
    cases h
    omega
  · obtain ⟨_, _, h⟩ := bnd_inv h
    obtain ⟨_, _, h⟩ := bnd_inv h
    obtain ⟨_, _, h⟩ := bnd_inv h
    obtain ⟨_, h1, h⟩ := bnd_inv h
    cases h
    have := argsD_len h1
    have := predAt_four hK l.2.1
    omega
theorem w_eqB {a b : Bool} {p : Prop} [Decidable p] (h : p ↔ a = b) : decide p = decide (a = b) := decide_eq_decide.2 h
set_option maxHeartbeats 4000000 in
theorem literal_ret {br bc bm : Nat} {s : kStat.V} {at_ : Int} {x : RC} {fr : Bool} {y : Sc} {v : Value} {cs : List Value} {l : kLitT.V} {w : World} {F : Nat → Prop} (hR : RS w (fun b => ¬ F b) br s at_ x) (hl : Rd kLitT (mem w (fun b => ¬ F b)) cs l) (hK : fourK s)
    (hH : Sep (scH bc bm fr y v) w F) (hbd : y.names.length + 4 ≤ 1000000) :
    RetE Tryz.prog 54 [.pointer (some ⟨br, 0, none⟩), .pointer (some ⟨bc, 0, none⟩), .agg cs.toArray] w F (literalD s at_ fr y l) (fun _ _ => .tuple #[]) (fun y' (v' : Value) => scH bc bm fr y' v') := by
  generalize hS : literalD s at_ fr y l = SP
  have hS := hS.symm
  unfold literalD at hS
  obtain ⟨A, c, rfl, hargs⟩ := Rd.litT hl
  have hle : Mem.le (mem w (fun b => ¬ F b)) (mem w (fun b => ¬ F b)) := Mem.le_refl _
  refine Calls.enter Tryz.func54 rfl _ rfl rfl (S := F) (H := scH bc bm fr y v) hH ?_
  refine CW.seqR ?_
  refine RW.box_agg rfl rfl fun b5 _ => ?_
  refine RW.next ?_
  refine CW.seqA (by kernel_rfl) rfl ?_
  refine AW.val rfl (fun _ _ => by refine Jc ?_;exact RW.done rfl) ?_;refine AW.val rfl (fun _ _ => by refine Jf ?_;exact RW.done rfl) ?_;refine AW.val rfl (fun _ _ => by refine Je ?_;exact RW.done rfl) ?_
  (apply AW.val rfl; · intro Gx X; (first | refine RW.yes rfl ?_ | skip); refine RW.load_ro rfl hle (hR.cell 12 _ rfl) rfl rfl ?_; exact RW.done rfl)
  refine AW.val rfl (fun _ _ => by refine Je ?_;exact RW.done rfl) ?_;refine AW.val rfl (fun _ _ => by refine JA ?_;exact RW.done rfl) ?_
  (apply AW.val rfl; · intro Gx X; (first | refine RW.yes rfl ?_ | skip); refine RW.lookupMOk (D := indexD ((sPreds s).map nameOf)) hR.preds rfl rfl rfl rfl ?_; exact RW.done rfl)
  refine AW.val rfl (fun _ _ => by refine Jc ?_;exact RW.done rfl) ?_;refine AW.val rfl (fun _ _ => by refine Jt ?_;exact RW.done rfl) ?_;refine AW.val rfl (fun _ _ => by refine Jt ?_;exact RW.done rfl) ?_;refine AW.val rfl (fun _ _ => by refine Jd ?_;exact RW.done rfl) ?_;refine AW.val rfl (fun _ _ => by refine Jd ?_;exact RW.done rfl) ?_
  refine AW.stop (by kernel_rfl) (by kernel_rfl) fun bs => ?_
  refine Jb ?_;refine Ja ?_;refine Jc ?_;refine Jc ?_
  refine RW.want hS rfl (rfl) (fun w hw => RS.at_cell hR hw) rfl rfl rfl fun hb hS => ?_
  have hp := pSome (s := s) hb
  have hi := pIdx_lt l.2.1 hp
  have hf := predAt_four hK l.2.1
  obtain ⟨B2, O2, es2, hA2, _, hr2, hm2⟩ := sl_get hR.stat.preds (predAt_get l.2.1 hp)
  have hr2' := hr2
  obtain ⟨PA, pc, PB, pd, rfl, hpk, hpv⟩ := Rd.predT hr2
  generalize hpn : predAt s l.2.1 = p at *
  refine Jb ?_;refine Ja ?_;refine Jc ?_;refine Jf ?_;refine Je ?_;refine Je ?_
  refine RW.load_ro rfl hle (hR.cell 3 _ rfl) rfl rfl ?_
  refine Jc ?_
  refine RW.indexAddrE hA2 rfl rfl hi.1 hi.2 rfl ?_
  refine RW.load_ros rfl hle hm2 rfl rfl (Nat.zero_lt_succ _) rfl ?_
  refine RW.alloc (c := [.string ByteArray.empty, .int .i64 0, .slice none 0 0, .slice none 0 0]) rfl rfl fun b8 _ => ?_
  refine RW.store_whole [] rfl rfl rfl rfl rfl (by simp [Value.oneCell']) ?_
  refine Jb ?_;refine Ja ?_;refine Jc ?_;refine Je ?_;refine JA ?_;refine Jj ?_
  refine RW.want hS rfl (rfl) (fun w hw => RS.at_cell hR hw) rfl rfl rfl fun hb hS => ?_
  refine Jb ?_;refine Ja ?_;refine Jc ?_;refine Jc ?_;refine Je ?_;refine JB ?_;refine JE ?_
  refine RW.take [2, 3, 4, 0, 1] ?_
  refine RW.callE (r := [_, _]) (scH bc bm fr y v) hS Tryz.call134 rfl (fun w2 F2 hw2 hF2 h1 _ => args_ret (RS.callF hR hw2 hF2) (hargs.mono (ro_callF hw2 hF2)) (hr2'.mono (ro_callF hw2 hF2)) h1 (by omega)) rfl rfl rfl fun z u hz hS => ?_
  refine RW.take [3, 4, 0, 1, 2] ?_
  refine Jb ?_;refine Ja ?_;refine Jc ?_;refine Je ?_;refine JB ?_;refine Je ?_;refine JA ?_;refine Ji ?_;refine Jq ?_;refine Jc ?_
  refine RW.splitD 48 rfl (fun h1 => ?_) (fun h1 => ?_)
  · refine Jy ?_;refine Je ?_;refine Jy ?_;refine JB ?_;refine Jy ?_;refine Jc ?_
    cases hv : l.2.2.2.1 with
    | true =>
      rw [hv] at h1
      refine Jz ?_;refine Jz ?_;refine Jz ?_;refine Jy ?_;refine Jv ?_;refine Jv ?_
      refine RW.want hS rfl (by rw [hv]; simp [← h1]) (fun w hw => RS.at_cell hR hw) rfl rfl rfl fun hb hS => ?_
      refine Jb ?_
      refine CW.region ?_
      refine Jc ?_;refine Je ?_;refine JB ?_;refine Js ?_;refine Jc ?_;refine Jy ?_;refine Je ?_;refine Jy ?_;refine JA ?_;refine Jy ?_;refine Je ?_;refine Jy ?_;refine JB ?_;refine Jy ?_
      refine RW.call Tryz.call135 rfl (fun w2 hw => has_ret (N := mem w (fun b => ¬ F b)) (ro_call hw) hpv) rfl ?_
      refine Jw ?_
      refine RW.want hS rfl (by rw [hv]; rfl) (fun w hw => RS.at_cell hR hw) rfl rfl rfl fun hb hS => ?_
      exact RW.nil (PW.ret (rs := []) (vs := []) Tryz.results54 rfl ResOK.nil fun w hw => XP.ok (V := fun _ _ => .tuple #[]) u hS (hw.sub (List.Sublist.cons _ (List.Sublist.cons _ (List.Sublist.refl _)))))
    | false =>
      rw [hv] at h1
      refine Jy ?_;refine Je ?_;refine Jy ?_;refine JB ?_;refine Jy ?_;refine Ji ?_;refine Jy ?_;refine Jw ?_;refine Jv ?_
      refine RW.want hS rfl (by rw [hv]; simp [← h1]) (fun w hw => RS.at_cell hR hw) rfl rfl rfl fun hb hS => ?_
      refine Jb ?_
      refine CW.region ?_
      refine Jc ?_;refine Je ?_;refine JB ?_;refine Js ?_;refine Jc ?_;refine Jz ?_;refine Jz ?_;refine Jz ?_;refine Jz ?_;refine Jz ?_;refine Jv ?_
      refine RW.want hS rfl (by rw [hv]; rfl) (fun w hw => RS.at_cell hR hw) rfl rfl rfl fun hb hS => ?_
      exact RW.nil (PW.ret (rs := []) (vs := []) Tryz.results54 rfl ResOK.nil fun w hw => XP.ok (V := fun _ _ => .tuple #[]) u hS (hw.sub (List.Sublist.cons _ (List.Sublist.cons _ (List.Sublist.refl _)))))
  · refine Jz ?_;refine Jz ?_;refine Jz ?_;refine Jz ?_;refine Jz ?_;refine Jz ?_;refine Jz ?_;refine Jw ?_
    refine RW.want hS rfl ((by rw [decide_eq_false h1, Bool.false_and])) (fun w hw => RS.at_cell hR hw) rfl rfl rfl fun hb _ => absurd hb (by decide)
set_option maxHeartbeats 4000000 in
theorem term_ret {br bc bm : Nat} {s : kStat.V} {at_ : Int} {x : RC} {fr : Bool} {y : Sc} {v : Value} {cs : List Value} {t : kTerm.V} {w : World} {F : Nat → Prop} (hR : RS w (fun b => ¬ F b) br s at_ x) (hl : Rd kTerm (mem w (fun b => ¬ F b)) cs t) (hK : fourK s)
    (hH : Sep (scH bc bm fr y v) w F) (hbd : y.names.length + 4 ≤ 1000000) :
    RetE Tryz.prog 190 [.pointer (some ⟨br, 0, none⟩), .pointer (some ⟨bc, 0, none⟩), .agg cs.toArray] w F (termD s at_ fr y t) (fun _ _ => .tuple #[]) (fun y' (v' : Value) => scH bc bm fr y' v') := by
  generalize hS : termD s at_ fr y t = SP
  have hS := hS.symm
  unfold termD at hS
  obtain ⟨A, c, rfl, hargs⟩ := Rd.termT hl
  have hle : Mem.le (mem w (fun b => ¬ F b)) (mem w (fun b => ¬ F b)) := Mem.le_refl _
  refine Calls.enter Tryz.func190 rfl _ rfl rfl (S := F) (H := scH bc bm fr y v) hH ?_
  refine CW.seqR ?_
  refine RW.box_agg rfl rfl fun b5 _ => ?_
  refine RW.next ?_
  refine CW.seq ?_
  refine Ja ?_;refine Je ?_;refine JA ?_;refine Jo ?_;refine Jb ?_
  refine CW.ite rfl (fun h1 => ?_) (fun h1 => ?_)
  · rw [if_pos (show t.2.1 = ByteArray.empty from h1)] at hS
    refine Ja ?_;refine Jc ?_;refine Je ?_;refine JA ?_;refine Ji ?_;refine Jc ?_
    refine RW.splitD 16 rfl (fun h2 => ?_) (fun h2 => ?_)
    · refine Jy ?_;refine Je ?_;refine Jy ?_;refine JA ?_;refine Jy ?_;refine Jg ?_;refine Jy ?_;refine Ji ?_;refine Jv ?_
      refine RW.want hS rfl ((by rw [decide_eq_true h2, Bool.true_and])) (fun w hw => RS.at_cell hR hw) rfl rfl rfl fun hb hS => ?_
      refine Jb ?_;refine Ja ?_;refine Jc ?_;refine Je ?_;refine JA ?_
      refine RW.call Tryz.call166 rfl (fun w hw => moneyCheck_ret) rfl ?_
      refine Ji ?_
      refine RW.want hS rfl (rfl) (fun w hw => RS.at_cell hR hw) rfl rfl rfl fun hb hS => ?_
      refine Jb ?_
      exact CW.ret rfl (PW.ret (rs := []) (vs := []) Tryz.results190 rfl ResOK.nil fun w hw => XP.ok (V := fun _ _ => .tuple #[]) v hS (hw.sub (List.Sublist.cons _ (List.Sublist.refl _))))
    · refine Jz ?_;refine Jz ?_;refine Jz ?_;refine Jz ?_;refine Jw ?_
      refine RW.want hS rfl ((by rw [decide_eq_false h2, Bool.false_and])) (fun w hw => RS.at_cell hR hw) rfl rfl rfl fun hb _ => absurd hb (by decide)
  rw [if_neg (show ¬ t.2.1 = ByteArray.empty from h1)] at hS
  refine JM ?_
  refine CW.seqA (by kernel_rfl) rfl ?_
  refine AW.val rfl (fun _ _ => by refine Jc ?_;exact RW.done rfl) ?_;refine AW.val rfl (fun _ _ => by refine Jf ?_;exact RW.done rfl) ?_;refine AW.val rfl (fun _ _ => by refine Je ?_;exact RW.done rfl) ?_
  (apply AW.val rfl; · intro Gx X; (first | refine RW.yes rfl ?_ | skip); refine RW.load_ro rfl hle (hR.cell 12 _ rfl) rfl rfl ?_; exact RW.done rfl)
  refine AW.val rfl (fun _ _ => by refine Je ?_;exact RW.done rfl) ?_;refine AW.val rfl (fun _ _ => by refine JA ?_;exact RW.done rfl) ?_
  (apply AW.val rfl; · intro Gx X; (first | refine RW.yes rfl ?_ | skip); refine RW.lookupMOk (D := indexD ((sPreds s).map nameOf)) hR.preds rfl rfl rfl rfl ?_; exact RW.done rfl)
  refine AW.val rfl (fun _ _ => by refine Jc ?_;exact RW.done rfl) ?_;refine AW.val rfl (fun _ _ => by refine Jt ?_;exact RW.done rfl) ?_;refine AW.val rfl (fun _ _ => by refine Jt ?_;exact RW.done rfl) ?_;refine AW.val rfl (fun _ _ => by refine Jd ?_;exact RW.done rfl) ?_;refine AW.val rfl (fun _ _ => by refine Jd ?_;exact RW.done rfl) ?_
  refine AW.stop (by kernel_rfl) (by kernel_rfl) fun bs => ?_
  refine Jb ?_;refine Ja ?_;refine Jc ?_;refine Jc ?_
  refine RW.want hS rfl (rfl) (fun w hw => RS.at_cell hR hw) rfl rfl rfl fun hb hS => ?_
  have hp := pSome (s := s) hb
  have hi := pIdx_lt t.2.1 hp
  have hf := predAt_four hK t.2.1
  obtain ⟨B2, O2, es2, hA2, _, hr2, hm2⟩ := sl_get hR.stat.preds (predAt_get t.2.1 hp)
  have hr2' := hr2
  obtain ⟨PA, pc, PB, pd, rfl, hpk, hpv⟩ := Rd.predT hr2
  generalize hpn : predAt s t.2.1 = p at *
  refine Jb ?_;refine Ja ?_;refine Jc ?_;refine Jf ?_;refine Je ?_;refine Je ?_
  refine RW.load_ro rfl hle (hR.cell 3 _ rfl) rfl rfl ?_
  refine Jc ?_
  refine RW.indexAddrE hA2 rfl rfl hi.1 hi.2 rfl ?_
  refine RW.load_ros rfl hle hm2 rfl rfl (Nat.zero_lt_succ _) rfl ?_
  refine RW.alloc (c := [.string ByteArray.empty, .int .i64 0, .slice none 0 0, .slice none 0 0]) rfl rfl fun b8 _ => ?_
  refine RW.store_whole [] rfl rfl rfl rfl rfl (by simp [Value.oneCell']) ?_
  refine Jb ?_;refine Ja ?_;refine Jc ?_;refine Je ?_;refine JA ?_;refine Ji ?_
  refine RW.want hS rfl (rfl) (fun w hw => RS.at_cell hR hw) rfl rfl rfl fun hb hS => ?_
  refine Jb ?_;refine Ja ?_;refine Jc ?_;refine Je ?_;refine JB ?_;refine Jj ?_;refine Jc ?_
  refine RW.splitD 59 rfl (fun h2 => ?_) (fun h2 => ?_)
  · refine Jy ?_;refine Je ?_;refine Jy ?_;refine JB ?_;refine Jy ?_;refine Jn ?_;refine Jv ?_;refine Jc ?_
    refine RW.splitD 64 rfl (fun h3 => ?_) (fun h3 => ?_)
    · refine Jy ?_;refine Je ?_;refine Jy ?_;refine JB ?_;refine Jy ?_;refine Jl ?_;refine Jv ?_;refine Jc ?_
      refine RW.splitD 69 rfl (fun h4 => ?_) (fun h4 => ?_)
      · refine Jy ?_;refine Je ?_;refine Jy ?_;refine JB ?_;refine Jy ?_;refine Ji ?_;refine Jv ?_
        refine RW.want hS rfl ((by rw [decide_eq_true h2, decide_eq_true h3, decide_eq_true h4]; rfl)) (fun w hw => RS.at_cell hR hw) rfl rfl rfl fun hb hS => ?_
        refine Jb ?_
        refine CW.region ?_
        refine Jc ?_;refine Jc ?_;refine Je ?_;refine JB ?_;refine JE ?_
        refine RW.take [2, 3, 4, 0, 1] ?_
        refine RW.callE (r := [_, _]) (scH bc bm fr y v) hS Tryz.call134 rfl (fun w2 F2 hw2 hF2 h1 _ => args_ret (RS.callF hR hw2 hF2) (hargs.mono (ro_callF hw2 hF2)) (hr2'.mono (ro_callF hw2 hF2)) h1 (by omega)) rfl rfl rfl fun z u hz hS => ?_
        exact RW.nil (PW.ret (rs := []) (vs := []) Tryz.results190 rfl ResOK.nil fun w hw => XP.ok (V := fun _ _ => .tuple #[]) u hS (hw.sub (List.sublist_append_left _ _)))
      · refine Jz ?_;refine Jz ?_;refine Jz ?_;refine Jw ?_
        refine RW.want hS rfl ((by rw [decide_eq_false h4, Bool.and_false, Bool.false_and])) (fun w hw => RS.at_cell hR hw) rfl rfl rfl fun hb _ => absurd hb (by decide)
    · refine Jz ?_;refine Jz ?_;refine Jz ?_;refine Jw ?_;refine Jc ?_;refine Jz ?_;refine Jz ?_;refine Jz ?_;refine Jw ?_
      refine RW.splitD 69 (p := False) rfl (fun h5 => h5.elim) (fun h5 => ?_)
      skip
      refine RW.want hS rfl ((by rw [decide_eq_false h3, Bool.and_false, Bool.false_and, Bool.false_and])) (fun w hw => RS.at_cell hR hw) rfl rfl rfl fun hb _ => absurd hb (by decide)
  · refine Jz ?_;refine Jz ?_;refine Jz ?_;refine Jw ?_;refine Jc ?_;refine Jz ?_;refine Jz ?_;refine Jz ?_;refine Jw ?_;refine Jc ?_;refine Jz ?_;refine Jz ?_;refine Jz ?_;refine Jw ?_
    refine RW.splitD 64 (p := False) rfl (fun h5 => h5.elim) (fun h5 => ?_)
    skip
    refine RW.splitD 69 (p := False) rfl (fun h5 => h5.elim) (fun h5 => ?_)
    skip
    refine RW.want hS rfl ((by rw [decide_eq_false h2, Bool.false_and, Bool.false_and, Bool.false_and])) (fun w hw => RS.at_cell hR hw) rfl rfl rfl fun hb _ => absurd hb (by decide)
def unlikeD (s : kStat.V) (at_ : Int) (x : Sc) (a : Str) : Ex Sc :=
  if isVarD a = true then .ok (seeD x a)
  else bnd (wantD (isNameD a) 71 at_) fun _ => bnd (wantD (mGet s a).isSome 82 at_) fun _ => .ok x
theorem unlikeD_len {s : kStat.V} {at_ : Int} {x x' : Sc} {a : Str} (h : unlikeD s at_ x a = .ok x') : x'.names.length ≤ x.names.length + 1 := by
  unfold unlikeD at h
  split at h
  · cases h
    exact seeD_len x a
  · obtain ⟨_, _, h⟩ := bnd_inv h
    obtain ⟨_, _, h⟩ := bnd_inv h
    cases h
    omega
set_option maxHeartbeats 2000000 in
theorem unlike_ret {br bc bm : Nat} {s : kStat.V} {at_ : Int} {x : RC} {fr : Bool} {y : Sc} {v : Value} {a : Str} {w : World} {F : Nat → Prop} (hR : RS w (fun b => ¬ F b) br s at_ x) (hH : Sep (scH bc bm fr y v) w F) (hbd : y.names.length ≤ 1000000) :
    RetE Tryz.prog 173 [.pointer (some ⟨br, 0, none⟩), .pointer (some ⟨bc, 0, none⟩), .string a] w F (unlikeD s at_ y a) (fun _ _ => .tuple #[]) (fun y' (v' : Value) => scH bc bm fr y' v') := by
  generalize hS : unlikeD s at_ y a = SP
  have hS := hS.symm
  unfold unlikeD at hS
  have hle : Mem.le (mem w (fun b => ¬ F b)) (mem w (fun b => ¬ F b)) := Mem.le_refl _
  refine Calls.enter Tryz.func173 rfl _ rfl rfl (S := F) (H := scH bc bm fr y v) hH ?_
  refine CW.seq ?_
  refine Ja ?_;refine Jc ?_
  refine RW.call Tryz.call191 rfl (fun w hw => IsVar_ret) rfl ?_
  refine Jb ?_
  refine CW.cond rfl (fun h1 => ?_) (fun h1 => ?_)
  · rw [if_pos h1] at hS
    refine Ja ?_;refine Jc ?_;refine Jc ?_
    refine RW.callD (r := []) (scH bc bm fr y v) Tryz.call192 rfl (fun w2 F2 _ h1 _ => see_ret h1 hbd) rfl fun v' => ?_
    refine Jb ?_
    exact CW.ret rfl (PW.ret (rs := []) (vs := []) Tryz.results173 rfl ResOK.nil fun w hw => XP.ok (V := fun _ _ => .tuple #[]) v' hS hw)
  · rw [if_neg (by simp [h1])] at hS
    refine JM ?_;refine Ja ?_;refine Jc ?_;refine Jc ?_
    refine RW.call Tryz.call165 rfl (fun w hw => IsName_ret) rfl ?_
    refine RW.want hS rfl (rfl) (fun w hw => RS.at_cell hR hw) rfl rfl rfl fun hb hS => ?_
    refine Jb ?_;refine Ja ?_;refine Jc ?_;refine Jf ?_;refine Je ?_
    refine RW.load_ro rfl hle (hR.cell 11 _ rfl) rfl rfl ?_
    refine Jc ?_
    refine RW.lookupMOk (D := indexD ((sMembers s).map nameOf)) hR.members rfl rfl rfl rfl ?_
    refine Jc ?_;refine Jt ?_;refine Jt ?_;refine Jd ?_;refine Jd ?_;refine Jb ?_
    refine CW.region ?_
    refine Jc ?_;refine Jc ?_
    refine RW.want hS rfl (rfl) (fun w hw => RS.at_cell hR hw) rfl rfl rfl fun hb hS => ?_
    exact RW.nil (PW.ret (rs := []) (vs := []) Tryz.results173 rfl ResOK.nil fun w hw => XP.ok (V := fun _ _ => .tuple #[]) v hS hw)
def sideD (n : Int) : Bool := decide (1 ≤ n) && decide (n ≤ 8)
theorem side_ret {n : Int} {w : World} : Ret Tryz.prog 189 [.int .i64 n] w (.bool (sideD n)) := by
  unfold sideD
  refine Calls.enter Tryz.func189 rfl _ rfl rfl (S := No) (H := []) trivial ?_
  refine Ja ?_;refine Jd ?_;refine Jb ?_;refine Ja ?_;refine Jc ?_;refine Jn ?_;refine Jc ?_
  refine RW.splitD 5 rfl (fun h => ?_) (fun h => ?_)
  · refine Jy ?_;refine Jc ?_;refine Jy ?_;refine Jl ?_;refine Jv ?_;refine Jd ?_;refine Jb ?_
    refine CW.ret1 rfl Tryz.results189 rfl rfl fun w hw => ⟨?_, hw.kp⟩
    rw [decide_eq_true h, Bool.true_and]
  · refine Jz ?_;refine Jz ?_;refine Jw ?_;refine Jd ?_;refine Jb ?_
    refine CW.ret1 rfl Tryz.results189 rfl rfl fun w hw => ⟨?_, hw.kp⟩
    rw [decide_eq_false h, Bool.false_and]
end Go.Proofs.YtkfmlekomfnleaaGreat
/- calendar.Parts, as far as a resolver asks of it: is it a day? Conditions: none. -/
set_option linter.unusedVariables false
set_option linter.unusedSimpArgs false
set_option maxRecDepth 10000
namespace Go.Proofs.YtkfmlekomfnleaaGreat
open Go Go.RowKit

section
variable {P : Program} {E : Env} {ops : Array Oper} {Q : Pst} {rest : List Oper} {G : List (Nat × Value)} {H : List HP}
variable {dst : Nat} {ty t ty' : TypeId} {pos : String} {af : Array Edge} {x y : Operand} {a b : Int} {k : IntKind}
theorem RW.addX (hx : ev G x = some (.int k a)) (hy : ev G y = some (.int k b)) (hN : Nat.blt dst E.N = true) (kk : ∀ c, RW P E ops Q rest ((dst, .int k c) :: G) H) :
    RW P E ops Q (⟨some dst, .binOp .add t x y ty', ty, pos, af, none⟩ :: rest) G H := RW.add hx hy rfl hN (kk _)
theorem RW.subX (hx : ev G x = some (.int k a)) (hy : ev G y = some (.int k b)) (hN : Nat.blt dst E.N = true) (kk : ∀ c, RW P E ops Q rest ((dst, .int k c) :: G) H) :
    RW P E ops Q (⟨some dst, .binOp .sub t x y ty', ty, pos, af, none⟩ :: rest) G H := RW.sub hx hy rfl hN (kk _)
theorem RW.mulX (hx : ev G x = some (.int k a)) (hy : ev G y = some (.int k b)) (hN : Nat.blt dst E.N = true) (kk : ∀ c, RW P E ops Q rest ((dst, .int k c) :: G) H) :
    RW P E ops Q (⟨some dst, .binOp .mul t x y ty', ty, pos, af, none⟩ :: rest) G H := RW.mul hx hy rfl hN (kk _)
theorem RW.quoX (hx : ev G x = some (.int k a)) (hy : ev G y = some (.int k b)) (hb : (b == 0) = false) (hN : Nat.blt dst E.N = true) (kk : ∀ c, RW P E ops Q rest ((dst, .int k c) :: G) H) :
    RW P E ops Q (⟨some dst, .binOp .quo t x y ty', ty, pos, af, none⟩ :: rest) G H :=
  RW.val (v := .int k (k.wrap (a.tdiv b))) hN (fun f w hf _ => by
    have hb' : ¬ b = 0 := by simpa using hb
    simp [execOp, hf.eval hx, hf.eval hy, run_eqGuard_int, binOp, Op.intArith, Op.intDiv, hb', Result.andThen]) (kk _)
end
attribute [local irreducible] RW CW
def dayD (d : Int) : Bool := decide (1 ≤ d) && decide (d ≤ 3652059)
theorem calDay_ret {d : Int} {w : World} : Ret Tryz.prog 198 [.int .i64 d] w (.bool (dayD d)) := by
  unfold dayD
  refine Calls.enter Tryz.func198 rfl _ rfl rfl (S := No) (H := []) trivial ?_
  refine Ja ?_;refine Jd ?_;refine Jb ?_;refine Ja ?_;refine Jc ?_;refine Jn ?_;refine Jc ?_
  refine RW.splitD 5 rfl (fun h => ?_) (fun h => ?_)
  · refine Jy ?_;refine Jc ?_;refine Jy ?_;refine Jl ?_;refine Jv ?_;refine Jd ?_;refine Jb ?_
    refine CW.ret1 rfl Tryz.results198 rfl rfl fun w hw => ⟨?_, hw.kp⟩
    rw [decide_eq_true h, Bool.true_and]
  · refine Jz ?_;refine Jz ?_;refine Jw ?_;refine Jd ?_;refine Jb ?_
    refine CW.ret1 rfl Tryz.results198 rfl rfl fun w hw => ⟨?_, hw.kp⟩
    rw [decide_eq_false h, Bool.false_and]
set_option maxHeartbeats 4000000 in
theorem parts_ret {d : Int} {w : World} : RetC Tryz.prog 199 [.int .i64 d] w No (fun q : Int × Int × Int => .agg #[.int .i64 q.1, .int .i64 q.2.1, .int .i64 q.2.2]) (fun _ => []) := by
  refine Calls.enter Tryz.func199 rfl _ rfl rfl (S := No) (H := []) trivial ?_
  refine CW.seqR ?_
  refine RW.alloc (c := [.int .i64 0, .int .i64 0, .int .i64 0]) rfl rfl fun b2 _ => ?_
  refine RW.next ?_
  repeat (first | refine Ja ?_ | refine RW.addX rfl rfl rfl fun _ => ?_ | refine RW.subX rfl rfl rfl fun _ => ?_ | refine RW.mulX rfl rfl rfl fun _ => ?_ | refine RW.quoX rfl rfl rfl rfl fun _ => ?_ | refine RW.move rfl rfl ?_ | refine RW.assign rfl rfl ?_ | refine RW.next ?_)
  rename_i c43 c44 c46 c49 c50 c51 c52 c53
  refine RW.build (v := .agg #[.int .i64 c44, .int .i64 c46, .int .i64 c53]) rfl (fun w => by kernel_rfl) rfl ?_
  refine RW.alloc (c := [.int .i64 0, .int .i64 0, .int .i64 0]) rfl rfl fun b7 _ => ?_
  refine RW.store_whole [] rfl rfl (vs := [.int .i64 c44, .int .i64 c46, .int .i64 c53]) rfl rfl rfl (by simp [Value.oneCell']) ?_
  refine RW.next ?_
  refine CW.cut (fun _ : Int × Int × Int => [(7, .pointer (some ⟨b7, 0, none⟩)), (2, .pointer (some ⟨b2, 0, none⟩))]) (fun q => [blk b7 [.int .i64 q.1, .int .i64 q.2.1, .int .i64 q.2.2] 295, blk b2 [.int .i64 0, .int .i64 0, .int .i64 0] 295]) ?_ fun q => ?_
  · refine Ja ?_;refine Je ?_;refine JA ?_;refine Jm ?_;refine Jb ?_
    refine CW.ite rfl (fun h => ?_) (fun h => ?_)
    · refine CW.region ?_
      refine Je ?_;refine JA ?_
      refine RW.addX rfl rfl rfl fun c60 => ?_
      refine Je ?_;refine JA ?_
      refine RW.subX rfl rfl rfl fun c63 => ?_
      refine Je ?_
      refine RW.store_blk [] rfl rfl rfl rfl rfl (by show 0 < _; simp) ?_
      refine Je ?_
      refine RW.store_blk [] rfl rfl rfl rfl rfl (by show 1 < _; simp) ?_
      refine RW.nil ?_
      exact PW.meet (c60, c63, c53) ⟨rfl, rfl, trivial⟩ (fun h => h)
    · refine CW.skip ?_
      exact PW.meet (c44, c46, c53) ⟨rfl, rfl, trivial⟩ (fun h => h)
  · refine Ja ?_;refine JE ?_
    refine RW.store_whole [_] rfl rfl (vs := [.int .i64 q.1, .int .i64 q.2.1, .int .i64 q.2.2]) rfl rfl rfl (by simp [Value.oneCell']) ?_
    refine Jb ?_
    exact CW.rets (rs := [.cell 2 295]) (vs := [_]) rfl Tryz.results199 rfl (ResOK.cell [_] rfl rfl rfl ResOK.nil) fun w hw => ⟨q, rfl, hw.kp, trivial⟩
theorem Parts_ret {d : Int} {w : World} : RetC Tryz.prog 188 [.int .i64 d] w No (fun q : Int × Int × Int => .tuple #[.int .i64 q.1, .int .i64 q.2.1, .int .i64 q.2.2, .int .i64 (if dayD d = true then 0 else 31)]) (fun _ => []) := by
  refine Calls.enter Tryz.func188 rfl _ rfl rfl (S := No) (H := []) trivial ?_
  refine Ja ?_;refine Jd ?_;refine Jd ?_;refine Jd ?_;refine Jd ?_;refine Jb ?_
  refine CW.seq ?_
  refine Ja ?_;refine Jc ?_
  refine RW.call Tryz.call198 rfl (fun w hw => calDay_ret) rfl ?_
  refine Js ?_;refine Jb ?_
  refine CW.cond rfl (fun h => ?_) (fun h => ?_)
  · rw [if_neg (by simpa using h)]
    refine Ja ?_;refine Jd ?_;refine Jd ?_;refine Jd ?_;refine Jd ?_;refine Jb ?_
    exact CW.rets (rs := [.tmp 2, .tmp 3, .tmp 4, .tmp 5]) (vs := [_, _, _, _]) rfl Tryz.results188 rfl (ResOK.tmp rfl (ResOK.tmp rfl (ResOK.tmp rfl (ResOK.tmp rfl ResOK.nil)))) fun w hw => ⟨(0, 0, 0), rfl, hw⟩
  · rw [if_pos (by simpa using h)]
    refine JM ?_;refine Ja ?_;refine Jc ?_
    refine RW.callN Tryz.call199 rfl (fun w hw => parts_ret) rfl fun q => ?_
    refine RW.alloc (c := [.int .i64 0, .int .i64 0, .int .i64 0]) rfl rfl fun b6 _ => ?_
    refine RW.store_whole [] rfl rfl (vs := [.int .i64 q.1, .int .i64 q.2.1, .int .i64 q.2.2]) rfl rfl rfl (by simp [Value.oneCell']) ?_
    refine Jb ?_
    refine CW.keep [(6, .pointer (some ⟨b6, 0, none⟩))] ⟨rfl, trivial⟩ ?_
    refine CW.seqA (by kernel_rfl) rfl ?_
    refine AW.val rfl (fun _ _ => by refine Je ?_;exact RW.done rfl) ?_;refine AW.val rfl (fun _ _ => by refine JA ?_;exact RW.done rfl) ?_;refine AW.val rfl (fun _ _ => by refine Je ?_;exact RW.done rfl) ?_;refine AW.val rfl (fun _ _ => by refine JA ?_;exact RW.done rfl) ?_;refine AW.val rfl (fun _ _ => by refine Je ?_;exact RW.done rfl) ?_;refine AW.val rfl (fun _ _ => by refine JA ?_;exact RW.done rfl) ?_;refine AW.val rfl (fun _ _ => by refine Jd ?_;exact RW.done rfl) ?_;refine AW.val rfl (fun _ _ => by refine Jd ?_;exact RW.done rfl) ?_;refine AW.val rfl (fun _ _ => by refine Jd ?_;exact RW.done rfl) ?_;refine AW.val rfl (fun _ _ => by refine Jd ?_;exact RW.done rfl) ?_
    refine AW.stop (by kernel_rfl) (by kernel_rfl) fun bs => ?_
    refine Jb ?_
    exact CW.rets (rs := [.tmp 2, .tmp 3, .tmp 4, .tmp 5]) (vs := [_, _, _, _]) rfl Tryz.results188 rfl (ResOK.tmp rfl (ResOK.tmp rfl (ResOK.tmp rfl (ResOK.tmp rfl ResOK.nil)))) fun w hw => ⟨q, rfl, hw.kp, trivial⟩
theorem isDay_ret {d : Int} {w : World} : Ret Tryz.prog 168 [.int .i64 d] w (.bool (dayD d)) := by
  refine Calls.enter Tryz.func168 rfl _ rfl rfl (S := No) (H := []) trivial ?_
  refine Ja ?_;refine Jd ?_;refine Jb ?_;refine Ja ?_;refine Jc ?_
  refine RW.callN Tryz.call188 rfl (fun w hw => Parts_ret) rfl fun q => ?_
  refine Jc ?_;refine Jt ?_;refine Jt ?_;refine Jt ?_;refine Jt ?_;refine Jd ?_;refine Jd ?_;refine Jd ?_;refine Jd ?_;refine Jb ?_;refine Ja ?_;refine Jc ?_;refine Ji ?_;refine Jd ?_;refine Jb ?_
  refine CW.ret1 rfl Tryz.results168 rfl rfl fun w hw => ⟨?_, hw.kp⟩
  cases h : dayD d <;> rfl
end Go.Proofs.YtkfmlekomfnleaaGreat
/- The resolver's guard, premise, rule. Conditions: none. -/
set_option linter.unusedVariables false
set_option linter.unusedSimpArgs false
set_option maxRecDepth 10000
namespace Go.Proofs.YtkfmlekomfnleaaGreat
open Go Go.RowKit

attribute [local irreducible] RW CW
theorem Rd.guardT {M : Mem} {cs : List Value} {g : kGuard.V} (h : Rd kGuard M cs g) : ∃ A c B d, cs = [.slice A g.1.length c, .int .i64 g.2.1, .slice B g.2.2.length d] ∧ Rd kTerms M [.slice A g.1.length c] g.1 ∧ Rd kTerms M [.slice B g.2.2.length d] g.2.2 := by
  obtain ⟨c1, c2, rfl, h1, c3, c4, rfl, h3, h5⟩ := h
  obtain ⟨A, c, rfl⟩ := sl_cell h1
  obtain rfl := int_cell h3
  obtain ⟨B, d, rfl⟩ := sl_cell h5
  exact ⟨A, c, B, d, rfl, h1, h5⟩
theorem Rd.premT {M : Mem} {cs : List Value} {p : kPrem.V} (h : Rd kPrem M cs p) : ∃ A c A1 c1 A2 c2, cs = [.int .i64 p.1, .bool p.2.1.1, .string p.2.1.2.1, .slice A p.2.1.2.2.1.length c, .bool p.2.1.2.2.2.1, .int .i64 p.2.1.2.2.2.2, .slice A1 p.2.2.1.1.length c1, .int .i64 p.2.2.1.2.1, .slice A2 p.2.2.1.2.2.length c2, .string p.2.2.2.1, .string p.2.2.2.2] ∧
    Rd kLitT M [.bool p.2.1.1, .string p.2.1.2.1, .slice A p.2.1.2.2.1.length c, .bool p.2.1.2.2.2.1, .int .i64 p.2.1.2.2.2.2] p.2.1 ∧ Rd kGuard M [.slice A1 p.2.2.1.1.length c1, .int .i64 p.2.2.1.2.1, .slice A2 p.2.2.1.2.2.length c2] p.2.2.1 := by
  obtain ⟨x1, x2, rfl, h1, x3, x4, rfl, h3, x5, x6, rfl, h5, x7, x8, rfl, h7, h8⟩ := h
  have h3' := h3
  have h5' := h5
  obtain rfl := int_cell h1
  obtain ⟨A, c, rfl, _⟩ := Rd.litT h3
  obtain ⟨A1, c1, A2, c2, rfl, _⟩ := Rd.guardT h5
  obtain rfl := str_cell h7
  obtain rfl := str_cell h8
  exact ⟨A, c, A1, c1, A2, c2, rfl, h3', h5'⟩
def guardD (s : kStat.V) (at_ : Int) (fr : Bool) (x : Sc) (g : kGuard.V) : Ex Sc :=
  bnd (wantD (decide (1 ≤ g.2.1) && decide (g.2.1 ≤ 6) && sideD (g.1.length : Int) && sideD (g.2.2.length : Int)) 101 at_) fun _ =>
  bnd (foldX (fun x l => foldX (termD s at_ fr) x l) x [g.1, g.2.2]) .ok
theorem guardD_len {s : kStat.V} {at_ : Int} {fr : Bool} {x x' : Sc} {g : kGuard.V} (hK : fourK s) (h : guardD s at_ fr x g = .ok x') : x'.names.length ≤ x.names.length + 64 := by
  obtain ⟨_, h1, h⟩ := bnd_inv h
  obtain ⟨_, h2, h⟩ := bnd_inv h
  cases h
  have hs : ((decide (1 ≤ g.2.1) && decide (g.2.1 ≤ 6) && sideD (g.1.length : Int) && sideD (g.2.2.length : Int))) = true := by
    unfold wantD at h1
    split at h1
    · assumption
    · cases h1
  simp only [Bool.and_eq_true, sideD, decide_eq_true_eq] at hs
  obtain ⟨x1, h3, h4⟩ := bnd_inv h2
  obtain ⟨x2, h5, h6⟩ := bnd_inv h4
  cases h6
  have h7 := foldX_len (n := fun x => x.names.length) (d := 4) (fun _ _ _ h => termD_len hK h) h3
  have h8 := foldX_len (n := fun x => x.names.length) (d := 4) (fun _ _ _ h => termD_len hK h) h5
  omega
set_option maxHeartbeats 8000000 in
theorem guard_ret {br bc bm : Nat} {s : kStat.V} {at_ : Int} {x : RC} {fr : Bool} {y : Sc} {v : Value} {cs : List Value} {g : kGuard.V} {w : World} {F : Nat → Prop} (hR : RS w (fun b => ¬ F b) br s at_ x) (hl : Rd kGuard (mem w (fun b => ¬ F b)) cs g) (hK : fourK s)
    (hH : Sep (scH bc bm fr y v) w F) (hbd : y.names.length + 64 ≤ 1000000) :
    RetE Tryz.prog 172 [.pointer (some ⟨br, 0, none⟩), .pointer (some ⟨bc, 0, none⟩), .agg cs.toArray] w F (guardD s at_ fr y g) (fun _ _ => .tuple #[]) (fun y' (v' : Value) => scH bc bm fr y' v') := by
  generalize hS : guardD s at_ fr y g = SP
  have hS := hS.symm
  unfold guardD at hS
  obtain ⟨GA, gc, GB, gd, rfl, hga, hgb⟩ := Rd.guardT hl
  have hle : Mem.le (mem w (fun b => ¬ F b)) (mem w (fun b => ¬ F b)) := Mem.le_refl _
  refine Calls.enter Tryz.func172 rfl _ rfl rfl (S := F) (H := scH bc bm fr y v) hH ?_
  refine CW.seqR ?_
  refine RW.box_agg rfl rfl fun b5 _ => ?_
  refine Jb ?_;refine Ja ?_;refine Jd ?_;refine Jb ?_;refine Ja ?_;refine Jc ?_;refine Je ?_;refine JA ?_;refine Jn ?_;refine Jc ?_
  refine RW.splitD 15 rfl (fun h1 => ?_) (fun h1 => ?_)
  rotate_left
  · refine Jz ?_;refine Jz ?_;refine Jz ?_;refine Jw ?_;refine Jc ?_;refine Jz ?_;refine Jz ?_;refine Jz ?_;refine Jz ?_;refine Jz ?_;refine Jw ?_;refine Jc ?_;refine Jz ?_;refine Jz ?_;refine Jz ?_;refine Jz ?_;refine Jz ?_;refine Jw ?_
    refine RW.splitD 20 (p := False) rfl (fun h5 => h5.elim) (fun h5 => ?_)
    skip
    refine RW.splitD 27 (p := False) rfl (fun h5 => h5.elim) (fun h5 => ?_)
    skip
    refine RW.want hS rfl ((by rw [decide_eq_false h1, Bool.false_and, Bool.false_and, Bool.false_and])) (fun w hw => RS.at_cell hR hw) rfl rfl rfl fun hb _ => absurd hb (by decide)
  refine Jy ?_;refine Je ?_;refine Jy ?_;refine JA ?_;refine Jy ?_;refine Jl ?_;refine Jv ?_;refine Jc ?_
  refine RW.splitD 20 rfl (fun h2 => ?_) (fun h2 => ?_)
  rotate_left
  · refine Jz ?_;refine Jz ?_;refine Jz ?_;refine Jz ?_;refine Jz ?_;refine Jw ?_;refine Jc ?_;refine Jz ?_;refine Jz ?_;refine Jz ?_;refine Jz ?_;refine Jz ?_;refine Jw ?_
    refine RW.splitD 27 (p := False) rfl (fun h5 => h5.elim) (fun h5 => ?_)
    skip
    refine RW.want hS rfl ((by rw [decide_eq_false h2, Bool.and_false, Bool.false_and, Bool.false_and])) (fun w hw => RS.at_cell hR hw) rfl rfl rfl fun hb _ => absurd hb (by decide)
  refine Jy ?_;refine Jc ?_;refine Jy ?_;refine Je ?_;refine Jy ?_;refine JA ?_;refine Jy ?_;refine Jg ?_;refine Jy ?_
  refine RW.callv Tryz.call189 rfl rfl (fun w hw => side_ret) rfl ?_
  refine Jv ?_;refine Jc ?_
  refine RW.split 27 rfl (fun h3 => ?_) (fun h3 => ?_)
  rotate_left
  · refine Jz ?_;refine Jz ?_;refine Jz ?_;refine Jz ?_;refine Jz ?_;refine Jw ?_
    refine RW.want hS rfl ((by rw [h3, Bool.and_false, Bool.false_and])) (fun w hw => RS.at_cell hR hw) rfl rfl rfl fun hb _ => absurd hb (by decide)
  refine Jy ?_;refine Jc ?_;refine Jy ?_;refine Je ?_;refine Jy ?_;refine JA ?_;refine Jy ?_;refine Jg ?_;refine Jy ?_
  refine RW.callv Tryz.call189 rfl rfl (fun w hw => side_ret) rfl ?_
  refine Jv ?_
  refine RW.want hS rfl ((by rw [decide_eq_true h1, decide_eq_true h2, h3]; rfl)) (fun w hw => RS.at_cell hR hw) rfl rfl rfl fun hb hS => ?_
  have hlen1 : g.1.length ≤ 8 := by simp only [sideD, Bool.and_eq_true, decide_eq_true_eq] at h3; omega
  have hlen2 : g.2.2.length ≤ 8 := by simp only [sideD, Bool.and_eq_true, decide_eq_true_eq] at hb; omega
  refine Jb ?_;refine Ja ?_;refine Je ?_;refine JA ?_;refine Je ?_;refine JA ?_
  refine RW.buildSlice (e := 140) (c := [.slice GA g.1.length gc, .slice GB g.2.2.length gd]) rfl (fun w => by kernel_rfl) rfl fun b39 _ => ?_
  refine Jg ?_;refine Jc ?_;refine Jb ?_
  refine CW.block ?_
  refine CW.loop (ι := { q : Nat × Sc × Value // q.1 ≤ 2 ∧ q.2.1.names.length ≤ y.names.length + 32 * q.1 ∧ SP = bnd (foldX (fun x l => foldX (termD s at_ fr) x l) q.2.1 ([g.1, g.2.2].drop q.1)) _ }) (fun q => [(0, .pointer (some ⟨br, 0, none⟩)), (1, .pointer (some ⟨bc, 0, none⟩)), (39, .slice (some ⟨b39, 0, none⟩) 2 2), (40, .int .i64 2), (41, .int .i64 q.1.1)])
    (fun q => blk b39 [.slice GA g.1.length gc, .slice GB g.2.2.length gd] 140 :: scH bc bm fr q.1.2.1 q.1.2.2) (fun q => 2 - q.1.1) ⟨(0, y, v), by omega, by show y.names.length ≤ _; omega, hS⟩ ⟨rfl, rfl, rfl, rfl, rfl, trivial⟩ (fun h => h.sub (List.Sublist.cons_cons _ (List.Sublist.cons _ (List.Sublist.refl _)))) ?_
  intro ⟨⟨k, z, u⟩, hk, hn, hS⟩
  dsimp only at hS hk hn ⊢
  refine Ja ?_;refine Jk ?_;refine Jb ?_
  refine CW.seq ?_
  refine CW.ite rfl (fun hlt => ?_) (fun hge => ?_)
  · have hlt' : k < 2 := by omega
    have hcell : ∃ A c, [Value.slice GA g.1.length gc, .slice GB g.2.2.length gd][k]? = some (.slice A ([g.1, g.2.2][k]'hlt').length c) ∧ Rd kTerms (mem w (fun b => ¬ F b)) [.slice A ([g.1, g.2.2][k]'hlt').length c] ([g.1, g.2.2][k]'hlt') ∧ ([g.1, g.2.2][k]'hlt').length ≤ 8 := by
      match k, hlt' with
      | 0, _ => exact ⟨GA, gc, rfl, hga, hlen1⟩
      | 1, _ => exact ⟨GB, gd, rfl, hgb, hlen2⟩
    rw [foldX_step (show k < [g.1, g.2.2].length from hlt')] at hS
    obtain ⟨TA, tc, hc1, hc2, hc3⟩ := hcell
    generalize hts : [g.1, g.2.2][k] = ts at *
    refine JM ?_
    refine CW.seq ?_
    refine CW.block ?_
    refine Ja ?_
    refine RW.indexAddr rfl rfl (by omega) hlt rfl ?_
    refine RW.load_blk [] (c := [.slice GA g.1.length gc, .slice GB g.2.2.length gd]) rfl (by simpa using hc1) rfl rfl ?_
    refine Jd ?_;refine Jb ?_;refine Ja ?_;refine Jc ?_;refine Jg ?_;refine Jc ?_;refine Jb ?_
    refine CW.block ?_
    refine CW.loop (ι := { q : Nat × Sc × Value // q.1 ≤ ts.length ∧ q.2.1.names.length ≤ z.names.length + 4 * q.1 ∧ SP = bnd (foldX (termD s at_ fr) q.2.1 (ts.drop q.1)) _ }) (fun q => [(0, .pointer (some ⟨br, 0, none⟩)), (1, .pointer (some ⟨bc, 0, none⟩)), (39, .slice (some ⟨b39, 0, none⟩) 2 2), (40, .int .i64 2), (41, .int .i64 k), (45, .slice TA ts.length tc), (46, .int .i64 ts.length), (47, .int .i64 q.1.1)])
      (fun q => blk b39 [.slice GA g.1.length gc, .slice GB g.2.2.length gd] 140 :: scH bc bm fr q.1.2.1 q.1.2.2) (fun q => ts.length - q.1.1) ⟨(0, z, u), by omega, by show z.names.length ≤ _; omega, hS⟩ ⟨rfl, rfl, rfl, rfl, rfl, rfl, rfl, rfl, trivial⟩ (fun h => h) ?_
    intro ⟨⟨j, z2, u2⟩, hj, hn2, hS⟩
    dsimp only at hS hj hn2 ⊢
    refine Ja ?_;refine Jk ?_;refine Jb ?_
    refine CW.seq ?_
    refine CW.ite rfl (fun hlt => ?_) (fun hge => ?_)
    · have hlt' : j < ts.length := by simpa using hlt
      rw [foldX_step hlt'] at hS
      obtain ⟨B1, O1, es1, hA, hl1, hr, hm⟩ := sl_get hc2 (List.getElem?_eq_getElem hlt')
      have hr' := hr
      obtain ⟨QA, qc, rfl, hq⟩ := Rd.termT hr
      refine JM ?_
      refine CW.seq ?_
      refine CW.block ?_
      refine Ja ?_
      refine RW.indexAddrE hA rfl rfl (by omega) hlt rfl ?_
      refine RW.load_ros rfl hle hm rfl rfl (Nat.zero_lt_succ _) rfl ?_
      refine RW.alloc (c := [.int .i64 0, .string ByteArray.empty, .slice none 0 0, .int .i64 0]) rfl rfl fun b10 _ => ?_
      refine RW.store_whole [] rfl rfl rfl rfl rfl (by simp [Value.oneCell']) ?_
      refine RW.next ?_
      refine CW.region ?_
      refine Jc ?_;refine Jc ?_;refine JE ?_
      refine RW.take [2, 3, 4, 1] ?_
      refine RW.callE (r := [_]) (scH bc bm fr z2 u2) hS Tryz.call190 rfl (fun w2 F2 hw2 hF2 h1 _ => term_ret (RS.callF hR hw2 hF2) (hr'.mono (ro_callF hw2 hF2)) hK h1 (by omega)) rfl rfl rfl fun z' u' hz hS => ?_
      have hn' := termD_len hK hz
      refine RW.nil ?_
      refine PW.code ?_
      refine CW.region ?_
      refine RW.add rfl rfl (w64 (by omega) (by omega)) rfl ?_
      refine Jc ?_
      refine RW.nil ?_
      exact PW.againT ⟨(j + 1, z', u'), hlt', by show z'.names.length ≤ _; omega, hS⟩ [3, 0, 1, 2] ⟨rfl, rfl, rfl, rfl, rfl, rfl, rfl, rfl, trivial⟩ rfl (by show ts.length - (j + 1) < ts.length - j; omega)
    · have hge' : ts.length ≤ j := by simpa using hge
      rw [foldX_end hge'] at hS
      refine CW.exit rfl ?_
      refine PW.code ?_
      refine CW.region ?_
      refine RW.add rfl rfl (w64 (by omega) (by omega)) rfl ?_
      refine Jc ?_
      refine RW.nil ?_
      exact PW.again ⟨(k + 1, z2, u2), hlt', by show z2.names.length ≤ _; omega, hS⟩ ⟨rfl, rfl, rfl, rfl, rfl, trivial⟩ (fun h => h) (by show 2 - (k + 1) < 2 - k; omega)
  · rw [foldX_end (by show 2 ≤ k; omega)] at hS
    refine CW.exit rfl ?_
    exact PW.ret (rs := []) (vs := []) Tryz.results172 rfl ResOK.nil fun w hw => XP.ok (V := fun _ _ => .tuple #[]) u hS (hw.sub (List.Sublist.cons _ (List.Sublist.refl _)))
end Go.Proofs.YtkfmlekomfnleaaGreat
/- The resolver's premise, rule. Conditions: none. -/
set_option linter.unusedVariables false
set_option linter.unusedSimpArgs false
set_option maxRecDepth 10000
namespace Go.Proofs.YtkfmlekomfnleaaGreat
open Go Go.RowKit

attribute [local irreducible] RW CW
def premiseD (s : kStat.V) (at_ : Int) (fr : Bool) (x : Sc) (p : kPrem.V) : Ex Sc :=
  if p.1 = 1 then bnd (literalD s at_ fr x p.2.1) .ok
  else if p.1 = 2 then bnd (guardD s at_ fr x p.2.2.1) .ok
  else if p.1 = 3 then bnd (unlikeD s at_ x p.2.2.2.1) fun x' => bnd (unlikeD s at_ x' p.2.2.2.2) .ok
  else bnd (wantD false 1 at_) fun _ => .ok x
theorem premiseD_len {s : kStat.V} {at_ : Int} {fr : Bool} {x x' : Sc} {p : kPrem.V} (hK : fourK s) (h : premiseD s at_ fr x p = .ok x') : x'.names.length ≤ x.names.length + 64 := by
  unfold premiseD at h
  split at h
  · obtain ⟨_, h1, h⟩ := bnd_inv h
    cases h
    have := literalD_len hK h1
    omega
  · split at h
    · obtain ⟨_, h1, h⟩ := bnd_inv h
      cases h
      exact guardD_len hK h1
    · split at h
      · obtain ⟨_, h1, h⟩ := bnd_inv h
        obtain ⟨_, h2, h⟩ := bnd_inv h
        cases h
        have := unlikeD_len h1
        have := unlikeD_len h2
        omega
      · obtain ⟨_, h1, h⟩ := bnd_inv h
        cases h1
set_option maxHeartbeats 4000000 in
theorem premise_ret {br bc bm : Nat} {s : kStat.V} {at_ : Int} {x : RC} {fr : Bool} {y : Sc} {v : Value} {cs : List Value} {p : kPrem.V} {w : World} {F : Nat → Prop} (hR : RS w (fun b => ¬ F b) br s at_ x) (hl : Rd kPrem (mem w (fun b => ¬ F b)) cs p) (hK : fourK s)
    (hH : Sep (scH bc bm fr y v) w F) (hbd : y.names.length + 64 ≤ 1000000) :
    RetE Tryz.prog 126 [.pointer (some ⟨br, 0, none⟩), .pointer (some ⟨bc, 0, none⟩), .agg cs.toArray] w F (premiseD s at_ fr y p) (fun _ _ => .tuple #[]) (fun y' (v' : Value) => scH bc bm fr y' v') := by
  generalize hS : premiseD s at_ fr y p = SP
  have hS := hS.symm
  unfold premiseD at hS
  obtain ⟨A, c, A1, c1, A2, c2, rfl, hlit, hgu⟩ := Rd.premT hl
  have fin : ∀ {y' : Sc} {u : Value} {c0 : List Value}, SP = .ok y' → PW (⟨Tryz.f126.ntmps, [], w, F⟩ : Env) (RetP Tryz.prog Tryz.f126 (XP w F SP (fun _ _ => .tuple #[]) (fun y' (v' : Value) => scH bc bm fr y' v'))) [] (scH bc bm fr y' u) := fun {y' u c0} hS =>
    PW.ret (rs := []) (vs := []) Tryz.results126 rfl ResOK.nil fun w hw => XP.ok (V := fun _ _ => .tuple #[]) u hS hw
  refine Calls.enter Tryz.func126 rfl _ rfl rfl (S := F) (H := scH bc bm fr y v) hH ?_
  refine CW.seqR ?_
  refine RW.box_agg rfl rfl fun b5 _ => ?_
  refine Jb ?_;refine Ja ?_;refine Je ?_;refine JA ?_;refine Jb ?_
  refine CW.block ?_
  refine Ja ?_;refine Ji ?_;refine Jd ?_;refine Jb ?_
  refine CW.ite rfl (fun h1 => ?_) (fun h1 => ?_)
  · rw [if_pos h1] at hS
    refine CW.region ?_
    refine Jc ?_;refine Jc ?_;refine Je ?_
    refine RW.load_part5 [] rfl rfl rfl rfl ?_
    refine RW.take [1, 2, 3, 0] ?_
    refine RW.callE (r := [_]) (scH bc bm fr y v) hS Tryz.call54 rfl (fun w2 F2 hw2 hF2 h1 _ => literal_ret (RS.callF hR hw2 hF2) (hlit.mono (ro_callF hw2 hF2)) hK h1 (by omega)) rfl rfl rfl fun z u hz hS => ?_
    exact RW.nil (PW.ret (rs := []) (vs := []) Tryz.results126 rfl ResOK.nil fun w hw => XP.ok (V := fun _ _ => .tuple #[]) u hS (hw.sub (List.sublist_append_left _ _)))
  rw [if_neg h1] at hS
  refine Ja ?_;refine Ji ?_;refine Jd ?_;refine Jb ?_
  refine CW.ite rfl (fun h2 => ?_) (fun h2 => ?_)
  · rw [if_pos h2] at hS
    refine CW.region ?_
    refine Jc ?_;refine Jc ?_;refine Je ?_;refine JI ?_
    refine RW.take [1, 2, 3, 0] ?_
    refine RW.callE (r := [_]) (scH bc bm fr y v) hS Tryz.call172 rfl (fun w2 F2 hw2 hF2 h1 _ => guard_ret (RS.callF hR hw2 hF2) (hgu.mono (ro_callF hw2 hF2)) hK h1 hbd) rfl rfl rfl fun z u hz hS => ?_
    exact RW.nil (PW.ret (rs := []) (vs := []) Tryz.results126 rfl ResOK.nil fun w hw => XP.ok (V := fun _ _ => .tuple #[]) u hS (hw.sub (List.sublist_append_left _ _)))
  rw [if_neg h2] at hS
  refine Ja ?_;refine Ji ?_;refine Jd ?_;refine Jb ?_
  refine CW.ite rfl (fun h3 => ?_) (fun h3 => ?_)
  · rw [if_pos h3] at hS
    refine Ja ?_;refine Jc ?_;refine Jc ?_;refine Je ?_;refine JA ?_
    refine RW.take [1, 2, 3, 0] ?_
    refine RW.callE (r := [_]) (scH bc bm fr y v) hS Tryz.call173 rfl (fun w2 F2 hw2 hF2 h1 _ => unlike_ret (RS.callF hR hw2 hF2) h1 (by omega)) rfl rfl rfl fun z u hz hS => ?_
    have hn := unlikeD_len hz
    refine Jb ?_
    refine CW.region ?_
    refine Jc ?_;refine Jc ?_;refine Je ?_;refine JD ?_
    refine RW.callE (r := [_]) (scH bc bm fr z u) hS Tryz.call173 rfl (fun w2 F2 hw2 hF2 h1 _ => unlike_ret (RS.callF hR hw2 hF2) h1 (by omega)) rfl rfl rfl fun z' u' hz' hS => ?_
    exact RW.nil (PW.ret (rs := []) (vs := []) Tryz.results126 rfl ResOK.nil fun w hw => XP.ok (V := fun _ _ => .tuple #[]) u' hS (hw.sub (List.sublist_append_left _ _)))
  rw [if_neg h3] at hS
  refine CW.region ?_
  refine Jc ?_
  refine RW.want hS rfl (rfl) (fun w hw => RS.at_cell hR hw) rfl rfl rfl fun hb _ => absurd hb (by decide)
def freeD (at_ : Int) (km : List (Str × Str)) (n : Str) : Ex Unit := bnd (wantD (decide (¬ (getM km n).getD ByteArray.empty = ByteArray.empty)) 86 at_) fun _ => .ok ()
def ruleD (s : kStat.V) (at_ : Int) (x : kRule.V) : Ex Sc :=
  bnd (foldX (premiseD s at_ false) ⟨[], []⟩ x.2.2.2.2.1) fun c =>
  bnd (literalD s at_ false c x.2.2.2.2.2.2) fun c =>
  bnd (allX (freeD at_ c.km) c.names) fun _ => .ok c
theorem Rd.ruleT {M : Mem} {cs : List Value} {p : kRule.V} (h : Rd kRule M cs p) : ∃ A c A1 c1, cs = [.string p.1, .string p.2.1, .int .i64 p.2.2.1, .int .i64 p.2.2.2.1, .slice A p.2.2.2.2.1.length c, .int .i64 p.2.2.2.2.2.1, .bool p.2.2.2.2.2.2.1, .string p.2.2.2.2.2.2.2.1, .slice A1 p.2.2.2.2.2.2.2.2.1.length c1, .bool p.2.2.2.2.2.2.2.2.2.1, .int .i64 p.2.2.2.2.2.2.2.2.2.2] ∧
    Rd kPrems M [.slice A p.2.2.2.2.1.length c] p.2.2.2.2.1 ∧ Rd kLitT M [.bool p.2.2.2.2.2.2.1, .string p.2.2.2.2.2.2.2.1, .slice A1 p.2.2.2.2.2.2.2.2.1.length c1, .bool p.2.2.2.2.2.2.2.2.2.1, .int .i64 p.2.2.2.2.2.2.2.2.2.2] p.2.2.2.2.2.2 := by
  obtain ⟨x1, x2, rfl, h1, x3, x4, rfl, h3, x5, x6, rfl, h5, x7, x8, rfl, h7, x9, x10, rfl, h9, x11, x12, rfl, h11, h12⟩ := h
  have h12' := h12
  obtain rfl := str_cell h1
  obtain rfl := str_cell h3
  obtain rfl := int_cell h5
  obtain rfl := int_cell h7
  obtain ⟨A, c, rfl⟩ := sl_cell h9
  obtain rfl := int_cell h11
  obtain ⟨A1, c1, rfl, _⟩ := Rd.litT h12
  exact ⟨A, c, A1, c1, rfl, h9, h12'⟩
set_option maxHeartbeats 8000000 in
theorem rule_ret {br : Nat} {s : kStat.V} {at_ : Int} {x : RC} {cs : List Value} {p : kRule.V} {w : World} (hR : RS w (fun b => ¬ No b) br s at_ x) (hl : Rd kRule (mem w (fun b => ¬ No b)) cs p) (hK : fourK s) (hB : p.2.2.2.2.1.length ≤ 16) :
    RetE Tryz.prog 40 [.pointer (some ⟨br, 0, none⟩), .agg cs.toArray] w No (ruleD s at_ p) (fun _ (q : Nat × Nat × Value) => .pointer (some ⟨q.1, 0, none⟩)) (fun y' q => scH q.1 q.2.1 false y' q.2.2) := by
  generalize hS : ruleD s at_ p = SP
  have hS := hS.symm
  unfold ruleD at hS
  obtain ⟨A, c, A1, c1, rfl, hbody, hhead⟩ := Rd.ruleT hl
  have hle : Mem.le (mem w (fun b => ¬ No b)) (mem w (fun b => ¬ No b)) := Mem.le_refl _
  refine Calls.enter Tryz.func40 rfl _ rfl rfl (S := No) (H := []) trivial ?_
  refine CW.seqR ?_
  refine RW.box_agg rfl rfl fun b3 _ => ?_
  refine Jd ?_;refine Jb ?_;refine Ja ?_
  refine RW.makeMap (κ := Str) (α := Str) strK strK .string (fun o ho => by cases ho) rfl fun bm => ?_
  refine RW.build (v := .agg #[.slice none 0 0, .map (some bm), .bool false]) rfl (fun w => by kernel_rfl) rfl ?_
  refine RW.box_agg (l := [.slice none 0 0, .map (some bm), .bool false]) rfl rfl fun bc _ => ?_
  refine RW.add_ (ownHP 9 1 (.slice none 0 0) []) (fun w _ => .inl ⟨rfl, rfl⟩) ?_
  refine Jd ?_;refine Jb ?_
  refine CW.take [3, 1, 0, 2] ?_
  refine CW.seq ?_
  refine Ja ?_;refine Je ?_;refine JA ?_;refine Jg ?_;refine Jc ?_;refine Jb ?_
  refine CW.block ?_
  refine CW.loop (ι := { q : Nat × Sc × Value // q.1 ≤ p.2.2.2.2.1.length ∧ q.2.1.names.length ≤ 64 * q.1 ∧ SP = bnd (foldX (premiseD s at_ false) q.2.1 (p.2.2.2.2.1.drop q.1)) _ }) (fun q => [(0, .pointer (some ⟨br, 0, none⟩)), (3, .pointer (some ⟨b3, 0, none⟩)), (5, .pointer (some ⟨bc, 0, none⟩)), (14, .slice A p.2.2.2.2.1.length c), (15, .int .i64 p.2.2.2.2.1.length), (16, .int .i64 q.1.1)])
    (fun q => blk b3 [.string p.1, .string p.2.1, .int .i64 p.2.2.1, .int .i64 p.2.2.2.1, .slice A p.2.2.2.2.1.length c, .int .i64 p.2.2.2.2.2.1, .bool p.2.2.2.2.2.2.1, .string p.2.2.2.2.2.2.2.1, .slice A1 p.2.2.2.2.2.2.2.2.1.length c1, .bool p.2.2.2.2.2.2.2.2.2.1, .int .i64 p.2.2.2.2.2.2.2.2.2.2] 120 :: scH bc bm false q.1.2.1 q.1.2.2) (fun q => p.2.2.2.2.1.length - q.1.1) ⟨(0, ⟨[], []⟩, .slice none 0 0), Nat.zero_le _, Nat.le_refl _, hS⟩ ⟨rfl, rfl, rfl, rfl, rfl, rfl, trivial⟩ (fun h => h) ?_
  intro ⟨⟨k, z, u⟩, hk, hn, hS⟩
  dsimp only at hS hk hn ⊢
  refine Ja ?_;refine Jk ?_;refine Jb ?_
  refine CW.seq ?_
  refine CW.ite rfl (fun hlt => ?_) (fun hge => ?_)
  · have hlt' : k < p.2.2.2.2.1.length := by simpa using hlt
    rw [foldX_step hlt'] at hS
    obtain ⟨B1, O1, es1, hA, hl1, hr, hm⟩ := sl_get hbody (List.getElem?_eq_getElem hlt')
    have hr' := hr
    obtain ⟨PA, pc, PA1, pc1, PA2, pc2, rfl, _⟩ := Rd.premT hr
    generalize hpr : p.2.2.2.2.1[k] = pr at *
    refine JM ?_
    refine CW.seq ?_
    refine CW.block ?_
    refine Ja ?_
    refine RW.indexAddrE hA rfl rfl (by omega) hlt rfl ?_
    refine RW.load_ros rfl hle hm rfl rfl (Nat.zero_lt_succ _) rfl ?_
    refine RW.alloc rfl rfl fun b7 _ => ?_
    refine RW.store_whole [] rfl rfl rfl rfl rfl (by simp [Value.oneCell']) ?_
    refine RW.next ?_
    refine CW.region ?_
    refine Jc ?_;refine Jc ?_;refine JE ?_
    refine RW.take [2, 3, 4, 1] ?_
    refine RW.callE (r := [_]) (scH bc bm false z u) hS Tryz.call126 rfl (fun w2 F2 hw2 hF2 h1 _ => premise_ret (RS.callF hR hw2 hF2) (hr'.mono (ro_callF hw2 hF2)) hK h1 (by omega)) rfl rfl rfl fun z' u' hz hS => ?_
    have hn' := premiseD_len hK hz
    refine RW.nil ?_
    refine PW.code ?_
    refine CW.region ?_
    refine RW.add rfl rfl (w64 (by omega) (by omega)) rfl ?_
    refine Jc ?_
    refine RW.nil ?_
    exact PW.againT ⟨(k + 1, z', u'), hlt', by show z'.names.length ≤ 64 * (k + 1); omega, hS⟩ [3, 0, 1, 2] ⟨rfl, rfl, rfl, rfl, rfl, rfl, trivial⟩ rfl (by show p.2.2.2.2.1.length - (k + 1) < p.2.2.2.2.1.length - k; omega)
  have hge' : p.2.2.2.2.1.length ≤ k := by simpa using hge
  rw [foldX_end hge'] at hS
  refine CW.exit rfl ?_
  refine PW.code ?_
  refine Ja ?_;refine Jc ?_;refine Jc ?_;refine Je ?_
  refine RW.load_part5 [] rfl rfl rfl rfl ?_
  refine RW.take [1, 2, 3, 0] ?_
  refine RW.callE (r := [_]) (scH bc bm false z u) hS Tryz.call54 rfl (fun w2 F2 hw2 hF2 h1 _ => literal_ret (RS.callF hR hw2 hF2) (hhead.mono (ro_callF hw2 hF2)) hK h1 (by omega)) rfl rfl rfl fun z' u' hz hS => ?_
  have hn' := literalD_len hK hz
  refine RW.have_ (φ := ∃ A c, u' = .slice A z'.names.length c ∧ (z'.names ≠ [] → ∃ B, A = some ⟨B, 0, none⟩)) (fun w hw => ?_) (fun ⟨NA, nc, hu, hNA⟩ => ?_)
  · rcases own_form (pre := [_]) hw with ⟨h1, h2⟩ | ⟨B, c, h1, _⟩
    · have : z'.names = [] := by simpa using h2
      exact ⟨none, 0, by rw [h1, this]; rfl, fun h => absurd this h⟩
    · rw [List.length_map] at h1
      exact ⟨_, c, h1, fun _ => ⟨B, rfl⟩⟩
  subst hu
  refine Jb ?_
  refine CW.seq ?_
  refine Ja ?_;refine Jc ?_;refine Jf ?_;refine Je ?_;refine JA ?_;refine Jg ?_;refine Jc ?_;refine Jb ?_
  refine CW.block ?_
  refine CW.loop (ι := { k : Nat // k ≤ z'.names.length ∧ SP = bnd (allX (freeD at_ z'.km) (z'.names.drop k)) _ }) (fun k => [(0, .pointer (some ⟨br, 0, none⟩)), (5, .pointer (some ⟨bc, 0, none⟩)), (33, .slice NA z'.names.length nc), (34, .int .i64 z'.names.length), (35, .int .i64 k.1)])
    (fun k => scH bc bm false z' (.slice NA z'.names.length nc)) (fun k => z'.names.length - k.1) ⟨0, Nat.zero_le _, hS⟩ ⟨rfl, rfl, rfl, rfl, rfl, trivial⟩ (fun h => h.sub (List.sublist_append_left _ _)) ?_
  intro ⟨j, hj, hS⟩
  dsimp only
  refine Ja ?_;refine Jk ?_;refine Jb ?_
  refine CW.seq ?_
  refine CW.ite rfl (fun hlt => ?_) (fun hge => ?_)
  · have hlt' : j < z'.names.length := by simpa using hlt
    rw [foldX_step hlt', freeD, bnd_assoc] at hS
    obtain ⟨NB, rfl⟩ := hNA (by intro h; rw [h] at hlt'; simp at hlt')
    refine JM ?_
    refine CW.seq ?_
    refine CW.block ?_
    refine Ja ?_
    refine RW.indexAddr rfl rfl (by omega) hlt rfl ?_
    refine RW.load_fact (v := .string z'.names[j]) rfl rfl rfl (fun w hw => ?_) ?_
    · have h1 := own_cells (pre := [_]) hw
      have h2 := flatten_at (sz := 1) (es := z'.names.map strE) (fun x hx => by obtain ⟨a, _, rfl⟩ := List.mem_map.1 hx; rfl) (i := j) (x := strE z'.names[j]) (by rw [List.getElem?_map, List.getElem?_eq_getElem hlt']; rfl) (j := 0) (v := .string z'.names[j]) rfl
      exact h1.at_ (j * 1 + 0) h2
    refine Jd ?_;refine Jb ?_
    refine CW.region ?_
    refine Jc ?_;refine Jc ?_;refine Jf ?_;refine Je ?_;refine JA ?_;refine Jc ?_
    refine RW.lookup [_, _] (a0 := ByteArray.empty) rfl rfl rfl rfl ?_
    refine Jp ?_
    refine RW.want hS rfl (rfl) (fun w hw => RS.at_cell hR hw) rfl rfl rfl fun hb hS => ?_
    refine RW.nil ?_
    refine PW.code ?_
    refine CW.region ?_
    refine RW.add rfl rfl (w64 (by omega) (by omega)) rfl ?_
    refine Jc ?_
    refine RW.nil ?_
    exact PW.again ⟨j + 1, hlt', hS⟩ ⟨rfl, rfl, rfl, rfl, rfl, trivial⟩ (fun h => h) (by show z'.names.length - (j + 1) < z'.names.length - j; omega)
  have hge' : z'.names.length ≤ j := by simpa using hge
  rw [foldX_end hge'] at hS
  refine CW.exit rfl ?_
  refine PW.code ?_
  refine Ja ?_;refine Jc ?_;refine Jd ?_;refine Jb ?_
  exact CW.ret rfl (PW.ret (rs := [.tmp 4]) (vs := [_]) Tryz.results40 rfl (ResOK.tmp rfl ResOK.nil) fun w hw => XP.ok (V := fun _ (q : Nat × Nat × Value) => .pointer (some ⟨q.1, 0, none⟩)) (c := fun y' q => scH q.1 q.2.1 false y' q.2.2) (bc, bm, .slice NA z'.names.length nc) hS hw)
end Go.Proofs.YtkfmlekomfnleaaGreat
/- The resolver's ruleItem, total. Conditions: none. -/
set_option linter.unusedVariables false
set_option linter.unusedSimpArgs false
set_option maxRecDepth 10000
namespace Go.Proofs.YtkfmlekomfnleaaGreat
open Go Go.RowKit

attribute [local irreducible] RW CW
def ruleItemD (s : kStat.V) (at_ : Int) (x : kRule.V) (i : Int) : Ex Unit :=
  bnd (freshD ((sRules s).map nameOf) at_ x.1 i) fun _ =>
  bnd (wantD (getM (indexD ((sSources s).map nameOf)) x.2.1).isSome 88 at_) fun _ =>
  bnd (wantD (dayD x.2.2.1 && (decide (x.2.2.2.1 = 0) || dayD x.2.2.2.1)) 31 at_) fun _ =>
  bnd (wantD (decide (x.2.2.2.1 = 0) || decide (x.2.2.1 < x.2.2.2.1)) 7 at_) fun _ =>
  bnd (wantD (decide (1 ≤ x.2.2.2.2.2.1) && decide (x.2.2.2.2.2.1 ≤ 3)) 1 at_) fun _ =>
  bnd (wantD (decide ((x.2.2.2.2.1.length : Int) ≤ 16)) 3 at_) fun _ =>
  bnd (ruleD s at_ x) fun _ => .ok ()
set_option maxHeartbeats 8000000 in
theorem ruleItem_ret {br : Nat} {s : kStat.V} {at_ i : Int} {x : RC} {w : World} {p : kRule.V} {cs : List Value} (hR : RS w (fun b => ¬ No b) br s at_ x) (h : Rd kRule (mem w (fun b => ¬ No b)) cs p) (hK : fourK s) :
    RetE0 Tryz.prog 115 [.pointer (some ⟨br, 0, none⟩), .agg cs.toArray, .int .i64 i] w (ruleItemD s at_ p i) (fun _ => .tuple #[]) := by
  generalize hS : ruleItemD s at_ p i = SP
  have hS := hS.symm
  unfold ruleItemD at hS
  have h' := h
  obtain ⟨A, c, A1, c1, rfl, hbody, hhead⟩ := Rd.ruleT h
  have hle : Mem.le (mem w (fun b => ¬ No b)) (mem w (fun b => ¬ No b)) := Mem.le_refl _
  refine Calls.enter Tryz.func115 rfl _ rfl rfl (S := No) (H := []) trivial ?_
  refine CW.seqR ?_
  refine RW.box_agg rfl rfl fun b4 _ => ?_
  refine RW.next ?_
  refine CW.seqA (by kernel_rfl) rfl ?_
  refine AW.val rfl (fun _ _ => by refine Jc ?_;exact RW.done rfl) ?_;refine AW.val rfl (fun _ _ => by refine Jc ?_;exact RW.done rfl) ?_;refine AW.val rfl (fun _ _ => by refine Jf ?_;exact RW.done rfl) ?_;refine AW.val rfl (fun _ _ => by refine Je ?_;exact RW.done rfl) ?_
  (apply AW.val rfl; · intro Gx X; (first | refine RW.yes rfl ?_ | skip); refine RW.load_ro rfl hle (hR.cell 14 _ rfl) rfl rfl ?_; exact RW.done rfl)
  refine AW.val rfl (fun _ _ => by refine Je ?_;exact RW.done rfl) ?_;refine AW.val rfl (fun _ _ => by refine JA ?_;exact RW.done rfl) ?_;refine AW.val rfl (fun _ _ => by refine Jc ?_;exact RW.done rfl) ?_
  refine AW.stop (by kernel_rfl) (by kernel_rfl) fun bs => ?_
  refine RW.callE0 hS Tryz.call103 rfl (fun w hw => fresh_ret (RS.call hR hw) (RS.call hR hw).rules) rfl rfl rfl fun _ _ hS => ?_
  refine RW.next ?_
  refine CW.keep [(0, .pointer (some ⟨br, 0, none⟩)), (4, .pointer (some ⟨b4, 0, none⟩))] ⟨rfl, rfl, trivial⟩ ?_
  refine CW.seqA (by kernel_rfl) rfl ?_
  refine AW.val rfl (fun _ _ => by refine Jc ?_;exact RW.done rfl) ?_;refine AW.val rfl (fun _ _ => by refine Jf ?_;exact RW.done rfl) ?_;refine AW.val rfl (fun _ _ => by refine Je ?_;exact RW.done rfl) ?_
  (apply AW.val rfl; · intro Gx X; (first | refine RW.yes rfl ?_ | skip); refine RW.load_ro rfl hle (hR.cell 13 _ rfl) rfl rfl ?_; exact RW.done rfl)
  refine AW.val rfl (fun _ _ => by refine Je ?_;exact RW.done rfl) ?_;refine AW.val rfl (fun _ _ => by refine JA ?_;exact RW.done rfl) ?_
  (apply AW.val rfl; · intro Gx X; (first | refine RW.yes rfl ?_ | skip); refine RW.lookupMOk (D := indexD ((sSources s).map nameOf)) hR.sources rfl rfl rfl rfl ?_; exact RW.done rfl)
  refine AW.val rfl (fun _ _ => by refine Jc ?_;exact RW.done rfl) ?_;refine AW.val rfl (fun _ _ => by refine Jt ?_;exact RW.done rfl) ?_;refine AW.val rfl (fun _ _ => by refine Jt ?_;exact RW.done rfl) ?_;refine AW.val rfl (fun _ _ => by refine Jd ?_;exact RW.done rfl) ?_;refine AW.val rfl (fun _ _ => by refine Jd ?_;exact RW.done rfl) ?_
  refine AW.stop (by kernel_rfl) (by kernel_rfl) fun bs => ?_
  refine Jb ?_;refine Ja ?_;refine Jc ?_;refine Jc ?_
  refine RW.want hS rfl (rfl) (fun w hw => RS.at_cell hR hw) rfl rfl rfl fun hb hS => ?_
  refine Jb ?_;refine Ja ?_;refine Jc ?_;refine Je ?_;refine JA ?_
  refine RW.call Tryz.call168 rfl (fun w hw => isDay_ret) rfl ?_
  refine Jc ?_
  refine RW.split 34 rfl (fun h1 => ?_) (fun h1 => ?_)
  rotate_left
  · refine Jz ?_;refine Jz ?_;refine Jz ?_;refine Jz ?_;refine Jz ?_;refine Jz ?_;refine Jz ?_;refine Jz ?_;refine Jw ?_
    refine RW.want hS rfl ((by rw [h1, Bool.false_and])) (fun w hw => RS.at_cell hR hw) rfl rfl rfl fun hb _ => absurd hb (by decide)
  refine Jy ?_;refine Je ?_;refine Jy ?_;refine JA ?_;refine Jy ?_;refine Ji ?_;refine Jy ?_;refine Jc ?_
  have day : ∀ {b : Bool}, b = (decide (p.2.2.2.1 = 0) || dayD p.2.2.2.1) → b = (dayD p.2.2.1 && (decide (p.2.2.2.1 = 0) || dayD p.2.2.2.1)) := fun hb => by rw [h1, Bool.true_and]; exact hb
  refine RW.splitD 38 rfl (fun h2 => ?_) (fun h2 => ?_)
  · refine Jz ?_;refine Jz ?_;refine Jz ?_;refine Jy ?_;refine Jv ?_;refine Jv ?_
    refine RW.want hS rfl ((day (by rw [decide_eq_true h2, Bool.true_or]))) (fun w hw => RS.at_cell hR hw) rfl rfl rfl fun hb hS => ?_
    refine Jb ?_;refine Ja ?_;refine Jc ?_;refine Je ?_;refine JA ?_;refine Ji ?_;refine Jc ?_
    refine RW.splitD 49 rfl (fun h3 => ?_) (fun h3 => absurd h2 h3)
    refine Jz ?_;refine Jz ?_;refine Jz ?_;refine Jz ?_;refine Jz ?_;refine Jv ?_
    refine RW.want hS rfl ((by rw [decide_eq_true h2, Bool.true_or])) (fun w hw => RS.at_cell hR hw) rfl rfl rfl fun hb hS => ?_
    refine Jb ?_;refine Ja ?_;refine Jc ?_;refine Je ?_;refine JA ?_;refine Jn ?_;refine Jc ?_
    refine RW.splitD 61 rfl (fun h4 => ?_) (fun h4 => ?_)
    rotate_left
    · refine Jz ?_;refine Jz ?_;refine Jz ?_;refine Jw ?_
      refine RW.want hS rfl ((by rw [decide_eq_false h4, Bool.false_and])) (fun w hw => RS.at_cell hR hw) rfl rfl rfl fun hb _ => absurd hb (by decide)
    refine Jy ?_;refine Je ?_;refine Jy ?_;refine JA ?_;refine Jy ?_;refine Jl ?_;refine Jv ?_
    refine RW.want hS rfl ((by rw [decide_eq_true h4, Bool.true_and])) (fun w hw => RS.at_cell hR hw) rfl rfl rfl fun hb hS => ?_
    refine Jb ?_;refine Ja ?_;refine Jc ?_;refine Je ?_;refine JA ?_;refine Jg ?_;refine Jl ?_
    refine RW.want hS rfl (rfl) (fun w hw => RS.at_cell hR hw) rfl rfl rfl fun hb hS => ?_
    have hB := of_decide_eq_true hb
    refine Jb ?_
    refine CW.region ?_
    refine Jc ?_;refine JE ?_
    refine RW.callEn hS Tryz.call40 rfl (fun w2 hw2 => rule_ret (RS.call hR hw2) (h'.mono (ro_call hw2)) hK (by omega)) rfl rfl rfl fun z u hz hS => ?_
    exact RW.nil (PW.ret (rs := []) (vs := []) Tryz.results115 rfl ResOK.nil fun w hw => XP.ok () hS (hw.sub (List.nil_sublist _)))
  · refine Jy ?_;refine Je ?_;refine Jy ?_;refine JA ?_;refine Jy ?_
    refine RW.call Tryz.call168 rfl (fun w hw => isDay_ret) rfl ?_
    refine Jy ?_;refine Jw ?_;refine Jv ?_
    refine RW.want hS rfl ((day (by rw [decide_eq_false h2, Bool.false_or]))) (fun w hw => RS.at_cell hR hw) rfl rfl rfl fun hb hS => ?_
    refine Jb ?_;refine Ja ?_;refine Jc ?_;refine Je ?_;refine JA ?_;refine Ji ?_;refine Jc ?_
    refine RW.splitD 49 rfl (fun h3 => absurd h3 h2) (fun h3 => ?_)
    refine Jy ?_;refine Je ?_;refine Jy ?_;refine JA ?_;refine Jy ?_;refine Je ?_;refine Jy ?_;refine JA ?_;refine Jy ?_;refine Jm ?_;refine Jw ?_
    refine RW.want hS rfl ((by rw [decide_eq_false h2, Bool.false_or])) (fun w hw => RS.at_cell hR hw) rfl rfl rfl fun hb hS => ?_
    refine Jb ?_;refine Ja ?_;refine Jc ?_;refine Je ?_;refine JA ?_;refine Jn ?_;refine Jc ?_
    refine RW.splitD 61 rfl (fun h4 => ?_) (fun h4 => ?_)
    rotate_left
    · refine Jz ?_;refine Jz ?_;refine Jz ?_;refine Jw ?_
      refine RW.want hS rfl ((by rw [decide_eq_false h4, Bool.false_and])) (fun w hw => RS.at_cell hR hw) rfl rfl rfl fun hb _ => absurd hb (by decide)
    refine Jy ?_;refine Je ?_;refine Jy ?_;refine JA ?_;refine Jy ?_;refine Jl ?_;refine Jv ?_
    refine RW.want hS rfl ((by rw [decide_eq_true h4, Bool.true_and])) (fun w hw => RS.at_cell hR hw) rfl rfl rfl fun hb hS => ?_
    refine Jb ?_;refine Ja ?_;refine Jc ?_;refine Je ?_;refine JA ?_;refine Jg ?_;refine Jl ?_
    refine RW.want hS rfl (rfl) (fun w hw => RS.at_cell hR hw) rfl rfl rfl fun hb hS => ?_
    have hB := of_decide_eq_true hb
    refine Jb ?_
    refine CW.region ?_
    refine Jc ?_;refine JE ?_
    refine RW.callEn hS Tryz.call40 rfl (fun w2 hw2 => rule_ret (RS.call hR hw2) (h'.mono (ro_call hw2)) hK (by omega)) rfl rfl rfl fun z u hz hS => ?_
    exact RW.nil (PW.ret (rs := []) (vs := []) Tryz.results115 rfl ResOK.nil fun w hw => XP.ok () hS (hw.sub (List.nil_sublist _)))
def totalStep (s : kStat.V) (at_ : Int) (kind : Str) (m : List (Str × Int)) (name : Str) : Ex (List (Str × Int)) :=
  bnd (wantD (pGet s name).isSome 82 at_) fun _ =>
  bnd (wantD (decide ((predAt s name).2.1 = 3)) 84 at_) fun _ =>
  bnd (wantD (decide (((predAt s name).2.2.1.length : Int) = 1) && decide ((predAt s name).2.2.1[0]?.getD ByteArray.empty = kind)) 83 at_) fun _ =>
  bnd (wantD (decide ((getM m name).getD 0 = 0)) 6 at_) fun _ => .ok (putM m name 1)
def totalD (s : kStat.V) (at_ : Int) (t : kTotal.V) (i : Int) : Ex Unit :=
  bnd (freshD ((sTotals s).map nameOf) at_ t.1 i) fun _ =>
  bnd (kindD s at_ t.2.1) fun _ =>
  bnd (wantD (decide (1 ≤ (t.2.2.1.length : Int)) && decide ((t.2.2.1.length : Int) ≤ 16)) 3 at_) fun _ =>
  bnd (foldX (totalStep s at_ t.2.1) [] t.2.2.1) fun _ =>
  bnd (wantD (!t.2.2.2.1 || (decide (0 ≤ t.2.2.2.2) && decide (moneyD t.2.2.2.2 = 0))) 22 at_) fun _ =>
  bnd (wantD (t.2.2.2.1 || decide (t.2.2.2.2 = 0)) 1 at_) fun _ => .ok ()
theorem Rd.totalT {M : Mem} {cs : List Value} {t : kTotal.V} (h : Rd kTotal M cs t) : ∃ A c, cs = [.string t.1, .string t.2.1, .slice A t.2.2.1.length c, .bool t.2.2.2.1, .int .i64 t.2.2.2.2] ∧ Rd kStrs M [.slice A t.2.2.1.length c] t.2.2.1 := by
  obtain ⟨c1, c2, rfl, h1, c3, c4, rfl, h3, c5, c6, rfl, h5, c7, c8, rfl, h7, h8⟩ := h
  obtain rfl := str_cell h1
  obtain rfl := str_cell h3
  obtain ⟨A, c, rfl⟩ := sl_cell h5
  obtain rfl : c7 = [.bool t.2.2.2.1] := h7
  obtain rfl := int_cell h8
  exact ⟨A, c, rfl, h5⟩
set_option maxHeartbeats 8000000 in
theorem total_ret {br : Nat} {s : kStat.V} {at_ i : Int} {x : RC} {w : World} {t : kTotal.V} {cs : List Value} (hR : RS w (fun b => ¬ No b) br s at_ x) (h : Rd kTotal (mem w (fun b => ¬ No b)) cs t) :
    RetE0 Tryz.prog 119 [.pointer (some ⟨br, 0, none⟩), .agg cs.toArray, .int .i64 i] w (totalD s at_ t i) (fun _ => .tuple #[]) := by
  generalize hS : totalD s at_ t i = SP
  have hS := hS.symm
  unfold totalD at hS
  obtain ⟨A, c, rfl, hpr⟩ := Rd.totalT h
  have hsm := sl_small hpr
  unfold reach at hsm
  have hle : Mem.le (mem w (fun b => ¬ No b)) (mem w (fun b => ¬ No b)) := Mem.le_refl _
  refine Calls.enter Tryz.func119 rfl _ rfl rfl (S := No) (H := []) trivial ?_
  refine CW.seqR ?_
  refine RW.box_agg rfl rfl fun b4 _ => ?_
  refine RW.next ?_
  refine CW.seqA (by kernel_rfl) rfl ?_
  refine AW.val rfl (fun _ _ => by refine Jc ?_;exact RW.done rfl) ?_;refine AW.val rfl (fun _ _ => by refine Jc ?_;exact RW.done rfl) ?_;refine AW.val rfl (fun _ _ => by refine Jf ?_;exact RW.done rfl) ?_;refine AW.val rfl (fun _ _ => by refine Je ?_;exact RW.done rfl) ?_
  (apply AW.val rfl; · intro Gx X; (first | refine RW.yes rfl ?_ | skip); refine RW.load_ro rfl hle (hR.cell 15 _ rfl) rfl rfl ?_; exact RW.done rfl)
  refine AW.val rfl (fun _ _ => by refine Je ?_;exact RW.done rfl) ?_;refine AW.val rfl (fun _ _ => by refine JA ?_;exact RW.done rfl) ?_;refine AW.val rfl (fun _ _ => by refine Jc ?_;exact RW.done rfl) ?_
  refine AW.stop (by kernel_rfl) (by kernel_rfl) fun bs => ?_
  refine RW.callE0 hS Tryz.call103 rfl (fun w hw => fresh_ret (RS.call hR hw) (RS.call hR hw).totals) rfl rfl rfl fun _ _ hS => ?_
  refine Jb ?_;refine Ja ?_;refine Jc ?_;refine Je ?_;refine JA ?_
  refine RW.callE0 hS Tryz.call106 rfl (fun w hw => kind_ret (RS.call hR hw)) rfl rfl rfl fun _ _ hS => ?_
  refine Jb ?_;refine Ja ?_;refine Jc ?_;refine Je ?_;refine JA ?_;refine Jg ?_;refine Jn ?_;refine Jc ?_
  refine RW.splitD 30 rfl (fun h1 => ?_) (fun h1 => ?_)
  rotate_left
  · refine Jz ?_;refine Jz ?_;refine Jz ?_;refine Jz ?_;refine Jw ?_
    refine RW.want hS rfl ((by rw [decide_eq_false h1, Bool.false_and])) (fun w hw => RS.at_cell hR hw) rfl rfl rfl fun hb _ => absurd hb (by decide)
  refine Jy ?_;refine Je ?_;refine Jy ?_;refine JA ?_;refine Jy ?_;refine Jg ?_;refine Jy ?_;refine Jl ?_;refine Jv ?_
  refine RW.want hS rfl ((by rw [decide_eq_true h1, Bool.true_and])) (fun w hw => RS.at_cell hR hw) rfl rfl rfl fun hb hS => ?_
  refine Jb ?_;refine Ja ?_
  refine RW.makeMap (κ := Str) (α := Int) strK intK .string (fun o ho => by cases ho) rfl fun b6 => ?_
  refine Jd ?_;refine Jb ?_
  refine CW.seq ?_
  refine Ja ?_;refine Je ?_;refine JB ?_;refine Jg ?_;refine Jc ?_;refine Jb ?_
  refine CW.block ?_
  refine CW.loop (ι := { y : Nat × List (Str × Int) // y.1 ≤ t.2.2.1.length ∧ SP = bnd (foldX (totalStep s at_ t.2.1) y.2 (t.2.2.1.drop y.1)) _ }) (fun y => [(0, .pointer (some ⟨br, 0, none⟩)), (4, .pointer (some ⟨b4, 0, none⟩)), (6, .map (some b6)), (39, .slice A t.2.2.1.length c), (40, .int .i64 t.2.2.1.length), (41, .int .i64 y.1.1)])
    (fun y => [mapHP strK intK .string b6 y.1.2, blk b4 [.string t.1, .string t.2.1, .slice A t.2.2.1.length c, .bool t.2.2.2.1, .int .i64 t.2.2.2.2] 166]) (fun y => t.2.2.1.length - y.1.1) ⟨(0, []), Nat.zero_le _, hS⟩ ⟨rfl, rfl, rfl, rfl, rfl, rfl, trivial⟩ (fun h => h.sub (List.Sublist.cons_cons _ (List.Sublist.cons_cons _ (List.nil_sublist _)))) ?_
  intro ⟨⟨k, m⟩, hk, hS⟩
  dsimp only at hS hk ⊢
  refine Ja ?_;refine Jk ?_;refine Jb ?_
  refine CW.seq ?_
  refine CW.ite rfl (fun hlt => ?_) (fun hge => ?_)
  · have hlt' : k < t.2.2.1.length := by simpa using hlt
    rw [foldX_step hlt', totalStep, bnd_assoc] at hS
    obtain ⟨B1, O1, es1, hA, hl1, hr, hm⟩ := sl_get hpr (List.getElem?_eq_getElem hlt')
    obtain rfl := str_cell hr
    generalize hnm : t.2.2.1[k] = name at *
    refine JM ?_
    refine CW.seq ?_
    refine CW.block ?_
    refine Ja ?_
    refine RW.indexAddrE hA rfl rfl (by omega) hlt rfl ?_
    skip
    refine RW.load_ro rfl hle (hm 0 _ rfl) rfl rfl ?_
    refine Jd ?_;refine Jb ?_;refine Ja ?_;refine Jc ?_;refine Jf ?_;refine Je ?_
    refine RW.load_ro rfl hle (hR.cell 12 _ rfl) rfl rfl ?_
    refine Jc ?_
    refine RW.lookupMOk (D := indexD ((sPreds s).map nameOf)) hR.preds rfl rfl rfl rfl ?_
    refine Jc ?_;refine Jt ?_;refine Jt ?_;refine Jd ?_;refine Jd ?_;refine Jb ?_;refine Ja ?_;refine Jc ?_;refine Jc ?_
    refine RW.want hS rfl (rfl) (fun w hw => RS.at_cell hR hw) rfl rfl rfl fun hb hS => ?_
    have hp := pSome (s := s) hb
    have hi := pIdx_lt name hp
    obtain ⟨B2, O2, es2, hA2, _, hr2, hm2⟩ := sl_get hR.stat.preds (predAt_get name hp)
    obtain ⟨PA, pc, PB, pd, rfl, hpk, _⟩ := Rd.predT hr2
    rw [bnd_assoc] at hS
    generalize hpn : predAt s name = p at *
    refine Jb ?_;refine Ja ?_;refine Jc ?_;refine Jf ?_;refine Je ?_;refine Je ?_
    refine RW.load_ro rfl hle (hR.cell 3 _ rfl) rfl rfl ?_
    refine Jc ?_
    refine RW.indexAddrE hA2 rfl rfl hi.1 hi.2 rfl ?_
    refine RW.load_ros rfl hle hm2 rfl rfl (Nat.zero_lt_succ _) rfl ?_
    refine RW.alloc (c := [.string ByteArray.empty, .int .i64 0, .slice none 0 0, .slice none 0 0]) rfl rfl fun b11 _ => ?_
    refine RW.store_whole [] rfl rfl rfl rfl rfl (by simp [Value.oneCell']) ?_
    refine Jb ?_;refine Ja ?_;refine Jc ?_;refine Je ?_;refine JA ?_;refine Ji ?_
    refine RW.want hS rfl (rfl) (fun w hw => RS.at_cell hR hw) rfl rfl rfl fun hb hS => ?_
    rw [bnd_assoc] at hS
    refine RW.next ?_
    refine CW.seqA (by kernel_rfl) rfl ?_
    refine AW.val rfl (fun _ _ => by refine Jc ?_;exact RW.done rfl) ?_;refine AW.val rfl (fun _ _ => by refine Je ?_;exact RW.done rfl) ?_;refine AW.val rfl (fun _ _ => by refine JA ?_;exact RW.done rfl) ?_;refine AW.val rfl (fun _ _ => by refine Jg ?_;exact RW.done rfl) ?_;refine AW.val rfl (fun _ _ => by refine Ji ?_;exact RW.done rfl) ?_;refine AW.val rfl (fun _ _ => by refine Jc ?_;exact RW.done rfl) ?_
    by_cases h2 : (p.2.2.1.length : Int) = 1
    rotate_left
    · rw [decide_eq_false h2]
      refine AW.val rfl (fun _ _ => by refine Jz ?_;exact RW.done rfl) ?_;refine AW.val rfl (fun _ _ => by refine Jz ?_;exact RW.done rfl) ?_;refine AW.val rfl (fun _ _ => by refine Jz ?_;exact RW.done rfl) ?_;refine AW.val rfl (fun _ _ => by refine Jz ?_;exact RW.done rfl) ?_;refine AW.val rfl (fun _ _ => by refine Jz ?_;exact RW.done rfl) ?_;refine AW.val rfl (fun _ _ => by refine Jz ?_;exact RW.done rfl) ?_;refine AW.val rfl (fun _ _ => by refine Jz ?_;exact RW.done rfl) ?_;refine AW.val rfl (fun _ _ => by refine Jw ?_;exact RW.done rfl) ?_
      refine AW.stop (by kernel_rfl) (by kernel_rfl) fun bs => ?_
      refine RW.want hS rfl ((by rw [decide_eq_false h2, Bool.false_and])) (fun w hw => RS.at_cell hR hw) rfl rfl rfl fun hb _ => absurd hb (by decide)
    have h20 : 0 < p.2.2.1.length := by omega
    obtain ⟨B3, O3, es3, hA3, _, hr3, hm3⟩ := sl_get hpk (List.getElem?_eq_getElem (i := 0) h20)
    obtain rfl := str_cell hr3
    have h00 : p.2.2.1[0]?.getD ByteArray.empty = p.2.2.1[0] := by rw [List.getElem?_eq_getElem h20]; rfl
    rw [decide_eq_true h2]
    refine AW.val rfl (fun _ _ => by refine RW.yes rfl ?_;refine Je ?_;exact RW.done rfl) ?_;refine AW.val rfl (fun _ _ => by refine RW.yes rfl ?_;refine JA ?_;exact RW.done rfl) ?_
    (apply AW.val rfl; · intro Gx X; (first | refine RW.yes rfl ?_ | skip); refine RW.indexAddrE hA3 rfl rfl (by omega) (by omega) rfl ?_; exact RW.done rfl)
    (apply AW.val rfl; · intro Gx X; (first | refine RW.yes rfl ?_ | skip); refine RW.load_ro rfl hle (hm3 0 _ rfl) rfl rfl ?_; exact RW.done rfl)
    refine AW.val rfl (fun _ _ => by refine RW.yes rfl ?_;refine Je ?_;exact RW.done rfl) ?_;refine AW.val rfl (fun _ _ => by refine RW.yes rfl ?_;refine JC ?_;exact RW.done rfl) ?_;refine AW.val rfl (fun _ _ => by refine RW.yes rfl ?_;refine Jo ?_;exact RW.done rfl) ?_;refine AW.val rfl (fun _ _ => by refine Jv ?_;exact RW.done rfl) ?_
    refine AW.stop (by kernel_rfl) (by kernel_rfl) fun bs => ?_
    refine RW.want hS rfl ((by rw [decide_eq_true h2, Bool.true_and, h00])) (fun w hw => RS.at_cell hR hw) rfl rfl rfl fun hb hS => ?_
    rw [bnd_assoc] at hS
    refine Jb ?_;refine Ja ?_;refine Jc ?_;refine Jc ?_;refine Jc ?_
    refine RW.take [1, 0, 2] ?_
    refine RW.lookup [] (a0 := (0 : Int)) rfl rfl rfl rfl ?_
    refine Ji ?_
    refine RW.want hS rfl (rfl) (fun w hw => RS.at_cell hR hw) rfl rfl rfl fun hb hS => ?_
    refine Jb ?_
    refine CW.region ?_
    refine Jc ?_;refine Jc ?_
    refine RW.lookup [] (a0 := (0 : Int)) rfl rfl rfl rfl ?_
    rw [show (getM m name).getD 0 = 0 from of_decide_eq_true hb]
    refine RW.add rfl rfl (w64 (by omega) (by omega)) rfl ?_
    refine RW.mapUpdate [] (a := (1 : Int)) rfl rfl rfl rfl ?_
    refine RW.nil ?_
    refine PW.code ?_
    refine CW.region ?_
    refine RW.add rfl rfl (w64 (by omega) (by omega)) rfl ?_
    refine Jc ?_
    refine RW.nil ?_
    exact PW.againT ⟨(k + 1, putM m name 1), hlt', hS⟩ [0, 2] ⟨rfl, rfl, rfl, rfl, rfl, rfl, trivial⟩ rfl (by show t.2.2.1.length - (k + 1) < t.2.2.1.length - k; omega)
  have hge' : t.2.2.1.length ≤ k := by simpa using hge
  rw [foldX_end hge'] at hS
  refine CW.exit rfl ?_
  refine PW.code ?_
  refine Ja ?_;refine Jc ?_;refine Je ?_;refine JB ?_;refine Js ?_;refine Jc ?_
  cases hv : t.2.2.2.1 with
  | false =>
    refine Jz ?_;refine Jz ?_;refine Jz ?_;refine Jz ?_;refine Jz ?_;refine Jz ?_;refine Jz ?_;refine Jz ?_;refine Jz ?_;refine Jv ?_
    refine RW.want hS rfl (by rw [hv]; rfl) (fun w hw => RS.at_cell hR hw) rfl rfl rfl fun hb hS => ?_
    refine Jb ?_
    refine CW.region ?_
    refine Jc ?_;refine Je ?_;refine JB ?_;refine Jc ?_;refine Jy ?_;refine Je ?_;refine Jy ?_;refine JB ?_;refine Jy ?_;refine Ji ?_;refine Jw ?_
    refine RW.want hS rfl (by rw [hv]; rfl) (fun w hw => RS.at_cell hR hw) rfl rfl rfl fun hb hS => ?_
    exact RW.nil (PW.ret (rs := []) (vs := []) Tryz.results119 rfl ResOK.nil fun w hw => XP.ok () hS (hw.sub (List.nil_sublist _)))
  | true =>
    refine Jy ?_;refine Je ?_;refine Jy ?_;refine JB ?_;refine Jy ?_;refine Jn ?_;refine Jy ?_;refine Jc ?_
    refine RW.splitD 104 rfl (fun h4 => ?_) (fun h4 => ?_)
    rotate_left
    · refine Jz ?_;refine Jz ?_;refine Jz ?_;refine Jz ?_;refine Jy ?_;refine Jw ?_;refine Jw ?_
      refine RW.want hS rfl ((by rw [hv, decide_eq_false h4]; rfl)) (fun w hw => RS.at_cell hR hw) rfl rfl rfl fun hb _ => absurd hb (by decide)
    refine Jy ?_;refine Je ?_;refine Jy ?_;refine JB ?_;refine Jy ?_
    refine RW.call Tryz.call166 rfl (fun w hw => moneyCheck_ret) rfl ?_
    refine Jy ?_;refine Ji ?_;refine Jy ?_;refine Jv ?_;refine Jw ?_
    refine RW.want hS rfl (by rw [hv, decide_eq_true h4]; rfl) (fun w hw => RS.at_cell hR hw) rfl rfl rfl fun hb hS => ?_
    refine Jb ?_
    refine CW.region ?_
    refine Jc ?_;refine Je ?_;refine JB ?_;refine Jc ?_;refine Jz ?_;refine Jz ?_;refine Jz ?_;refine Jv ?_
    refine RW.want hS rfl (by rw [hv]; rfl) (fun w hw => RS.at_cell hR hw) rfl rfl rfl fun hb hS => ?_
    exact RW.nil (PW.ret (rs := []) (vs := []) Tryz.results119 rfl ResOK.nil fun w hw => XP.ok () hS (hw.sub (List.nil_sublist _)))
end Go.Proofs.YtkfmlekomfnleaaGreat
