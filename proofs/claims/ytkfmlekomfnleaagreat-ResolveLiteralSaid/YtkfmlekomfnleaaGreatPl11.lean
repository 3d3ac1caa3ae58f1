/- Parts of the proof: The plain law of Literal: the document's answer is the resolver's. · Lists of numbers as numbers. · lexpriorplain.Same..: true of the same data. · lemmas · The law of literals, walked. Conditions: none. -/
import Derived.Test.YtkfmlekomfnleaaGreatPl10
/- The plain law of Literal: the document's answer is the resolver's. Conditions: none. -/
set_option linter.unusedVariables false
set_option linter.unusedSimpArgs false
set_option maxRecDepth 10000
namespace Go.Proofs.YtkfmlekomfnleaaGreat
open Go Go.RowKit

section
variable {s : kStat.V} {a : Int}
theorem getD_atN {l : List Str} {x : Str} (h : ¬ atN l x < 0) : (getM (indexD l) x).getD 0 = atN l x := by
  rw [indexD_get]
  cases hf : fst? l x with
  | none => exact absurd (atN_neg.2 hf) h
  | some v => unfold atN; rw [hf]; rfl
/-- An argument that is a member's name: the book stays. -/
theorem argF_is {c : Sc} {x k : Str} : IsP (argD s a true c x k) (if isVarD x = true then 86 else (rArg s noBk x k).1) a (fun _ => isVarD x = false ∧ (∀ b, rArg s b x k = (0, b)) ∧ ¬ atN (mN s) x < 0) := by
  unfold argD
  by_cases hv : isVarD x = true
  · rw [if_pos hv, if_pos hv]
    exact IsP.err (e := 86) (by decide) rfl
  · rw [if_neg hv, if_neg hv]
    have hvf : isVarD x = false := Bool.eq_false_iff.2 hv
    by_cases hn : isNameD x = true
    · have hr : ∀ b, rArg s b x k = (if atN (mN s) x < 0 then 82 else if (memAt s x).2 = k then 0 else 81, b) := fun b => by unfold rArg; rw [if_pos hn]
      rw [hr noBk, hn]
      show IsP (bnd (wantD (mGet s x).isSome 82 a) _) (if atN (mN s) x < 0 then 82 else if (memAt s x).2 = k then 0 else 81) a _
      refine IsP.bad (by decide) mGet_at fun h1 => ?_
      refine IsP.good (by decide) decide_eq_true_iff fun h2 => IsP.ok ⟨hvf, fun b => ?_, h1⟩
      rw [hr b, if_neg h1, if_pos h2]
    · have hr : (rArg s noBk x k).1 = 71 := by unfold rArg; rw [if_neg hn, if_neg hv]
      rw [hr, Bool.eq_false_iff.2 hn]
      exact IsP.err (e := 71) (by decide) rfl
theorem foldF_is : ∀ {zl : List (Str × Str)} {c : Sc} {acc : List Int}, IsP (foldX (fun x (y : Str × Str) => argD s a true x y.1 y.2) c zl) (rLitL s zl acc).1 a
    (fun _ => (rLitL s zl acc).2 = acc ++ zl.map (fun y => atN (mN s) y.1) ∧ (∀ b, foldC (fun b (y : Str × Str) => rArg s b y.1 y.2) b zl = (0, b)) ∧ ∀ y ∈ zl, ¬ atN (mN s) y.1 < 0) := by
  intro zl
  induction zl with
  | nil => intro c acc; exact IsP.ok ⟨by simp [rLitL], fun b => rfl, fun y hy => by cases hy⟩
  | cons y zl ih =>
    intro c acc
    rw [foldX, rLitL]
    have h1 := argF_is (s := s) (a := a) (c := c) (x := y.1) (k := y.2)
    by_cases hv : isVarD y.1 = true
    · rw [if_pos hv] at h1 ⊢
      rw [bnd_err (h1.2 (by decide))]
      exact IsP.err (by decide) rfl
    · rw [if_neg hv] at h1 ⊢
      by_cases h0 : (rArg s noBk y.1 y.2).1 = 0
      · obtain ⟨c', hc', _, hb, hm⟩ := h1.1 h0
        rw [if_neg (not_not_intro h0), bnd_ok hc']
        refine (ih (c := c') (acc := acc ++ [atN (mN s) y.1])).imp fun v ⟨g1, g2, g3⟩ => ⟨by rw [g1]; simp, fun b => ?_, fun z hz => ?_⟩
        · rw [foldC, hb b]
          exact g2 b
        · rcases List.mem_cons.1 hz with rfl | hz
          · exact hm
          · exact g3 z hz
      · rw [if_pos h0, bnd_err (h1.2 h0)]
        exact IsP.err h0 rfl
theorem lit_eq (s : kStat.V) (l : kLitT.V) : litD s l = rLitD s l := by
  unfold litD rLitD
  rw [check_eq]
  by_cases hc : (rCheck s).1 = 0
  · rw [if_pos hc, if_neg (not_not_intro hc)]
    by_cases h1 : atN (pN s) l.2.1 < 0
    · rw [if_pos h1]
      have : literalD s 0 true ⟨[], []⟩ l = .error (82, 0) := by
        unfold literalD
        have : (pGet s l.2.1).isSome = false := by
          cases hg : (pGet s l.2.1).isSome with
          | false => rfl
          | true => exact absurd h1 (pGet_at.1 hg)
        rw [this]; rfl
      rw [this]
    rw [if_neg h1]
    have hp1 : (pGet s l.2.1).isSome = true := pGet_at.2 h1
    have hpg : (pGet s l.2.1).getD 0 = atN (pN s) l.2.1 := getD_atN h1
    rw [hpg]
    generalize hpp : predAt s l.2.1 = p
    by_cases h2 : p.2.1 = 2
    · rw [if_pos h2]
      have : literalD s 0 true ⟨[], []⟩ l = .error (84, 0) := by
        unfold literalD
        rw [hp1, hpp, decide_eq_false (not_not_intro h2)]; rfl
      rw [this]
    rw [if_neg h2]
    by_cases h3 : (l.2.2.1.length : Int) = p.2.2.1.length
    · rw [if_neg (not_not_intro h3)]
      have hF := foldF_is (s := s) (a := 0) (zl := l.2.2.1.zip p.2.2.1) (c := ⟨[], []⟩) (acc := [])
      have hfst : (l.2.2.1.zip p.2.2.1).map (fun y => y.1) = l.2.2.1 := List.map_fst_zip (by omega)
      by_cases h4 : (rLitL s (l.2.2.1.zip p.2.2.1) []).1 = 0
      · rw [if_neg (not_not_intro h4)]
        obtain ⟨c', hc', g1, g2, g3⟩ := hF.1 h4
        have hlit : literalD s 0 true ⟨[], []⟩ l = bnd (wantD (decide (l.2.2.2.1 = decide (p.2.1 = 3)) && (l.2.2.2.1 || decide (l.2.2.2.2 = 0))) 84 0) fun _ => bnd (wantD (!l.2.2.2.1 || p.2.2.2.any (fun x => decide (x = l.2.2.2.2))) 85 0) fun _ => .ok c' := by
          unfold literalD argsD
          rw [hp1, hpp, decide_eq_true h2, decide_eq_true h3, hc']
          rfl
        have hrl : (rLit s noBk l).1 = if ¬ l.2.2.2.1 = decide (p.2.1 = 3) then 84 else if l.2.2.2.1 = true then (if hasD p.2.2.2 l.2.2.2.2 = true then 0 else 85) else if ¬ l.2.2.2.2 = 0 then 84 else 0 := by
          unfold rLit
          rw [if_neg h1, hpp, if_neg h2]
          have : rArgs s noBk p l.2.2.1 = (0, noBk) := by unfold rArgs; rw [if_neg (not_not_intro h3)]; exact g2 noBk
          rw [this, if_neg (by decide)]
        have hargs : l.2.2.1.map (fun a => (mGet s a).getD 0) = (rLitL s (l.2.2.1.zip p.2.2.1) []).2 := by
          rw [g1, List.nil_append]
          have : l.2.2.1.map (fun a => (mGet s a).getD 0) = ((l.2.2.1.zip p.2.2.1).map (fun y => y.1)).map (fun a => (mGet s a).getD 0) := by rw [hfst]
          rw [this, List.map_map]
          exact List.map_congr_left fun y hy => getD_atN (g3 y hy)
        rw [hargs, hlit, hrl]
        have hh : hasD p.2.2.2 l.2.2.2.2 = p.2.2.2.any (fun x => decide (x = l.2.2.2.2)) := rfl
        rw [← hh]
        generalize hasD p.2.2.2 l.2.2.2.2 = B
        generalize decide (p.2.1 = 3) = D
        generalize (rLitL s (l.2.2.1.zip p.2.2.1) []).2 = R
        generalize atN (pN s) l.2.1 = K
        cases hv : l.2.2.2.1 <;> cases D
        · by_cases h0 : l.2.2.2.2 = 0
          · rw [decide_eq_true h0, h0]; rfl
          · rw [decide_eq_false h0]
            have e : (if ¬ false = false then (84 : Int) else if false = true then (if B = true then 0 else 85) else if ¬ l.2.2.2.2 = 0 then 84 else 0) = 84 := by simp [h0]
            rw [e]
            rfl
        · rfl
        · rfl
        · cases B <;> rfl
      · rw [if_pos h4]
        have : literalD s 0 true ⟨[], []⟩ l = .error ((rLitL s (l.2.2.1.zip p.2.2.1) []).1, 0) := by
          unfold literalD argsD
          rw [hp1, hpp, decide_eq_true h2, decide_eq_true h3, hF.2 h4]
          rfl
        rw [this]
    · rw [if_pos h3]
      have : literalD s 0 true ⟨[], []⟩ l = .error (83, 0) := by
        unfold literalD argsD
        rw [hp1, hpp, decide_eq_true h2, decide_eq_false h3]; rfl
      rw [this]
  · rw [if_neg hc, if_pos hc]
end
end Go.Proofs.YtkfmlekomfnleaaGreat
/- Lists of numbers as numbers. Conditions: none. -/
set_option linter.unusedVariables false
set_option linter.unusedSimpArgs false
namespace Go.Proofs.YtkfmlekomfnleaaGreat
open Go Go.RowKit

def encL : List Nat → Nat
  | [] => 0
  | a :: r => 2 ^ a * (2 * encL r + 1)
theorem pow_odd : ∀ {a c b d : Nat}, 2 ^ a * (2 * b + 1) = 2 ^ c * (2 * d + 1) → a = c ∧ b = d := by
  intro a
  induction a with
  | zero =>
    intro c b d h
    cases c with
    | zero => simp at h; exact ⟨rfl, by omega⟩
    | succ c => rw [Nat.pow_succ, Nat.mul_comm (2 ^ c) 2, Nat.mul_assoc] at h; simp at h; omega
  | succ a ih =>
    intro c b d h
    rw [Nat.pow_succ, Nat.mul_comm (2 ^ a) 2, Nat.mul_assoc] at h
    cases c with
    | zero => simp at h; omega
    | succ c =>
      rw [Nat.pow_succ, Nat.mul_comm (2 ^ c) 2, Nat.mul_assoc] at h
      obtain ⟨e1, e2⟩ := ih (Nat.eq_of_mul_eq_mul_left (by decide) h)
      exact ⟨by rw [e1], e2⟩
theorem encL_pos {a : Nat} {r : List Nat} : 0 < encL (a :: r) := Nat.mul_pos (Nat.pow_pos (by decide)) (by omega)
theorem encL_inj : ∀ {l m : List Nat}, encL l = encL m → l = m := by
  intro l
  induction l with
  | nil =>
    intro m h
    cases m with
    | nil => rfl
    | cons a r => have := encL_pos (a := a) (r := r); rw [← h] at this; exact absurd this (by decide)
  | cons a r ih =>
    intro m h
    cases m with
    | nil => have := encL_pos (a := a) (r := r); rw [h] at this; exact absurd this (by decide)
    | cons c t =>
      obtain ⟨e1, e2⟩ := pow_odd h
      rw [e1, ih e2]
noncomputable def decL (n : Nat) : List Nat := @dite _ (∃ l, encL l = n) (Classical.propDecidable _) (fun h => Classical.choose h) (fun _ => [])
theorem decL_enc (l : List Nat) : decL (encL l) = l := by
  unfold decL
  rw [dif_pos ⟨l, rfl⟩]
  exact encL_inj (Classical.choose_spec (⟨l, rfl⟩ : ∃ m, encL m = encL l))
/-- A place of one's own, by a number. -/
def adrN (k : Nat) : Option Addr := if k = 0 then none else some ⟨k - 1, 0, none⟩
def nAdr : Option Addr → Nat
  | none => 0
  | some a => a.block + 1
def OwnA (A : Option Addr) : Prop := A = none ∨ ∃ B, A = some ⟨B, 0, none⟩
theorem adr_n {A : Option Addr} (h : OwnA A) : adrN (nAdr A) = A := by
  rcases h with rfl | ⟨B, rfl⟩
  · rfl
  · rfl
theorem ownD_place {t : K} {by_ n c : Nat} {A : Option Addr} {xs : List t.V} {w : World} {F : Nat → Prop} (h : (ownDHP (.sl by_ t) [.slice A n c] xs).p w F) : OwnA A := by
  obtain ⟨v, e, es, F0, G, hv, h1, _⟩ := h
  cases hv
  rcases h1 with ⟨h1, _⟩ | ⟨B, c', tl, h1, _⟩
  · injection h1 with h1; exact .inl h1
  · injection h1 with h1; exact .inr ⟨B, h1⟩
theorem St.ownA {w0 w : World} {S : Nat → Prop} {pre r : List HP} {t : K} {by_ n c : Nat} {A : Option Addr} {xs : List t.V} (h : St w0 S (pre ++ ownDHP (.sl by_ t) [.slice A n c] xs :: r) w) : OwnA A := by
  obtain ⟨F, hp, _⟩ := h.get
  exact ownD_place hp
end Go.Proofs.YtkfmlekomfnleaaGreat
/- lexpriorplain.Same..: true of the same data. Conditions: none. -/
set_option linter.unusedVariables false
set_option linter.unusedSimpArgs false
set_option maxRecDepth 10000
namespace Go.Proofs.YtkfmlekomfnleaaGreat
open Go Go.RowKit Go.MapKept

section
variable {P : Program} {E : Env} {ops : Array Oper} {Q : Pst} {rest : List Oper} {G : List (Nat × Value)} {H : List HP}
variable {dst : Nat} {ty : TypeId} {pos : String} {af : Array Edge} {t ty' : TypeId} {x y : Operand} {a : Int} {k : IntKind} {z : Value} {sz by_ : Nat} {s1 : ByteArray} {p : Bool}
theorem Ea (k0 : RW P E ops Q rest ((dst, .bool true) :: G) H) (hx : ev G x = some (.int k a) := by exact rfl) (hy : ev G y = some (.int k a) := by exact rfl) (hN : Nat.blt dst E.N = true := by exact rfl) : RW P E ops Q (⟨some dst, .binOp .eql t x y ty', ty, pos, af, none⟩ :: rest) G H := RW.eql hx hy hN (by rw [decide_eq_true rfl]; exact k0)
theorem Eb [T : Ty P t .string z sz by_] (k0 : RW P E ops Q rest ((dst, .bool true) :: G) H) (hx : ev G x = some (.string s1) := by exact rfl) (hy : ev G y = some (.string s1) := by exact rfl) (hN : Nat.blt dst E.N = true := by exact rfl) : RW P E ops Q (⟨some dst, .binOp .eql t x y ty', ty, pos, af, none⟩ :: rest) G H := RW.eqlS hx hy hN (by rw [decide_eq_true rfl]; exact k0)
theorem Ec [T : Ty P t .bool z sz by_] (k0 : RW P E ops Q rest ((dst, .bool true) :: G) H) (hx : ev G x = some (.bool p) := by exact rfl) (hy : ev G y = some (.bool p) := by exact rfl) (hN : Nat.blt dst E.N = true := by exact rfl) : RW P E ops Q (⟨some dst, .binOp .eql t x y ty', ty, pos, af, none⟩ :: rest) G H := RW.eqlB hx hy hN (by rw [decide_eq_true rfl]; exact k0)
/-- Two cells that are one as the program compares. -/
def EqOne (P : Program) (t : TypeId) (u : Value) : Prop := ∀ (d : Nat) (w : World), (Op.equalIn (d + 1) t u u).run P w = .ok true w
theorem EqOne.str {t1 : TypeId} {z1 : Value} {sz1 by1 : Nat} [T1 : Ty P t1 .string z1 sz1 by1] (s : ByteArray) : EqOne P t1 (.string s) := fun d w => by
  rw [run_equalIn_string w d t1 s s T1.und]
  simp
theorem EqOne.int {t1 : TypeId} {z1 : Value} {sz1 by1 : Nat} {k : IntKind} [T1 : Ty P t1 (.int k) z1 sz1 by1] (n : Int) : EqOne P t1 (.int k n) := fun d w => by
  rw [run_equalIn_int w d t1 k k n n T1.und]
  simp
theorem RW.neqTwo {f1 f2 : Field} {u1 u2 : Value} [T : Ty P t (.struct #[f1, f2]) z 2 by_] {d1 d2 : TypeDesc} {z1 z2 : Value} {by1 by2 : Nat} (t1 t2 : TypeId) [T1 : Ty P t1 d1 z1 1 by1] [T2 : Ty P t2 d2 z2 1 by2] (hf1 : f1.type = t1) (hf2 : f2.type = t2) (h1 : isAggD d1 = false) (h2 : isAggD d2 = false) (hx : ev G x = some (.agg #[u1, u2])) (hy : ev G y = some (.agg #[u1, u2])) (o1 : f1.offset = 0) (o2 : f2.offset = 1) (n1 : (f1.name = "_") = False) (n2 : (f2.name = "_") = False) (hp : P.stoodInHeld t = false) (hg : P.eqGuardType P.depth t = false)
    (e1 : EqOne P t1 u1) (e2 : EqOne P t2 u2) (hN : Nat.blt dst E.N = true) (kk : RW P E ops Q rest ((dst, .bool false) :: G) H) : RW P E ops Q (⟨some dst, .binOp .neq t x y ty', ty, pos, af, none⟩ :: rest) G H := by
  subst hf1
  subst hf2
  refine RW.val hN (fun f w hf _ => ?_) kk
  have hu := T.und
  have hfs : P.fieldsOf t = #[f1, f2] := by simp [Program.fieldsOf, hu]
  have part1 : ∀ (w : World), (part f1.type #[u1, u2] 0).run P w = .ok u1 w := fun w => by
    simp [part, T1.runAgg, h1, Result.andThen]
  have part2 : ∀ (w : World), (part f2.type #[u1, u2] 1).run P w = .ok u2 w := fun w => by
    simp [part, T2.runAgg, h2, Result.andThen]
  have he : ∀ w, (Op.equal t (.agg #[u1, u2]) (.agg #[u1, u2])).run P w = .ok true w := fun w => by
    show (Op.equalIn (9999 + 1) t _ _).run P w = _
    rw [run_equalIn_agg w 9999 t _ _ (by rw [hfs]; exact hu) hp, hfs]
    have r1 : ∀ w, (Op.equalIn (9998 + 1) f1.type u1 u1).run P w = .ok true w := fun w => e1 9998 w
    have r2 : ∀ w, (Op.equalIn (9998 + 1) f2.type u2 u2).run P w = .ok true w := fun w => e2 9998 w
    simp only [Op.eqFields, ne_eq, n1, n2, not_false_eq_true, if_true, Sem.run_bind, o1, o2, part1, part2, Result.andThen_ok, show (9999 : Nat) = 9998 + 1 from rfl, r1]
    simp [Sem.run_bind, part1, part2, r1, r2, Result.andThen]
  have hG : (eqGuard .neq t x y (.agg #[u1, u2]) (.agg #[u1, u2])).run P w = .ok () w := by
    unfold eqGuard
    simp [hg, Result.andThen]
  simp [execOp, hf.eval hx, hf.eval hy, hG, binOp, he]
end
attribute [local irreducible] RW CW
set_option maxHeartbeats 4000000 in
theorem dStrs_ret {A B : Option Addr} {c d : Nat} {l : List Str} {w : World} (h1 : Rd (.sl 16 K.str) (mem w (fun b => ¬ No b)) [.slice A l.length c] l) (h2 : Rd (.sl 16 K.str) (mem w (fun b => ¬ No b)) [.slice B l.length d] l) : Ret Tryz.prog 12 [.slice A l.length c, .slice B l.length d] w (.bool true) := by
  have hsm := sl_small h1
  unfold reach at hsm
  have hle : Mem.le (mem w (fun b => ¬ No b)) (mem w (fun b => ¬ No b)) := Mem.le_refl _
  refine Calls.enter Tryz.func12 rfl _ rfl rfl (S := No) (H := []) trivial ?_
  refine Ja ?_;refine Jd ?_;refine Jb ?_
  refine CW.seq ?_
  refine Ja ?_;refine Jc ?_;refine Jg ?_;refine Jc ?_;refine Jg ?_;refine Jj ?_;refine Jb ?_
  refine CW.ite rfl (fun h => absurd rfl h) (fun _ => ?_)
  refine CW.skip ?_
  refine PW.code ?_
  refine CW.seq ?_
  refine Ja ?_;refine Jd ?_;refine Jb ?_
  refine CW.block ?_
  refine CW.loop (ι := { k : Nat // k ≤ l.length }) (fun k => [(0, .slice A l.length c), (1, .slice B l.length d), (5, .int .i64 k.1)]) (fun _ => []) (fun k => l.length - k.1) ⟨0, Nat.zero_le _⟩ ⟨rfl, rfl, rfl, trivial⟩ (fun h => h) ?_
  intro ⟨k, hk⟩
  dsimp only at hk ⊢
  refine CW.seq ?_
  refine Ja ?_;refine Jc ?_;refine Jc ?_;refine Jg ?_;refine Jk ?_;refine Jb ?_
  refine CW.ite rfl (fun hlt => ?_) (fun hge => ?_)
  · have hlt' : k < l.length := by simpa using hlt
    obtain ⟨B1, O1, es1, hA, hl1, hr, hm⟩ := sl_get h1 (List.getElem?_eq_getElem hlt')
    obtain ⟨B2, O2, es2, hB, hl2, hr2, hm2⟩ := sl_get h2 (List.getElem?_eq_getElem hlt')
    generalize hx : l[k] = x at *
    obtain rfl := str_cell hr
    obtain rfl := str_cell hr2
    refine CW.skip ?_
    refine PW.code ?_
    refine CW.seq ?_
    refine CW.block ?_
    refine CW.seqA (by kernel_rfl) rfl ?_
    refine AW.val rfl (fun _ _ => by refine Jc ?_;exact RW.done rfl) ?_;refine AW.val rfl (fun _ _ => by refine Jc ?_;exact RW.done rfl) ?_
    (apply AW.val rfl; · intro Gx X; (first | refine RW.yes rfl ?_ | skip); refine RW.indexAddrE hA rfl rfl (by omega) hlt rfl ?_; exact RW.done rfl)
    (apply AW.val rfl; · intro Gx X; (first | refine RW.yes rfl ?_ | skip); refine RW.load_ro rfl hle (hm 0 _ rfl) rfl rfl ?_; exact RW.done rfl)
    refine AW.val rfl (fun _ _ => by refine Jc ?_;exact RW.done rfl) ?_;refine AW.val rfl (fun _ _ => by refine Jc ?_;exact RW.done rfl) ?_
    (apply AW.val rfl; · intro Gx X; (first | refine RW.yes rfl ?_ | skip); refine RW.indexAddrE hB rfl rfl (by omega) hlt rfl ?_; exact RW.done rfl)
    (apply AW.val rfl; · intro Gx X; (first | refine RW.yes rfl ?_ | skip); refine RW.load_ro rfl hle (hm2 0 _ rfl) rfl rfl ?_; exact RW.done rfl)
    refine AW.val rfl (fun _ _ => by refine Jp ?_;exact RW.done rfl) ?_
    refine AW.stop (by kernel_rfl) (by kernel_rfl) fun bs => ?_
    refine Jb ?_
    refine CW.ite rfl (fun h => absurd rfl h) (fun _ => ?_)
    refine CW.skip ?_
    refine PW.code ?_
    refine CW.region ?_
    refine Jc ?_
    refine RW.add rfl rfl (w64 (by omega) (by omega)) rfl ?_
    refine Jd ?_
    refine RW.nil ?_
    exact PW.again ⟨k + 1, hlt'⟩ ⟨rfl, rfl, rfl, trivial⟩ (fun h => h) (by show l.length - (k + 1) < l.length - k; omega)
  refine CW.exit rfl ?_
  refine PW.code ?_
  refine Ja ?_;refine Jd ?_;refine Jb ?_
  exact CW.ret1 rfl Tryz.results12 rfl rfl fun w hw => ⟨rfl, hw.kp⟩
set_option maxHeartbeats 4000000 in
theorem dMoney_ret {A B : Option Addr} {c d : Nat} {l : List Int} {w : World} (h1 : Rd (.sl 8 kI) (mem w (fun b => ¬ No b)) [.slice A l.length c] l) (h2 : Rd (.sl 8 kI) (mem w (fun b => ¬ No b)) [.slice B l.length d] l) : Ret Tryz.prog 178 [.slice A l.length c, .slice B l.length d] w (.bool true) := by
  have hsm := sl_small h1
  unfold reach at hsm
  have hle : Mem.le (mem w (fun b => ¬ No b)) (mem w (fun b => ¬ No b)) := Mem.le_refl _
  refine Calls.enter Tryz.func178 rfl _ rfl rfl (S := No) (H := []) trivial ?_
  refine Ja ?_;refine Jd ?_;refine Jb ?_
  refine CW.seq ?_
  refine Ja ?_;refine Jc ?_;refine Jg ?_;refine Jc ?_;refine Jg ?_;refine Jj ?_;refine Jb ?_
  refine CW.ite rfl (fun h => absurd rfl h) (fun _ => ?_)
  refine CW.skip ?_
  refine PW.code ?_
  refine CW.seq ?_
  refine Ja ?_;refine Jd ?_;refine Jb ?_
  refine CW.block ?_
  refine CW.loop (ι := { k : Nat // k ≤ l.length }) (fun k => [(0, .slice A l.length c), (1, .slice B l.length d), (5, .int .i64 k.1)]) (fun _ => []) (fun k => l.length - k.1) ⟨0, Nat.zero_le _⟩ ⟨rfl, rfl, rfl, trivial⟩ (fun h => h) ?_
  intro ⟨k, hk⟩
  dsimp only at hk ⊢
  refine CW.seq ?_
  refine Ja ?_;refine Jc ?_;refine Jc ?_;refine Jg ?_;refine Jk ?_;refine Jb ?_
  refine CW.ite rfl (fun hlt => ?_) (fun hge => ?_)
  · have hlt' : k < l.length := by simpa using hlt
    obtain ⟨B1, O1, es1, hA, hl1, hr, hm⟩ := sl_get h1 (List.getElem?_eq_getElem hlt')
    obtain ⟨B2, O2, es2, hB, hl2, hr2, hm2⟩ := sl_get h2 (List.getElem?_eq_getElem hlt')
    generalize hx : l[k] = x at *
    obtain rfl := int_cell hr
    obtain rfl := int_cell hr2
    refine CW.skip ?_
    refine PW.code ?_
    refine CW.seq ?_
    refine CW.block ?_
    refine CW.seqA (by kernel_rfl) rfl ?_
    refine AW.val rfl (fun _ _ => by refine Jc ?_;exact RW.done rfl) ?_;refine AW.val rfl (fun _ _ => by refine Jc ?_;exact RW.done rfl) ?_
    (apply AW.val rfl; · intro Gx X; (first | refine RW.yes rfl ?_ | skip); refine RW.indexAddrE hA rfl rfl (by omega) hlt rfl ?_; exact RW.done rfl)
    (apply AW.val rfl; · intro Gx X; (first | refine RW.yes rfl ?_ | skip); refine RW.load_ro rfl hle (hm 0 _ rfl) rfl rfl ?_; exact RW.done rfl)
    refine AW.val rfl (fun _ _ => by refine Jc ?_;exact RW.done rfl) ?_;refine AW.val rfl (fun _ _ => by refine Jc ?_;exact RW.done rfl) ?_
    (apply AW.val rfl; · intro Gx X; (first | refine RW.yes rfl ?_ | skip); refine RW.indexAddrE hB rfl rfl (by omega) hlt rfl ?_; exact RW.done rfl)
    (apply AW.val rfl; · intro Gx X; (first | refine RW.yes rfl ?_ | skip); refine RW.load_ro rfl hle (hm2 0 _ rfl) rfl rfl ?_; exact RW.done rfl)
    refine AW.val rfl (fun _ _ => by refine Jj ?_;exact RW.done rfl) ?_
    refine AW.stop (by kernel_rfl) (by kernel_rfl) fun bs => ?_
    refine Jb ?_
    refine CW.ite rfl (fun h => absurd rfl h) (fun _ => ?_)
    refine CW.skip ?_
    refine PW.code ?_
    refine CW.region ?_
    refine Jc ?_
    refine RW.add rfl rfl (w64 (by omega) (by omega)) rfl ?_
    refine Jd ?_
    refine RW.nil ?_
    exact PW.again ⟨k + 1, hlt'⟩ ⟨rfl, rfl, rfl, trivial⟩ (fun h => h) (by show l.length - (k + 1) < l.length - k; omega)
  refine CW.exit rfl ?_
  refine PW.code ?_
  refine Ja ?_;refine Jd ?_;refine Jb ?_
  exact CW.ret1 rfl Tryz.results178 rfl rfl fun w hw => ⟨rfl, hw.kp⟩
set_option maxHeartbeats 4000000 in
theorem dMembers_ret {A B : Option Addr} {c d : Nat} {l : List kMember.V} {w : World} (h1 : Rd (.sl 32 kMember) (mem w (fun b => ¬ No b)) [.slice A l.length c] l) (h2 : Rd (.sl 32 kMember) (mem w (fun b => ¬ No b)) [.slice B l.length d] l) : Ret Tryz.prog 45 [.slice A l.length c, .slice B l.length d] w (.bool true) := by
  have hsm := sl_small h1
  unfold reach at hsm
  have hle : Mem.le (mem w (fun b => ¬ No b)) (mem w (fun b => ¬ No b)) := Mem.le_refl _
  refine Calls.enter Tryz.func45 rfl _ rfl rfl (S := No) (H := []) trivial ?_
  refine Ja ?_;refine Jd ?_;refine Jb ?_
  refine CW.seq ?_
  refine Ja ?_;refine Jc ?_;refine Jg ?_;refine Jc ?_;refine Jg ?_;refine Jj ?_;refine Jb ?_
  refine CW.ite rfl (fun h => absurd rfl h) (fun _ => ?_)
  refine CW.skip ?_
  refine PW.code ?_
  refine CW.seq ?_
  refine Ja ?_;refine Jd ?_;refine Jb ?_
  refine CW.block ?_
  refine CW.loop (ι := { k : Nat // k ≤ l.length }) (fun k => [(0, .slice A l.length c), (1, .slice B l.length d), (5, .int .i64 k.1)]) (fun _ => []) (fun k => l.length - k.1) ⟨0, Nat.zero_le _⟩ ⟨rfl, rfl, rfl, trivial⟩ (fun h => h) ?_
  intro ⟨k, hk⟩
  dsimp only at hk ⊢
  refine CW.seq ?_
  refine Ja ?_;refine Jc ?_;refine Jc ?_;refine Jg ?_;refine Jk ?_;refine Jb ?_
  refine CW.ite rfl (fun hlt => ?_) (fun hge => ?_)
  · have hlt' : k < l.length := by simpa using hlt
    obtain ⟨B1, O1, es1, hA, hl1, hr, hm⟩ := sl_get h1 (List.getElem?_eq_getElem hlt')
    obtain ⟨B2, O2, es2, hB, hl2, hr2, hm2⟩ := sl_get h2 (List.getElem?_eq_getElem hlt')
    generalize hx : l[k] = x at *
    obtain ⟨_, _, rfl, r1, r2⟩ := hr
    obtain rfl := str_cell r1
    obtain rfl := str_cell r2
    obtain ⟨_, _, rfl, r1, r2⟩ := hr2
    obtain rfl := str_cell r1
    obtain rfl := str_cell r2
    refine CW.skip ?_
    refine PW.code ?_
    refine CW.seq ?_
    refine CW.block ?_
    refine CW.seqA (by kernel_rfl) rfl ?_
    refine AW.val rfl (fun _ _ => by refine Jc ?_;exact RW.done rfl) ?_;refine AW.val rfl (fun _ _ => by refine Jc ?_;exact RW.done rfl) ?_
    (apply AW.val rfl; · intro Gx X; (first | refine RW.yes rfl ?_ | skip); refine RW.indexAddrE hA rfl rfl (by omega) hlt rfl ?_; exact RW.done rfl)
    (apply AW.val rfl; · intro Gx X; (first | refine RW.yes rfl ?_ | skip); refine RW.load_ros (cs := _) rfl hle hm rfl hl1 (by rw [hl1]; decide) rfl ?_; exact RW.done rfl)
    refine AW.val rfl (fun _ _ => by refine Jc ?_;exact RW.done rfl) ?_;refine AW.val rfl (fun _ _ => by refine Jc ?_;exact RW.done rfl) ?_
    (apply AW.val rfl; · intro Gx X; (first | refine RW.yes rfl ?_ | skip); refine RW.indexAddrE hB rfl rfl (by omega) hlt rfl ?_; exact RW.done rfl)
    (apply AW.val rfl; · intro Gx X; (first | refine RW.yes rfl ?_ | skip); refine RW.load_ros (cs := _) rfl hle hm2 rfl hl2 (by rw [hl2]; decide) rfl ?_; exact RW.done rfl)
    (apply AW.val rfl; · intro Gx X; (first | refine RW.yes rfl ?_ | skip); refine RW.neqTwo 9 9 rfl rfl rfl rfl rfl rfl rfl rfl (by simp) (by simp) (by kernel_rfl) (by kernel_rfl) (EqOne.str _) (EqOne.str _) rfl ?_; exact RW.done rfl)
    skip
    refine AW.stop (by kernel_rfl) (by kernel_rfl) fun bs => ?_
    refine Jb ?_
    refine CW.cf rfl ?_
    refine CW.skip ?_
    refine PW.code ?_
    refine CW.region ?_
    refine Jc ?_
    refine RW.add rfl rfl (w64 (by omega) (by omega)) rfl ?_
    refine Jd ?_
    refine RW.nil ?_
    exact PW.again ⟨k + 1, hlt'⟩ ⟨rfl, rfl, rfl, trivial⟩ (fun h => h) (by show l.length - (k + 1) < l.length - k; omega)
  refine CW.exit rfl ?_
  refine PW.code ?_
  refine Ja ?_;refine Jd ?_;refine Jb ?_
  exact CW.ret1 rfl Tryz.results45 rfl rfl fun w hw => ⟨rfl, hw.kp⟩
set_option maxHeartbeats 4000000 in
theorem dSources_ret {A B : Option Addr} {c d : Nat} {l : List kSource.V} {w : World} (h1 : Rd (.sl 24 kSource) (mem w (fun b => ¬ No b)) [.slice A l.length c] l) (h2 : Rd (.sl 24 kSource) (mem w (fun b => ¬ No b)) [.slice B l.length d] l) : Ret Tryz.prog 48 [.slice A l.length c, .slice B l.length d] w (.bool true) := by
  have hsm := sl_small h1
  unfold reach at hsm
  have hle : Mem.le (mem w (fun b => ¬ No b)) (mem w (fun b => ¬ No b)) := Mem.le_refl _
  refine Calls.enter Tryz.func48 rfl _ rfl rfl (S := No) (H := []) trivial ?_
  refine Ja ?_;refine Jd ?_;refine Jb ?_
  refine CW.seq ?_
  refine Ja ?_;refine Jc ?_;refine Jg ?_;refine Jc ?_;refine Jg ?_;refine Jj ?_;refine Jb ?_
  refine CW.ite rfl (fun h => absurd rfl h) (fun _ => ?_)
  refine CW.skip ?_
  refine PW.code ?_
  refine CW.seq ?_
  refine Ja ?_;refine Jd ?_;refine Jb ?_
  refine CW.block ?_
  refine CW.loop (ι := { k : Nat // k ≤ l.length }) (fun k => [(0, .slice A l.length c), (1, .slice B l.length d), (5, .int .i64 k.1)]) (fun _ => []) (fun k => l.length - k.1) ⟨0, Nat.zero_le _⟩ ⟨rfl, rfl, rfl, trivial⟩ (fun h => h) ?_
  intro ⟨k, hk⟩
  dsimp only at hk ⊢
  refine CW.seq ?_
  refine Ja ?_;refine Jc ?_;refine Jc ?_;refine Jg ?_;refine Jk ?_;refine Jb ?_
  refine CW.ite rfl (fun hlt => ?_) (fun hge => ?_)
  · have hlt' : k < l.length := by simpa using hlt
    obtain ⟨B1, O1, es1, hA, hl1, hr, hm⟩ := sl_get h1 (List.getElem?_eq_getElem hlt')
    obtain ⟨B2, O2, es2, hB, hl2, hr2, hm2⟩ := sl_get h2 (List.getElem?_eq_getElem hlt')
    generalize hx : l[k] = x at *
    obtain ⟨_, _, rfl, r1, r2⟩ := hr
    obtain rfl := str_cell r1
    obtain rfl := int_cell r2
    obtain ⟨_, _, rfl, r1, r2⟩ := hr2
    obtain rfl := str_cell r1
    obtain rfl := int_cell r2
    refine CW.skip ?_
    refine PW.code ?_
    refine CW.seq ?_
    refine CW.block ?_
    refine CW.seqA (by kernel_rfl) rfl ?_
    refine AW.val rfl (fun _ _ => by refine Jc ?_;exact RW.done rfl) ?_;refine AW.val rfl (fun _ _ => by refine Jc ?_;exact RW.done rfl) ?_
    (apply AW.val rfl; · intro Gx X; (first | refine RW.yes rfl ?_ | skip); refine RW.indexAddrE hA rfl rfl (by omega) hlt rfl ?_; exact RW.done rfl)
    (apply AW.val rfl; · intro Gx X; (first | refine RW.yes rfl ?_ | skip); refine RW.load_ros (cs := _) rfl hle hm rfl hl1 (by rw [hl1]; decide) rfl ?_; exact RW.done rfl)
    refine AW.val rfl (fun _ _ => by refine Jc ?_;exact RW.done rfl) ?_;refine AW.val rfl (fun _ _ => by refine Jc ?_;exact RW.done rfl) ?_
    (apply AW.val rfl; · intro Gx X; (first | refine RW.yes rfl ?_ | skip); refine RW.indexAddrE hB rfl rfl (by omega) hlt rfl ?_; exact RW.done rfl)
    (apply AW.val rfl; · intro Gx X; (first | refine RW.yes rfl ?_ | skip); refine RW.load_ros (cs := _) rfl hle hm2 rfl hl2 (by rw [hl2]; decide) rfl ?_; exact RW.done rfl)
    (apply AW.val rfl; · intro Gx X; (first | refine RW.yes rfl ?_ | skip); refine RW.neqTwo 9 3 rfl rfl rfl rfl rfl rfl rfl rfl (by simp) (by simp) (by kernel_rfl) (by kernel_rfl) (EqOne.str _) (EqOne.int _) rfl ?_; exact RW.done rfl)
    skip
    refine AW.stop (by kernel_rfl) (by kernel_rfl) fun bs => ?_
    refine Jb ?_
    refine CW.cf rfl ?_
    refine CW.skip ?_
    refine PW.code ?_
    refine CW.region ?_
    refine Jc ?_
    refine RW.add rfl rfl (w64 (by omega) (by omega)) rfl ?_
    refine Jd ?_
    refine RW.nil ?_
    exact PW.again ⟨k + 1, hlt'⟩ ⟨rfl, rfl, rfl, trivial⟩ (fun h => h) (by show l.length - (k + 1) < l.length - k; omega)
  refine CW.exit rfl ?_
  refine PW.code ?_
  refine Ja ?_;refine Jd ?_;refine Jb ?_
  exact CW.ret1 rfl Tryz.results48 rfl rfl fun w hw => ⟨rfl, hw.kp⟩
set_option maxHeartbeats 4000000 in
theorem dExcepts_ret {A B : Option Addr} {c d : Nat} {l : List kExc.V} {w : World} (h1 : Rd (.sl 32 kExc) (mem w (fun b => ¬ No b)) [.slice A l.length c] l) (h2 : Rd (.sl 32 kExc) (mem w (fun b => ¬ No b)) [.slice B l.length d] l) : Ret Tryz.prog 50 [.slice A l.length c, .slice B l.length d] w (.bool true) := by
  have hsm := sl_small h1
  unfold reach at hsm
  have hle : Mem.le (mem w (fun b => ¬ No b)) (mem w (fun b => ¬ No b)) := Mem.le_refl _
  refine Calls.enter Tryz.func50 rfl _ rfl rfl (S := No) (H := []) trivial ?_
  refine Ja ?_;refine Jd ?_;refine Jb ?_
  refine CW.seq ?_
  refine Ja ?_;refine Jc ?_;refine Jg ?_;refine Jc ?_;refine Jg ?_;refine Jj ?_;refine Jb ?_
  refine CW.ite rfl (fun h => absurd rfl h) (fun _ => ?_)
  refine CW.skip ?_
  refine PW.code ?_
  refine CW.seq ?_
  refine Ja ?_;refine Jd ?_;refine Jb ?_
  refine CW.block ?_
  refine CW.loop (ι := { k : Nat // k ≤ l.length }) (fun k => [(0, .slice A l.length c), (1, .slice B l.length d), (5, .int .i64 k.1)]) (fun _ => []) (fun k => l.length - k.1) ⟨0, Nat.zero_le _⟩ ⟨rfl, rfl, rfl, trivial⟩ (fun h => h) ?_
  intro ⟨k, hk⟩
  dsimp only at hk ⊢
  refine CW.seq ?_
  refine Ja ?_;refine Jc ?_;refine Jc ?_;refine Jg ?_;refine Jk ?_;refine Jb ?_
  refine CW.ite rfl (fun hlt => ?_) (fun hge => ?_)
  · have hlt' : k < l.length := by simpa using hlt
    obtain ⟨B1, O1, es1, hA, hl1, hr, hm⟩ := sl_get h1 (List.getElem?_eq_getElem hlt')
    obtain ⟨B2, O2, es2, hB, hl2, hr2, hm2⟩ := sl_get h2 (List.getElem?_eq_getElem hlt')
    generalize hx : l[k] = x at *
    obtain ⟨_, _, rfl, r1, r2⟩ := hr
    obtain rfl := str_cell r1
    obtain rfl := str_cell r2
    obtain ⟨_, _, rfl, r1, r2⟩ := hr2
    obtain rfl := str_cell r1
    obtain rfl := str_cell r2
    refine CW.skip ?_
    refine PW.code ?_
    refine CW.seq ?_
    refine CW.block ?_
    refine CW.seqA (by kernel_rfl) rfl ?_
    refine AW.val rfl (fun _ _ => by refine Jc ?_;exact RW.done rfl) ?_;refine AW.val rfl (fun _ _ => by refine Jc ?_;exact RW.done rfl) ?_
    (apply AW.val rfl; · intro Gx X; (first | refine RW.yes rfl ?_ | skip); refine RW.indexAddrE hA rfl rfl (by omega) hlt rfl ?_; exact RW.done rfl)
    (apply AW.val rfl; · intro Gx X; (first | refine RW.yes rfl ?_ | skip); refine RW.load_ros (cs := _) rfl hle hm rfl hl1 (by rw [hl1]; decide) rfl ?_; exact RW.done rfl)
    refine AW.val rfl (fun _ _ => by refine Jc ?_;exact RW.done rfl) ?_;refine AW.val rfl (fun _ _ => by refine Jc ?_;exact RW.done rfl) ?_
    (apply AW.val rfl; · intro Gx X; (first | refine RW.yes rfl ?_ | skip); refine RW.indexAddrE hB rfl rfl (by omega) hlt rfl ?_; exact RW.done rfl)
    (apply AW.val rfl; · intro Gx X; (first | refine RW.yes rfl ?_ | skip); refine RW.load_ros (cs := _) rfl hle hm2 rfl hl2 (by rw [hl2]; decide) rfl ?_; exact RW.done rfl)
    (apply AW.val rfl; · intro Gx X; (first | refine RW.yes rfl ?_ | skip); refine RW.neqTwo 9 9 rfl rfl rfl rfl rfl rfl rfl rfl (by simp) (by simp) (by kernel_rfl) (by kernel_rfl) (EqOne.str _) (EqOne.str _) rfl ?_; exact RW.done rfl)
    skip
    refine AW.stop (by kernel_rfl) (by kernel_rfl) fun bs => ?_
    refine Jb ?_
    refine CW.cf rfl ?_
    refine CW.skip ?_
    refine PW.code ?_
    refine CW.region ?_
    refine Jc ?_
    refine RW.add rfl rfl (w64 (by omega) (by omega)) rfl ?_
    refine Jd ?_
    refine RW.nil ?_
    exact PW.again ⟨k + 1, hlt'⟩ ⟨rfl, rfl, rfl, trivial⟩ (fun h => h) (by show l.length - (k + 1) < l.length - k; omega)
  refine CW.exit rfl ?_
  refine PW.code ?_
  refine Ja ?_;refine Jd ?_;refine Jb ?_
  exact CW.ret1 rfl Tryz.results50 rfl rfl fun w hw => ⟨rfl, hw.kp⟩
set_option maxHeartbeats 4000000 in
theorem dLists_ret {A B : Option Addr} {c d : Nat} {l : List (List Str)} {w : World} (h1 : Rd (.sl 24 kStrs) (mem w (fun b => ¬ No b)) [.slice A l.length c] l) (h2 : Rd (.sl 24 kStrs) (mem w (fun b => ¬ No b)) [.slice B l.length d] l) : Ret Tryz.prog 47 [.slice A l.length c, .slice B l.length d] w (.bool true) := by
  have hsm := sl_small h1
  unfold reach at hsm
  have hle : Mem.le (mem w (fun b => ¬ No b)) (mem w (fun b => ¬ No b)) := Mem.le_refl _
  refine Calls.enter Tryz.func47 rfl _ rfl rfl (S := No) (H := []) trivial ?_
  refine Ja ?_;refine Jd ?_;refine Jb ?_
  refine CW.seq ?_
  refine Ja ?_;refine Jc ?_;refine Jg ?_;refine Jc ?_;refine Jg ?_;refine Jj ?_;refine Jb ?_
  refine CW.ite rfl (fun h => absurd rfl h) (fun _ => ?_)
  refine CW.skip ?_
  refine PW.code ?_
  refine CW.seq ?_
  refine Ja ?_;refine Jd ?_;refine Jb ?_
  refine CW.block ?_
  refine CW.loop (ι := { k : Nat // k ≤ l.length }) (fun k => [(0, .slice A l.length c), (1, .slice B l.length d), (5, .int .i64 k.1)]) (fun _ => []) (fun k => l.length - k.1) ⟨0, Nat.zero_le _⟩ ⟨rfl, rfl, rfl, trivial⟩ (fun h => h) ?_
  intro ⟨k, hk⟩
  dsimp only at hk ⊢
  refine CW.seq ?_
  refine Ja ?_;refine Jc ?_;refine Jc ?_;refine Jg ?_;refine Jk ?_;refine Jb ?_
  refine CW.ite rfl (fun hlt => ?_) (fun hge => ?_)
  · have hlt' : k < l.length := by simpa using hlt
    obtain ⟨B1, O1, es1, hA, hl1, hr, hm⟩ := sl_get h1 (List.getElem?_eq_getElem hlt')
    obtain ⟨B2, O2, es2, hB, hl2, hr2, hm2⟩ := sl_get h2 (List.getElem?_eq_getElem hlt')
    generalize hx : l[k] = x at *
    obtain ⟨A1, c1, rfl⟩ := sl_cell hr
    obtain ⟨A2, c2, rfl⟩ := sl_cell hr2
    refine CW.skip ?_
    refine PW.code ?_
    refine CW.seq ?_
    refine CW.block ?_
    refine CW.seqA (by kernel_rfl) rfl ?_
    refine AW.val rfl (fun _ _ => by refine Jc ?_;exact RW.done rfl) ?_;refine AW.val rfl (fun _ _ => by refine Jc ?_;exact RW.done rfl) ?_
    (apply AW.val rfl; · intro Gx X; (first | refine RW.yes rfl ?_ | skip); refine RW.indexAddrE hA rfl rfl (by omega) hlt rfl ?_; exact RW.done rfl)
    (apply AW.val rfl; · intro Gx X; (first | refine RW.yes rfl ?_ | skip); refine RW.load_ro rfl hle (hm 0 _ rfl) rfl rfl ?_; exact RW.done rfl)
    refine AW.val rfl (fun _ _ => by refine Jc ?_;exact RW.done rfl) ?_;refine AW.val rfl (fun _ _ => by refine Jc ?_;exact RW.done rfl) ?_
    (apply AW.val rfl; · intro Gx X; (first | refine RW.yes rfl ?_ | skip); refine RW.indexAddrE hB rfl rfl (by omega) hlt rfl ?_; exact RW.done rfl)
    (apply AW.val rfl; · intro Gx X; (first | refine RW.yes rfl ?_ | skip); refine RW.load_ro rfl hle (hm2 0 _ rfl) rfl rfl ?_; exact RW.done rfl)
    (apply AW.val rfl; · intro Gx X; (first | refine RW.yes rfl ?_ | skip); refine RW.call Tryz.call12 rfl (fun w2 hw => dStrs_ret (hr.mono (ro_call hw)) (hr2.mono (ro_call hw))) rfl ?_; exact RW.done rfl)
    refine AW.val rfl (fun _ _ => by refine Js ?_;exact RW.done rfl) ?_
    refine AW.stop (by kernel_rfl) (by kernel_rfl) fun bs => ?_
    refine Jb ?_
    refine CW.cf rfl ?_
    refine CW.skip ?_
    refine PW.code ?_
    refine CW.region ?_
    refine Jc ?_
    refine RW.add rfl rfl (w64 (by omega) (by omega)) rfl ?_
    refine Jd ?_
    refine RW.nil ?_
    exact PW.again ⟨k + 1, hlt'⟩ ⟨rfl, rfl, rfl, trivial⟩ (fun h => h) (by show l.length - (k + 1) < l.length - k; omega)
  refine CW.exit rfl ?_
  refine PW.code ?_
  refine Ja ?_;refine Jd ?_;refine Jb ?_
  exact CW.ret1 rfl Tryz.results47 rfl rfl fun w hw => ⟨rfl, hw.kp⟩
set_option maxHeartbeats 4000000 in
theorem dTerm_ret {x : kTerm.V} {cs cs2 : List Value} {w : World} (h : Rd kTerm (mem w (fun b => ¬ No b)) cs x) (g : Rd kTerm (mem w (fun b => ¬ No b)) cs2 x) : Ret Tryz.prog 206 [.agg cs.toArray, .agg cs2.toArray] w (.bool true) := by
  obtain ⟨A1, c1, rfl, h2⟩ := Rd.termT h
  obtain ⟨B1, d1, rfl, g2⟩ := Rd.termT g
  refine Calls.enter Tryz.func206 rfl _ rfl rfl (S := No) (H := []) trivial ?_
  refine CW.seqR ?_
  refine RW.box_agg (l := [.int .i64 x.1, .string x.2.1, .slice A1 (x.2.2.1).length c1, .int .i64 x.2.2.2]) rfl rfl fun b1 _ => ?_
  refine RW.box_agg (l := [.int .i64 x.1, .string x.2.1, .slice B1 (x.2.2.1).length d1, .int .i64 x.2.2.2]) rfl rfl fun b2 _ => ?_
  refine Jd ?_;refine Jb ?_;refine Ja ?_;refine Je ?_;refine JB ?_;refine Je ?_;refine JA ?_;refine Ea ?_;refine Jc ?_;refine Jy ?_;refine Je ?_;refine Jy ?_;refine JB ?_;refine Jy ?_;refine Je ?_;refine Jy ?_;refine JA ?_;refine Jy ?_;refine Eb ?_;refine Jv ?_;refine Jc ?_;refine Jy ?_;refine Je ?_;refine Jy ?_;refine JB ?_;refine Jy ?_;refine Je ?_;refine Jy ?_;refine JA ?_;refine Jy ?_
  refine RW.call Tryz.call12 rfl (fun w2 hw => dStrs_ret (h2.mono (ro_call hw)) (g2.mono (ro_call hw))) rfl ?_
  refine Jv ?_;refine Jc ?_;refine Jy ?_;refine Je ?_;refine Jy ?_;refine JB ?_;refine Jy ?_;refine Je ?_;refine Jy ?_;refine JA ?_;refine Jy ?_;refine Ea ?_;refine Jv ?_;refine Jd ?_;refine Jb ?_
  exact CW.ret1 rfl Tryz.results206 rfl rfl fun w hw => ⟨rfl, hw.kp⟩
set_option maxHeartbeats 4000000 in
theorem dTerms_ret {A B : Option Addr} {c d : Nat} {l : List kTerm.V} {w : World} (h1 : Rd (.sl 56 kTerm) (mem w (fun b => ¬ No b)) [.slice A l.length c] l) (h2 : Rd (.sl 56 kTerm) (mem w (fun b => ¬ No b)) [.slice B l.length d] l) : Ret Tryz.prog 204 [.slice A l.length c, .slice B l.length d] w (.bool true) := by
  have hsm := sl_small h1
  unfold reach at hsm
  have hle : Mem.le (mem w (fun b => ¬ No b)) (mem w (fun b => ¬ No b)) := Mem.le_refl _
  refine Calls.enter Tryz.func204 rfl _ rfl rfl (S := No) (H := []) trivial ?_
  refine Ja ?_;refine Jd ?_;refine Jb ?_
  refine CW.seq ?_
  refine Ja ?_;refine Jc ?_;refine Jg ?_;refine Jc ?_;refine Jg ?_;refine Jj ?_;refine Jb ?_
  refine CW.ite rfl (fun h => absurd rfl h) (fun _ => ?_)
  refine CW.skip ?_
  refine PW.code ?_
  refine CW.seq ?_
  refine Ja ?_;refine Jd ?_;refine Jb ?_
  refine CW.block ?_
  refine CW.loop (ι := { k : Nat // k ≤ l.length }) (fun k => [(0, .slice A l.length c), (1, .slice B l.length d), (5, .int .i64 k.1)]) (fun _ => []) (fun k => l.length - k.1) ⟨0, Nat.zero_le _⟩ ⟨rfl, rfl, rfl, trivial⟩ (fun h => h) ?_
  intro ⟨k, hk⟩
  dsimp only at hk ⊢
  refine CW.seq ?_
  refine Ja ?_;refine Jc ?_;refine Jc ?_;refine Jg ?_;refine Jk ?_;refine Jb ?_
  refine CW.ite rfl (fun hlt => ?_) (fun hge => ?_)
  · have hlt' : k < l.length := by simpa using hlt
    obtain ⟨B1, O1, es1, hA, hl1, hr, hm⟩ := sl_get h1 (List.getElem?_eq_getElem hlt')
    obtain ⟨B2, O2, es2, hB, hl2, hr2, hm2⟩ := sl_get h2 (List.getElem?_eq_getElem hlt')
    generalize hx : l[k] = x at *
    refine CW.skip ?_
    refine PW.code ?_
    refine CW.seq ?_
    refine CW.block ?_
    refine CW.seqA (by kernel_rfl) rfl ?_
    refine AW.val rfl (fun _ _ => by refine Jc ?_;exact RW.done rfl) ?_;refine AW.val rfl (fun _ _ => by refine Jc ?_;exact RW.done rfl) ?_
    (apply AW.val rfl; · intro Gx X; (first | refine RW.yes rfl ?_ | skip); refine RW.indexAddrE hA rfl rfl (by omega) hlt rfl ?_; exact RW.done rfl)
    (apply AW.val rfl; · intro Gx X; (first | refine RW.yes rfl ?_ | skip); refine RW.load_ros (cs := es1) rfl hle hm rfl hl1 (by rw [hl1]; decide) rfl ?_; exact RW.done rfl)
    refine AW.val rfl (fun _ _ => by refine Jc ?_;exact RW.done rfl) ?_;refine AW.val rfl (fun _ _ => by refine Jc ?_;exact RW.done rfl) ?_
    (apply AW.val rfl; · intro Gx X; (first | refine RW.yes rfl ?_ | skip); refine RW.indexAddrE hB rfl rfl (by omega) hlt rfl ?_; exact RW.done rfl)
    (apply AW.val rfl; · intro Gx X; (first | refine RW.yes rfl ?_ | skip); refine RW.load_ros (cs := es2) rfl hle hm2 rfl hl2 (by rw [hl2]; decide) rfl ?_; exact RW.done rfl)
    (apply AW.val rfl; · intro Gx X; (first | refine RW.yes rfl ?_ | skip); refine RW.call Tryz.call206 rfl (fun w2 hw => dTerm_ret (hr.mono (ro_call hw)) (hr2.mono (ro_call hw))) rfl ?_; exact RW.done rfl)
    refine AW.val rfl (fun _ _ => by refine Js ?_;exact RW.done rfl) ?_
    refine AW.stop (by kernel_rfl) (by kernel_rfl) fun bs => ?_
    refine Jb ?_
    refine CW.cf rfl ?_
    refine CW.skip ?_
    refine PW.code ?_
    refine CW.region ?_
    refine Jc ?_
    refine RW.add rfl rfl (w64 (by omega) (by omega)) rfl ?_
    refine Jd ?_
    refine RW.nil ?_
    exact PW.again ⟨k + 1, hlt'⟩ ⟨rfl, rfl, rfl, trivial⟩ (fun h => h) (by show l.length - (k + 1) < l.length - k; omega)
  refine CW.exit rfl ?_
  refine PW.code ?_
  refine Ja ?_;refine Jd ?_;refine Jb ?_
  exact CW.ret1 rfl Tryz.results204 rfl rfl fun w hw => ⟨rfl, hw.kp⟩
set_option maxHeartbeats 4000000 in
theorem dGuard_ret {x : kGuard.V} {cs cs2 : List Value} {w : World} (h : Rd kGuard (mem w (fun b => ¬ No b)) cs x) (g : Rd kGuard (mem w (fun b => ¬ No b)) cs2 x) : Ret Tryz.prog 202 [.agg cs.toArray, .agg cs2.toArray] w (.bool true) := by
  obtain ⟨A1, c1, A2, c2, rfl, h0, h2⟩ := Rd.guardT h
  obtain ⟨B1, d1, B2, d2, rfl, g0, g2⟩ := Rd.guardT g
  refine Calls.enter Tryz.func202 rfl _ rfl rfl (S := No) (H := []) trivial ?_
  refine CW.seqR ?_
  refine RW.box_agg (l := [.slice A1 (x.1).length c1, .int .i64 x.2.1, .slice A2 (x.2.2).length c2]) rfl rfl fun b1 _ => ?_
  refine RW.box_agg (l := [.slice B1 (x.1).length d1, .int .i64 x.2.1, .slice B2 (x.2.2).length d2]) rfl rfl fun b2 _ => ?_
  refine Jd ?_;refine Jb ?_;refine Ja ?_;refine Je ?_;refine JB ?_;refine Je ?_;refine JA ?_
  refine RW.call Tryz.call204 rfl (fun w2 hw => dTerms_ret (h0.mono (ro_call hw)) (g0.mono (ro_call hw))) rfl ?_
  refine Jc ?_;refine Jy ?_;refine Je ?_;refine Jy ?_;refine JB ?_;refine Jy ?_;refine Je ?_;refine Jy ?_;refine JA ?_;refine Jy ?_;refine Ea ?_;refine Jv ?_;refine Jc ?_;refine Jy ?_;refine Je ?_;refine Jy ?_;refine JB ?_;refine Jy ?_;refine Je ?_;refine Jy ?_;refine JA ?_;refine Jy ?_
  refine RW.call Tryz.call204 rfl (fun w2 hw => dTerms_ret (h2.mono (ro_call hw)) (g2.mono (ro_call hw))) rfl ?_
  refine Jv ?_;refine Jd ?_;refine Jb ?_
  exact CW.ret1 rfl Tryz.results202 rfl rfl fun w hw => ⟨rfl, hw.kp⟩
set_option maxHeartbeats 4000000 in
theorem dLit_ret {x : kLitT.V} {cs cs2 : List Value} {w : World} (h : Rd kLitT (mem w (fun b => ¬ No b)) cs x) (g : Rd kLitT (mem w (fun b => ¬ No b)) cs2 x) : Ret Tryz.prog 20 [.agg cs.toArray, .agg cs2.toArray] w (.bool true) := by
  obtain ⟨A1, c1, rfl, h2⟩ := Rd.litT h
  obtain ⟨B1, d1, rfl, g2⟩ := Rd.litT g
  refine Calls.enter Tryz.func20 rfl _ rfl rfl (S := No) (H := []) trivial ?_
  refine CW.seqR ?_
  refine RW.box_agg (l := [.bool x.1, .string x.2.1, .slice A1 (x.2.2.1).length c1, .bool x.2.2.2.1, .int .i64 x.2.2.2.2]) rfl rfl fun b1 _ => ?_
  refine RW.box_agg (l := [.bool x.1, .string x.2.1, .slice B1 (x.2.2.1).length d1, .bool x.2.2.2.1, .int .i64 x.2.2.2.2]) rfl rfl fun b2 _ => ?_
  refine Jd ?_;refine Jb ?_;refine Ja ?_;refine Je ?_;refine JB ?_;refine Je ?_;refine JA ?_;refine Ec ?_;refine Jc ?_;refine Jy ?_;refine Je ?_;refine Jy ?_;refine JB ?_;refine Jy ?_;refine Je ?_;refine Jy ?_;refine JA ?_;refine Jy ?_;refine Eb ?_;refine Jv ?_;refine Jc ?_;refine Jy ?_;refine Je ?_;refine Jy ?_;refine JB ?_;refine Jy ?_;refine Je ?_;refine Jy ?_;refine JA ?_;refine Jy ?_
  refine RW.call Tryz.call12 rfl (fun w2 hw => dStrs_ret (h2.mono (ro_call hw)) (g2.mono (ro_call hw))) rfl ?_
  refine Jv ?_;refine Jc ?_;refine Jy ?_;refine Je ?_;refine Jy ?_;refine JB ?_;refine Jy ?_;refine Je ?_;refine Jy ?_;refine JA ?_;refine Jy ?_;refine Ec ?_;refine Jv ?_;refine Jc ?_;refine Jy ?_;refine Je ?_;refine Jy ?_;refine JB ?_;refine Jy ?_;refine Je ?_;refine Jy ?_;refine JA ?_;refine Jy ?_;refine Ea ?_;refine Jv ?_;refine Jd ?_;refine Jb ?_
  exact CW.ret1 rfl Tryz.results20 rfl rfl fun w hw => ⟨rfl, hw.kp⟩
set_option maxHeartbeats 4000000 in
theorem dPrem_ret {x : kPrem.V} {cs cs2 : List Value} {w : World} (h : Rd kPrem (mem w (fun b => ¬ No b)) cs x) (g : Rd kPrem (mem w (fun b => ¬ No b)) cs2 x) : Ret Tryz.prog 195 [.agg cs.toArray, .agg cs2.toArray] w (.bool true) := by
  obtain ⟨A1, c1, A2, c2, A3, c3, rfl, h1, h2⟩ := Rd.premT h
  obtain ⟨B1, d1, B2, d2, B3, d3, rfl, g1, g2⟩ := Rd.premT g
  refine Calls.enter Tryz.func195 rfl _ rfl rfl (S := No) (H := []) trivial ?_
  refine CW.seqR ?_
  refine RW.box_agg (l := [.int .i64 x.1, .bool x.2.1.1, .string x.2.1.2.1, .slice A1 (x.2.1.2.2.1).length c1, .bool x.2.1.2.2.2.1, .int .i64 x.2.1.2.2.2.2, .slice A2 (x.2.2.1.1).length c2, .int .i64 x.2.2.1.2.1, .slice A3 (x.2.2.1.2.2).length c3, .string x.2.2.2.1, .string x.2.2.2.2]) rfl rfl fun b1 _ => ?_
  refine RW.box_agg (l := [.int .i64 x.1, .bool x.2.1.1, .string x.2.1.2.1, .slice B1 (x.2.1.2.2.1).length d1, .bool x.2.1.2.2.2.1, .int .i64 x.2.1.2.2.2.2, .slice B2 (x.2.2.1.1).length d2, .int .i64 x.2.2.1.2.1, .slice B3 (x.2.2.1.2.2).length d3, .string x.2.2.2.1, .string x.2.2.2.2]) rfl rfl fun b2 _ => ?_
  refine Jd ?_;refine Jb ?_;refine Ja ?_;refine Je ?_;refine JB ?_;refine Je ?_;refine JA ?_;refine Ea ?_;refine Jc ?_;refine Jy ?_;refine Je ?_;refine Jy ?_
  refine RW.load_part5 [_] rfl rfl rfl rfl ?_
  refine Jy ?_;refine Je ?_;refine Jy ?_
  refine RW.load_part5 [] rfl rfl rfl rfl ?_
  refine Jy ?_
  refine RW.call Tryz.call20 rfl (fun w2 hw => dLit_ret (h1.mono (ro_call hw)) (g1.mono (ro_call hw))) rfl ?_
  refine Jv ?_;refine Jc ?_;refine Jy ?_;refine Je ?_;refine Jy ?_;refine JJ ?_;refine Jy ?_;refine Je ?_;refine Jy ?_;refine JI ?_;refine Jy ?_
  refine RW.call Tryz.call202 rfl (fun w2 hw => dGuard_ret (h2.mono (ro_call hw)) (g2.mono (ro_call hw))) rfl ?_
  refine Jv ?_;refine Jc ?_;refine Jy ?_;refine Je ?_;refine Jy ?_;refine JB ?_;refine Jy ?_;refine Je ?_;refine Jy ?_;refine JA ?_;refine Jy ?_;refine Eb ?_;refine Jv ?_;refine Jc ?_;refine Jy ?_;refine Je ?_;refine Jy ?_;refine JB ?_;refine Jy ?_;refine Je ?_;refine Jy ?_;refine JA ?_;refine Jy ?_;refine Eb ?_;refine Jv ?_;refine Jd ?_;refine Jb ?_
  exact CW.ret1 rfl Tryz.results195 rfl rfl fun w hw => ⟨rfl, hw.kp⟩
set_option maxHeartbeats 4000000 in
theorem dPrems_ret {A B : Option Addr} {c d : Nat} {l : List kPrem.V} {w : World} (h1 : Rd (.sl 160 kPrem) (mem w (fun b => ¬ No b)) [.slice A l.length c] l) (h2 : Rd (.sl 160 kPrem) (mem w (fun b => ¬ No b)) [.slice B l.length d] l) : Ret Tryz.prog 179 [.slice A l.length c, .slice B l.length d] w (.bool true) := by
  have hsm := sl_small h1
  unfold reach at hsm
  have hle : Mem.le (mem w (fun b => ¬ No b)) (mem w (fun b => ¬ No b)) := Mem.le_refl _
  refine Calls.enter Tryz.func179 rfl _ rfl rfl (S := No) (H := []) trivial ?_
  refine Ja ?_;refine Jd ?_;refine Jb ?_
  refine CW.seq ?_
  refine Ja ?_;refine Jc ?_;refine Jg ?_;refine Jc ?_;refine Jg ?_;refine Jj ?_;refine Jb ?_
  refine CW.ite rfl (fun h => absurd rfl h) (fun _ => ?_)
  refine CW.skip ?_
  refine PW.code ?_
  refine CW.seq ?_
  refine Ja ?_;refine Jd ?_;refine Jb ?_
  refine CW.block ?_
  refine CW.loop (ι := { k : Nat // k ≤ l.length }) (fun k => [(0, .slice A l.length c), (1, .slice B l.length d), (5, .int .i64 k.1)]) (fun _ => []) (fun k => l.length - k.1) ⟨0, Nat.zero_le _⟩ ⟨rfl, rfl, rfl, trivial⟩ (fun h => h) ?_
  intro ⟨k, hk⟩
  dsimp only at hk ⊢
  refine CW.seq ?_
  refine Ja ?_;refine Jc ?_;refine Jc ?_;refine Jg ?_;refine Jk ?_;refine Jb ?_
  refine CW.ite rfl (fun hlt => ?_) (fun hge => ?_)
  · have hlt' : k < l.length := by simpa using hlt
    obtain ⟨B1, O1, es1, hA, hl1, hr, hm⟩ := sl_get h1 (List.getElem?_eq_getElem hlt')
    obtain ⟨B2, O2, es2, hB, hl2, hr2, hm2⟩ := sl_get h2 (List.getElem?_eq_getElem hlt')
    generalize hx : l[k] = x at *
    refine CW.skip ?_
    refine PW.code ?_
    refine CW.seq ?_
    refine CW.block ?_
    refine CW.seqA (by kernel_rfl) rfl ?_
    refine AW.val rfl (fun _ _ => by refine Jc ?_;exact RW.done rfl) ?_;refine AW.val rfl (fun _ _ => by refine Jc ?_;exact RW.done rfl) ?_
    (apply AW.val rfl; · intro Gx X; (first | refine RW.yes rfl ?_ | skip); refine RW.indexAddrE hA rfl rfl (by omega) hlt rfl ?_; exact RW.done rfl)
    (apply AW.val rfl; · intro Gx X; (first | refine RW.yes rfl ?_ | skip); refine RW.load_ros (cs := es1) rfl hle hm rfl hl1 (by rw [hl1]; decide) rfl ?_; exact RW.done rfl)
    refine AW.val rfl (fun _ _ => by refine Jc ?_;exact RW.done rfl) ?_;refine AW.val rfl (fun _ _ => by refine Jc ?_;exact RW.done rfl) ?_
    (apply AW.val rfl; · intro Gx X; (first | refine RW.yes rfl ?_ | skip); refine RW.indexAddrE hB rfl rfl (by omega) hlt rfl ?_; exact RW.done rfl)
    (apply AW.val rfl; · intro Gx X; (first | refine RW.yes rfl ?_ | skip); refine RW.load_ros (cs := es2) rfl hle hm2 rfl hl2 (by rw [hl2]; decide) rfl ?_; exact RW.done rfl)
    (apply AW.val rfl; · intro Gx X; (first | refine RW.yes rfl ?_ | skip); refine RW.call Tryz.call195 rfl (fun w2 hw => dPrem_ret (hr.mono (ro_call hw)) (hr2.mono (ro_call hw))) rfl ?_; exact RW.done rfl)
    refine AW.val rfl (fun _ _ => by refine Js ?_;exact RW.done rfl) ?_
    refine AW.stop (by kernel_rfl) (by kernel_rfl) fun bs => ?_
    refine Jb ?_
    refine CW.cf rfl ?_
    refine CW.skip ?_
    refine PW.code ?_
    refine CW.region ?_
    refine Jc ?_
    refine RW.add rfl rfl (w64 (by omega) (by omega)) rfl ?_
    refine Jd ?_
    refine RW.nil ?_
    exact PW.again ⟨k + 1, hlt'⟩ ⟨rfl, rfl, rfl, trivial⟩ (fun h => h) (by show l.length - (k + 1) < l.length - k; omega)
  refine CW.exit rfl ?_
  refine PW.code ?_
  refine Ja ?_;refine Jd ?_;refine Jb ?_
  exact CW.ret1 rfl Tryz.results179 rfl rfl fun w hw => ⟨rfl, hw.kp⟩
set_option maxHeartbeats 4000000 in
theorem dPred_ret {x : kPredT.V} {cs cs2 : List Value} {w : World} (h : Rd kPredT (mem w (fun b => ¬ No b)) cs x) (g : Rd kPredT (mem w (fun b => ¬ No b)) cs2 x) : Ret Tryz.prog 131 [.agg cs.toArray, .agg cs2.toArray] w (.bool true) := by
  obtain ⟨A1, c1, A2, c2, rfl, h2, h3⟩ := Rd.predT h
  obtain ⟨B1, d1, B2, d2, rfl, g2, g3⟩ := Rd.predT g
  refine Calls.enter Tryz.func131 rfl _ rfl rfl (S := No) (H := []) trivial ?_
  refine CW.seqR ?_
  refine RW.box_agg (l := [.string x.1, .int .i64 x.2.1, .slice A1 (x.2.2.1).length c1, .slice A2 (x.2.2.2).length c2]) rfl rfl fun b1 _ => ?_
  refine RW.box_agg (l := [.string x.1, .int .i64 x.2.1, .slice B1 (x.2.2.1).length d1, .slice B2 (x.2.2.2).length d2]) rfl rfl fun b2 _ => ?_
  refine Jd ?_;refine Jb ?_;refine Ja ?_;refine Je ?_;refine JB ?_;refine Je ?_;refine JA ?_;refine Eb ?_;refine Jc ?_;refine Jy ?_;refine Je ?_;refine Jy ?_;refine JB ?_;refine Jy ?_;refine Je ?_;refine Jy ?_;refine JA ?_;refine Jy ?_;refine Ea ?_;refine Jv ?_;refine Jc ?_;refine Jy ?_;refine Je ?_;refine Jy ?_;refine JB ?_;refine Jy ?_;refine Je ?_;refine Jy ?_;refine JA ?_;refine Jy ?_
  refine RW.call Tryz.call12 rfl (fun w2 hw => dStrs_ret (h2.mono (ro_call hw)) (g2.mono (ro_call hw))) rfl ?_
  refine Jv ?_;refine Jc ?_;refine Jy ?_;refine Je ?_;refine Jy ?_;refine JB ?_;refine Jy ?_;refine Je ?_;refine Jy ?_;refine JA ?_;refine Jy ?_
  refine RW.call Tryz.call178 rfl (fun w2 hw => dMoney_ret (h3.mono (ro_call hw)) (g3.mono (ro_call hw))) rfl ?_
  refine Jv ?_;refine Jd ?_;refine Jb ?_
  exact CW.ret1 rfl Tryz.results131 rfl rfl fun w hw => ⟨rfl, hw.kp⟩
set_option maxHeartbeats 4000000 in
theorem dPreds_ret {A B : Option Addr} {c d : Nat} {l : List kPredT.V} {w : World} (h1 : Rd (.sl 72 kPredT) (mem w (fun b => ¬ No b)) [.slice A l.length c] l) (h2 : Rd (.sl 72 kPredT) (mem w (fun b => ¬ No b)) [.slice B l.length d] l) : Ret Tryz.prog 46 [.slice A l.length c, .slice B l.length d] w (.bool true) := by
  have hsm := sl_small h1
  unfold reach at hsm
  have hle : Mem.le (mem w (fun b => ¬ No b)) (mem w (fun b => ¬ No b)) := Mem.le_refl _
  refine Calls.enter Tryz.func46 rfl _ rfl rfl (S := No) (H := []) trivial ?_
  refine Ja ?_;refine Jd ?_;refine Jb ?_
  refine CW.seq ?_
  refine Ja ?_;refine Jc ?_;refine Jg ?_;refine Jc ?_;refine Jg ?_;refine Jj ?_;refine Jb ?_
  refine CW.ite rfl (fun h => absurd rfl h) (fun _ => ?_)
  refine CW.skip ?_
  refine PW.code ?_
  refine CW.seq ?_
  refine Ja ?_;refine Jd ?_;refine Jb ?_
  refine CW.block ?_
  refine CW.loop (ι := { k : Nat // k ≤ l.length }) (fun k => [(0, .slice A l.length c), (1, .slice B l.length d), (5, .int .i64 k.1)]) (fun _ => []) (fun k => l.length - k.1) ⟨0, Nat.zero_le _⟩ ⟨rfl, rfl, rfl, trivial⟩ (fun h => h) ?_
  intro ⟨k, hk⟩
  dsimp only at hk ⊢
  refine CW.seq ?_
  refine Ja ?_;refine Jc ?_;refine Jc ?_;refine Jg ?_;refine Jk ?_;refine Jb ?_
  refine CW.ite rfl (fun hlt => ?_) (fun hge => ?_)
  · have hlt' : k < l.length := by simpa using hlt
    obtain ⟨B1, O1, es1, hA, hl1, hr, hm⟩ := sl_get h1 (List.getElem?_eq_getElem hlt')
    obtain ⟨B2, O2, es2, hB, hl2, hr2, hm2⟩ := sl_get h2 (List.getElem?_eq_getElem hlt')
    generalize hx : l[k] = x at *
    refine CW.skip ?_
    refine PW.code ?_
    refine CW.seq ?_
    refine CW.block ?_
    refine CW.seqA (by kernel_rfl) rfl ?_
    refine AW.val rfl (fun _ _ => by refine Jc ?_;exact RW.done rfl) ?_;refine AW.val rfl (fun _ _ => by refine Jc ?_;exact RW.done rfl) ?_
    (apply AW.val rfl; · intro Gx X; (first | refine RW.yes rfl ?_ | skip); refine RW.indexAddrE hA rfl rfl (by omega) hlt rfl ?_; exact RW.done rfl)
    (apply AW.val rfl; · intro Gx X; (first | refine RW.yes rfl ?_ | skip); refine RW.load_ros (cs := es1) rfl hle hm rfl hl1 (by rw [hl1]; decide) rfl ?_; exact RW.done rfl)
    refine AW.val rfl (fun _ _ => by refine Jc ?_;exact RW.done rfl) ?_;refine AW.val rfl (fun _ _ => by refine Jc ?_;exact RW.done rfl) ?_
    (apply AW.val rfl; · intro Gx X; (first | refine RW.yes rfl ?_ | skip); refine RW.indexAddrE hB rfl rfl (by omega) hlt rfl ?_; exact RW.done rfl)
    (apply AW.val rfl; · intro Gx X; (first | refine RW.yes rfl ?_ | skip); refine RW.load_ros (cs := es2) rfl hle hm2 rfl hl2 (by rw [hl2]; decide) rfl ?_; exact RW.done rfl)
    (apply AW.val rfl; · intro Gx X; (first | refine RW.yes rfl ?_ | skip); refine RW.call Tryz.call131 rfl (fun w2 hw => dPred_ret (hr.mono (ro_call hw)) (hr2.mono (ro_call hw))) rfl ?_; exact RW.done rfl)
    refine AW.val rfl (fun _ _ => by refine Js ?_;exact RW.done rfl) ?_
    refine AW.stop (by kernel_rfl) (by kernel_rfl) fun bs => ?_
    refine Jb ?_
    refine CW.cf rfl ?_
    refine CW.skip ?_
    refine PW.code ?_
    refine CW.region ?_
    refine Jc ?_
    refine RW.add rfl rfl (w64 (by omega) (by omega)) rfl ?_
    refine Jd ?_
    refine RW.nil ?_
    exact PW.again ⟨k + 1, hlt'⟩ ⟨rfl, rfl, rfl, trivial⟩ (fun h => h) (by show l.length - (k + 1) < l.length - k; omega)
  refine CW.exit rfl ?_
  refine PW.code ?_
  refine Ja ?_;refine Jd ?_;refine Jb ?_
  exact CW.ret1 rfl Tryz.results46 rfl rfl fun w hw => ⟨rfl, hw.kp⟩
set_option maxHeartbeats 4000000 in
theorem dRule_ret {x : kRule.V} {cs cs2 : List Value} {w : World} (h : Rd kRule (mem w (fun b => ¬ No b)) cs x) (g : Rd kRule (mem w (fun b => ¬ No b)) cs2 x) : Ret Tryz.prog 132 [.agg cs.toArray, .agg cs2.toArray] w (.bool true) := by
  obtain ⟨A1, c1, A2, c2, rfl, h4, h6⟩ := Rd.ruleT h
  obtain ⟨B1, d1, B2, d2, rfl, g4, g6⟩ := Rd.ruleT g
  refine Calls.enter Tryz.func132 rfl _ rfl rfl (S := No) (H := []) trivial ?_
  refine CW.seqR ?_
  refine RW.box_agg (l := [.string x.1, .string x.2.1, .int .i64 x.2.2.1, .int .i64 x.2.2.2.1, .slice A1 (x.2.2.2.2.1).length c1, .int .i64 x.2.2.2.2.2.1, .bool x.2.2.2.2.2.2.1, .string x.2.2.2.2.2.2.2.1, .slice A2 (x.2.2.2.2.2.2.2.2.1).length c2, .bool x.2.2.2.2.2.2.2.2.2.1, .int .i64 x.2.2.2.2.2.2.2.2.2.2]) rfl rfl fun b1 _ => ?_
  refine RW.box_agg (l := [.string x.1, .string x.2.1, .int .i64 x.2.2.1, .int .i64 x.2.2.2.1, .slice B1 (x.2.2.2.2.1).length d1, .int .i64 x.2.2.2.2.2.1, .bool x.2.2.2.2.2.2.1, .string x.2.2.2.2.2.2.2.1, .slice B2 (x.2.2.2.2.2.2.2.2.1).length d2, .bool x.2.2.2.2.2.2.2.2.2.1, .int .i64 x.2.2.2.2.2.2.2.2.2.2]) rfl rfl fun b2 _ => ?_
  refine Jd ?_;refine Jb ?_;refine Ja ?_;refine Je ?_;refine JB ?_;refine Je ?_;refine JA ?_;refine Eb ?_;refine Jc ?_;refine Jy ?_;refine Je ?_;refine Jy ?_;refine JB ?_;refine Jy ?_;refine Je ?_;refine Jy ?_;refine JA ?_;refine Jy ?_;refine Eb ?_;refine Jv ?_;refine Jc ?_;refine Jy ?_;refine Je ?_;refine Jy ?_;refine JB ?_;refine Jy ?_;refine Je ?_;refine Jy ?_;refine JA ?_;refine Jy ?_;refine Ea ?_;refine Jv ?_;refine Jc ?_;refine Jy ?_;refine Je ?_;refine Jy ?_;refine JB ?_;refine Jy ?_;refine Je ?_;refine Jy ?_;refine JA ?_;refine Jy ?_;refine Ea ?_;refine Jv ?_;refine Jc ?_;refine Jy ?_;refine Je ?_;refine Jy ?_;refine JB ?_;refine Jy ?_;refine Je ?_;refine Jy ?_;refine JA ?_;refine Jy ?_
  refine RW.call Tryz.call179 rfl (fun w2 hw => dPrems_ret (h4.mono (ro_call hw)) (g4.mono (ro_call hw))) rfl ?_
  refine Jv ?_;refine Jc ?_;refine Jy ?_;refine Je ?_;refine Jy ?_;refine JB ?_;refine Jy ?_;refine Je ?_;refine Jy ?_;refine JA ?_;refine Jy ?_;refine Ea ?_;refine Jv ?_;refine Jc ?_;refine Jy ?_;refine Je ?_;refine Jy ?_
  refine RW.load_part5 [_] rfl rfl rfl rfl ?_
  refine Jy ?_;refine Je ?_;refine Jy ?_
  refine RW.load_part5 [] rfl rfl rfl rfl ?_
  refine Jy ?_
  refine RW.call Tryz.call20 rfl (fun w2 hw => dLit_ret (h6.mono (ro_call hw)) (g6.mono (ro_call hw))) rfl ?_
  refine Jv ?_;refine Jd ?_;refine Jb ?_
  exact CW.ret1 rfl Tryz.results132 rfl rfl fun w hw => ⟨rfl, hw.kp⟩
set_option maxHeartbeats 4000000 in
theorem dRules_ret {A B : Option Addr} {c d : Nat} {l : List kRule.V} {w : World} (h1 : Rd (.sl 144 kRule) (mem w (fun b => ¬ No b)) [.slice A l.length c] l) (h2 : Rd (.sl 144 kRule) (mem w (fun b => ¬ No b)) [.slice B l.length d] l) : Ret Tryz.prog 49 [.slice A l.length c, .slice B l.length d] w (.bool true) := by
  have hsm := sl_small h1
  unfold reach at hsm
  have hle : Mem.le (mem w (fun b => ¬ No b)) (mem w (fun b => ¬ No b)) := Mem.le_refl _
  refine Calls.enter Tryz.func49 rfl _ rfl rfl (S := No) (H := []) trivial ?_
  refine Ja ?_;refine Jd ?_;refine Jb ?_
  refine CW.seq ?_
  refine Ja ?_;refine Jc ?_;refine Jg ?_;refine Jc ?_;refine Jg ?_;refine Jj ?_;refine Jb ?_
  refine CW.ite rfl (fun h => absurd rfl h) (fun _ => ?_)
  refine CW.skip ?_
  refine PW.code ?_
  refine CW.seq ?_
  refine Ja ?_;refine Jd ?_;refine Jb ?_
  refine CW.block ?_
  refine CW.loop (ι := { k : Nat // k ≤ l.length }) (fun k => [(0, .slice A l.length c), (1, .slice B l.length d), (5, .int .i64 k.1)]) (fun _ => []) (fun k => l.length - k.1) ⟨0, Nat.zero_le _⟩ ⟨rfl, rfl, rfl, trivial⟩ (fun h => h) ?_
  intro ⟨k, hk⟩
  dsimp only at hk ⊢
  refine CW.seq ?_
  refine Ja ?_;refine Jc ?_;refine Jc ?_;refine Jg ?_;refine Jk ?_;refine Jb ?_
  refine CW.ite rfl (fun hlt => ?_) (fun hge => ?_)
  · have hlt' : k < l.length := by simpa using hlt
    obtain ⟨B1, O1, es1, hA, hl1, hr, hm⟩ := sl_get h1 (List.getElem?_eq_getElem hlt')
    obtain ⟨B2, O2, es2, hB, hl2, hr2, hm2⟩ := sl_get h2 (List.getElem?_eq_getElem hlt')
    generalize hx : l[k] = x at *
    refine CW.skip ?_
    refine PW.code ?_
    refine CW.seq ?_
    refine CW.block ?_
    refine CW.seqA (by kernel_rfl) rfl ?_
    refine AW.val rfl (fun _ _ => by refine Jc ?_;exact RW.done rfl) ?_;refine AW.val rfl (fun _ _ => by refine Jc ?_;exact RW.done rfl) ?_
    (apply AW.val rfl; · intro Gx X; (first | refine RW.yes rfl ?_ | skip); refine RW.indexAddrE hA rfl rfl (by omega) hlt rfl ?_; exact RW.done rfl)
    (apply AW.val rfl; · intro Gx X; (first | refine RW.yes rfl ?_ | skip); refine RW.load_ros (cs := es1) rfl hle hm rfl hl1 (by rw [hl1]; decide) rfl ?_; exact RW.done rfl)
    refine AW.val rfl (fun _ _ => by refine Jc ?_;exact RW.done rfl) ?_;refine AW.val rfl (fun _ _ => by refine Jc ?_;exact RW.done rfl) ?_
    (apply AW.val rfl; · intro Gx X; (first | refine RW.yes rfl ?_ | skip); refine RW.indexAddrE hB rfl rfl (by omega) hlt rfl ?_; exact RW.done rfl)
    (apply AW.val rfl; · intro Gx X; (first | refine RW.yes rfl ?_ | skip); refine RW.load_ros (cs := es2) rfl hle hm2 rfl hl2 (by rw [hl2]; decide) rfl ?_; exact RW.done rfl)
    (apply AW.val rfl; · intro Gx X; (first | refine RW.yes rfl ?_ | skip); refine RW.call Tryz.call132 rfl (fun w2 hw => dRule_ret (hr.mono (ro_call hw)) (hr2.mono (ro_call hw))) rfl ?_; exact RW.done rfl)
    refine AW.val rfl (fun _ _ => by refine Js ?_;exact RW.done rfl) ?_
    refine AW.stop (by kernel_rfl) (by kernel_rfl) fun bs => ?_
    refine Jb ?_
    refine CW.cf rfl ?_
    refine CW.skip ?_
    refine PW.code ?_
    refine CW.region ?_
    refine Jc ?_
    refine RW.add rfl rfl (w64 (by omega) (by omega)) rfl ?_
    refine Jd ?_
    refine RW.nil ?_
    exact PW.again ⟨k + 1, hlt'⟩ ⟨rfl, rfl, rfl, trivial⟩ (fun h => h) (by show l.length - (k + 1) < l.length - k; omega)
  refine CW.exit rfl ?_
  refine PW.code ?_
  refine Ja ?_;refine Jd ?_;refine Jb ?_
  exact CW.ret1 rfl Tryz.results49 rfl rfl fun w hw => ⟨rfl, hw.kp⟩
set_option maxHeartbeats 4000000 in
theorem dTotal_ret {x : kTotal.V} {cs cs2 : List Value} {w : World} (h : Rd kTotal (mem w (fun b => ¬ No b)) cs x) (g : Rd kTotal (mem w (fun b => ¬ No b)) cs2 x) : Ret Tryz.prog 133 [.agg cs.toArray, .agg cs2.toArray] w (.bool true) := by
  obtain ⟨A1, c1, rfl, h2⟩ := Rd.totalT h
  obtain ⟨B1, d1, rfl, g2⟩ := Rd.totalT g
  refine Calls.enter Tryz.func133 rfl _ rfl rfl (S := No) (H := []) trivial ?_
  refine CW.seqR ?_
  refine RW.box_agg (l := [.string x.1, .string x.2.1, .slice A1 (x.2.2.1).length c1, .bool x.2.2.2.1, .int .i64 x.2.2.2.2]) rfl rfl fun b1 _ => ?_
  refine RW.box_agg (l := [.string x.1, .string x.2.1, .slice B1 (x.2.2.1).length d1, .bool x.2.2.2.1, .int .i64 x.2.2.2.2]) rfl rfl fun b2 _ => ?_
  refine Jd ?_;refine Jb ?_;refine Ja ?_;refine Je ?_;refine JB ?_;refine Je ?_;refine JA ?_;refine Eb ?_;refine Jc ?_;refine Jy ?_;refine Je ?_;refine Jy ?_;refine JB ?_;refine Jy ?_;refine Je ?_;refine Jy ?_;refine JA ?_;refine Jy ?_;refine Eb ?_;refine Jv ?_;refine Jc ?_;refine Jy ?_;refine Je ?_;refine Jy ?_;refine JB ?_;refine Jy ?_;refine Je ?_;refine Jy ?_;refine JA ?_;refine Jy ?_
  refine RW.call Tryz.call12 rfl (fun w2 hw => dStrs_ret (h2.mono (ro_call hw)) (g2.mono (ro_call hw))) rfl ?_
  refine Jv ?_;refine Jc ?_;refine Jy ?_;refine Je ?_;refine Jy ?_;refine JB ?_;refine Jy ?_;refine Je ?_;refine Jy ?_;refine JA ?_;refine Jy ?_;refine Ec ?_;refine Jv ?_;refine Jc ?_;refine Jy ?_;refine Je ?_;refine Jy ?_;refine JB ?_;refine Jy ?_;refine Je ?_;refine Jy ?_;refine JA ?_;refine Jy ?_;refine Ea ?_;refine Jv ?_;refine Jd ?_;refine Jb ?_
  exact CW.ret1 rfl Tryz.results133 rfl rfl fun w hw => ⟨rfl, hw.kp⟩
set_option maxHeartbeats 4000000 in
theorem dTotals_ret {A B : Option Addr} {c d : Nat} {l : List kTotal.V} {w : World} (h1 : Rd (.sl 72 kTotal) (mem w (fun b => ¬ No b)) [.slice A l.length c] l) (h2 : Rd (.sl 72 kTotal) (mem w (fun b => ¬ No b)) [.slice B l.length d] l) : Ret Tryz.prog 51 [.slice A l.length c, .slice B l.length d] w (.bool true) := by
  have hsm := sl_small h1
  unfold reach at hsm
  have hle : Mem.le (mem w (fun b => ¬ No b)) (mem w (fun b => ¬ No b)) := Mem.le_refl _
  refine Calls.enter Tryz.func51 rfl _ rfl rfl (S := No) (H := []) trivial ?_
  refine Ja ?_;refine Jd ?_;refine Jb ?_
  refine CW.seq ?_
  refine Ja ?_;refine Jc ?_;refine Jg ?_;refine Jc ?_;refine Jg ?_;refine Jj ?_;refine Jb ?_
  refine CW.ite rfl (fun h => absurd rfl h) (fun _ => ?_)
  refine CW.skip ?_
  refine PW.code ?_
  refine CW.seq ?_
  refine Ja ?_;refine Jd ?_;refine Jb ?_
  refine CW.block ?_
  refine CW.loop (ι := { k : Nat // k ≤ l.length }) (fun k => [(0, .slice A l.length c), (1, .slice B l.length d), (5, .int .i64 k.1)]) (fun _ => []) (fun k => l.length - k.1) ⟨0, Nat.zero_le _⟩ ⟨rfl, rfl, rfl, trivial⟩ (fun h => h) ?_
  intro ⟨k, hk⟩
  dsimp only at hk ⊢
  refine CW.seq ?_
  refine Ja ?_;refine Jc ?_;refine Jc ?_;refine Jg ?_;refine Jk ?_;refine Jb ?_
  refine CW.ite rfl (fun hlt => ?_) (fun hge => ?_)
  · have hlt' : k < l.length := by simpa using hlt
    obtain ⟨B1, O1, es1, hA, hl1, hr, hm⟩ := sl_get h1 (List.getElem?_eq_getElem hlt')
    obtain ⟨B2, O2, es2, hB, hl2, hr2, hm2⟩ := sl_get h2 (List.getElem?_eq_getElem hlt')
    generalize hx : l[k] = x at *
    refine CW.skip ?_
    refine PW.code ?_
    refine CW.seq ?_
    refine CW.block ?_
    refine CW.seqA (by kernel_rfl) rfl ?_
    refine AW.val rfl (fun _ _ => by refine Jc ?_;exact RW.done rfl) ?_;refine AW.val rfl (fun _ _ => by refine Jc ?_;exact RW.done rfl) ?_
    (apply AW.val rfl; · intro Gx X; (first | refine RW.yes rfl ?_ | skip); refine RW.indexAddrE hA rfl rfl (by omega) hlt rfl ?_; exact RW.done rfl)
    (apply AW.val rfl; · intro Gx X; (first | refine RW.yes rfl ?_ | skip); refine RW.load_ros (cs := es1) rfl hle hm rfl hl1 (by rw [hl1]; decide) rfl ?_; exact RW.done rfl)
    refine AW.val rfl (fun _ _ => by refine Jc ?_;exact RW.done rfl) ?_;refine AW.val rfl (fun _ _ => by refine Jc ?_;exact RW.done rfl) ?_
    (apply AW.val rfl; · intro Gx X; (first | refine RW.yes rfl ?_ | skip); refine RW.indexAddrE hB rfl rfl (by omega) hlt rfl ?_; exact RW.done rfl)
    (apply AW.val rfl; · intro Gx X; (first | refine RW.yes rfl ?_ | skip); refine RW.load_ros (cs := es2) rfl hle hm2 rfl hl2 (by rw [hl2]; decide) rfl ?_; exact RW.done rfl)
    (apply AW.val rfl; · intro Gx X; (first | refine RW.yes rfl ?_ | skip); refine RW.call Tryz.call133 rfl (fun w2 hw => dTotal_ret (hr.mono (ro_call hw)) (hr2.mono (ro_call hw))) rfl ?_; exact RW.done rfl)
    refine AW.val rfl (fun _ _ => by refine Js ?_;exact RW.done rfl) ?_
    refine AW.stop (by kernel_rfl) (by kernel_rfl) fun bs => ?_
    refine Jb ?_
    refine CW.cf rfl ?_
    refine CW.skip ?_
    refine PW.code ?_
    refine CW.region ?_
    refine Jc ?_
    refine RW.add rfl rfl (w64 (by omega) (by omega)) rfl ?_
    refine Jd ?_
    refine RW.nil ?_
    exact PW.again ⟨k + 1, hlt'⟩ ⟨rfl, rfl, rfl, trivial⟩ (fun h => h) (by show l.length - (k + 1) < l.length - k; omega)
  refine CW.exit rfl ?_
  refine PW.code ?_
  refine Ja ?_;refine Jd ?_;refine Jb ?_
  exact CW.ret1 rfl Tryz.results51 rfl rfl fun w hw => ⟨rfl, hw.kp⟩
set_option maxHeartbeats 8000000 in
theorem dStat_ret {s : kStat.V} {x y : RC} {w : World} (h : StatOn (mem w (fun b => ¬ No b)) s x) (g : StatOn (mem w (fun b => ¬ No b)) s y) : Ret Tryz.prog 14 [.agg (x.stat s).toArray, .agg (y.stat s).toArray] w (.bool true) := by
  refine Calls.enter Tryz.func14 rfl _ rfl rfl (S := No) (H := []) trivial ?_
  refine CW.seqR ?_
  refine RW.box_agg (l := x.stat s) rfl rfl fun b1 _ => ?_
  refine RW.box_agg (l := y.stat s) rfl rfl fun b2 _ => ?_
  refine Jd ?_;refine Jb ?_;refine Ja ?_;refine Je ?_;refine JB ?_;refine Je ?_;refine JA ?_;refine Eb ?_;refine Jc ?_;refine Jy ?_;refine Je ?_;refine Jy ?_;refine JB ?_;refine Jy ?_;refine Je ?_;refine Jy ?_;refine JA ?_;refine Jy ?_
  refine RW.call Tryz.call12 rfl (fun w2 hw => dStrs_ret ((StatOn.mono h (ro_call hw)).kinds) ((StatOn.mono g (ro_call hw)).kinds)) rfl ?_
  refine Jv ?_;refine Jc ?_;refine Jy ?_;refine Je ?_;refine Jy ?_;refine JB ?_;refine Jy ?_;refine Je ?_;refine Jy ?_;refine JA ?_;refine Jy ?_
  refine RW.call Tryz.call45 rfl (fun w2 hw => dMembers_ret ((StatOn.mono h (ro_call hw)).members) ((StatOn.mono g (ro_call hw)).members)) rfl ?_
  refine Jv ?_;refine Jc ?_;refine Jy ?_;refine Je ?_;refine Jy ?_;refine JB ?_;refine Jy ?_;refine Je ?_;refine Jy ?_;refine JA ?_;refine Jy ?_
  refine RW.call Tryz.call46 rfl (fun w2 hw => dPreds_ret ((StatOn.mono h (ro_call hw)).preds) ((StatOn.mono g (ro_call hw)).preds)) rfl ?_
  refine Jv ?_;refine Jc ?_;refine Jy ?_;refine Je ?_;refine Jy ?_;refine JB ?_;refine Jy ?_;refine Je ?_;refine Jy ?_;refine JA ?_;refine Jy ?_
  refine RW.call Tryz.call47 rfl (fun w2 hw => dLists_ret ((StatOn.mono h (ro_call hw)).classes) ((StatOn.mono g (ro_call hw)).classes)) rfl ?_
  refine Jv ?_;refine Jc ?_;refine Jy ?_;refine Je ?_;refine Jy ?_;refine JB ?_;refine Jy ?_;refine Je ?_;refine Jy ?_;refine JA ?_;refine Jy ?_
  refine RW.call Tryz.call48 rfl (fun w2 hw => dSources_ret ((StatOn.mono h (ro_call hw)).sources) ((StatOn.mono g (ro_call hw)).sources)) rfl ?_
  refine Jv ?_;refine Jc ?_;refine Jy ?_;refine Je ?_;refine Jy ?_;refine JB ?_;refine Jy ?_;refine Je ?_;refine Jy ?_;refine JA ?_;refine Jy ?_
  refine RW.call Tryz.call49 rfl (fun w2 hw => dRules_ret ((StatOn.mono h (ro_call hw)).rules) ((StatOn.mono g (ro_call hw)).rules)) rfl ?_
  refine Jv ?_;refine Jc ?_;refine Jy ?_;refine Je ?_;refine Jy ?_;refine JB ?_;refine Jy ?_;refine Je ?_;refine Jy ?_;refine JA ?_;refine Jy ?_
  refine RW.call Tryz.call50 rfl (fun w2 hw => dExcepts_ret ((StatOn.mono h (ro_call hw)).excepts) ((StatOn.mono g (ro_call hw)).excepts)) rfl ?_
  refine Jv ?_;refine Jc ?_;refine Jy ?_;refine Je ?_;refine Jy ?_;refine JB ?_;refine Jy ?_;refine Je ?_;refine Jy ?_;refine JA ?_;refine Jy ?_
  refine RW.call Tryz.call51 rfl (fun w2 hw => dTotals_ret ((StatOn.mono h (ro_call hw)).totals) ((StatOn.mono g (ro_call hw)).totals)) rfl ?_
  refine Jv ?_;refine Jd ?_;refine Jb ?_
  exact CW.ret1 rfl Tryz.results14 rfl rfl fun w hw => ⟨rfl, hw.kp⟩
end Go.Proofs.YtkfmlekomfnleaaGreat
/- The types of chapter 08 as kinds of data. -/
set_option linter.unusedVariables false
set_option linter.unusedSimpArgs false
namespace Go.Proofs.YtkfmlekomfnleaaGreat
open Go Go.RowKit

theorem ty_int : TyK Tryz.prog 3 kI := .int Tryz.underlying3
theorem ty_int64 : TyK Tryz.prog 2 kI := .int Tryz.underlying2
theorem ty_money : TyK Tryz.prog 49 kI := .int Tryz.underlying49
theorem ty_sort : TyK Tryz.prog 148 kI := .int Tryz.underlying148
theorem ty_bool : TyK Tryz.prog 4 .bool := .bool Tryz.underlying4
theorem ty_str : TyK Tryz.prog 9 .str := .str Tryz.underlying9
theorem ty_moneys : TyK Tryz.prog 149 kInts := .sl Tryz.underlying149 (by kernel_rfl) (by kernel_rfl) ty_money
theorem ty_strs : TyK Tryz.prog 22 kStrs := .sl Tryz.underlying22 (by kernel_rfl) (by kernel_rfl) ty_str
theorem ty_member : TyK Tryz.prog 158 kMember := .st Tryz.underlying158 (by kernel_rfl) (.cons rfl (by kernel_rfl) ty_str (.one rfl (by kernel_rfl) ty_str))
theorem ty_predT : TyK Tryz.prog 151 kPredT := .st Tryz.underlying151 (by kernel_rfl) (.cons rfl (by kernel_rfl) ty_str (.cons rfl (by kernel_rfl) ty_sort (.cons rfl (by kernel_rfl) ty_strs (.one rfl (by kernel_rfl) ty_moneys))))
theorem ty_source : TyK Tryz.prog 161 kSource := .st Tryz.underlying161 (by kernel_rfl) (.cons rfl (by kernel_rfl) ty_str (.one rfl (by kernel_rfl) ty_int))
theorem ty_litT : TyK Tryz.prog 51 kLitT := .st Tryz.underlying51 (by kernel_rfl) (.cons rfl (by kernel_rfl) ty_bool (.cons rfl (by kernel_rfl) ty_str (.cons rfl (by kernel_rfl) ty_strs (.cons rfl (by kernel_rfl) ty_bool (.one rfl (by kernel_rfl) ty_money)))))
theorem ty_term : TyK Tryz.prog 207 kTerm := .st Tryz.underlying207 (by kernel_rfl) (.cons rfl (by kernel_rfl) ty_int64 (.cons rfl (by kernel_rfl) ty_str (.cons rfl (by kernel_rfl) ty_strs (.one rfl (by kernel_rfl) ty_money))))
theorem ty_terms : TyK Tryz.prog 140 kTerms := .sl Tryz.underlying140 (by kernel_rfl) (by kernel_rfl) ty_term
theorem ty_op : TyK Tryz.prog 141 kI := .int Tryz.underlying141
theorem ty_guard : TyK Tryz.prog 143 kGuard := .st Tryz.underlying143 (by kernel_rfl) (.cons rfl (by kernel_rfl) ty_terms (.cons rfl (by kernel_rfl) ty_op (.one rfl (by kernel_rfl) ty_terms)))
theorem ty_premK : TyK Tryz.prog 139 kI := .int Tryz.underlying139
theorem ty_prem : TyK Tryz.prog 145 kPrem := .st Tryz.underlying145 (by kernel_rfl) (.cons rfl (by kernel_rfl) ty_premK (.cons rfl (by kernel_rfl) ty_litT (.cons rfl (by kernel_rfl) ty_guard (.cons rfl (by kernel_rfl) ty_str (.one rfl (by kernel_rfl) ty_str)))))
theorem ty_prems : TyK Tryz.prog 117 kPrems := .sl Tryz.underlying117 (by kernel_rfl) (by kernel_rfl) ty_prem
theorem ty_date : TyK Tryz.prog 116 kI := .int Tryz.underlying116
theorem ty_arrow : TyK Tryz.prog 118 kI := .int Tryz.underlying118
theorem ty_rule : TyK Tryz.prog 120 kRule := .st Tryz.underlying120 (by kernel_rfl) (.cons rfl (by kernel_rfl) ty_str (.cons rfl (by kernel_rfl) ty_str (.cons rfl (by kernel_rfl) ty_date (.cons rfl (by kernel_rfl) ty_date (.cons rfl (by kernel_rfl) ty_prems (.cons rfl (by kernel_rfl) ty_arrow (.one rfl (by kernel_rfl) ty_litT)))))))
theorem ty_exc : TyK Tryz.prog 164 kExc := .st Tryz.underlying164 (by kernel_rfl) (.cons rfl (by kernel_rfl) ty_str (.one rfl (by kernel_rfl) ty_str))
theorem ty_total : TyK Tryz.prog 166 kTotal := .st Tryz.underlying166 (by kernel_rfl) (.cons rfl (by kernel_rfl) ty_str (.cons rfl (by kernel_rfl) ty_str (.cons rfl (by kernel_rfl) ty_strs (.cons rfl (by kernel_rfl) ty_bool (.one rfl (by kernel_rfl) ty_money)))))
theorem ty_stat : TyK Tryz.prog 31 kStat := .st Tryz.underlying31 (by kernel_rfl) (.cons rfl (by kernel_rfl) ty_str (.cons rfl (by kernel_rfl) ty_strs (.cons rfl (by kernel_rfl) (.sl Tryz.underlying23 (by kernel_rfl) (by kernel_rfl) ty_member) (.cons rfl (by kernel_rfl) (.sl Tryz.underlying24 (by kernel_rfl) (by kernel_rfl) ty_predT) (.cons rfl (by kernel_rfl) (.sl Tryz.underlying25 (by kernel_rfl) (by kernel_rfl) ty_strs)
  (.cons rfl (by kernel_rfl) (.sl Tryz.underlying26 (by kernel_rfl) (by kernel_rfl) ty_source) (.cons rfl (by kernel_rfl) (.sl Tryz.underlying27 (by kernel_rfl) (by kernel_rfl) ty_rule) (.cons rfl (by kernel_rfl) (.sl Tryz.underlying28 (by kernel_rfl) (by kernel_rfl) ty_exc) (.one rfl (by kernel_rfl) (.sl Tryz.underlying29 (by kernel_rfl) (by kernel_rfl) ty_total))))))))))
/-- A statute, its slices named. -/
theorem rd_stat {M : Mem} {cs : List Value} {s : kStat.V} (h : Rd kStat M cs s) : ∃ x : RC, cs = x.stat s ∧ StatOn M s x := by
  obtain ⟨c0, r0, rfl, h0, c1, r1, rfl, h1, c2, r2, rfl, h2, c3, r3, rfl, h3, c4, r4, rfl, h4, c5, r5, rfl, h5, c6, r6, rfl, h6, c7, r7, rfl, h7, h8⟩ := h
  obtain rfl := str_cell h0
  obtain ⟨A1, k1, rfl⟩ := sl_cell h1
  obtain ⟨A2, k2, rfl⟩ := sl_cell h2
  obtain ⟨A3, k3, rfl⟩ := sl_cell h3
  obtain ⟨A4, k4, rfl⟩ := sl_cell h4
  obtain ⟨A5, k5, rfl⟩ := sl_cell h5
  obtain ⟨A6, k6, rfl⟩ := sl_cell h6
  obtain ⟨A7, k7, rfl⟩ := sl_cell h7
  obtain ⟨A8, k8, rfl⟩ := sl_cell h8
  exact ⟨⟨A1, A2, A3, A4, A5, A6, A7, A8, k1, k2, k3, k4, k5, k6, k7, k8, 0, 0, 0, 0, 0, 0⟩, rfl, h1, h2, h3, h4, h5, h6, h7, h8⟩
end Go.Proofs.YtkfmlekomfnleaaGreat
/- The law of literals, walked. Conditions: none. -/
set_option linter.unusedVariables false
set_option linter.unusedSimpArgs false
set_option maxRecDepth 10000
namespace Go.Proofs.YtkfmlekomfnleaaGreat
open Go Go.RowKit Go.MapKept

def rcN (L : List Nat) : RC := ⟨adrN (L.getD 0 0), adrN (L.getD 1 0), adrN (L.getD 2 0), adrN (L.getD 3 0), adrN (L.getD 4 0), adrN (L.getD 5 0), adrN (L.getD 6 0), adrN (L.getD 7 0), L.getD 8 0, L.getD 9 0, L.getD 10 0, L.getD 11 0, L.getD 12 0, L.getD 13 0, L.getD 14 0, L.getD 15 0, 0, 0, 0, 0, 0, 0⟩
theorem rc_code {y : RC} (h1 : OwnA y.A1) (h2 : OwnA y.A2) (h3 : OwnA y.A3) (h4 : OwnA y.A4) (h5 : OwnA y.A5) (h6 : OwnA y.A6) (h7 : OwnA y.A7) (h8 : OwnA y.A8) : ∃ n, ∀ s, (rcN (decL n)).stat s = y.stat s ∧ statH (rcN (decL n)) s = statH y s := by
  refine ⟨encL [nAdr y.A1, nAdr y.A2, nAdr y.A3, nAdr y.A4, nAdr y.A5, nAdr y.A6, nAdr y.A7, nAdr y.A8, y.c1, y.c2, y.c3, y.c4, y.c5, y.c6, y.c7, y.c8], fun s => ?_⟩
  rw [decL_enc]
  have e : rcN [nAdr y.A1, nAdr y.A2, nAdr y.A3, nAdr y.A4, nAdr y.A5, nAdr y.A6, nAdr y.A7, nAdr y.A8, y.c1, y.c2, y.c3, y.c4, y.c5, y.c6, y.c7, y.c8] = ⟨y.A1, y.A2, y.A3, y.A4, y.A5, y.A6, y.A7, y.A8, y.c1, y.c2, y.c3, y.c4, y.c5, y.c6, y.c7, y.c8, 0, 0, 0, 0, 0, 0⟩ := by
    show RC.mk (adrN (nAdr y.A1)) (adrN (nAdr y.A2)) (adrN (nAdr y.A3)) (adrN (nAdr y.A4)) (adrN (nAdr y.A5)) (adrN (nAdr y.A6)) (adrN (nAdr y.A7)) (adrN (nAdr y.A8)) _ _ _ _ _ _ _ _ _ _ _ _ _ _ = _
    rw [adr_n h1, adr_n h2, adr_n h3, adr_n h4, adr_n h5, adr_n h6, adr_n h7, adr_n h8]
    rfl
  rw [e]
  exact ⟨rfl, rfl⟩
theorem rc_own {y : RC} {s : kStat.V} {w0 w : World} {S : Nat → Prop} {pre r : List HP} (h : St w0 S (pre ++ allHP (statH y s) :: r) w) : ∃ n, ∀ s, (rcN (decL n)).stat s = y.stat s ∧ statH (rcN (decL n)) s = statH y s := by
  obtain ⟨F, hp, _⟩ := h.get
  obtain ⟨_, _, p1, _, _, p2, _, _, p3, _, _, p4, _, _, p5, _, _, p6, _, _, p7, _, _, p8, _⟩ := hp
  exact rc_code (ownD_place p1) (ownD_place p2) (ownD_place p3) (ownD_place p4) (ownD_place p5) (ownD_place p6) (ownD_place p7) (ownD_place p8)
abbrev ltC (l : kLitT.V) (A : Option Addr) (c : Nat) : List Value := [.bool l.1, .string l.2.1, .slice A l.2.2.1.length c, .bool l.2.2.2.1, .int .i64 l.2.2.2.2]
noncomputable abbrev ltN (l : kLitT.V) (n : Nat) : List Value := ltC l (adrN ((decL n).getD 0 0)) ((decL n).getD 1 0)
theorem lt_own {l : kLitT.V} {cs : List Value} {w0 w : World} {S : Nat → Prop} {pre r : List HP} (h : St w0 S (pre ++ ownDHP kLitT cs l :: r) w) : ∃ n, cs = ltN l n := by
  obtain ⟨F, hp, _⟩ := h.get
  obtain ⟨A, c, rfl, _⟩ := Rd.litT (OwnD.rd hp)
  obtain ⟨c1, c2, G1, hcs, _, h1, c3, c4, G2, rfl, _, h3, c5, c6, G3, rfl, _, h5, _⟩ := hp
  obtain rfl : c1 = [.bool l.1] := h1
  obtain ⟨rfl, _⟩ := h3
  have hO : OwnA A := by
    obtain ⟨v, e, es, F0, G, rfl, h6, _⟩ := h5
    have hv : v = .slice A l.2.2.1.length c := by
      have := (List.cons.inj (List.cons.inj (List.cons.inj hcs).2).2).1
      exact this.symm
    subst hv
    rcases h6 with ⟨h6, _⟩ | ⟨B, c', tl, h6, _⟩
    · injection h6 with h6; exact .inl h6
    · injection h6 with h6; exact .inr ⟨B, h6⟩
  refine ⟨encL [nAdr A, c], ?_⟩
  show _ = ltC l (adrN ((decL (encL [nAdr A, c])).getD 0 0)) ((decL (encL [nAdr A, c])).getD 1 0)
  rw [decL_enc]
  show _ = ltC l (adrN (nAdr A)) c
  rw [adr_n hO]
attribute [local irreducible] RW CW
theorem sameAtom_ret {p u : Int} {v1 v2 : Value} {w : World} (h1 : v1.oneCell' = true) (h2 : v2.oneCell' = true) (hI : ∀ w2, Keeps No w w2 → Ret Tryz.prog 13 [v1, v2] w2 (.bool true)) : Ret Tryz.prog 59 [.agg #[.int .i64 p, v1, .int .i64 u], .agg #[.int .i64 p, v2, .int .i64 u]] w (.bool true) := by
  refine Calls.enter Tryz.func59 rfl _ rfl rfl (S := No) (H := []) trivial ?_
  refine CW.seqR ?_
  refine RW.box_agg (l := [.int .i64 p, v1, .int .i64 u]) rfl rfl fun b2 _ => ?_
  refine RW.box_agg (l := [.int .i64 p, v2, .int .i64 u]) rfl rfl fun b3 _ => ?_
  refine Jd ?_;refine Jb ?_;refine Ja ?_;refine Je ?_;refine JB ?_;refine Je ?_;refine JA ?_;refine Ea ?_;refine Jc ?_;refine Jy ?_;refine Je ?_;refine Jy ?_;refine JB ?_;refine Jy ?_;refine Je ?_;refine Jy ?_;refine JA ?_;refine Jy ?_
  refine RW.call Tryz.call13 rfl (fun w2 hw => hI w2 hw.kp) rfl ?_
  refine Jv ?_;refine Jc ?_;refine Jy ?_;refine Je ?_;refine Jy ?_;refine JB ?_;refine Jy ?_;refine Je ?_;refine Jy ?_;refine JA ?_;refine Jy ?_;refine Ea ?_;refine Jv ?_;refine Jd ?_;refine Jb ?_
  exact CW.ret1 rfl Tryz.results59 rfl rfl fun w hw => ⟨rfl, hw.kp⟩
theorem sameLit_ret {x : LitV} {v1 v2 : Value} {w : World} (h1 : v1.oneCell' = true) (h2 : v2.oneCell' = true) (hI : ∀ w2, Keeps No w w2 → Ret Tryz.prog 13 [v1, v2] w2 (.bool true)) : Ret Tryz.prog 19 [.agg (litC x v1).toArray, .agg (litC x v2).toArray] w (.bool true) := by
  refine Calls.enter Tryz.func19 rfl _ rfl rfl (S := No) (H := []) trivial ?_
  refine CW.seqR ?_
  refine RW.box_agg (l := litC x v1) rfl rfl fun b2 _ => ?_
  refine RW.box_agg (l := litC x v2) rfl rfl fun b3 _ => ?_
  refine Jd ?_;refine Jb ?_;refine Ja ?_;refine Je ?_;refine JB ?_;refine Je ?_;refine JA ?_;refine Ec ?_;refine Jc ?_;refine Jy ?_;refine Je ?_;refine Jy ?_;refine JJ ?_;refine Jy ?_;refine Je ?_;refine Jy ?_;refine JI ?_;refine Jy ?_
  refine RW.call Tryz.call59 rfl (fun w2 hw => sameAtom_ret h1 h2 fun w3 hk => hI w3 (hw.kp.trans hk (fun _ hb => hb.elim))) rfl ?_
  refine Jv ?_;refine Jc ?_;refine Jy ?_;refine Je ?_;refine Jy ?_;refine JB ?_;refine Jy ?_;refine Je ?_;refine Jy ?_;refine JA ?_;refine Jy ?_;refine Ea ?_;refine Jv ?_;refine Jd ?_;refine Jb ?_
  exact CW.ret1 rfl Tryz.results19 rfl rfl fun w hw => ⟨rfl, hw.kp⟩
theorem literal_call2 {s : kStat.V} {x : RC} {cs : List Value} {l : kLitT.V} {w : World} (hst : StatOn (mem w (fun b => ¬ No b)) s x) (hl : Rd kLitT (mem w (fun b => ¬ No b)) cs l) :
    RetC Tryz.prog 17 [.agg (x.stat s).toArray, .agg cs.toArray] w No (fun v : Value => .tuple #[.agg (litC (rLitD s l).1 v).toArray, .int .i64 (rLitD s l).2]) (fun v => [ownHP 3 1 v ((rLitD s l).1.2.2.1.map intE)]) := by
  rw [← lit_eq]; exact literal_call hst hl
theorem one_own {w0 w : World} {S : Nat → Prop} {pre r : List HP} {e : TypeId} {sz : Nat} {v : Value} {es : List (List Value)} (h : St w0 S (pre ++ ownHP e sz v es :: r) w) : v.oneCell' = true := by
  obtain ⟨F2, hp, _⟩ := h.get
  rcases hp with ⟨rfl, _⟩ | ⟨B, c, tl, rfl, _⟩ <;> rfl
set_option maxHeartbeats 32000000 in
theorem literalLaw_ret {s : kStat.V} {x : RC} {cs : List Value} {l : kLitT.V} {w : World} (hst : StatOn (mem w (fun b => ¬ No b)) s x) (hl : Rd kLitT (mem w (fun b => ¬ No b)) cs l) : Ret Tryz.prog 4 [.agg (x.stat s).toArray, .agg cs.toArray] w (.bool true) := by
  have hl' := hl
  obtain ⟨A, c, rfl, hargs⟩ := Rd.litT hl
  refine Calls.enter Tryz.func4 rfl _ rfl rfl (S := No) (H := []) trivial ?_
  refine CW.seqR ?_
  refine RW.box_agg (l := x.stat s) rfl rfl fun b2 _ => ?_
  refine RW.box_agg (l := ltC l A c) rfl rfl fun b3 _ => ?_
  refine Jd ?_;refine Jb ?_
  refine CW.seqA (by kernel_rfl) rfl ?_
  refine AW.val rfl (fun _ _ => by refine JF ?_;exact RW.done rfl) ?_
  (apply AW.gen (fun n => .agg ((rcN (decL n)).stat s).toArray) (fun n => allHP (statH (rcN (decL n)) s)) rfl; · intro Gx X; refine RW.callN Tryz.call6 rfl (fun w2 hw => copyStat_ret (StatOn.mono hst (ro_call hw))) rfl fun y => ?_; refine RW.pack (statH y s) ?_; refine RW.have_ (φ := ∃ n, ∀ s, (rcN (decL n)).stat s = y.stat s ∧ statH (rcN (decL n)) s = statH y s) (fun w hw => rc_own (pre := []) hw) (fun ⟨n, hn⟩ => ?_); rw [← (hn s).1, ← (hn s).2]; exact RW.done_gen rfl)
  refine AW.val rfl (fun _ _ => by refine JE ?_;exact RW.done rfl) ?_
  (apply AW.gen (fun n => .agg (ltN l n).toArray) (fun n => ownDHP kLitT (ltN l n) l) rfl; · intro Gx X; refine RW.callN Tryz.call16 rfl (fun w2 hw => copyLit_ret (hl'.mono (ro_call hw))) rfl fun cs2 => ?_; refine RW.have_ (φ := ∃ n, cs2 = ltN l n) (fun w hw => lt_own (pre := []) hw) (fun ⟨n, hn⟩ => ?_); subst hn; exact RW.done_gen rfl)
  (apply AW.gen (fun b => ptrV b) (fun b => blk b [.string ByteArray.empty, .slice none 0 0, .slice none 0 0, .slice none 0 0, .slice none 0 0, .slice none 0 0, .slice none 0 0, .slice none 0 0, .slice none 0 0] 31 ) rfl; · intro Gx X; refine RW.alloc (c := [.string ByteArray.empty, .slice none 0 0, .slice none 0 0, .slice none 0 0, .slice none 0 0, .slice none 0 0, .slice none 0 0, .slice none 0 0, .slice none 0 0]) rfl rfl fun b _ => ?_; exact RW.done_gen rfl)
  (apply AW.gen (fun b => ptrV b) (fun b => blk b [.bool false, .string ByteArray.empty, .slice none 0 0, .bool false, .int .i64 0] 51 ) rfl; · intro Gx X; refine RW.alloc (c := [.bool false, .string ByteArray.empty, .slice none 0 0, .bool false, .int .i64 0]) rfl rfl fun b _ => ?_; exact RW.done_gen rfl)
  refine AW.stop (by kernel_rfl) (by kernel_rfl) fun bs => ?_
  refine RW.store_whole [_, _, _] rfl rfl (vs := (rcN (decL (bs 12))).stat s) rfl rfl rfl (by simp [Value.oneCell']) ?_
  refine RW.store_whole [_, _] rfl rfl (vs := ltN l (bs 14)) rfl rfl rfl (by simp [Value.oneCell']) ?_
  refine RW.take [3, 2, 1, 0, 5, 4] ?_
  refine Jb ?_;refine Ja ?_;refine JE ?_;refine JF ?_
  refine RW.callN Tryz.call17 rfl (fun w2 hw => literal_call2 (stat_all (pre := [_, _, _, _]) hw.sep) (rd_own (pre := [_, _, _, _, _]) hw.sep)) rfl fun v1 => ?_
  refine RW.have_ (φ := v1.oneCell' = true) (fun w hw => one_own (pre := []) hw) (fun ho1 => ?_)
  refine Jc ?_;refine Jt ?_;refine Jt ?_
  refine RW.alloc (c := litC (false, 0, [], 0) (.slice none 0 0)) rfl rfl fun b7 _ => ?_
  refine RW.store_whole [] rfl rfl (vs := litC (rLitD s l).1 v1) rfl rfl rfl (fun u hu => by simp only [List.mem_cons, List.not_mem_nil, or_false] at hu; rcases hu with rfl | rfl | rfl | rfl | rfl <;> first | exact ho1 | rfl) ?_
  refine RW.take [4, 5, 0, 1, 2, 3, 6, 7] ?_
  refine Jd ?_;refine Jb ?_;refine Ja ?_;refine JE ?_;refine JF ?_
  refine RW.callN Tryz.call18 rfl (fun w2 hw => ref_Literal_ret (StatOn.mono hst (ro_call hw)) (hl'.mono (ro_call hw))) rfl fun v2 => ?_
  refine RW.have_ (φ := v2.oneCell' = true) (fun w hw => one_own (pre := []) hw) (fun ho2 => ?_)
  refine Jc ?_;refine Jt ?_;refine Jt ?_
  refine RW.alloc (c := litC (false, 0, [], 0) (.slice none 0 0)) rfl rfl fun b9 _ => ?_
  refine RW.store_whole [] rfl rfl (vs := litC (rLitD s l).1 v2) rfl rfl rfl (fun u hu => by simp only [List.mem_cons, List.not_mem_nil, or_false] at hu; rcases hu with rfl | rfl | rfl | rfl | rfl <;> first | exact ho2 | rfl) ?_
  refine RW.take [0, 4, 2, 3, 6, 7, 5, 1, 8, 9] ?_
  refine Jd ?_;refine Jb ?_;refine Ja ?_;refine JF ?_;refine JE ?_
  refine RW.call Tryz.call19 rfl (fun w2 hw => sameLit_ret ho1 ho2 fun w3 hk => sameI_own (pre := [_, _, _, _, _, _]) (pre2 := [_, _, _, _, _, _, _]) (hw.quiet hk) (hw.quiet hk)) rfl ?_
  refine RW.take [4, 5, 2, 3, 0, 1, 6, 7, 8, 9] ?_
  refine Jc ?_;refine Jy ?_;refine Jc ?_;refine Jy ?_
  refine RW.call Tryz.call11 rfl (fun w2 hw => num_ret) rfl ?_
  refine Jy ?_;refine Jc ?_;refine Jy ?_;refine Ea ?_;refine Jv ?_;refine Jc ?_;refine Jy ?_;refine JE ?_;refine Jy ?_;refine JG ?_;refine Jy ?_
  refine RW.call Tryz.call14 rfl (fun w2 hw => dStat_ret (stat_all (pre := [_, _, _, _, _, _, _, _]) hw.sep) (StatOn.mono hst (ro_call hw))) rfl ?_
  refine Jv ?_;refine Jc ?_;refine Jy ?_;refine JF ?_;refine Jy ?_;refine JH ?_;refine Jy ?_
  refine RW.call Tryz.call20 rfl (fun w2 hw => dLit_ret (rd_own (pre := [_, _, _, _, _, _, _, _, _]) hw.sep) (hl'.mono (ro_call hw))) rfl ?_
  refine Jv ?_;refine Jc ?_;refine Jy ?_
  refine RW.call Tryz.call15 rfl (fun w2 hw => works_ret) rfl ?_
  refine Jv ?_;refine Jd ?_;refine Jb ?_
  exact CW.ret1 rfl Tryz.results4 rfl rfl fun w hw => ⟨rfl, hw.kp⟩
theorem law_ResolveLiteral (W : World) {c0 c1 : List Value} {x0 : kStat.V} {x1 : kLitT.V} (y0 : Rd kStat (mem W Any) c0 x0) (y1 : Rd kLitT (mem W Any) c1 x1) : Ret Tryz.prog 4 [.agg c0.toArray, .agg c1.toArray] W (.bool true) := by
  obtain ⟨x, rfl, h⟩ := rd_stat y0
  exact literalLaw_ret (h.mono (mem_up fun _ _ k => k)) (y1.mono (mem_up fun _ _ k => k))
end Go.Proofs.YtkfmlekomfnleaaGreat
