/- Parts of the proof: lexpriorplain.Same..: true of the same data. · lemmas · SameStrings, SameInts of one's own; the law of checks, walked. Conditions: none. -/
import Derived.Test.YtkfmlekomfnleaaGreatPk10
/- lexpriorplain.Same..: true of the same data. Conditions: none. -/
set_option linter.unusedVariables false
set_option linter.unusedSimpArgs false
set_option maxRecDepth 10000
namespace Go.Proofs.YtkfmlekomfnleaaGreat
open Go Go.RowKit Go.MapKept

section
variable {P : Program} {E : Env} {ops : Array Oper} {Q : Pst} {rest : List Oper} {G : List (Nat × Value)} {H : List HP}
variable {dst : Nat} {ty : TypeId} {pos : String} {af : Array Edge} {t ty' : TypeId} {x y : Operand} {a : Int} {k : IntKind} {z : Value} {sz by_ : Nat} {s1 : ByteArray} {p : Bool}
theorem Ea (k0 : RW P E ops Q rest ((dst, .bool true) :: G) H) (hx : ev G x = some (.int k a) := by exact rfl) (hy : ev G y = some (.int k a) := by exact rfl) (hN : Nat.blt dst E.N = true := by exact rfl) : RW P E ops Q (⟨some dst, .binOp .eql t x y ty', ty, pos, af, none⟩ :: rest) G H := RW.eql hx hy hN (by rw [decide_eq_true rfl]; exact k0)
theorem Eb [T : Ty P t .string z sz by_] (k0 : RW P E ops Q rest ((dst, .bool true) :: G) H) (hx : ev G x = some (.string s1) := by exact rfl) (hy : ev G y = some (.string s1) := by exact rfl) (hN : Nat.blt dst E.N = true := by exact rfl) : RW P E ops Q (⟨some dst, .binOp .eql t x y ty', ty, pos, af, none⟩ :: rest) G H := RW.eqlS hx hy hN (by rw [decide_eq_true rfl]; exact k0)
theorem Ec [T : Ty P t .bool z sz by_] (k0 : RW P E ops Q rest ((dst, .bool true) :: G) H) (hx : ev G x = some (.bool p) := by exact rfl) (hy : ev G y = some (.bool p) := by exact rfl) (hN : Nat.blt dst E.N = true := by exact rfl) : RW P E ops Q (⟨some dst, .binOp .eql t x y ty', ty, pos, af, none⟩ :: rest) G H := RW.eqlB hx hy hN (by rw [decide_eq_true rfl]; exact k0)
/-- Two cells that are one as the program compares. -/
def EqOne (P : Program) (t : TypeId) (u : Value) : Prop := ∀ (d : Nat) (w : World), (Op.equalIn (d + 1) t u u).run P w = .ok true w
theorem EqOne.str {t1 : TypeId} {z1 : Value} {sz1 by1 : Nat} [T1 : Ty P t1 .string z1 sz1 by1] (s : ByteArray) : EqOne P t1 (.string s) := fun d w => by
  rw [run_equalIn_string w d t1 s s T1.und]
  simp
theorem EqOne.int {t1 : TypeId} {z1 : Value} {sz1 by1 : Nat} {k : IntKind} [T1 : Ty P t1 (.int k) z1 sz1 by1] (n : Int) : EqOne P t1 (.int k n) := fun d w => by
  rw [run_equalIn_int w d t1 k k n n T1.und]
  simp
theorem RW.neqTwo {f1 f2 : Field} {u1 u2 : Value} [T : Ty P t (.struct #[f1, f2]) z 2 by_] {d1 d2 : TypeDesc} {z1 z2 : Value} {by1 by2 : Nat} (t1 t2 : TypeId) [T1 : Ty P t1 d1 z1 1 by1] [T2 : Ty P t2 d2 z2 1 by2] (hf1 : f1.type = t1) (hf2 : f2.type = t2) (h1 : isAggD d1 = false) (h2 : isAggD d2 = false) (hx : ev G x = some (.agg #[u1, u2])) (hy : ev G y = some (.agg #[u1, u2])) (o1 : f1.offset = 0) (o2 : f2.offset = 1) (n1 : (f1.name = "_") = False) (n2 : (f2.name = "_") = False) (hp : P.stoodInHeld t = false) (hg : P.eqGuardType P.depth t = false)
    (e1 : EqOne P t1 u1) (e2 : EqOne P t2 u2) (hN : Nat.blt dst E.N = true) (kk : RW P E ops Q rest ((dst, .bool false) :: G) H) : RW P E ops Q (⟨some dst, .binOp .neq t x y ty', ty, pos, af, none⟩ :: rest) G H := by
  subst hf1
  subst hf2
  refine RW.val hN (fun f w hf _ => ?_) kk
  have hu := T.und
  have hfs : P.fieldsOf t = #[f1, f2] := by simp [Program.fieldsOf, hu]
  have part1 : ∀ (w : World), (part f1.type #[u1, u2] 0).run P w = .ok u1 w := fun w => by
    simp [part, T1.runAgg, h1, Result.andThen]
  have part2 : ∀ (w : World), (part f2.type #[u1, u2] 1).run P w = .ok u2 w := fun w => by
    simp [part, T2.runAgg, h2, Result.andThen]
  have he : ∀ w, (Op.equal t (.agg #[u1, u2]) (.agg #[u1, u2])).run P w = .ok true w := fun w => by
    show (Op.equalIn (9999 + 1) t _ _).run P w = _
    rw [run_equalIn_agg w 9999 t _ _ (by rw [hfs]; exact hu) hp, hfs]
    have r1 : ∀ w, (Op.equalIn (9998 + 1) f1.type u1 u1).run P w = .ok true w := fun w => e1 9998 w
    have r2 : ∀ w, (Op.equalIn (9998 + 1) f2.type u2 u2).run P w = .ok true w := fun w => e2 9998 w
    simp only [Op.eqFields, ne_eq, n1, n2, not_false_eq_true, if_true, Sem.run_bind, o1, o2, part1, part2, Result.andThen_ok, show (9999 : Nat) = 9998 + 1 from rfl, r1]
    simp [Sem.run_bind, part1, part2, r1, r2, Result.andThen]
  have hG : (eqGuard .neq t x y (.agg #[u1, u2]) (.agg #[u1, u2])).run P w = .ok () w := by
    unfold eqGuard
    simp [hg, Result.andThen]
  simp [execOp, hf.eval hx, hf.eval hy, hG, binOp, he]
end
attribute [local irreducible] RW CW
set_option maxHeartbeats 4000000 in
theorem dStrs_ret {A B : Option Addr} {c d : Nat} {l : List Str} {w : World} (h1 : Rd (.sl 16 K.str) (mem w (fun b => ¬ No b)) [.slice A l.length c] l) (h2 : Rd (.sl 16 K.str) (mem w (fun b => ¬ No b)) [.slice B l.length d] l) : Ret Tryz.prog 12 [.slice A l.length c, .slice B l.length d] w (.bool true) := by
  have hsm := sl_small h1
  unfold reach at hsm
  have hle : Mem.le (mem w (fun b => ¬ No b)) (mem w (fun b => ¬ No b)) := Mem.le_refl _
  refine Calls.enter Tryz.func12 rfl _ rfl rfl (S := No) (H := []) trivial ?_
  refine Ja ?_;refine Jd ?_;refine Jb ?_
  refine CW.seq ?_
  refine Ja ?_;refine Jc ?_;refine Jg ?_;refine Jc ?_;refine Jg ?_;refine Jj ?_;refine Jb ?_
  refine CW.ite rfl (fun h => absurd rfl h) (fun _ => ?_)
  refine CW.skip ?_
  refine PW.code ?_
  refine CW.seq ?_
  refine Ja ?_;refine Jd ?_;refine Jb ?_
  refine CW.block ?_
  refine CW.loop (ι := { k : Nat // k ≤ l.length }) (fun k => [(0, .slice A l.length c), (1, .slice B l.length d), (5, .int .i64 k.1)]) (fun _ => []) (fun k => l.length - k.1) ⟨0, Nat.zero_le _⟩ ⟨rfl, rfl, rfl, trivial⟩ (fun h => h) ?_
  intro ⟨k, hk⟩
  dsimp only at hk ⊢
  refine CW.seq ?_
  refine Ja ?_;refine Jc ?_;refine Jc ?_;refine Jg ?_;refine Jk ?_;refine Jb ?_
  refine CW.ite rfl (fun hlt => ?_) (fun hge => ?_)
  · have hlt' : k < l.length := by simpa using hlt
    obtain ⟨B1, O1, es1, hA, hl1, hr, hm⟩ := sl_get h1 (List.getElem?_eq_getElem hlt')
    obtain ⟨B2, O2, es2, hB, hl2, hr2, hm2⟩ := sl_get h2 (List.getElem?_eq_getElem hlt')
    generalize hx : l[k] = x at *
    obtain rfl := str_cell hr
    obtain rfl := str_cell hr2
    refine CW.skip ?_
    refine PW.code ?_
    refine CW.seq ?_
    refine CW.block ?_
    refine CW.seqA (by kernel_rfl) rfl ?_
    repeat (apply AW.val rfl; · intro Gx X; (first | refine RW.yes rfl ?_ | skip); (first|refine Jc ?_|refine Jd ?_|refine Je ?_|refine Jf ?_|refine Jg ?_|refine Jh ?_|refine Ji ?_|refine Jj ?_|refine Jk ?_|refine Jl ?_|refine Jm ?_|refine Jn ?_|refine Jo ?_|refine Jp ?_|refine Jq ?_|refine Jr ?_|refine Js ?_|refine Jt ?_|refine Ju ?_|refine Jv ?_|refine Jw ?_|refine Jx ?_|refine Jz ?_|refine JA ?_|refine JB ?_|refine JC ?_|refine JD ?_|refine JE ?_|refine JF ?_|refine JG ?_|refine JH ?_|refine JI ?_|refine JJ ?_|refine JK ?_|refine JL ?_); exact RW.done rfl)
    (apply AW.val rfl; · intro Gx X; (first | refine RW.yes rfl ?_ | skip); refine RW.indexAddrE hA rfl rfl (by omega) hlt rfl ?_; exact RW.done rfl)
    (apply AW.val rfl; · intro Gx X; (first | refine RW.yes rfl ?_ | skip); refine RW.load_ro rfl hle (hm 0 _ rfl) rfl rfl ?_; exact RW.done rfl)
    repeat (apply AW.val rfl; · intro Gx X; (first | refine RW.yes rfl ?_ | skip); (first|refine Jc ?_|refine Jd ?_|refine Je ?_|refine Jf ?_|refine Jg ?_|refine Jh ?_|refine Ji ?_|refine Jj ?_|refine Jk ?_|refine Jl ?_|refine Jm ?_|refine Jn ?_|refine Jo ?_|refine Jp ?_|refine Jq ?_|refine Jr ?_|refine Js ?_|refine Jt ?_|refine Ju ?_|refine Jv ?_|refine Jw ?_|refine Jx ?_|refine Jz ?_|refine JA ?_|refine JB ?_|refine JC ?_|refine JD ?_|refine JE ?_|refine JF ?_|refine JG ?_|refine JH ?_|refine JI ?_|refine JJ ?_|refine JK ?_|refine JL ?_); exact RW.done rfl)
    (apply AW.val rfl; · intro Gx X; (first | refine RW.yes rfl ?_ | skip); refine RW.indexAddrE hB rfl rfl (by omega) hlt rfl ?_; exact RW.done rfl)
    (apply AW.val rfl; · intro Gx X; (first | refine RW.yes rfl ?_ | skip); refine RW.load_ro rfl hle (hm2 0 _ rfl) rfl rfl ?_; exact RW.done rfl)
    repeat (apply AW.val rfl; · intro Gx X; (first | refine RW.yes rfl ?_ | skip); (first|refine Jc ?_|refine Jd ?_|refine Je ?_|refine Jf ?_|refine Jg ?_|refine Jh ?_|refine Ji ?_|refine Jj ?_|refine Jk ?_|refine Jl ?_|refine Jm ?_|refine Jn ?_|refine Jo ?_|refine Jp ?_|refine Jq ?_|refine Jr ?_|refine Js ?_|refine Jt ?_|refine Ju ?_|refine Jv ?_|refine Jw ?_|refine Jx ?_|refine Jz ?_|refine JA ?_|refine JB ?_|refine JC ?_|refine JD ?_|refine JE ?_|refine JF ?_|refine JG ?_|refine JH ?_|refine JI ?_|refine JJ ?_|refine JK ?_|refine JL ?_); exact RW.done rfl)
    refine AW.stop (by kernel_rfl) (by kernel_rfl) fun bs => ?_
    refine Jb ?_
    refine CW.ite rfl (fun h => absurd rfl h) (fun _ => ?_)
    refine CW.skip ?_
    refine PW.code ?_
    refine CW.region ?_
    refine Jc ?_
    refine RW.add rfl rfl (w64 (by omega) (by omega)) rfl ?_
    refine Jd ?_
    refine RW.nil ?_
    exact PW.again ⟨k + 1, hlt'⟩ ⟨rfl, rfl, rfl, trivial⟩ (fun h => h) (by show l.length - (k + 1) < l.length - k; omega)
  refine CW.exit rfl ?_
  refine PW.code ?_
  refine Ja ?_;refine Jd ?_;refine Jb ?_
  exact CW.ret1 rfl Tryz.results12 rfl rfl fun w hw => ⟨rfl, hw.kp⟩
set_option maxHeartbeats 4000000 in
theorem dMoney_ret {A B : Option Addr} {c d : Nat} {l : List Int} {w : World} (h1 : Rd (.sl 8 kI) (mem w (fun b => ¬ No b)) [.slice A l.length c] l) (h2 : Rd (.sl 8 kI) (mem w (fun b => ¬ No b)) [.slice B l.length d] l) : Ret Tryz.prog 178 [.slice A l.length c, .slice B l.length d] w (.bool true) := by
  have hsm := sl_small h1
  unfold reach at hsm
  have hle : Mem.le (mem w (fun b => ¬ No b)) (mem w (fun b => ¬ No b)) := Mem.le_refl _
  refine Calls.enter Tryz.func178 rfl _ rfl rfl (S := No) (H := []) trivial ?_
  refine Ja ?_;refine Jd ?_;refine Jb ?_
  refine CW.seq ?_
  refine Ja ?_;refine Jc ?_;refine Jg ?_;refine Jc ?_;refine Jg ?_;refine Jj ?_;refine Jb ?_
  refine CW.ite rfl (fun h => absurd rfl h) (fun _ => ?_)
  refine CW.skip ?_
  refine PW.code ?_
  refine CW.seq ?_
  refine Ja ?_;refine Jd ?_;refine Jb ?_
  refine CW.block ?_
  refine CW.loop (ι := { k : Nat // k ≤ l.length }) (fun k => [(0, .slice A l.length c), (1, .slice B l.length d), (5, .int .i64 k.1)]) (fun _ => []) (fun k => l.length - k.1) ⟨0, Nat.zero_le _⟩ ⟨rfl, rfl, rfl, trivial⟩ (fun h => h) ?_
  intro ⟨k, hk⟩
  dsimp only at hk ⊢
  refine CW.seq ?_
  refine Ja ?_;refine Jc ?_;refine Jc ?_;refine Jg ?_;refine Jk ?_;refine Jb ?_
  refine CW.ite rfl (fun hlt => ?_) (fun hge => ?_)
  · have hlt' : k < l.length := by simpa using hlt
    obtain ⟨B1, O1, es1, hA, hl1, hr, hm⟩ := sl_get h1 (List.getElem?_eq_getElem hlt')
    obtain ⟨B2, O2, es2, hB, hl2, hr2, hm2⟩ := sl_get h2 (List.getElem?_eq_getElem hlt')
    generalize hx : l[k] = x at *
    obtain rfl := int_cell hr
    obtain rfl := int_cell hr2
    refine CW.skip ?_
    refine PW.code ?_
    refine CW.seq ?_
    refine CW.block ?_
    refine CW.seqA (by kernel_rfl) rfl ?_
    repeat (apply AW.val rfl; · intro Gx X; (first | refine RW.yes rfl ?_ | skip); (first|refine Jc ?_|refine Jd ?_|refine Je ?_|refine Jf ?_|refine Jg ?_|refine Jh ?_|refine Ji ?_|refine Jj ?_|refine Jk ?_|refine Jl ?_|refine Jm ?_|refine Jn ?_|refine Jo ?_|refine Jp ?_|refine Jq ?_|refine Jr ?_|refine Js ?_|refine Jt ?_|refine Ju ?_|refine Jv ?_|refine Jw ?_|refine Jx ?_|refine Jz ?_|refine JA ?_|refine JB ?_|refine JC ?_|refine JD ?_|refine JE ?_|refine JF ?_|refine JG ?_|refine JH ?_|refine JI ?_|refine JJ ?_|refine JK ?_|refine JL ?_); exact RW.done rfl)
    (apply AW.val rfl; · intro Gx X; (first | refine RW.yes rfl ?_ | skip); refine RW.indexAddrE hA rfl rfl (by omega) hlt rfl ?_; exact RW.done rfl)
    (apply AW.val rfl; · intro Gx X; (first | refine RW.yes rfl ?_ | skip); refine RW.load_ro rfl hle (hm 0 _ rfl) rfl rfl ?_; exact RW.done rfl)
    repeat (apply AW.val rfl; · intro Gx X; (first | refine RW.yes rfl ?_ | skip); (first|refine Jc ?_|refine Jd ?_|refine Je ?_|refine Jf ?_|refine Jg ?_|refine Jh ?_|refine Ji ?_|refine Jj ?_|refine Jk ?_|refine Jl ?_|refine Jm ?_|refine Jn ?_|refine Jo ?_|refine Jp ?_|refine Jq ?_|refine Jr ?_|refine Js ?_|refine Jt ?_|refine Ju ?_|refine Jv ?_|refine Jw ?_|refine Jx ?_|refine Jz ?_|refine JA ?_|refine JB ?_|refine JC ?_|refine JD ?_|refine JE ?_|refine JF ?_|refine JG ?_|refine JH ?_|refine JI ?_|refine JJ ?_|refine JK ?_|refine JL ?_); exact RW.done rfl)
    (apply AW.val rfl; · intro Gx X; (first | refine RW.yes rfl ?_ | skip); refine RW.indexAddrE hB rfl rfl (by omega) hlt rfl ?_; exact RW.done rfl)
    (apply AW.val rfl; · intro Gx X; (first | refine RW.yes rfl ?_ | skip); refine RW.load_ro rfl hle (hm2 0 _ rfl) rfl rfl ?_; exact RW.done rfl)
    repeat (apply AW.val rfl; · intro Gx X; (first | refine RW.yes rfl ?_ | skip); (first|refine Jc ?_|refine Jd ?_|refine Je ?_|refine Jf ?_|refine Jg ?_|refine Jh ?_|refine Ji ?_|refine Jj ?_|refine Jk ?_|refine Jl ?_|refine Jm ?_|refine Jn ?_|refine Jo ?_|refine Jp ?_|refine Jq ?_|refine Jr ?_|refine Js ?_|refine Jt ?_|refine Ju ?_|refine Jv ?_|refine Jw ?_|refine Jx ?_|refine Jz ?_|refine JA ?_|refine JB ?_|refine JC ?_|refine JD ?_|refine JE ?_|refine JF ?_|refine JG ?_|refine JH ?_|refine JI ?_|refine JJ ?_|refine JK ?_|refine JL ?_); exact RW.done rfl)
    refine AW.stop (by kernel_rfl) (by kernel_rfl) fun bs => ?_
    refine Jb ?_
    refine CW.ite rfl (fun h => absurd rfl h) (fun _ => ?_)
    refine CW.skip ?_
    refine PW.code ?_
    refine CW.region ?_
    refine Jc ?_
    refine RW.add rfl rfl (w64 (by omega) (by omega)) rfl ?_
    refine Jd ?_
    refine RW.nil ?_
    exact PW.again ⟨k + 1, hlt'⟩ ⟨rfl, rfl, rfl, trivial⟩ (fun h => h) (by show l.length - (k + 1) < l.length - k; omega)
  refine CW.exit rfl ?_
  refine PW.code ?_
  refine Ja ?_;refine Jd ?_;refine Jb ?_
  exact CW.ret1 rfl Tryz.results178 rfl rfl fun w hw => ⟨rfl, hw.kp⟩
set_option maxHeartbeats 4000000 in
theorem dMembers_ret {A B : Option Addr} {c d : Nat} {l : List kMember.V} {w : World} (h1 : Rd (.sl 32 kMember) (mem w (fun b => ¬ No b)) [.slice A l.length c] l) (h2 : Rd (.sl 32 kMember) (mem w (fun b => ¬ No b)) [.slice B l.length d] l) : Ret Tryz.prog 45 [.slice A l.length c, .slice B l.length d] w (.bool true) := by
  have hsm := sl_small h1
  unfold reach at hsm
  have hle : Mem.le (mem w (fun b => ¬ No b)) (mem w (fun b => ¬ No b)) := Mem.le_refl _
  refine Calls.enter Tryz.func45 rfl _ rfl rfl (S := No) (H := []) trivial ?_
  refine Ja ?_;refine Jd ?_;refine Jb ?_
  refine CW.seq ?_
  refine Ja ?_;refine Jc ?_;refine Jg ?_;refine Jc ?_;refine Jg ?_;refine Jj ?_;refine Jb ?_
  refine CW.ite rfl (fun h => absurd rfl h) (fun _ => ?_)
  refine CW.skip ?_
  refine PW.code ?_
  refine CW.seq ?_
  refine Ja ?_;refine Jd ?_;refine Jb ?_
  refine CW.block ?_
  refine CW.loop (ι := { k : Nat // k ≤ l.length }) (fun k => [(0, .slice A l.length c), (1, .slice B l.length d), (5, .int .i64 k.1)]) (fun _ => []) (fun k => l.length - k.1) ⟨0, Nat.zero_le _⟩ ⟨rfl, rfl, rfl, trivial⟩ (fun h => h) ?_
  intro ⟨k, hk⟩
  dsimp only at hk ⊢
  refine CW.seq ?_
  refine Ja ?_;refine Jc ?_;refine Jc ?_;refine Jg ?_;refine Jk ?_;refine Jb ?_
  refine CW.ite rfl (fun hlt => ?_) (fun hge => ?_)
  · have hlt' : k < l.length := by simpa using hlt
    obtain ⟨B1, O1, es1, hA, hl1, hr, hm⟩ := sl_get h1 (List.getElem?_eq_getElem hlt')
    obtain ⟨B2, O2, es2, hB, hl2, hr2, hm2⟩ := sl_get h2 (List.getElem?_eq_getElem hlt')
    generalize hx : l[k] = x at *
    obtain ⟨_, _, rfl, r1, r2⟩ := hr
    obtain rfl := str_cell r1
    obtain rfl := str_cell r2
    obtain ⟨_, _, rfl, r1, r2⟩ := hr2
    obtain rfl := str_cell r1
    obtain rfl := str_cell r2
    refine CW.skip ?_
    refine PW.code ?_
    refine CW.seq ?_
    refine CW.block ?_
    refine CW.seqA (by kernel_rfl) rfl ?_
    repeat (apply AW.val rfl; · intro Gx X; (first | refine RW.yes rfl ?_ | skip); (first|refine Jc ?_|refine Jd ?_|refine Je ?_|refine Jf ?_|refine Jg ?_|refine Jh ?_|refine Ji ?_|refine Jj ?_|refine Jk ?_|refine Jl ?_|refine Jm ?_|refine Jn ?_|refine Jo ?_|refine Jp ?_|refine Jq ?_|refine Jr ?_|refine Js ?_|refine Jt ?_|refine Ju ?_|refine Jv ?_|refine Jw ?_|refine Jx ?_|refine Jz ?_|refine JA ?_|refine JB ?_|refine JC ?_|refine JD ?_|refine JE ?_|refine JF ?_|refine JG ?_|refine JH ?_|refine JI ?_|refine JJ ?_|refine JK ?_|refine JL ?_); exact RW.done rfl)
    (apply AW.val rfl; · intro Gx X; (first | refine RW.yes rfl ?_ | skip); refine RW.indexAddrE hA rfl rfl (by omega) hlt rfl ?_; exact RW.done rfl)
    (apply AW.val rfl; · intro Gx X; (first | refine RW.yes rfl ?_ | skip); refine RW.load_ros (cs := _) rfl hle hm rfl hl1 (by rw [hl1]; decide) rfl ?_; exact RW.done rfl)
    repeat (apply AW.val rfl; · intro Gx X; (first | refine RW.yes rfl ?_ | skip); (first|refine Jc ?_|refine Jd ?_|refine Je ?_|refine Jf ?_|refine Jg ?_|refine Jh ?_|refine Ji ?_|refine Jj ?_|refine Jk ?_|refine Jl ?_|refine Jm ?_|refine Jn ?_|refine Jo ?_|refine Jp ?_|refine Jq ?_|refine Jr ?_|refine Js ?_|refine Jt ?_|refine Ju ?_|refine Jv ?_|refine Jw ?_|refine Jx ?_|refine Jz ?_|refine JA ?_|refine JB ?_|refine JC ?_|refine JD ?_|refine JE ?_|refine JF ?_|refine JG ?_|refine JH ?_|refine JI ?_|refine JJ ?_|refine JK ?_|refine JL ?_); exact RW.done rfl)
    (apply AW.val rfl; · intro Gx X; (first | refine RW.yes rfl ?_ | skip); refine RW.indexAddrE hB rfl rfl (by omega) hlt rfl ?_; exact RW.done rfl)
    (apply AW.val rfl; · intro Gx X; (first | refine RW.yes rfl ?_ | skip); refine RW.load_ros (cs := _) rfl hle hm2 rfl hl2 (by rw [hl2]; decide) rfl ?_; exact RW.done rfl)
    (apply AW.val rfl; · intro Gx X; (first | refine RW.yes rfl ?_ | skip); refine RW.neqTwo 9 9 rfl rfl rfl rfl rfl rfl rfl rfl (by simp) (by simp) (by kernel_rfl) (by kernel_rfl) (EqOne.str _) (EqOne.str _) rfl ?_; exact RW.done rfl)
    repeat (apply AW.val rfl; · intro Gx X; (first | refine RW.yes rfl ?_ | skip); (first|refine Jc ?_|refine Jd ?_|refine Je ?_|refine Jf ?_|refine Jg ?_|refine Jh ?_|refine Ji ?_|refine Jj ?_|refine Jk ?_|refine Jl ?_|refine Jm ?_|refine Jn ?_|refine Jo ?_|refine Jp ?_|refine Jq ?_|refine Jr ?_|refine Js ?_|refine Jt ?_|refine Ju ?_|refine Jv ?_|refine Jw ?_|refine Jx ?_|refine Jz ?_|refine JA ?_|refine JB ?_|refine JC ?_|refine JD ?_|refine JE ?_|refine JF ?_|refine JG ?_|refine JH ?_|refine JI ?_|refine JJ ?_|refine JK ?_|refine JL ?_); exact RW.done rfl)
    refine AW.stop (by kernel_rfl) (by kernel_rfl) fun bs => ?_
    refine Jb ?_
    refine CW.cf rfl ?_
    refine CW.skip ?_
    refine PW.code ?_
    refine CW.region ?_
    refine Jc ?_
    refine RW.add rfl rfl (w64 (by omega) (by omega)) rfl ?_
    refine Jd ?_
    refine RW.nil ?_
    exact PW.again ⟨k + 1, hlt'⟩ ⟨rfl, rfl, rfl, trivial⟩ (fun h => h) (by show l.length - (k + 1) < l.length - k; omega)
  refine CW.exit rfl ?_
  refine PW.code ?_
  refine Ja ?_;refine Jd ?_;refine Jb ?_
  exact CW.ret1 rfl Tryz.results45 rfl rfl fun w hw => ⟨rfl, hw.kp⟩
set_option maxHeartbeats 4000000 in
theorem dSources_ret {A B : Option Addr} {c d : Nat} {l : List kSource.V} {w : World} (h1 : Rd (.sl 24 kSource) (mem w (fun b => ¬ No b)) [.slice A l.length c] l) (h2 : Rd (.sl 24 kSource) (mem w (fun b => ¬ No b)) [.slice B l.length d] l) : Ret Tryz.prog 48 [.slice A l.length c, .slice B l.length d] w (.bool true) := by
  have hsm := sl_small h1
  unfold reach at hsm
  have hle : Mem.le (mem w (fun b => ¬ No b)) (mem w (fun b => ¬ No b)) := Mem.le_refl _
  refine Calls.enter Tryz.func48 rfl _ rfl rfl (S := No) (H := []) trivial ?_
  refine Ja ?_;refine Jd ?_;refine Jb ?_
  refine CW.seq ?_
  refine Ja ?_;refine Jc ?_;refine Jg ?_;refine Jc ?_;refine Jg ?_;refine Jj ?_;refine Jb ?_
  refine CW.ite rfl (fun h => absurd rfl h) (fun _ => ?_)
  refine CW.skip ?_
  refine PW.code ?_
  refine CW.seq ?_
  refine Ja ?_;refine Jd ?_;refine Jb ?_
  refine CW.block ?_
  refine CW.loop (ι := { k : Nat // k ≤ l.length }) (fun k => [(0, .slice A l.length c), (1, .slice B l.length d), (5, .int .i64 k.1)]) (fun _ => []) (fun k => l.length - k.1) ⟨0, Nat.zero_le _⟩ ⟨rfl, rfl, rfl, trivial⟩ (fun h => h) ?_
  intro ⟨k, hk⟩
  dsimp only at hk ⊢
  refine CW.seq ?_
  refine Ja ?_;refine Jc ?_;refine Jc ?_;refine Jg ?_;refine Jk ?_;refine Jb ?_
  refine CW.ite rfl (fun hlt => ?_) (fun hge => ?_)
  · have hlt' : k < l.length := by simpa using hlt
    obtain ⟨B1, O1, es1, hA, hl1, hr, hm⟩ := sl_get h1 (List.getElem?_eq_getElem hlt')
    obtain ⟨B2, O2, es2, hB, hl2, hr2, hm2⟩ := sl_get h2 (List.getElem?_eq_getElem hlt')
    generalize hx : l[k] = x at *
    obtain ⟨_, _, rfl, r1, r2⟩ := hr
    obtain rfl := str_cell r1
    obtain rfl := int_cell r2
    obtain ⟨_, _, rfl, r1, r2⟩ := hr2
    obtain rfl := str_cell r1
    obtain rfl := int_cell r2
    refine CW.skip ?_
    refine PW.code ?_
    refine CW.seq ?_
    refine CW.block ?_
    refine CW.seqA (by kernel_rfl) rfl ?_
    repeat (apply AW.val rfl; · intro Gx X; (first | refine RW.yes rfl ?_ | skip); (first|refine Jc ?_|refine Jd ?_|refine Je ?_|refine Jf ?_|refine Jg ?_|refine Jh ?_|refine Ji ?_|refine Jj ?_|refine Jk ?_|refine Jl ?_|refine Jm ?_|refine Jn ?_|refine Jo ?_|refine Jp ?_|refine Jq ?_|refine Jr ?_|refine Js ?_|refine Jt ?_|refine Ju ?_|refine Jv ?_|refine Jw ?_|refine Jx ?_|refine Jz ?_|refine JA ?_|refine JB ?_|refine JC ?_|refine JD ?_|refine JE ?_|refine JF ?_|refine JG ?_|refine JH ?_|refine JI ?_|refine JJ ?_|refine JK ?_|refine JL ?_); exact RW.done rfl)
    (apply AW.val rfl; · intro Gx X; (first | refine RW.yes rfl ?_ | skip); refine RW.indexAddrE hA rfl rfl (by omega) hlt rfl ?_; exact RW.done rfl)
    (apply AW.val rfl; · intro Gx X; (first | refine RW.yes rfl ?_ | skip); refine RW.load_ros (cs := _) rfl hle hm rfl hl1 (by rw [hl1]; decide) rfl ?_; exact RW.done rfl)
    repeat (apply AW.val rfl; · intro Gx X; (first | refine RW.yes rfl ?_ | skip); (first|refine Jc ?_|refine Jd ?_|refine Je ?_|refine Jf ?_|refine Jg ?_|refine Jh ?_|refine Ji ?_|refine Jj ?_|refine Jk ?_|refine Jl ?_|refine Jm ?_|refine Jn ?_|refine Jo ?_|refine Jp ?_|refine Jq ?_|refine Jr ?_|refine Js ?_|refine Jt ?_|refine Ju ?_|refine Jv ?_|refine Jw ?_|refine Jx ?_|refine Jz ?_|refine JA ?_|refine JB ?_|refine JC ?_|refine JD ?_|refine JE ?_|refine JF ?_|refine JG ?_|refine JH ?_|refine JI ?_|refine JJ ?_|refine JK ?_|refine JL ?_); exact RW.done rfl)
    (apply AW.val rfl; · intro Gx X; (first | refine RW.yes rfl ?_ | skip); refine RW.indexAddrE hB rfl rfl (by omega) hlt rfl ?_; exact RW.done rfl)
    (apply AW.val rfl; · intro Gx X; (first | refine RW.yes rfl ?_ | skip); refine RW.load_ros (cs := _) rfl hle hm2 rfl hl2 (by rw [hl2]; decide) rfl ?_; exact RW.done rfl)
    (apply AW.val rfl; · intro Gx X; (first | refine RW.yes rfl ?_ | skip); refine RW.neqTwo 9 3 rfl rfl rfl rfl rfl rfl rfl rfl (by simp) (by simp) (by kernel_rfl) (by kernel_rfl) (EqOne.str _) (EqOne.int _) rfl ?_; exact RW.done rfl)
    repeat (apply AW.val rfl; · intro Gx X; (first | refine RW.yes rfl ?_ | skip); (first|refine Jc ?_|refine Jd ?_|refine Je ?_|refine Jf ?_|refine Jg ?_|refine Jh ?_|refine Ji ?_|refine Jj ?_|refine Jk ?_|refine Jl ?_|refine Jm ?_|refine Jn ?_|refine Jo ?_|refine Jp ?_|refine Jq ?_|refine Jr ?_|refine Js ?_|refine Jt ?_|refine Ju ?_|refine Jv ?_|refine Jw ?_|refine Jx ?_|refine Jz ?_|refine JA ?_|refine JB ?_|refine JC ?_|refine JD ?_|refine JE ?_|refine JF ?_|refine JG ?_|refine JH ?_|refine JI ?_|refine JJ ?_|refine JK ?_|refine JL ?_); exact RW.done rfl)
    refine AW.stop (by kernel_rfl) (by kernel_rfl) fun bs => ?_
    refine Jb ?_
    refine CW.cf rfl ?_
    refine CW.skip ?_
    refine PW.code ?_
    refine CW.region ?_
    refine Jc ?_
    refine RW.add rfl rfl (w64 (by omega) (by omega)) rfl ?_
    refine Jd ?_
    refine RW.nil ?_
    exact PW.again ⟨k + 1, hlt'⟩ ⟨rfl, rfl, rfl, trivial⟩ (fun h => h) (by show l.length - (k + 1) < l.length - k; omega)
  refine CW.exit rfl ?_
  refine PW.code ?_
  refine Ja ?_;refine Jd ?_;refine Jb ?_
  exact CW.ret1 rfl Tryz.results48 rfl rfl fun w hw => ⟨rfl, hw.kp⟩
set_option maxHeartbeats 4000000 in
theorem dExcepts_ret {A B : Option Addr} {c d : Nat} {l : List kExc.V} {w : World} (h1 : Rd (.sl 32 kExc) (mem w (fun b => ¬ No b)) [.slice A l.length c] l) (h2 : Rd (.sl 32 kExc) (mem w (fun b => ¬ No b)) [.slice B l.length d] l) : Ret Tryz.prog 50 [.slice A l.length c, .slice B l.length d] w (.bool true) := by
  have hsm := sl_small h1
  unfold reach at hsm
  have hle : Mem.le (mem w (fun b => ¬ No b)) (mem w (fun b => ¬ No b)) := Mem.le_refl _
  refine Calls.enter Tryz.func50 rfl _ rfl rfl (S := No) (H := []) trivial ?_
  refine Ja ?_;refine Jd ?_;refine Jb ?_
  refine CW.seq ?_
  refine Ja ?_;refine Jc ?_;refine Jg ?_;refine Jc ?_;refine Jg ?_;refine Jj ?_;refine Jb ?_
  refine CW.ite rfl (fun h => absurd rfl h) (fun _ => ?_)
  refine CW.skip ?_
  refine PW.code ?_
  refine CW.seq ?_
  refine Ja ?_;refine Jd ?_;refine Jb ?_
  refine CW.block ?_
  refine CW.loop (ι := { k : Nat // k ≤ l.length }) (fun k => [(0, .slice A l.length c), (1, .slice B l.length d), (5, .int .i64 k.1)]) (fun _ => []) (fun k => l.length - k.1) ⟨0, Nat.zero_le _⟩ ⟨rfl, rfl, rfl, trivial⟩ (fun h => h) ?_
  intro ⟨k, hk⟩
  dsimp only at hk ⊢
  refine CW.seq ?_
  refine Ja ?_;refine Jc ?_;refine Jc ?_;refine Jg ?_;refine Jk ?_;refine Jb ?_
  refine CW.ite rfl (fun hlt => ?_) (fun hge => ?_)
  · have hlt' : k < l.length := by simpa using hlt
    obtain ⟨B1, O1, es1, hA, hl1, hr, hm⟩ := sl_get h1 (List.getElem?_eq_getElem hlt')
    obtain ⟨B2, O2, es2, hB, hl2, hr2, hm2⟩ := sl_get h2 (List.getElem?_eq_getElem hlt')
    generalize hx : l[k] = x at *
    obtain ⟨_, _, rfl, r1, r2⟩ := hr
    obtain rfl := str_cell r1
    obtain rfl := str_cell r2
    obtain ⟨_, _, rfl, r1, r2⟩ := hr2
    obtain rfl := str_cell r1
    obtain rfl := str_cell r2
    refine CW.skip ?_
    refine PW.code ?_
    refine CW.seq ?_
    refine CW.block ?_
    refine CW.seqA (by kernel_rfl) rfl ?_
    repeat (apply AW.val rfl; · intro Gx X; (first | refine RW.yes rfl ?_ | skip); (first|refine Jc ?_|refine Jd ?_|refine Je ?_|refine Jf ?_|refine Jg ?_|refine Jh ?_|refine Ji ?_|refine Jj ?_|refine Jk ?_|refine Jl ?_|refine Jm ?_|refine Jn ?_|refine Jo ?_|refine Jp ?_|refine Jq ?_|refine Jr ?_|refine Js ?_|refine Jt ?_|refine Ju ?_|refine Jv ?_|refine Jw ?_|refine Jx ?_|refine Jz ?_|refine JA ?_|refine JB ?_|refine JC ?_|refine JD ?_|refine JE ?_|refine JF ?_|refine JG ?_|refine JH ?_|refine JI ?_|refine JJ ?_|refine JK ?_|refine JL ?_); exact RW.done rfl)
    (apply AW.val rfl; · intro Gx X; (first | refine RW.yes rfl ?_ | skip); refine RW.indexAddrE hA rfl rfl (by omega) hlt rfl ?_; exact RW.done rfl)
    (apply AW.val rfl; · intro Gx X; (first | refine RW.yes rfl ?_ | skip); refine RW.load_ros (cs := _) rfl hle hm rfl hl1 (by rw [hl1]; decide) rfl ?_; exact RW.done rfl)
    repeat (apply AW.val rfl; · intro Gx X; (first | refine RW.yes rfl ?_ | skip); (first|refine Jc ?_|refine Jd ?_|refine Je ?_|refine Jf ?_|refine Jg ?_|refine Jh ?_|refine Ji ?_|refine Jj ?_|refine Jk ?_|refine Jl ?_|refine Jm ?_|refine Jn ?_|refine Jo ?_|refine Jp ?_|refine Jq ?_|refine Jr ?_|refine Js ?_|refine Jt ?_|refine Ju ?_|refine Jv ?_|refine Jw ?_|refine Jx ?_|refine Jz ?_|refine JA ?_|refine JB ?_|refine JC ?_|refine JD ?_|refine JE ?_|refine JF ?_|refine JG ?_|refine JH ?_|refine JI ?_|refine JJ ?_|refine JK ?_|refine JL ?_); exact RW.done rfl)
    (apply AW.val rfl; · intro Gx X; (first | refine RW.yes rfl ?_ | skip); refine RW.indexAddrE hB rfl rfl (by omega) hlt rfl ?_; exact RW.done rfl)
    (apply AW.val rfl; · intro Gx X; (first | refine RW.yes rfl ?_ | skip); refine RW.load_ros (cs := _) rfl hle hm2 rfl hl2 (by rw [hl2]; decide) rfl ?_; exact RW.done rfl)
    (apply AW.val rfl; · intro Gx X; (first | refine RW.yes rfl ?_ | skip); refine RW.neqTwo 9 9 rfl rfl rfl rfl rfl rfl rfl rfl (by simp) (by simp) (by kernel_rfl) (by kernel_rfl) (EqOne.str _) (EqOne.str _) rfl ?_; exact RW.done rfl)
    repeat (apply AW.val rfl; · intro Gx X; (first | refine RW.yes rfl ?_ | skip); (first|refine Jc ?_|refine Jd ?_|refine Je ?_|refine Jf ?_|refine Jg ?_|refine Jh ?_|refine Ji ?_|refine Jj ?_|refine Jk ?_|refine Jl ?_|refine Jm ?_|refine Jn ?_|refine Jo ?_|refine Jp ?_|refine Jq ?_|refine Jr ?_|refine Js ?_|refine Jt ?_|refine Ju ?_|refine Jv ?_|refine Jw ?_|refine Jx ?_|refine Jz ?_|refine JA ?_|refine JB ?_|refine JC ?_|refine JD ?_|refine JE ?_|refine JF ?_|refine JG ?_|refine JH ?_|refine JI ?_|refine JJ ?_|refine JK ?_|refine JL ?_); exact RW.done rfl)
    refine AW.stop (by kernel_rfl) (by kernel_rfl) fun bs => ?_
    refine Jb ?_
    refine CW.cf rfl ?_
    refine CW.skip ?_
    refine PW.code ?_
    refine CW.region ?_
    refine Jc ?_
    refine RW.add rfl rfl (w64 (by omega) (by omega)) rfl ?_
    refine Jd ?_
    refine RW.nil ?_
    exact PW.again ⟨k + 1, hlt'⟩ ⟨rfl, rfl, rfl, trivial⟩ (fun h => h) (by show l.length - (k + 1) < l.length - k; omega)
  refine CW.exit rfl ?_
  refine PW.code ?_
  refine Ja ?_;refine Jd ?_;refine Jb ?_
  exact CW.ret1 rfl Tryz.results50 rfl rfl fun w hw => ⟨rfl, hw.kp⟩
set_option maxHeartbeats 4000000 in
theorem dLists_ret {A B : Option Addr} {c d : Nat} {l : List (List Str)} {w : World} (h1 : Rd (.sl 24 kStrs) (mem w (fun b => ¬ No b)) [.slice A l.length c] l) (h2 : Rd (.sl 24 kStrs) (mem w (fun b => ¬ No b)) [.slice B l.length d] l) : Ret Tryz.prog 47 [.slice A l.length c, .slice B l.length d] w (.bool true) := by
  have hsm := sl_small h1
  unfold reach at hsm
  have hle : Mem.le (mem w (fun b => ¬ No b)) (mem w (fun b => ¬ No b)) := Mem.le_refl _
  refine Calls.enter Tryz.func47 rfl _ rfl rfl (S := No) (H := []) trivial ?_
  refine Ja ?_;refine Jd ?_;refine Jb ?_
  refine CW.seq ?_
  refine Ja ?_;refine Jc ?_;refine Jg ?_;refine Jc ?_;refine Jg ?_;refine Jj ?_;refine Jb ?_
  refine CW.ite rfl (fun h => absurd rfl h) (fun _ => ?_)
  refine CW.skip ?_
  refine PW.code ?_
  refine CW.seq ?_
  refine Ja ?_;refine Jd ?_;refine Jb ?_
  refine CW.block ?_
  refine CW.loop (ι := { k : Nat // k ≤ l.length }) (fun k => [(0, .slice A l.length c), (1, .slice B l.length d), (5, .int .i64 k.1)]) (fun _ => []) (fun k => l.length - k.1) ⟨0, Nat.zero_le _⟩ ⟨rfl, rfl, rfl, trivial⟩ (fun h => h) ?_
  intro ⟨k, hk⟩
  dsimp only at hk ⊢
  refine CW.seq ?_
  refine Ja ?_;refine Jc ?_;refine Jc ?_;refine Jg ?_;refine Jk ?_;refine Jb ?_
  refine CW.ite rfl (fun hlt => ?_) (fun hge => ?_)
  · have hlt' : k < l.length := by simpa using hlt
    obtain ⟨B1, O1, es1, hA, hl1, hr, hm⟩ := sl_get h1 (List.getElem?_eq_getElem hlt')
    obtain ⟨B2, O2, es2, hB, hl2, hr2, hm2⟩ := sl_get h2 (List.getElem?_eq_getElem hlt')
    generalize hx : l[k] = x at *
    obtain ⟨A1, c1, rfl⟩ := sl_cell hr
    obtain ⟨A2, c2, rfl⟩ := sl_cell hr2
    refine CW.skip ?_
    refine PW.code ?_
    refine CW.seq ?_
    refine CW.block ?_
    refine CW.seqA (by kernel_rfl) rfl ?_
    repeat (apply AW.val rfl; · intro Gx X; (first | refine RW.yes rfl ?_ | skip); (first|refine Jc ?_|refine Jd ?_|refine Je ?_|refine Jf ?_|refine Jg ?_|refine Jh ?_|refine Ji ?_|refine Jj ?_|refine Jk ?_|refine Jl ?_|refine Jm ?_|refine Jn ?_|refine Jo ?_|refine Jp ?_|refine Jq ?_|refine Jr ?_|refine Js ?_|refine Jt ?_|refine Ju ?_|refine Jv ?_|refine Jw ?_|refine Jx ?_|refine Jz ?_|refine JA ?_|refine JB ?_|refine JC ?_|refine JD ?_|refine JE ?_|refine JF ?_|refine JG ?_|refine JH ?_|refine JI ?_|refine JJ ?_|refine JK ?_|refine JL ?_); exact RW.done rfl)
    (apply AW.val rfl; · intro Gx X; (first | refine RW.yes rfl ?_ | skip); refine RW.indexAddrE hA rfl rfl (by omega) hlt rfl ?_; exact RW.done rfl)
    (apply AW.val rfl; · intro Gx X; (first | refine RW.yes rfl ?_ | skip); refine RW.load_ro rfl hle (hm 0 _ rfl) rfl rfl ?_; exact RW.done rfl)
    repeat (apply AW.val rfl; · intro Gx X; (first | refine RW.yes rfl ?_ | skip); (first|refine Jc ?_|refine Jd ?_|refine Je ?_|refine Jf ?_|refine Jg ?_|refine Jh ?_|refine Ji ?_|refine Jj ?_|refine Jk ?_|refine Jl ?_|refine Jm ?_|refine Jn ?_|refine Jo ?_|refine Jp ?_|refine Jq ?_|refine Jr ?_|refine Js ?_|refine Jt ?_|refine Ju ?_|refine Jv ?_|refine Jw ?_|refine Jx ?_|refine Jz ?_|refine JA ?_|refine JB ?_|refine JC ?_|refine JD ?_|refine JE ?_|refine JF ?_|refine JG ?_|refine JH ?_|refine JI ?_|refine JJ ?_|refine JK ?_|refine JL ?_); exact RW.done rfl)
    (apply AW.val rfl; · intro Gx X; (first | refine RW.yes rfl ?_ | skip); refine RW.indexAddrE hB rfl rfl (by omega) hlt rfl ?_; exact RW.done rfl)
    (apply AW.val rfl; · intro Gx X; (first | refine RW.yes rfl ?_ | skip); refine RW.load_ro rfl hle (hm2 0 _ rfl) rfl rfl ?_; exact RW.done rfl)
    (apply AW.val rfl; · intro Gx X; (first | refine RW.yes rfl ?_ | skip); refine RW.call Tryz.call12 rfl (fun w2 hw => dStrs_ret (hr.mono (ro_call hw)) (hr2.mono (ro_call hw))) rfl ?_; exact RW.done rfl)
    repeat (apply AW.val rfl; · intro Gx X; (first | refine RW.yes rfl ?_ | skip); (first|refine Jc ?_|refine Jd ?_|refine Je ?_|refine Jf ?_|refine Jg ?_|refine Jh ?_|refine Ji ?_|refine Jj ?_|refine Jk ?_|refine Jl ?_|refine Jm ?_|refine Jn ?_|refine Jo ?_|refine Jp ?_|refine Jq ?_|refine Jr ?_|refine Js ?_|refine Jt ?_|refine Ju ?_|refine Jv ?_|refine Jw ?_|refine Jx ?_|refine Jz ?_|refine JA ?_|refine JB ?_|refine JC ?_|refine JD ?_|refine JE ?_|refine JF ?_|refine JG ?_|refine JH ?_|refine JI ?_|refine JJ ?_|refine JK ?_|refine JL ?_); exact RW.done rfl)
    refine AW.stop (by kernel_rfl) (by kernel_rfl) fun bs => ?_
    refine Jb ?_
    refine CW.cf rfl ?_
    refine CW.skip ?_
    refine PW.code ?_
    refine CW.region ?_
    refine Jc ?_
    refine RW.add rfl rfl (w64 (by omega) (by omega)) rfl ?_
    refine Jd ?_
    refine RW.nil ?_
    exact PW.again ⟨k + 1, hlt'⟩ ⟨rfl, rfl, rfl, trivial⟩ (fun h => h) (by show l.length - (k + 1) < l.length - k; omega)
  refine CW.exit rfl ?_
  refine PW.code ?_
  refine Ja ?_;refine Jd ?_;refine Jb ?_
  exact CW.ret1 rfl Tryz.results47 rfl rfl fun w hw => ⟨rfl, hw.kp⟩
set_option maxHeartbeats 4000000 in
theorem dTerm_ret {x : kTerm.V} {cs cs2 : List Value} {w : World} (h : Rd kTerm (mem w (fun b => ¬ No b)) cs x) (g : Rd kTerm (mem w (fun b => ¬ No b)) cs2 x) : Ret Tryz.prog 206 [.agg cs.toArray, .agg cs2.toArray] w (.bool true) := by
  obtain ⟨A1, c1, rfl, h2⟩ := Rd.termT h
  obtain ⟨B1, d1, rfl, g2⟩ := Rd.termT g
  refine Calls.enter Tryz.func206 rfl _ rfl rfl (S := No) (H := []) trivial ?_
  refine CW.seqR ?_
  refine RW.box_agg (l := [.int .i64 x.1, .string x.2.1, .slice A1 (x.2.2.1).length c1, .int .i64 x.2.2.2]) rfl rfl fun b1 _ => ?_
  refine RW.box_agg (l := [.int .i64 x.1, .string x.2.1, .slice B1 (x.2.2.1).length d1, .int .i64 x.2.2.2]) rfl rfl fun b2 _ => ?_
  refine Jd ?_;refine Jb ?_;refine Ja ?_;refine Je ?_;refine JB ?_;refine Je ?_;refine JA ?_;refine Ea ?_;refine Jc ?_;refine Jy ?_;refine Je ?_;refine Jy ?_;refine JB ?_;refine Jy ?_;refine Je ?_;refine Jy ?_;refine JA ?_;refine Jy ?_;refine Eb ?_;refine Jv ?_;refine Jc ?_;refine Jy ?_;refine Je ?_;refine Jy ?_;refine JB ?_;refine Jy ?_;refine Je ?_;refine Jy ?_;refine JA ?_;refine Jy ?_
  refine RW.call Tryz.call12 rfl (fun w2 hw => dStrs_ret (h2.mono (ro_call hw)) (g2.mono (ro_call hw))) rfl ?_
  refine Jv ?_;refine Jc ?_;refine Jy ?_;refine Je ?_;refine Jy ?_;refine JB ?_;refine Jy ?_;refine Je ?_;refine Jy ?_;refine JA ?_;refine Jy ?_;refine Ea ?_;refine Jv ?_;refine Jd ?_;refine Jb ?_
  exact CW.ret1 rfl Tryz.results206 rfl rfl fun w hw => ⟨rfl, hw.kp⟩
set_option maxHeartbeats 4000000 in
theorem dTerms_ret {A B : Option Addr} {c d : Nat} {l : List kTerm.V} {w : World} (h1 : Rd (.sl 56 kTerm) (mem w (fun b => ¬ No b)) [.slice A l.length c] l) (h2 : Rd (.sl 56 kTerm) (mem w (fun b => ¬ No b)) [.slice B l.length d] l) : Ret Tryz.prog 204 [.slice A l.length c, .slice B l.length d] w (.bool true) := by
  have hsm := sl_small h1
  unfold reach at hsm
  have hle : Mem.le (mem w (fun b => ¬ No b)) (mem w (fun b => ¬ No b)) := Mem.le_refl _
  refine Calls.enter Tryz.func204 rfl _ rfl rfl (S := No) (H := []) trivial ?_
  refine Ja ?_;refine Jd ?_;refine Jb ?_
  refine CW.seq ?_
  refine Ja ?_;refine Jc ?_;refine Jg ?_;refine Jc ?_;refine Jg ?_;refine Jj ?_;refine Jb ?_
  refine CW.ite rfl (fun h => absurd rfl h) (fun _ => ?_)
  refine CW.skip ?_
  refine PW.code ?_
  refine CW.seq ?_
  refine Ja ?_;refine Jd ?_;refine Jb ?_
  refine CW.block ?_
  refine CW.loop (ι := { k : Nat // k ≤ l.length }) (fun k => [(0, .slice A l.length c), (1, .slice B l.length d), (5, .int .i64 k.1)]) (fun _ => []) (fun k => l.length - k.1) ⟨0, Nat.zero_le _⟩ ⟨rfl, rfl, rfl, trivial⟩ (fun h => h) ?_
  intro ⟨k, hk⟩
  dsimp only at hk ⊢
  refine CW.seq ?_
  refine Ja ?_;refine Jc ?_;refine Jc ?_;refine Jg ?_;refine Jk ?_;refine Jb ?_
  refine CW.ite rfl (fun hlt => ?_) (fun hge => ?_)
  · have hlt' : k < l.length := by simpa using hlt
    obtain ⟨B1, O1, es1, hA, hl1, hr, hm⟩ := sl_get h1 (List.getElem?_eq_getElem hlt')
    obtain ⟨B2, O2, es2, hB, hl2, hr2, hm2⟩ := sl_get h2 (List.getElem?_eq_getElem hlt')
    generalize hx : l[k] = x at *
    refine CW.skip ?_
    refine PW.code ?_
    refine CW.seq ?_
    refine CW.block ?_
    refine CW.seqA (by kernel_rfl) rfl ?_
    repeat (apply AW.val rfl; · intro Gx X; (first | refine RW.yes rfl ?_ | skip); (first|refine Jc ?_|refine Jd ?_|refine Je ?_|refine Jf ?_|refine Jg ?_|refine Jh ?_|refine Ji ?_|refine Jj ?_|refine Jk ?_|refine Jl ?_|refine Jm ?_|refine Jn ?_|refine Jo ?_|refine Jp ?_|refine Jq ?_|refine Jr ?_|refine Js ?_|refine Jt ?_|refine Ju ?_|refine Jv ?_|refine Jw ?_|refine Jx ?_|refine Jz ?_|refine JA ?_|refine JB ?_|refine JC ?_|refine JD ?_|refine JE ?_|refine JF ?_|refine JG ?_|refine JH ?_|refine JI ?_|refine JJ ?_|refine JK ?_|refine JL ?_); exact RW.done rfl)
    (apply AW.val rfl; · intro Gx X; (first | refine RW.yes rfl ?_ | skip); refine RW.indexAddrE hA rfl rfl (by omega) hlt rfl ?_; exact RW.done rfl)
    (apply AW.val rfl; · intro Gx X; (first | refine RW.yes rfl ?_ | skip); refine RW.load_ros (cs := es1) rfl hle hm rfl hl1 (by rw [hl1]; decide) rfl ?_; exact RW.done rfl)
    repeat (apply AW.val rfl; · intro Gx X; (first | refine RW.yes rfl ?_ | skip); (first|refine Jc ?_|refine Jd ?_|refine Je ?_|refine Jf ?_|refine Jg ?_|refine Jh ?_|refine Ji ?_|refine Jj ?_|refine Jk ?_|refine Jl ?_|refine Jm ?_|refine Jn ?_|refine Jo ?_|refine Jp ?_|refine Jq ?_|refine Jr ?_|refine Js ?_|refine Jt ?_|refine Ju ?_|refine Jv ?_|refine Jw ?_|refine Jx ?_|refine Jz ?_|refine JA ?_|refine JB ?_|refine JC ?_|refine JD ?_|refine JE ?_|refine JF ?_|refine JG ?_|refine JH ?_|refine JI ?_|refine JJ ?_|refine JK ?_|refine JL ?_); exact RW.done rfl)
    (apply AW.val rfl; · intro Gx X; (first | refine RW.yes rfl ?_ | skip); refine RW.indexAddrE hB rfl rfl (by omega) hlt rfl ?_; exact RW.done rfl)
    (apply AW.val rfl; · intro Gx X; (first | refine RW.yes rfl ?_ | skip); refine RW.load_ros (cs := es2) rfl hle hm2 rfl hl2 (by rw [hl2]; decide) rfl ?_; exact RW.done rfl)
    (apply AW.val rfl; · intro Gx X; (first | refine RW.yes rfl ?_ | skip); refine RW.call Tryz.call206 rfl (fun w2 hw => dTerm_ret (hr.mono (ro_call hw)) (hr2.mono (ro_call hw))) rfl ?_; exact RW.done rfl)
    repeat (apply AW.val rfl; · intro Gx X; (first | refine RW.yes rfl ?_ | skip); (first|refine Jc ?_|refine Jd ?_|refine Je ?_|refine Jf ?_|refine Jg ?_|refine Jh ?_|refine Ji ?_|refine Jj ?_|refine Jk ?_|refine Jl ?_|refine Jm ?_|refine Jn ?_|refine Jo ?_|refine Jp ?_|refine Jq ?_|refine Jr ?_|refine Js ?_|refine Jt ?_|refine Ju ?_|refine Jv ?_|refine Jw ?_|refine Jx ?_|refine Jz ?_|refine JA ?_|refine JB ?_|refine JC ?_|refine JD ?_|refine JE ?_|refine JF ?_|refine JG ?_|refine JH ?_|refine JI ?_|refine JJ ?_|refine JK ?_|refine JL ?_); exact RW.done rfl)
    refine AW.stop (by kernel_rfl) (by kernel_rfl) fun bs => ?_
    refine Jb ?_
    refine CW.cf rfl ?_
    refine CW.skip ?_
    refine PW.code ?_
    refine CW.region ?_
    refine Jc ?_
    refine RW.add rfl rfl (w64 (by omega) (by omega)) rfl ?_
    refine Jd ?_
    refine RW.nil ?_
    exact PW.again ⟨k + 1, hlt'⟩ ⟨rfl, rfl, rfl, trivial⟩ (fun h => h) (by show l.length - (k + 1) < l.length - k; omega)
  refine CW.exit rfl ?_
  refine PW.code ?_
  refine Ja ?_;refine Jd ?_;refine Jb ?_
  exact CW.ret1 rfl Tryz.results204 rfl rfl fun w hw => ⟨rfl, hw.kp⟩
set_option maxHeartbeats 4000000 in
theorem dGuard_ret {x : kGuard.V} {cs cs2 : List Value} {w : World} (h : Rd kGuard (mem w (fun b => ¬ No b)) cs x) (g : Rd kGuard (mem w (fun b => ¬ No b)) cs2 x) : Ret Tryz.prog 202 [.agg cs.toArray, .agg cs2.toArray] w (.bool true) := by
  obtain ⟨A1, c1, A2, c2, rfl, h0, h2⟩ := Rd.guardT h
  obtain ⟨B1, d1, B2, d2, rfl, g0, g2⟩ := Rd.guardT g
  refine Calls.enter Tryz.func202 rfl _ rfl rfl (S := No) (H := []) trivial ?_
  refine CW.seqR ?_
  refine RW.box_agg (l := [.slice A1 (x.1).length c1, .int .i64 x.2.1, .slice A2 (x.2.2).length c2]) rfl rfl fun b1 _ => ?_
  refine RW.box_agg (l := [.slice B1 (x.1).length d1, .int .i64 x.2.1, .slice B2 (x.2.2).length d2]) rfl rfl fun b2 _ => ?_
  refine Jd ?_;refine Jb ?_;refine Ja ?_;refine Je ?_;refine JB ?_;refine Je ?_;refine JA ?_
  refine RW.call Tryz.call204 rfl (fun w2 hw => dTerms_ret (h0.mono (ro_call hw)) (g0.mono (ro_call hw))) rfl ?_
  refine Jc ?_;refine Jy ?_;refine Je ?_;refine Jy ?_;refine JB ?_;refine Jy ?_;refine Je ?_;refine Jy ?_;refine JA ?_;refine Jy ?_;refine Ea ?_;refine Jv ?_;refine Jc ?_;refine Jy ?_;refine Je ?_;refine Jy ?_;refine JB ?_;refine Jy ?_;refine Je ?_;refine Jy ?_;refine JA ?_;refine Jy ?_
  refine RW.call Tryz.call204 rfl (fun w2 hw => dTerms_ret (h2.mono (ro_call hw)) (g2.mono (ro_call hw))) rfl ?_
  refine Jv ?_;refine Jd ?_;refine Jb ?_
  exact CW.ret1 rfl Tryz.results202 rfl rfl fun w hw => ⟨rfl, hw.kp⟩
set_option maxHeartbeats 4000000 in
theorem dLit_ret {x : kLitT.V} {cs cs2 : List Value} {w : World} (h : Rd kLitT (mem w (fun b => ¬ No b)) cs x) (g : Rd kLitT (mem w (fun b => ¬ No b)) cs2 x) : Ret Tryz.prog 20 [.agg cs.toArray, .agg cs2.toArray] w (.bool true) := by
  obtain ⟨A1, c1, rfl, h2⟩ := Rd.litT h
  obtain ⟨B1, d1, rfl, g2⟩ := Rd.litT g
  refine Calls.enter Tryz.func20 rfl _ rfl rfl (S := No) (H := []) trivial ?_
  refine CW.seqR ?_
  refine RW.box_agg (l := [.bool x.1, .string x.2.1, .slice A1 (x.2.2.1).length c1, .bool x.2.2.2.1, .int .i64 x.2.2.2.2]) rfl rfl fun b1 _ => ?_
  refine RW.box_agg (l := [.bool x.1, .string x.2.1, .slice B1 (x.2.2.1).length d1, .bool x.2.2.2.1, .int .i64 x.2.2.2.2]) rfl rfl fun b2 _ => ?_
  refine Jd ?_;refine Jb ?_;refine Ja ?_;refine Je ?_;refine JB ?_;refine Je ?_;refine JA ?_;refine Ec ?_;refine Jc ?_;refine Jy ?_;refine Je ?_;refine Jy ?_;refine JB ?_;refine Jy ?_;refine Je ?_;refine Jy ?_;refine JA ?_;refine Jy ?_;refine Eb ?_;refine Jv ?_;refine Jc ?_;refine Jy ?_;refine Je ?_;refine Jy ?_;refine JB ?_;refine Jy ?_;refine Je ?_;refine Jy ?_;refine JA ?_;refine Jy ?_
  refine RW.call Tryz.call12 rfl (fun w2 hw => dStrs_ret (h2.mono (ro_call hw)) (g2.mono (ro_call hw))) rfl ?_
  refine Jv ?_;refine Jc ?_;refine Jy ?_;refine Je ?_;refine Jy ?_;refine JB ?_;refine Jy ?_;refine Je ?_;refine Jy ?_;refine JA ?_;refine Jy ?_;refine Ec ?_;refine Jv ?_;refine Jc ?_;refine Jy ?_;refine Je ?_;refine Jy ?_;refine JB ?_;refine Jy ?_;refine Je ?_;refine Jy ?_;refine JA ?_;refine Jy ?_;refine Ea ?_;refine Jv ?_;refine Jd ?_;refine Jb ?_
  exact CW.ret1 rfl Tryz.results20 rfl rfl fun w hw => ⟨rfl, hw.kp⟩
set_option maxHeartbeats 4000000 in
theorem dPrem_ret {x : kPrem.V} {cs cs2 : List Value} {w : World} (h : Rd kPrem (mem w (fun b => ¬ No b)) cs x) (g : Rd kPrem (mem w (fun b => ¬ No b)) cs2 x) : Ret Tryz.prog 195 [.agg cs.toArray, .agg cs2.toArray] w (.bool true) := by
  obtain ⟨A1, c1, A2, c2, A3, c3, rfl, h1, h2⟩ := Rd.premT h
  obtain ⟨B1, d1, B2, d2, B3, d3, rfl, g1, g2⟩ := Rd.premT g
  refine Calls.enter Tryz.func195 rfl _ rfl rfl (S := No) (H := []) trivial ?_
  refine CW.seqR ?_
  refine RW.box_agg (l := [.int .i64 x.1, .bool x.2.1.1, .string x.2.1.2.1, .slice A1 (x.2.1.2.2.1).length c1, .bool x.2.1.2.2.2.1, .int .i64 x.2.1.2.2.2.2, .slice A2 (x.2.2.1.1).length c2, .int .i64 x.2.2.1.2.1, .slice A3 (x.2.2.1.2.2).length c3, .string x.2.2.2.1, .string x.2.2.2.2]) rfl rfl fun b1 _ => ?_
  refine RW.box_agg (l := [.int .i64 x.1, .bool x.2.1.1, .string x.2.1.2.1, .slice B1 (x.2.1.2.2.1).length d1, .bool x.2.1.2.2.2.1, .int .i64 x.2.1.2.2.2.2, .slice B2 (x.2.2.1.1).length d2, .int .i64 x.2.2.1.2.1, .slice B3 (x.2.2.1.2.2).length d3, .string x.2.2.2.1, .string x.2.2.2.2]) rfl rfl fun b2 _ => ?_
  refine Jd ?_;refine Jb ?_;refine Ja ?_;refine Je ?_;refine JB ?_;refine Je ?_;refine JA ?_;refine Ea ?_;refine Jc ?_;refine Jy ?_;refine Je ?_;refine Jy ?_
  refine RW.load_part5 [_] rfl rfl rfl rfl ?_
  refine Jy ?_;refine Je ?_;refine Jy ?_
  refine RW.load_part5 [] rfl rfl rfl rfl ?_
  refine Jy ?_
  refine RW.call Tryz.call20 rfl (fun w2 hw => dLit_ret (h1.mono (ro_call hw)) (g1.mono (ro_call hw))) rfl ?_
  refine Jv ?_;refine Jc ?_;refine Jy ?_;refine Je ?_;refine Jy ?_;refine JJ ?_;refine Jy ?_;refine Je ?_;refine Jy ?_;refine JI ?_;refine Jy ?_
  refine RW.call Tryz.call202 rfl (fun w2 hw => dGuard_ret (h2.mono (ro_call hw)) (g2.mono (ro_call hw))) rfl ?_
  refine Jv ?_;refine Jc ?_;refine Jy ?_;refine Je ?_;refine Jy ?_;refine JB ?_;refine Jy ?_;refine Je ?_;refine Jy ?_;refine JA ?_;refine Jy ?_;refine Eb ?_;refine Jv ?_;refine Jc ?_;refine Jy ?_;refine Je ?_;refine Jy ?_;refine JB ?_;refine Jy ?_;refine Je ?_;refine Jy ?_;refine JA ?_;refine Jy ?_;refine Eb ?_;refine Jv ?_;refine Jd ?_;refine Jb ?_
  exact CW.ret1 rfl Tryz.results195 rfl rfl fun w hw => ⟨rfl, hw.kp⟩
set_option maxHeartbeats 4000000 in
theorem dPrems_ret {A B : Option Addr} {c d : Nat} {l : List kPrem.V} {w : World} (h1 : Rd (.sl 160 kPrem) (mem w (fun b => ¬ No b)) [.slice A l.length c] l) (h2 : Rd (.sl 160 kPrem) (mem w (fun b => ¬ No b)) [.slice B l.length d] l) : Ret Tryz.prog 179 [.slice A l.length c, .slice B l.length d] w (.bool true) := by
  have hsm := sl_small h1
  unfold reach at hsm
  have hle : Mem.le (mem w (fun b => ¬ No b)) (mem w (fun b => ¬ No b)) := Mem.le_refl _
  refine Calls.enter Tryz.func179 rfl _ rfl rfl (S := No) (H := []) trivial ?_
  refine Ja ?_;refine Jd ?_;refine Jb ?_
  refine CW.seq ?_
  refine Ja ?_;refine Jc ?_;refine Jg ?_;refine Jc ?_;refine Jg ?_;refine Jj ?_;refine Jb ?_
  refine CW.ite rfl (fun h => absurd rfl h) (fun _ => ?_)
  refine CW.skip ?_
  refine PW.code ?_
  refine CW.seq ?_
  refine Ja ?_;refine Jd ?_;refine Jb ?_
  refine CW.block ?_
  refine CW.loop (ι := { k : Nat // k ≤ l.length }) (fun k => [(0, .slice A l.length c), (1, .slice B l.length d), (5, .int .i64 k.1)]) (fun _ => []) (fun k => l.length - k.1) ⟨0, Nat.zero_le _⟩ ⟨rfl, rfl, rfl, trivial⟩ (fun h => h) ?_
  intro ⟨k, hk⟩
  dsimp only at hk ⊢
  refine CW.seq ?_
  refine Ja ?_;refine Jc ?_;refine Jc ?_;refine Jg ?_;refine Jk ?_;refine Jb ?_
  refine CW.ite rfl (fun hlt => ?_) (fun hge => ?_)
  · have hlt' : k < l.length := by simpa using hlt
    obtain ⟨B1, O1, es1, hA, hl1, hr, hm⟩ := sl_get h1 (List.getElem?_eq_getElem hlt')
    obtain ⟨B2, O2, es2, hB, hl2, hr2, hm2⟩ := sl_get h2 (List.getElem?_eq_getElem hlt')
    generalize hx : l[k] = x at *
    refine CW.skip ?_
    refine PW.code ?_
    refine CW.seq ?_
    refine CW.block ?_
    refine CW.seqA (by kernel_rfl) rfl ?_
    repeat (apply AW.val rfl; · intro Gx X; (first | refine RW.yes rfl ?_ | skip); (first|refine Jc ?_|refine Jd ?_|refine Je ?_|refine Jf ?_|refine Jg ?_|refine Jh ?_|refine Ji ?_|refine Jj ?_|refine Jk ?_|refine Jl ?_|refine Jm ?_|refine Jn ?_|refine Jo ?_|refine Jp ?_|refine Jq ?_|refine Jr ?_|refine Js ?_|refine Jt ?_|refine Ju ?_|refine Jv ?_|refine Jw ?_|refine Jx ?_|refine Jz ?_|refine JA ?_|refine JB ?_|refine JC ?_|refine JD ?_|refine JE ?_|refine JF ?_|refine JG ?_|refine JH ?_|refine JI ?_|refine JJ ?_|refine JK ?_|refine JL ?_); exact RW.done rfl)
    (apply AW.val rfl; · intro Gx X; (first | refine RW.yes rfl ?_ | skip); refine RW.indexAddrE hA rfl rfl (by omega) hlt rfl ?_; exact RW.done rfl)
    (apply AW.val rfl; · intro Gx X; (first | refine RW.yes rfl ?_ | skip); refine RW.load_ros (cs := es1) rfl hle hm rfl hl1 (by rw [hl1]; decide) rfl ?_; exact RW.done rfl)
    repeat (apply AW.val rfl; · intro Gx X; (first | refine RW.yes rfl ?_ | skip); (first|refine Jc ?_|refine Jd ?_|refine Je ?_|refine Jf ?_|refine Jg ?_|refine Jh ?_|refine Ji ?_|refine Jj ?_|refine Jk ?_|refine Jl ?_|refine Jm ?_|refine Jn ?_|refine Jo ?_|refine Jp ?_|refine Jq ?_|refine Jr ?_|refine Js ?_|refine Jt ?_|refine Ju ?_|refine Jv ?_|refine Jw ?_|refine Jx ?_|refine Jz ?_|refine JA ?_|refine JB ?_|refine JC ?_|refine JD ?_|refine JE ?_|refine JF ?_|refine JG ?_|refine JH ?_|refine JI ?_|refine JJ ?_|refine JK ?_|refine JL ?_); exact RW.done rfl)
    (apply AW.val rfl; · intro Gx X; (first | refine RW.yes rfl ?_ | skip); refine RW.indexAddrE hB rfl rfl (by omega) hlt rfl ?_; exact RW.done rfl)
    (apply AW.val rfl; · intro Gx X; (first | refine RW.yes rfl ?_ | skip); refine RW.load_ros (cs := es2) rfl hle hm2 rfl hl2 (by rw [hl2]; decide) rfl ?_; exact RW.done rfl)
    (apply AW.val rfl; · intro Gx X; (first | refine RW.yes rfl ?_ | skip); refine RW.call Tryz.call195 rfl (fun w2 hw => dPrem_ret (hr.mono (ro_call hw)) (hr2.mono (ro_call hw))) rfl ?_; exact RW.done rfl)
    repeat (apply AW.val rfl; · intro Gx X; (first | refine RW.yes rfl ?_ | skip); (first|refine Jc ?_|refine Jd ?_|refine Je ?_|refine Jf ?_|refine Jg ?_|refine Jh ?_|refine Ji ?_|refine Jj ?_|refine Jk ?_|refine Jl ?_|refine Jm ?_|refine Jn ?_|refine Jo ?_|refine Jp ?_|refine Jq ?_|refine Jr ?_|refine Js ?_|refine Jt ?_|refine Ju ?_|refine Jv ?_|refine Jw ?_|refine Jx ?_|refine Jz ?_|refine JA ?_|refine JB ?_|refine JC ?_|refine JD ?_|refine JE ?_|refine JF ?_|refine JG ?_|refine JH ?_|refine JI ?_|refine JJ ?_|refine JK ?_|refine JL ?_); exact RW.done rfl)
    refine AW.stop (by kernel_rfl) (by kernel_rfl) fun bs => ?_
    refine Jb ?_
    refine CW.cf rfl ?_
    refine CW.skip ?_
    refine PW.code ?_
    refine CW.region ?_
    refine Jc ?_
    refine RW.add rfl rfl (w64 (by omega) (by omega)) rfl ?_
    refine Jd ?_
    refine RW.nil ?_
    exact PW.again ⟨k + 1, hlt'⟩ ⟨rfl, rfl, rfl, trivial⟩ (fun h => h) (by show l.length - (k + 1) < l.length - k; omega)
  refine CW.exit rfl ?_
  refine PW.code ?_
  refine Ja ?_;refine Jd ?_;refine Jb ?_
  exact CW.ret1 rfl Tryz.results179 rfl rfl fun w hw => ⟨rfl, hw.kp⟩
set_option maxHeartbeats 4000000 in
theorem dPred_ret {x : kPredT.V} {cs cs2 : List Value} {w : World} (h : Rd kPredT (mem w (fun b => ¬ No b)) cs x) (g : Rd kPredT (mem w (fun b => ¬ No b)) cs2 x) : Ret Tryz.prog 131 [.agg cs.toArray, .agg cs2.toArray] w (.bool true) := by
  obtain ⟨A1, c1, A2, c2, rfl, h2, h3⟩ := Rd.predT h
  obtain ⟨B1, d1, B2, d2, rfl, g2, g3⟩ := Rd.predT g
  refine Calls.enter Tryz.func131 rfl _ rfl rfl (S := No) (H := []) trivial ?_
  refine CW.seqR ?_
  refine RW.box_agg (l := [.string x.1, .int .i64 x.2.1, .slice A1 (x.2.2.1).length c1, .slice A2 (x.2.2.2).length c2]) rfl rfl fun b1 _ => ?_
  refine RW.box_agg (l := [.string x.1, .int .i64 x.2.1, .slice B1 (x.2.2.1).length d1, .slice B2 (x.2.2.2).length d2]) rfl rfl fun b2 _ => ?_
  refine Jd ?_;refine Jb ?_;refine Ja ?_;refine Je ?_;refine JB ?_;refine Je ?_;refine JA ?_;refine Eb ?_;refine Jc ?_;refine Jy ?_;refine Je ?_;refine Jy ?_;refine JB ?_;refine Jy ?_;refine Je ?_;refine Jy ?_;refine JA ?_;refine Jy ?_;refine Ea ?_;refine Jv ?_;refine Jc ?_;refine Jy ?_;refine Je ?_;refine Jy ?_;refine JB ?_;refine Jy ?_;refine Je ?_;refine Jy ?_;refine JA ?_;refine Jy ?_
  refine RW.call Tryz.call12 rfl (fun w2 hw => dStrs_ret (h2.mono (ro_call hw)) (g2.mono (ro_call hw))) rfl ?_
  refine Jv ?_;refine Jc ?_;refine Jy ?_;refine Je ?_;refine Jy ?_;refine JB ?_;refine Jy ?_;refine Je ?_;refine Jy ?_;refine JA ?_;refine Jy ?_
  refine RW.call Tryz.call178 rfl (fun w2 hw => dMoney_ret (h3.mono (ro_call hw)) (g3.mono (ro_call hw))) rfl ?_
  refine Jv ?_;refine Jd ?_;refine Jb ?_
  exact CW.ret1 rfl Tryz.results131 rfl rfl fun w hw => ⟨rfl, hw.kp⟩
set_option maxHeartbeats 4000000 in
theorem dPreds_ret {A B : Option Addr} {c d : Nat} {l : List kPredT.V} {w : World} (h1 : Rd (.sl 72 kPredT) (mem w (fun b => ¬ No b)) [.slice A l.length c] l) (h2 : Rd (.sl 72 kPredT) (mem w (fun b => ¬ No b)) [.slice B l.length d] l) : Ret Tryz.prog 46 [.slice A l.length c, .slice B l.length d] w (.bool true) := by
  have hsm := sl_small h1
  unfold reach at hsm
  have hle : Mem.le (mem w (fun b => ¬ No b)) (mem w (fun b => ¬ No b)) := Mem.le_refl _
  refine Calls.enter Tryz.func46 rfl _ rfl rfl (S := No) (H := []) trivial ?_
  refine Ja ?_;refine Jd ?_;refine Jb ?_
  refine CW.seq ?_
  refine Ja ?_;refine Jc ?_;refine Jg ?_;refine Jc ?_;refine Jg ?_;refine Jj ?_;refine Jb ?_
  refine CW.ite rfl (fun h => absurd rfl h) (fun _ => ?_)
  refine CW.skip ?_
  refine PW.code ?_
  refine CW.seq ?_
  refine Ja ?_;refine Jd ?_;refine Jb ?_
  refine CW.block ?_
  refine CW.loop (ι := { k : Nat // k ≤ l.length }) (fun k => [(0, .slice A l.length c), (1, .slice B l.length d), (5, .int .i64 k.1)]) (fun _ => []) (fun k => l.length - k.1) ⟨0, Nat.zero_le _⟩ ⟨rfl, rfl, rfl, trivial⟩ (fun h => h) ?_
  intro ⟨k, hk⟩
  dsimp only at hk ⊢
  refine CW.seq ?_
  refine Ja ?_;refine Jc ?_;refine Jc ?_;refine Jg ?_;refine Jk ?_;refine Jb ?_
  refine CW.ite rfl (fun hlt => ?_) (fun hge => ?_)
  · have hlt' : k < l.length := by simpa using hlt
    obtain ⟨B1, O1, es1, hA, hl1, hr, hm⟩ := sl_get h1 (List.getElem?_eq_getElem hlt')
    obtain ⟨B2, O2, es2, hB, hl2, hr2, hm2⟩ := sl_get h2 (List.getElem?_eq_getElem hlt')
    generalize hx : l[k] = x at *
    refine CW.skip ?_
    refine PW.code ?_
    refine CW.seq ?_
    refine CW.block ?_
    refine CW.seqA (by kernel_rfl) rfl ?_
    repeat (apply AW.val rfl; · intro Gx X; (first | refine RW.yes rfl ?_ | skip); (first|refine Jc ?_|refine Jd ?_|refine Je ?_|refine Jf ?_|refine Jg ?_|refine Jh ?_|refine Ji ?_|refine Jj ?_|refine Jk ?_|refine Jl ?_|refine Jm ?_|refine Jn ?_|refine Jo ?_|refine Jp ?_|refine Jq ?_|refine Jr ?_|refine Js ?_|refine Jt ?_|refine Ju ?_|refine Jv ?_|refine Jw ?_|refine Jx ?_|refine Jz ?_|refine JA ?_|refine JB ?_|refine JC ?_|refine JD ?_|refine JE ?_|refine JF ?_|refine JG ?_|refine JH ?_|refine JI ?_|refine JJ ?_|refine JK ?_|refine JL ?_); exact RW.done rfl)
    (apply AW.val rfl; · intro Gx X; (first | refine RW.yes rfl ?_ | skip); refine RW.indexAddrE hA rfl rfl (by omega) hlt rfl ?_; exact RW.done rfl)
    (apply AW.val rfl; · intro Gx X; (first | refine RW.yes rfl ?_ | skip); refine RW.load_ros (cs := es1) rfl hle hm rfl hl1 (by rw [hl1]; decide) rfl ?_; exact RW.done rfl)
    repeat (apply AW.val rfl; · intro Gx X; (first | refine RW.yes rfl ?_ | skip); (first|refine Jc ?_|refine Jd ?_|refine Je ?_|refine Jf ?_|refine Jg ?_|refine Jh ?_|refine Ji ?_|refine Jj ?_|refine Jk ?_|refine Jl ?_|refine Jm ?_|refine Jn ?_|refine Jo ?_|refine Jp ?_|refine Jq ?_|refine Jr ?_|refine Js ?_|refine Jt ?_|refine Ju ?_|refine Jv ?_|refine Jw ?_|refine Jx ?_|refine Jz ?_|refine JA ?_|refine JB ?_|refine JC ?_|refine JD ?_|refine JE ?_|refine JF ?_|refine JG ?_|refine JH ?_|refine JI ?_|refine JJ ?_|refine JK ?_|refine JL ?_); exact RW.done rfl)
    (apply AW.val rfl; · intro Gx X; (first | refine RW.yes rfl ?_ | skip); refine RW.indexAddrE hB rfl rfl (by omega) hlt rfl ?_; exact RW.done rfl)
    (apply AW.val rfl; · intro Gx X; (first | refine RW.yes rfl ?_ | skip); refine RW.load_ros (cs := es2) rfl hle hm2 rfl hl2 (by rw [hl2]; decide) rfl ?_; exact RW.done rfl)
    (apply AW.val rfl; · intro Gx X; (first | refine RW.yes rfl ?_ | skip); refine RW.call Tryz.call131 rfl (fun w2 hw => dPred_ret (hr.mono (ro_call hw)) (hr2.mono (ro_call hw))) rfl ?_; exact RW.done rfl)
    repeat (apply AW.val rfl; · intro Gx X; (first | refine RW.yes rfl ?_ | skip); (first|refine Jc ?_|refine Jd ?_|refine Je ?_|refine Jf ?_|refine Jg ?_|refine Jh ?_|refine Ji ?_|refine Jj ?_|refine Jk ?_|refine Jl ?_|refine Jm ?_|refine Jn ?_|refine Jo ?_|refine Jp ?_|refine Jq ?_|refine Jr ?_|refine Js ?_|refine Jt ?_|refine Ju ?_|refine Jv ?_|refine Jw ?_|refine Jx ?_|refine Jz ?_|refine JA ?_|refine JB ?_|refine JC ?_|refine JD ?_|refine JE ?_|refine JF ?_|refine JG ?_|refine JH ?_|refine JI ?_|refine JJ ?_|refine JK ?_|refine JL ?_); exact RW.done rfl)
    refine AW.stop (by kernel_rfl) (by kernel_rfl) fun bs => ?_
    refine Jb ?_
    refine CW.cf rfl ?_
    refine CW.skip ?_
    refine PW.code ?_
    refine CW.region ?_
    refine Jc ?_
    refine RW.add rfl rfl (w64 (by omega) (by omega)) rfl ?_
    refine Jd ?_
    refine RW.nil ?_
    exact PW.again ⟨k + 1, hlt'⟩ ⟨rfl, rfl, rfl, trivial⟩ (fun h => h) (by show l.length - (k + 1) < l.length - k; omega)
  refine CW.exit rfl ?_
  refine PW.code ?_
  refine Ja ?_;refine Jd ?_;refine Jb ?_
  exact CW.ret1 rfl Tryz.results46 rfl rfl fun w hw => ⟨rfl, hw.kp⟩
set_option maxHeartbeats 4000000 in
theorem dRule_ret {x : kRule.V} {cs cs2 : List Value} {w : World} (h : Rd kRule (mem w (fun b => ¬ No b)) cs x) (g : Rd kRule (mem w (fun b => ¬ No b)) cs2 x) : Ret Tryz.prog 132 [.agg cs.toArray, .agg cs2.toArray] w (.bool true) := by
  obtain ⟨A1, c1, A2, c2, rfl, h4, h6⟩ := Rd.ruleT h
  obtain ⟨B1, d1, B2, d2, rfl, g4, g6⟩ := Rd.ruleT g
  refine Calls.enter Tryz.func132 rfl _ rfl rfl (S := No) (H := []) trivial ?_
  refine CW.seqR ?_
  refine RW.box_agg (l := [.string x.1, .string x.2.1, .int .i64 x.2.2.1, .int .i64 x.2.2.2.1, .slice A1 (x.2.2.2.2.1).length c1, .int .i64 x.2.2.2.2.2.1, .bool x.2.2.2.2.2.2.1, .string x.2.2.2.2.2.2.2.1, .slice A2 (x.2.2.2.2.2.2.2.2.1).length c2, .bool x.2.2.2.2.2.2.2.2.2.1, .int .i64 x.2.2.2.2.2.2.2.2.2.2]) rfl rfl fun b1 _ => ?_
  refine RW.box_agg (l := [.string x.1, .string x.2.1, .int .i64 x.2.2.1, .int .i64 x.2.2.2.1, .slice B1 (x.2.2.2.2.1).length d1, .int .i64 x.2.2.2.2.2.1, .bool x.2.2.2.2.2.2.1, .string x.2.2.2.2.2.2.2.1, .slice B2 (x.2.2.2.2.2.2.2.2.1).length d2, .bool x.2.2.2.2.2.2.2.2.2.1, .int .i64 x.2.2.2.2.2.2.2.2.2.2]) rfl rfl fun b2 _ => ?_
  refine Jd ?_;refine Jb ?_;refine Ja ?_;refine Je ?_;refine JB ?_;refine Je ?_;refine JA ?_;refine Eb ?_;refine Jc ?_;refine Jy ?_;refine Je ?_;refine Jy ?_;refine JB ?_;refine Jy ?_;refine Je ?_;refine Jy ?_;refine JA ?_;refine Jy ?_;refine Eb ?_;refine Jv ?_;refine Jc ?_;refine Jy ?_;refine Je ?_;refine Jy ?_;refine JB ?_;refine Jy ?_;refine Je ?_;refine Jy ?_;refine JA ?_;refine Jy ?_;refine Ea ?_;refine Jv ?_;refine Jc ?_;refine Jy ?_;refine Je ?_;refine Jy ?_;refine JB ?_;refine Jy ?_;refine Je ?_;refine Jy ?_;refine JA ?_;refine Jy ?_;refine Ea ?_;refine Jv ?_;refine Jc ?_;refine Jy ?_;refine Je ?_;refine Jy ?_;refine JB ?_;refine Jy ?_;refine Je ?_;refine Jy ?_;refine JA ?_;refine Jy ?_
  refine RW.call Tryz.call179 rfl (fun w2 hw => dPrems_ret (h4.mono (ro_call hw)) (g4.mono (ro_call hw))) rfl ?_
  refine Jv ?_;refine Jc ?_;refine Jy ?_;refine Je ?_;refine Jy ?_;refine JB ?_;refine Jy ?_;refine Je ?_;refine Jy ?_;refine JA ?_;refine Jy ?_;refine Ea ?_;refine Jv ?_;refine Jc ?_;refine Jy ?_;refine Je ?_;refine Jy ?_
  refine RW.load_part5 [_] rfl rfl rfl rfl ?_
  refine Jy ?_;refine Je ?_;refine Jy ?_
  refine RW.load_part5 [] rfl rfl rfl rfl ?_
  refine Jy ?_
  refine RW.call Tryz.call20 rfl (fun w2 hw => dLit_ret (h6.mono (ro_call hw)) (g6.mono (ro_call hw))) rfl ?_
  refine Jv ?_;refine Jd ?_;refine Jb ?_
  exact CW.ret1 rfl Tryz.results132 rfl rfl fun w hw => ⟨rfl, hw.kp⟩
set_option maxHeartbeats 4000000 in
theorem dRules_ret {A B : Option Addr} {c d : Nat} {l : List kRule.V} {w : World} (h1 : Rd (.sl 144 kRule) (mem w (fun b => ¬ No b)) [.slice A l.length c] l) (h2 : Rd (.sl 144 kRule) (mem w (fun b => ¬ No b)) [.slice B l.length d] l) : Ret Tryz.prog 49 [.slice A l.length c, .slice B l.length d] w (.bool true) := by
  have hsm := sl_small h1
  unfold reach at hsm
  have hle : Mem.le (mem w (fun b => ¬ No b)) (mem w (fun b => ¬ No b)) := Mem.le_refl _
  refine Calls.enter Tryz.func49 rfl _ rfl rfl (S := No) (H := []) trivial ?_
  refine Ja ?_;refine Jd ?_;refine Jb ?_
  refine CW.seq ?_
  refine Ja ?_;refine Jc ?_;refine Jg ?_;refine Jc ?_;refine Jg ?_;refine Jj ?_;refine Jb ?_
  refine CW.ite rfl (fun h => absurd rfl h) (fun _ => ?_)
  refine CW.skip ?_
  refine PW.code ?_
  refine CW.seq ?_
  refine Ja ?_;refine Jd ?_;refine Jb ?_
  refine CW.block ?_
  refine CW.loop (ι := { k : Nat // k ≤ l.length }) (fun k => [(0, .slice A l.length c), (1, .slice B l.length d), (5, .int .i64 k.1)]) (fun _ => []) (fun k => l.length - k.1) ⟨0, Nat.zero_le _⟩ ⟨rfl, rfl, rfl, trivial⟩ (fun h => h) ?_
  intro ⟨k, hk⟩
  dsimp only at hk ⊢
  refine CW.seq ?_
  refine Ja ?_;refine Jc ?_;refine Jc ?_;refine Jg ?_;refine Jk ?_;refine Jb ?_
  refine CW.ite rfl (fun hlt => ?_) (fun hge => ?_)
  · have hlt' : k < l.length := by simpa using hlt
    obtain ⟨B1, O1, es1, hA, hl1, hr, hm⟩ := sl_get h1 (List.getElem?_eq_getElem hlt')
    obtain ⟨B2, O2, es2, hB, hl2, hr2, hm2⟩ := sl_get h2 (List.getElem?_eq_getElem hlt')
    generalize hx : l[k] = x at *
    refine CW.skip ?_
    refine PW.code ?_
    refine CW.seq ?_
    refine CW.block ?_
    refine CW.seqA (by kernel_rfl) rfl ?_
    repeat (apply AW.val rfl; · intro Gx X; (first | refine RW.yes rfl ?_ | skip); (first|refine Jc ?_|refine Jd ?_|refine Je ?_|refine Jf ?_|refine Jg ?_|refine Jh ?_|refine Ji ?_|refine Jj ?_|refine Jk ?_|refine Jl ?_|refine Jm ?_|refine Jn ?_|refine Jo ?_|refine Jp ?_|refine Jq ?_|refine Jr ?_|refine Js ?_|refine Jt ?_|refine Ju ?_|refine Jv ?_|refine Jw ?_|refine Jx ?_|refine Jz ?_|refine JA ?_|refine JB ?_|refine JC ?_|refine JD ?_|refine JE ?_|refine JF ?_|refine JG ?_|refine JH ?_|refine JI ?_|refine JJ ?_|refine JK ?_|refine JL ?_); exact RW.done rfl)
    (apply AW.val rfl; · intro Gx X; (first | refine RW.yes rfl ?_ | skip); refine RW.indexAddrE hA rfl rfl (by omega) hlt rfl ?_; exact RW.done rfl)
    (apply AW.val rfl; · intro Gx X; (first | refine RW.yes rfl ?_ | skip); refine RW.load_ros (cs := es1) rfl hle hm rfl hl1 (by rw [hl1]; decide) rfl ?_; exact RW.done rfl)
    repeat (apply AW.val rfl; · intro Gx X; (first | refine RW.yes rfl ?_ | skip); (first|refine Jc ?_|refine Jd ?_|refine Je ?_|refine Jf ?_|refine Jg ?_|refine Jh ?_|refine Ji ?_|refine Jj ?_|refine Jk ?_|refine Jl ?_|refine Jm ?_|refine Jn ?_|refine Jo ?_|refine Jp ?_|refine Jq ?_|refine Jr ?_|refine Js ?_|refine Jt ?_|refine Ju ?_|refine Jv ?_|refine Jw ?_|refine Jx ?_|refine Jz ?_|refine JA ?_|refine JB ?_|refine JC ?_|refine JD ?_|refine JE ?_|refine JF ?_|refine JG ?_|refine JH ?_|refine JI ?_|refine JJ ?_|refine JK ?_|refine JL ?_); exact RW.done rfl)
    (apply AW.val rfl; · intro Gx X; (first | refine RW.yes rfl ?_ | skip); refine RW.indexAddrE hB rfl rfl (by omega) hlt rfl ?_; exact RW.done rfl)
    (apply AW.val rfl; · intro Gx X; (first | refine RW.yes rfl ?_ | skip); refine RW.load_ros (cs := es2) rfl hle hm2 rfl hl2 (by rw [hl2]; decide) rfl ?_; exact RW.done rfl)
    (apply AW.val rfl; · intro Gx X; (first | refine RW.yes rfl ?_ | skip); refine RW.call Tryz.call132 rfl (fun w2 hw => dRule_ret (hr.mono (ro_call hw)) (hr2.mono (ro_call hw))) rfl ?_; exact RW.done rfl)
    repeat (apply AW.val rfl; · intro Gx X; (first | refine RW.yes rfl ?_ | skip); (first|refine Jc ?_|refine Jd ?_|refine Je ?_|refine Jf ?_|refine Jg ?_|refine Jh ?_|refine Ji ?_|refine Jj ?_|refine Jk ?_|refine Jl ?_|refine Jm ?_|refine Jn ?_|refine Jo ?_|refine Jp ?_|refine Jq ?_|refine Jr ?_|refine Js ?_|refine Jt ?_|refine Ju ?_|refine Jv ?_|refine Jw ?_|refine Jx ?_|refine Jz ?_|refine JA ?_|refine JB ?_|refine JC ?_|refine JD ?_|refine JE ?_|refine JF ?_|refine JG ?_|refine JH ?_|refine JI ?_|refine JJ ?_|refine JK ?_|refine JL ?_); exact RW.done rfl)
    refine AW.stop (by kernel_rfl) (by kernel_rfl) fun bs => ?_
    refine Jb ?_
    refine CW.cf rfl ?_
    refine CW.skip ?_
    refine PW.code ?_
    refine CW.region ?_
    refine Jc ?_
    refine RW.add rfl rfl (w64 (by omega) (by omega)) rfl ?_
    refine Jd ?_
    refine RW.nil ?_
    exact PW.again ⟨k + 1, hlt'⟩ ⟨rfl, rfl, rfl, trivial⟩ (fun h => h) (by show l.length - (k + 1) < l.length - k; omega)
  refine CW.exit rfl ?_
  refine PW.code ?_
  refine Ja ?_;refine Jd ?_;refine Jb ?_
  exact CW.ret1 rfl Tryz.results49 rfl rfl fun w hw => ⟨rfl, hw.kp⟩
set_option maxHeartbeats 4000000 in
theorem dTotal_ret {x : kTotal.V} {cs cs2 : List Value} {w : World} (h : Rd kTotal (mem w (fun b => ¬ No b)) cs x) (g : Rd kTotal (mem w (fun b => ¬ No b)) cs2 x) : Ret Tryz.prog 133 [.agg cs.toArray, .agg cs2.toArray] w (.bool true) := by
  obtain ⟨A1, c1, rfl, h2⟩ := Rd.totalT h
  obtain ⟨B1, d1, rfl, g2⟩ := Rd.totalT g
  refine Calls.enter Tryz.func133 rfl _ rfl rfl (S := No) (H := []) trivial ?_
  refine CW.seqR ?_
  refine RW.box_agg (l := [.string x.1, .string x.2.1, .slice A1 (x.2.2.1).length c1, .bool x.2.2.2.1, .int .i64 x.2.2.2.2]) rfl rfl fun b1 _ => ?_
  refine RW.box_agg (l := [.string x.1, .string x.2.1, .slice B1 (x.2.2.1).length d1, .bool x.2.2.2.1, .int .i64 x.2.2.2.2]) rfl rfl fun b2 _ => ?_
  refine Jd ?_;refine Jb ?_;refine Ja ?_;refine Je ?_;refine JB ?_;refine Je ?_;refine JA ?_;refine Eb ?_;refine Jc ?_;refine Jy ?_;refine Je ?_;refine Jy ?_;refine JB ?_;refine Jy ?_;refine Je ?_;refine Jy ?_;refine JA ?_;refine Jy ?_;refine Eb ?_;refine Jv ?_;refine Jc ?_;refine Jy ?_;refine Je ?_;refine Jy ?_;refine JB ?_;refine Jy ?_;refine Je ?_;refine Jy ?_;refine JA ?_;refine Jy ?_
  refine RW.call Tryz.call12 rfl (fun w2 hw => dStrs_ret (h2.mono (ro_call hw)) (g2.mono (ro_call hw))) rfl ?_
  refine Jv ?_;refine Jc ?_;refine Jy ?_;refine Je ?_;refine Jy ?_;refine JB ?_;refine Jy ?_;refine Je ?_;refine Jy ?_;refine JA ?_;refine Jy ?_;refine Ec ?_;refine Jv ?_;refine Jc ?_;refine Jy ?_;refine Je ?_;refine Jy ?_;refine JB ?_;refine Jy ?_;refine Je ?_;refine Jy ?_;refine JA ?_;refine Jy ?_;refine Ea ?_;refine Jv ?_;refine Jd ?_;refine Jb ?_
  exact CW.ret1 rfl Tryz.results133 rfl rfl fun w hw => ⟨rfl, hw.kp⟩
set_option maxHeartbeats 4000000 in
theorem dTotals_ret {A B : Option Addr} {c d : Nat} {l : List kTotal.V} {w : World} (h1 : Rd (.sl 72 kTotal) (mem w (fun b => ¬ No b)) [.slice A l.length c] l) (h2 : Rd (.sl 72 kTotal) (mem w (fun b => ¬ No b)) [.slice B l.length d] l) : Ret Tryz.prog 51 [.slice A l.length c, .slice B l.length d] w (.bool true) := by
  have hsm := sl_small h1
  unfold reach at hsm
  have hle : Mem.le (mem w (fun b => ¬ No b)) (mem w (fun b => ¬ No b)) := Mem.le_refl _
  refine Calls.enter Tryz.func51 rfl _ rfl rfl (S := No) (H := []) trivial ?_
  refine Ja ?_;refine Jd ?_;refine Jb ?_
  refine CW.seq ?_
  refine Ja ?_;refine Jc ?_;refine Jg ?_;refine Jc ?_;refine Jg ?_;refine Jj ?_;refine Jb ?_
  refine CW.ite rfl (fun h => absurd rfl h) (fun _ => ?_)
  refine CW.skip ?_
  refine PW.code ?_
  refine CW.seq ?_
  refine Ja ?_;refine Jd ?_;refine Jb ?_
  refine CW.block ?_
  refine CW.loop (ι := { k : Nat // k ≤ l.length }) (fun k => [(0, .slice A l.length c), (1, .slice B l.length d), (5, .int .i64 k.1)]) (fun _ => []) (fun k => l.length - k.1) ⟨0, Nat.zero_le _⟩ ⟨rfl, rfl, rfl, trivial⟩ (fun h => h) ?_
  intro ⟨k, hk⟩
  dsimp only at hk ⊢
  refine CW.seq ?_
  refine Ja ?_;refine Jc ?_;refine Jc ?_;refine Jg ?_;refine Jk ?_;refine Jb ?_
  refine CW.ite rfl (fun hlt => ?_) (fun hge => ?_)
  · have hlt' : k < l.length := by simpa using hlt
    obtain ⟨B1, O1, es1, hA, hl1, hr, hm⟩ := sl_get h1 (List.getElem?_eq_getElem hlt')
    obtain ⟨B2, O2, es2, hB, hl2, hr2, hm2⟩ := sl_get h2 (List.getElem?_eq_getElem hlt')
    generalize hx : l[k] = x at *
    refine CW.skip ?_
    refine PW.code ?_
    refine CW.seq ?_
    refine CW.block ?_
    refine CW.seqA (by kernel_rfl) rfl ?_
    repeat (apply AW.val rfl; · intro Gx X; (first | refine RW.yes rfl ?_ | skip); (first|refine Jc ?_|refine Jd ?_|refine Je ?_|refine Jf ?_|refine Jg ?_|refine Jh ?_|refine Ji ?_|refine Jj ?_|refine Jk ?_|refine Jl ?_|refine Jm ?_|refine Jn ?_|refine Jo ?_|refine Jp ?_|refine Jq ?_|refine Jr ?_|refine Js ?_|refine Jt ?_|refine Ju ?_|refine Jv ?_|refine Jw ?_|refine Jx ?_|refine Jz ?_|refine JA ?_|refine JB ?_|refine JC ?_|refine JD ?_|refine JE ?_|refine JF ?_|refine JG ?_|refine JH ?_|refine JI ?_|refine JJ ?_|refine JK ?_|refine JL ?_); exact RW.done rfl)
    (apply AW.val rfl; · intro Gx X; (first | refine RW.yes rfl ?_ | skip); refine RW.indexAddrE hA rfl rfl (by omega) hlt rfl ?_; exact RW.done rfl)
    (apply AW.val rfl; · intro Gx X; (first | refine RW.yes rfl ?_ | skip); refine RW.load_ros (cs := es1) rfl hle hm rfl hl1 (by rw [hl1]; decide) rfl ?_; exact RW.done rfl)
    repeat (apply AW.val rfl; · intro Gx X; (first | refine RW.yes rfl ?_ | skip); (first|refine Jc ?_|refine Jd ?_|refine Je ?_|refine Jf ?_|refine Jg ?_|refine Jh ?_|refine Ji ?_|refine Jj ?_|refine Jk ?_|refine Jl ?_|refine Jm ?_|refine Jn ?_|refine Jo ?_|refine Jp ?_|refine Jq ?_|refine Jr ?_|refine Js ?_|refine Jt ?_|refine Ju ?_|refine Jv ?_|refine Jw ?_|refine Jx ?_|refine Jz ?_|refine JA ?_|refine JB ?_|refine JC ?_|refine JD ?_|refine JE ?_|refine JF ?_|refine JG ?_|refine JH ?_|refine JI ?_|refine JJ ?_|refine JK ?_|refine JL ?_); exact RW.done rfl)
    (apply AW.val rfl; · intro Gx X; (first | refine RW.yes rfl ?_ | skip); refine RW.indexAddrE hB rfl rfl (by omega) hlt rfl ?_; exact RW.done rfl)
    (apply AW.val rfl; · intro Gx X; (first | refine RW.yes rfl ?_ | skip); refine RW.load_ros (cs := es2) rfl hle hm2 rfl hl2 (by rw [hl2]; decide) rfl ?_; exact RW.done rfl)
    (apply AW.val rfl; · intro Gx X; (first | refine RW.yes rfl ?_ | skip); refine RW.call Tryz.call133 rfl (fun w2 hw => dTotal_ret (hr.mono (ro_call hw)) (hr2.mono (ro_call hw))) rfl ?_; exact RW.done rfl)
    repeat (apply AW.val rfl; · intro Gx X; (first | refine RW.yes rfl ?_ | skip); (first|refine Jc ?_|refine Jd ?_|refine Je ?_|refine Jf ?_|refine Jg ?_|refine Jh ?_|refine Ji ?_|refine Jj ?_|refine Jk ?_|refine Jl ?_|refine Jm ?_|refine Jn ?_|refine Jo ?_|refine Jp ?_|refine Jq ?_|refine Jr ?_|refine Js ?_|refine Jt ?_|refine Ju ?_|refine Jv ?_|refine Jw ?_|refine Jx ?_|refine Jz ?_|refine JA ?_|refine JB ?_|refine JC ?_|refine JD ?_|refine JE ?_|refine JF ?_|refine JG ?_|refine JH ?_|refine JI ?_|refine JJ ?_|refine JK ?_|refine JL ?_); exact RW.done rfl)
    refine AW.stop (by kernel_rfl) (by kernel_rfl) fun bs => ?_
    refine Jb ?_
    refine CW.cf rfl ?_
    refine CW.skip ?_
    refine PW.code ?_
    refine CW.region ?_
    refine Jc ?_
    refine RW.add rfl rfl (w64 (by omega) (by omega)) rfl ?_
    refine Jd ?_
    refine RW.nil ?_
    exact PW.again ⟨k + 1, hlt'⟩ ⟨rfl, rfl, rfl, trivial⟩ (fun h => h) (by show l.length - (k + 1) < l.length - k; omega)
  refine CW.exit rfl ?_
  refine PW.code ?_
  refine Ja ?_;refine Jd ?_;refine Jb ?_
  exact CW.ret1 rfl Tryz.results51 rfl rfl fun w hw => ⟨rfl, hw.kp⟩
set_option maxHeartbeats 8000000 in
theorem dStat_ret {s : kStat.V} {x y : RC} {w : World} (h : StatOn (mem w (fun b => ¬ No b)) s x) (g : StatOn (mem w (fun b => ¬ No b)) s y) : Ret Tryz.prog 14 [.agg (x.stat s).toArray, .agg (y.stat s).toArray] w (.bool true) := by
  refine Calls.enter Tryz.func14 rfl _ rfl rfl (S := No) (H := []) trivial ?_
  refine CW.seqR ?_
  refine RW.box_agg (l := x.stat s) rfl rfl fun b1 _ => ?_
  refine RW.box_agg (l := y.stat s) rfl rfl fun b2 _ => ?_
  refine Jd ?_;refine Jb ?_;refine Ja ?_;refine Je ?_;refine JB ?_;refine Je ?_;refine JA ?_;refine Eb ?_;refine Jc ?_;refine Jy ?_;refine Je ?_;refine Jy ?_;refine JB ?_;refine Jy ?_;refine Je ?_;refine Jy ?_;refine JA ?_;refine Jy ?_
  refine RW.call Tryz.call12 rfl (fun w2 hw => dStrs_ret ((StatOn.mono h (ro_call hw)).kinds) ((StatOn.mono g (ro_call hw)).kinds)) rfl ?_
  refine Jv ?_;refine Jc ?_;refine Jy ?_;refine Je ?_;refine Jy ?_;refine JB ?_;refine Jy ?_;refine Je ?_;refine Jy ?_;refine JA ?_;refine Jy ?_
  refine RW.call Tryz.call45 rfl (fun w2 hw => dMembers_ret ((StatOn.mono h (ro_call hw)).members) ((StatOn.mono g (ro_call hw)).members)) rfl ?_
  refine Jv ?_;refine Jc ?_;refine Jy ?_;refine Je ?_;refine Jy ?_;refine JB ?_;refine Jy ?_;refine Je ?_;refine Jy ?_;refine JA ?_;refine Jy ?_
  refine RW.call Tryz.call46 rfl (fun w2 hw => dPreds_ret ((StatOn.mono h (ro_call hw)).preds) ((StatOn.mono g (ro_call hw)).preds)) rfl ?_
  refine Jv ?_;refine Jc ?_;refine Jy ?_;refine Je ?_;refine Jy ?_;refine JB ?_;refine Jy ?_;refine Je ?_;refine Jy ?_;refine JA ?_;refine Jy ?_
  refine RW.call Tryz.call47 rfl (fun w2 hw => dLists_ret ((StatOn.mono h (ro_call hw)).classes) ((StatOn.mono g (ro_call hw)).classes)) rfl ?_
  refine Jv ?_;refine Jc ?_;refine Jy ?_;refine Je ?_;refine Jy ?_;refine JB ?_;refine Jy ?_;refine Je ?_;refine Jy ?_;refine JA ?_;refine Jy ?_
  refine RW.call Tryz.call48 rfl (fun w2 hw => dSources_ret ((StatOn.mono h (ro_call hw)).sources) ((StatOn.mono g (ro_call hw)).sources)) rfl ?_
  refine Jv ?_;refine Jc ?_;refine Jy ?_;refine Je ?_;refine Jy ?_;refine JB ?_;refine Jy ?_;refine Je ?_;refine Jy ?_;refine JA ?_;refine Jy ?_
  refine RW.call Tryz.call49 rfl (fun w2 hw => dRules_ret ((StatOn.mono h (ro_call hw)).rules) ((StatOn.mono g (ro_call hw)).rules)) rfl ?_
  refine Jv ?_;refine Jc ?_;refine Jy ?_;refine Je ?_;refine Jy ?_;refine JB ?_;refine Jy ?_;refine Je ?_;refine Jy ?_;refine JA ?_;refine Jy ?_
  refine RW.call Tryz.call50 rfl (fun w2 hw => dExcepts_ret ((StatOn.mono h (ro_call hw)).excepts) ((StatOn.mono g (ro_call hw)).excepts)) rfl ?_
  refine Jv ?_;refine Jc ?_;refine Jy ?_;refine Je ?_;refine Jy ?_;refine JB ?_;refine Jy ?_;refine Je ?_;refine Jy ?_;refine JA ?_;refine Jy ?_
  refine RW.call Tryz.call51 rfl (fun w2 hw => dTotals_ret ((StatOn.mono h (ro_call hw)).totals) ((StatOn.mono g (ro_call hw)).totals)) rfl ?_
  refine Jv ?_;refine Jd ?_;refine Jb ?_
  exact CW.ret1 rfl Tryz.results14 rfl rfl fun w hw => ⟨rfl, hw.kp⟩
end Go.Proofs.YtkfmlekomfnleaaGreat
/- The types of chapter 08 as kinds of data. -/
set_option linter.unusedVariables false
set_option linter.unusedSimpArgs false
namespace Go.Proofs.YtkfmlekomfnleaaGreat
open Go Go.RowKit

theorem ty_int : TyK Tryz.prog 3 kI := .int Tryz.underlying3
theorem ty_int64 : TyK Tryz.prog 2 kI := .int Tryz.underlying2
theorem ty_money : TyK Tryz.prog 49 kI := .int Tryz.underlying49
theorem ty_sort : TyK Tryz.prog 148 kI := .int Tryz.underlying148
theorem ty_bool : TyK Tryz.prog 4 .bool := .bool Tryz.underlying4
theorem ty_str : TyK Tryz.prog 9 .str := .str Tryz.underlying9
theorem ty_moneys : TyK Tryz.prog 149 kInts := .sl Tryz.underlying149 (by kernel_rfl) (by kernel_rfl) ty_money
theorem ty_strs : TyK Tryz.prog 22 kStrs := .sl Tryz.underlying22 (by kernel_rfl) (by kernel_rfl) ty_str
theorem ty_member : TyK Tryz.prog 158 kMember := .st Tryz.underlying158 (by kernel_rfl) (.cons rfl (by kernel_rfl) ty_str (.one rfl (by kernel_rfl) ty_str))
theorem ty_predT : TyK Tryz.prog 151 kPredT := .st Tryz.underlying151 (by kernel_rfl) (.cons rfl (by kernel_rfl) ty_str (.cons rfl (by kernel_rfl) ty_sort (.cons rfl (by kernel_rfl) ty_strs (.one rfl (by kernel_rfl) ty_moneys))))
theorem ty_source : TyK Tryz.prog 161 kSource := .st Tryz.underlying161 (by kernel_rfl) (.cons rfl (by kernel_rfl) ty_str (.one rfl (by kernel_rfl) ty_int))
theorem ty_litT : TyK Tryz.prog 51 kLitT := .st Tryz.underlying51 (by kernel_rfl) (.cons rfl (by kernel_rfl) ty_bool (.cons rfl (by kernel_rfl) ty_str (.cons rfl (by kernel_rfl) ty_strs (.cons rfl (by kernel_rfl) ty_bool (.one rfl (by kernel_rfl) ty_money)))))
theorem ty_term : TyK Tryz.prog 207 kTerm := .st Tryz.underlying207 (by kernel_rfl) (.cons rfl (by kernel_rfl) ty_int64 (.cons rfl (by kernel_rfl) ty_str (.cons rfl (by kernel_rfl) ty_strs (.one rfl (by kernel_rfl) ty_money))))
theorem ty_terms : TyK Tryz.prog 140 kTerms := .sl Tryz.underlying140 (by kernel_rfl) (by kernel_rfl) ty_term
theorem ty_op : TyK Tryz.prog 141 kI := .int Tryz.underlying141
theorem ty_guard : TyK Tryz.prog 143 kGuard := .st Tryz.underlying143 (by kernel_rfl) (.cons rfl (by kernel_rfl) ty_terms (.cons rfl (by kernel_rfl) ty_op (.one rfl (by kernel_rfl) ty_terms)))
theorem ty_premK : TyK Tryz.prog 139 kI := .int Tryz.underlying139
theorem ty_prem : TyK Tryz.prog 145 kPrem := .st Tryz.underlying145 (by kernel_rfl) (.cons rfl (by kernel_rfl) ty_premK (.cons rfl (by kernel_rfl) ty_litT (.cons rfl (by kernel_rfl) ty_guard (.cons rfl (by kernel_rfl) ty_str (.one rfl (by kernel_rfl) ty_str)))))
theorem ty_prems : TyK Tryz.prog 117 kPrems := .sl Tryz.underlying117 (by kernel_rfl) (by kernel_rfl) ty_prem
theorem ty_date : TyK Tryz.prog 116 kI := .int Tryz.underlying116
theorem ty_arrow : TyK Tryz.prog 118 kI := .int Tryz.underlying118
theorem ty_rule : TyK Tryz.prog 120 kRule := .st Tryz.underlying120 (by kernel_rfl) (.cons rfl (by kernel_rfl) ty_str (.cons rfl (by kernel_rfl) ty_str (.cons rfl (by kernel_rfl) ty_date (.cons rfl (by kernel_rfl) ty_date (.cons rfl (by kernel_rfl) ty_prems (.cons rfl (by kernel_rfl) ty_arrow (.one rfl (by kernel_rfl) ty_litT)))))))
theorem ty_exc : TyK Tryz.prog 164 kExc := .st Tryz.underlying164 (by kernel_rfl) (.cons rfl (by kernel_rfl) ty_str (.one rfl (by kernel_rfl) ty_str))
theorem ty_total : TyK Tryz.prog 166 kTotal := .st Tryz.underlying166 (by kernel_rfl) (.cons rfl (by kernel_rfl) ty_str (.cons rfl (by kernel_rfl) ty_str (.cons rfl (by kernel_rfl) ty_strs (.cons rfl (by kernel_rfl) ty_bool (.one rfl (by kernel_rfl) ty_money)))))
theorem ty_stat : TyK Tryz.prog 31 kStat := .st Tryz.underlying31 (by kernel_rfl) (.cons rfl (by kernel_rfl) ty_str (.cons rfl (by kernel_rfl) ty_strs (.cons rfl (by kernel_rfl) (.sl Tryz.underlying23 (by kernel_rfl) (by kernel_rfl) ty_member) (.cons rfl (by kernel_rfl) (.sl Tryz.underlying24 (by kernel_rfl) (by kernel_rfl) ty_predT) (.cons rfl (by kernel_rfl) (.sl Tryz.underlying25 (by kernel_rfl) (by kernel_rfl) ty_strs)
  (.cons rfl (by kernel_rfl) (.sl Tryz.underlying26 (by kernel_rfl) (by kernel_rfl) ty_source) (.cons rfl (by kernel_rfl) (.sl Tryz.underlying27 (by kernel_rfl) (by kernel_rfl) ty_rule) (.cons rfl (by kernel_rfl) (.sl Tryz.underlying28 (by kernel_rfl) (by kernel_rfl) ty_exc) (.one rfl (by kernel_rfl) (.sl Tryz.underlying29 (by kernel_rfl) (by kernel_rfl) ty_total))))))))))
/-- A statute, its slices named. -/
theorem rd_stat {M : Mem} {cs : List Value} {s : kStat.V} (h : Rd kStat M cs s) : ∃ x : RC, cs = x.stat s ∧ StatOn M s x := by
  obtain ⟨c0, r0, rfl, h0, c1, r1, rfl, h1, c2, r2, rfl, h2, c3, r3, rfl, h3, c4, r4, rfl, h4, c5, r5, rfl, h5, c6, r6, rfl, h6, c7, r7, rfl, h7, h8⟩ := h
  obtain rfl := str_cell h0
  obtain ⟨A1, k1, rfl⟩ := sl_cell h1
  obtain ⟨A2, k2, rfl⟩ := sl_cell h2
  obtain ⟨A3, k3, rfl⟩ := sl_cell h3
  obtain ⟨A4, k4, rfl⟩ := sl_cell h4
  obtain ⟨A5, k5, rfl⟩ := sl_cell h5
  obtain ⟨A6, k6, rfl⟩ := sl_cell h6
  obtain ⟨A7, k7, rfl⟩ := sl_cell h7
  obtain ⟨A8, k8, rfl⟩ := sl_cell h8
  exact ⟨⟨A1, A2, A3, A4, A5, A6, A7, A8, k1, k2, k3, k4, k5, k6, k7, k8, 0, 0, 0, 0, 0, 0⟩, rfl, h1, h2, h3, h4, h5, h6, h7, h8⟩
end Go.Proofs.YtkfmlekomfnleaaGreat
/- SameStrings, SameInts of one's own; the law of checks, walked. Conditions: none. -/
set_option linter.unusedVariables false
set_option linter.unusedSimpArgs false
set_option maxRecDepth 10000
namespace Go.Proofs.YtkfmlekomfnleaaGreat
open Go Go.RowKit Go.MapKept

theorem stat_all {pre r : List HP} {x : RC} {s : kStat.V} {w : World} {A : Nat → Prop} (h : Sep (pre ++ allHP (statH x s) :: r) w A) : StatOn (mem w (fun b => ¬ No b)) s x := stat_on (Sep.unpack (Sep.pull h))
theorem own_str {w0 w : World} {S : Nat → Prop} {pre r : List HP} {B n c : Nat} {l : List Str} {k : Nat} (h : St w0 S (pre ++ ownHP 9 1 (.slice (some ⟨B, 0, none⟩) n c) (l.map strE) :: r) w) (hk : k < l.length) : w.cell? ⟨B, 0 + (k : Int).toNat * 1, none⟩ = some (.string l[k]) := by
  have h2 := flatten_at (sz := 1) (es := l.map strE) (fun x hx => by obtain ⟨a, _, rfl⟩ := List.mem_map.1 hx; rfl) (i := k) (x := strE l[k]) (by rw [List.getElem?_map, List.getElem?_eq_getElem hk]; rfl) (j := 0) (v := .string l[k]) rfl
  exact (own_cells h).at_ (k * 1 + 0) h2
theorem own_num {w0 w : World} {S : Nat → Prop} {pre r : List HP} {B n c : Nat} {l : List Int} {k : Nat} (h : St w0 S (pre ++ ownHP 3 1 (.slice (some ⟨B, 0, none⟩) n c) (l.map intE) :: r) w) (hk : k < l.length) : w.cell? ⟨B, 0 + (k : Int).toNat * 1, none⟩ = some (.int .i64 l[k]) := by
  have h2 := flatten_at (sz := 1) (es := l.map intE) (fun x hx => by obtain ⟨a, _, rfl⟩ := List.mem_map.1 hx; rfl) (i := k) (x := intE l[k]) (by rw [List.getElem?_map, List.getElem?_eq_getElem hk]; rfl) (j := 0) (v := .int .i64 l[k]) rfl
  exact (own_cells h).at_ (k * 1 + 0) h2
theorem own_shapeM {w0 w : World} {S : Nat → Prop} {pre r : List HP} {e : TypeId} {sz : Nat} {v : Value} {es : List (List Value)} (h : St w0 S (pre ++ ownHP e sz v es :: r) w) : ∃ A c, v = .slice A es.length c ∧ (es ≠ [] → ∃ B, A = some ⟨B, 0, none⟩) := by
  rcases own_form h with ⟨h1, h2⟩ | ⟨B, c, h1, _⟩
  · exact ⟨none, 0, by rw [h1, h2]; rfl, fun h => absurd h2 h⟩
  · exact ⟨_, c, h1, fun _ => ⟨B, rfl⟩⟩
attribute [local irreducible] RW CW
theorem sameStr_ret {A B : Option Addr} {c d : Nat} {l : List Str} {w : World} (hn : l.length ≤ 9223372036854775807) (h1 : ∀ k (hk : k < l.length), ∃ b, A = some ⟨b, 0, none⟩ ∧ w.cell? ⟨b, 0 + (k : Int).toNat * 1, none⟩ = some (.string l[k])) (h2 : ∀ k (hk : k < l.length), ∃ b, B = some ⟨b, 0, none⟩ ∧ w.cell? ⟨b, 0 + (k : Int).toNat * 1, none⟩ = some (.string l[k])) :
    Ret Tryz.prog 12 [.slice A l.length c, .slice B l.length d] w (.bool true) := by
  refine Calls.enter Tryz.func12 rfl _ rfl rfl (S := No) (H := []) trivial ?_
  refine Ja ?_;refine Jd ?_;refine Jb ?_
  refine CW.seq ?_
  refine Ja ?_;refine Jc ?_;refine Jg ?_;refine Jc ?_;refine Jg ?_;refine Jj ?_;refine Jb ?_
  refine CW.ite rfl (fun h => absurd rfl h) (fun _ => ?_)
  refine CW.skip ?_
  refine PW.code ?_
  refine CW.seq ?_
  refine Ja ?_;refine Jd ?_;refine Jb ?_
  refine CW.block ?_
  refine CW.loop (ι := { k : Nat // k ≤ l.length }) (fun k => [(0, .slice A l.length c), (1, .slice B l.length d), (5, .int .i64 k.1)]) (fun _ => []) (fun k => l.length - k.1) ⟨0, Nat.zero_le _⟩ ⟨rfl, rfl, rfl, trivial⟩ (fun h => h) ?_
  intro ⟨k, hk⟩
  dsimp only at hk ⊢
  refine CW.seq ?_
  refine Ja ?_;refine Jc ?_;refine Jc ?_;refine Jg ?_;refine Jk ?_;refine Jb ?_
  refine CW.ite rfl (fun hlt => ?_) (fun hge => ?_)
  · have hlt' : k < l.length := by simpa using hlt
    obtain ⟨B1, hA, g1⟩ := h1 k hlt'
    obtain ⟨B2, hB, g2⟩ := h2 k hlt'
    refine CW.skip ?_
    refine PW.code ?_
    refine CW.seq ?_
    refine CW.block ?_
    refine CW.seqA (by kernel_rfl) rfl ?_
    repeat (apply AW.val rfl; · intro Gx X; (first | refine RW.yes rfl ?_ | skip); (first|refine Jc ?_|refine Jd ?_|refine Je ?_|refine Jf ?_|refine Jg ?_|refine Jh ?_|refine Ji ?_|refine Jj ?_|refine Jk ?_|refine Jl ?_|refine Jm ?_|refine Jn ?_|refine Jo ?_|refine Jp ?_|refine Jq ?_|refine Jr ?_|refine Js ?_|refine Jt ?_|refine Ju ?_|refine Jv ?_|refine Jw ?_|refine Jx ?_|refine Jz ?_|refine JA ?_|refine JB ?_|refine JC ?_|refine JD ?_|refine JE ?_|refine JF ?_|refine JG ?_|refine JH ?_|refine JI ?_|refine JJ ?_|refine JK ?_|refine JL ?_); exact RW.done rfl)
    (apply AW.val rfl; · intro Gx X; (first | refine RW.yes rfl ?_ | skip); refine RW.indexAddrE hA rfl rfl (by omega) hlt rfl ?_; exact RW.done rfl)
    (apply AW.val rfl; · intro Gx X; (first | refine RW.yes rfl ?_ | skip); refine RW.load_old rfl g1 (fun h => h) rfl rfl ?_; exact RW.done rfl)
    repeat (apply AW.val rfl; · intro Gx X; (first | refine RW.yes rfl ?_ | skip); (first|refine Jc ?_|refine Jd ?_|refine Je ?_|refine Jf ?_|refine Jg ?_|refine Jh ?_|refine Ji ?_|refine Jj ?_|refine Jk ?_|refine Jl ?_|refine Jm ?_|refine Jn ?_|refine Jo ?_|refine Jp ?_|refine Jq ?_|refine Jr ?_|refine Js ?_|refine Jt ?_|refine Ju ?_|refine Jv ?_|refine Jw ?_|refine Jx ?_|refine Jz ?_|refine JA ?_|refine JB ?_|refine JC ?_|refine JD ?_|refine JE ?_|refine JF ?_|refine JG ?_|refine JH ?_|refine JI ?_|refine JJ ?_|refine JK ?_|refine JL ?_); exact RW.done rfl)
    (apply AW.val rfl; · intro Gx X; (first | refine RW.yes rfl ?_ | skip); refine RW.indexAddrE hB rfl rfl (by omega) hlt rfl ?_; exact RW.done rfl)
    (apply AW.val rfl; · intro Gx X; (first | refine RW.yes rfl ?_ | skip); refine RW.load_old rfl g2 (fun h => h) rfl rfl ?_; exact RW.done rfl)
    repeat (apply AW.val rfl; · intro Gx X; (first | refine RW.yes rfl ?_ | skip); (first|refine Jc ?_|refine Jd ?_|refine Je ?_|refine Jf ?_|refine Jg ?_|refine Jh ?_|refine Ji ?_|refine Jj ?_|refine Jk ?_|refine Jl ?_|refine Jm ?_|refine Jn ?_|refine Jo ?_|refine Jp ?_|refine Jq ?_|refine Jr ?_|refine Js ?_|refine Jt ?_|refine Ju ?_|refine Jv ?_|refine Jw ?_|refine Jx ?_|refine Jz ?_|refine JA ?_|refine JB ?_|refine JC ?_|refine JD ?_|refine JE ?_|refine JF ?_|refine JG ?_|refine JH ?_|refine JI ?_|refine JJ ?_|refine JK ?_|refine JL ?_); exact RW.done rfl)
    refine AW.stop (by kernel_rfl) (by kernel_rfl) fun bs => ?_
    refine Jb ?_
    refine CW.ite rfl (fun h => absurd rfl h) (fun _ => ?_)
    refine CW.skip ?_
    refine PW.code ?_
    refine CW.region ?_
    refine Jc ?_
    refine RW.add rfl rfl (w64 (by omega) (by omega)) rfl ?_
    refine Jd ?_
    refine RW.nil ?_
    exact PW.again ⟨k + 1, hlt'⟩ ⟨rfl, rfl, rfl, trivial⟩ (fun h => h) (by show l.length - (k + 1) < l.length - k; omega)
  refine CW.exit rfl ?_
  refine PW.code ?_
  refine Ja ?_;refine Jd ?_;refine Jb ?_
  exact CW.ret1 rfl Tryz.results12 rfl rfl fun w hw => ⟨rfl, hw.kp⟩
theorem sameS_own {w0 w : World} {S : Nat → Prop} {v1 v2 : Value} {l : List Str} {pre pre2 r r2 : List HP} (h1 : St w0 S (pre ++ ownHP 9 1 v1 (l.map strE) :: r) w) (h2 : St w0 S (pre2 ++ ownHP 9 1 v2 (l.map strE) :: r2) w) : Ret Tryz.prog 12 [v1, v2] w (.bool true) := by
  have hb : l.length ≤ 9223372036854775807 := by
    rcases own_form h1 with ⟨_, h⟩ | ⟨_, c, _, h3, h4, _⟩
    · have : l = [] := by simpa using h
      rw [this]; decide
    · rw [List.length_map] at h3
      unfold maxN at h4
      omega
  obtain ⟨A, c, e1, f1⟩ := own_shapeM h1
  obtain ⟨B, d, e2, f2⟩ := own_shapeM h2
  rw [List.length_map] at e1 e2
  subst e1
  subst e2
  have ne : ∀ k, k < l.length → l.map strE ≠ [] := fun k hk h => by
    have : l = [] := by simpa using h
    rw [this] at hk
    simp at hk
  refine sameStr_ret hb (fun k hk => ?_) (fun k hk => ?_)
  · obtain ⟨b, rfl⟩ := f1 (ne k hk)
    exact ⟨b, rfl, own_str h1 hk⟩
  · obtain ⟨b, rfl⟩ := f2 (ne k hk)
    exact ⟨b, rfl, own_str h2 hk⟩
theorem sameInt_ret {A B : Option Addr} {c d : Nat} {l : List Int} {w : World} (hn : l.length ≤ 9223372036854775807) (h1 : ∀ k (hk : k < l.length), ∃ b, A = some ⟨b, 0, none⟩ ∧ w.cell? ⟨b, 0 + (k : Int).toNat * 1, none⟩ = some (.int .i64 l[k])) (h2 : ∀ k (hk : k < l.length), ∃ b, B = some ⟨b, 0, none⟩ ∧ w.cell? ⟨b, 0 + (k : Int).toNat * 1, none⟩ = some (.int .i64 l[k])) :
    Ret Tryz.prog 13 [.slice A l.length c, .slice B l.length d] w (.bool true) := by
  refine Calls.enter Tryz.func13 rfl _ rfl rfl (S := No) (H := []) trivial ?_
  refine Ja ?_;refine Jd ?_;refine Jb ?_
  refine CW.seq ?_
  refine Ja ?_;refine Jc ?_;refine Jg ?_;refine Jc ?_;refine Jg ?_;refine Jj ?_;refine Jb ?_
  refine CW.ite rfl (fun h => absurd rfl h) (fun _ => ?_)
  refine CW.skip ?_
  refine PW.code ?_
  refine CW.seq ?_
  refine Ja ?_;refine Jd ?_;refine Jb ?_
  refine CW.block ?_
  refine CW.loop (ι := { k : Nat // k ≤ l.length }) (fun k => [(0, .slice A l.length c), (1, .slice B l.length d), (5, .int .i64 k.1)]) (fun _ => []) (fun k => l.length - k.1) ⟨0, Nat.zero_le _⟩ ⟨rfl, rfl, rfl, trivial⟩ (fun h => h) ?_
  intro ⟨k, hk⟩
  dsimp only at hk ⊢
  refine CW.seq ?_
  refine Ja ?_;refine Jc ?_;refine Jc ?_;refine Jg ?_;refine Jk ?_;refine Jb ?_
  refine CW.ite rfl (fun hlt => ?_) (fun hge => ?_)
  · have hlt' : k < l.length := by simpa using hlt
    obtain ⟨B1, hA, g1⟩ := h1 k hlt'
    obtain ⟨B2, hB, g2⟩ := h2 k hlt'
    refine CW.skip ?_
    refine PW.code ?_
    refine CW.seq ?_
    refine CW.block ?_
    refine CW.seqA (by kernel_rfl) rfl ?_
    repeat (apply AW.val rfl; · intro Gx X; (first | refine RW.yes rfl ?_ | skip); (first|refine Jc ?_|refine Jd ?_|refine Je ?_|refine Jf ?_|refine Jg ?_|refine Jh ?_|refine Ji ?_|refine Jj ?_|refine Jk ?_|refine Jl ?_|refine Jm ?_|refine Jn ?_|refine Jo ?_|refine Jp ?_|refine Jq ?_|refine Jr ?_|refine Js ?_|refine Jt ?_|refine Ju ?_|refine Jv ?_|refine Jw ?_|refine Jx ?_|refine Jz ?_|refine JA ?_|refine JB ?_|refine JC ?_|refine JD ?_|refine JE ?_|refine JF ?_|refine JG ?_|refine JH ?_|refine JI ?_|refine JJ ?_|refine JK ?_|refine JL ?_); exact RW.done rfl)
    (apply AW.val rfl; · intro Gx X; (first | refine RW.yes rfl ?_ | skip); refine RW.indexAddrE hA rfl rfl (by omega) hlt rfl ?_; exact RW.done rfl)
    (apply AW.val rfl; · intro Gx X; (first | refine RW.yes rfl ?_ | skip); refine RW.load_old rfl g1 (fun h => h) rfl rfl ?_; exact RW.done rfl)
    repeat (apply AW.val rfl; · intro Gx X; (first | refine RW.yes rfl ?_ | skip); (first|refine Jc ?_|refine Jd ?_|refine Je ?_|refine Jf ?_|refine Jg ?_|refine Jh ?_|refine Ji ?_|refine Jj ?_|refine Jk ?_|refine Jl ?_|refine Jm ?_|refine Jn ?_|refine Jo ?_|refine Jp ?_|refine Jq ?_|refine Jr ?_|refine Js ?_|refine Jt ?_|refine Ju ?_|refine Jv ?_|refine Jw ?_|refine Jx ?_|refine Jz ?_|refine JA ?_|refine JB ?_|refine JC ?_|refine JD ?_|refine JE ?_|refine JF ?_|refine JG ?_|refine JH ?_|refine JI ?_|refine JJ ?_|refine JK ?_|refine JL ?_); exact RW.done rfl)
    (apply AW.val rfl; · intro Gx X; (first | refine RW.yes rfl ?_ | skip); refine RW.indexAddrE hB rfl rfl (by omega) hlt rfl ?_; exact RW.done rfl)
    (apply AW.val rfl; · intro Gx X; (first | refine RW.yes rfl ?_ | skip); refine RW.load_old rfl g2 (fun h => h) rfl rfl ?_; exact RW.done rfl)
    repeat (apply AW.val rfl; · intro Gx X; (first | refine RW.yes rfl ?_ | skip); (first|refine Jc ?_|refine Jd ?_|refine Je ?_|refine Jf ?_|refine Jg ?_|refine Jh ?_|refine Ji ?_|refine Jj ?_|refine Jk ?_|refine Jl ?_|refine Jm ?_|refine Jn ?_|refine Jo ?_|refine Jp ?_|refine Jq ?_|refine Jr ?_|refine Js ?_|refine Jt ?_|refine Ju ?_|refine Jv ?_|refine Jw ?_|refine Jx ?_|refine Jz ?_|refine JA ?_|refine JB ?_|refine JC ?_|refine JD ?_|refine JE ?_|refine JF ?_|refine JG ?_|refine JH ?_|refine JI ?_|refine JJ ?_|refine JK ?_|refine JL ?_); exact RW.done rfl)
    refine AW.stop (by kernel_rfl) (by kernel_rfl) fun bs => ?_
    refine Jb ?_
    refine CW.ite rfl (fun h => absurd rfl h) (fun _ => ?_)
    refine CW.skip ?_
    refine PW.code ?_
    refine CW.region ?_
    refine Jc ?_
    refine RW.add rfl rfl (w64 (by omega) (by omega)) rfl ?_
    refine Jd ?_
    refine RW.nil ?_
    exact PW.again ⟨k + 1, hlt'⟩ ⟨rfl, rfl, rfl, trivial⟩ (fun h => h) (by show l.length - (k + 1) < l.length - k; omega)
  refine CW.exit rfl ?_
  refine PW.code ?_
  refine Ja ?_;refine Jd ?_;refine Jb ?_
  exact CW.ret1 rfl Tryz.results13 rfl rfl fun w hw => ⟨rfl, hw.kp⟩
theorem sameI_own {w0 w : World} {S : Nat → Prop} {v1 v2 : Value} {l : List Int} {pre pre2 r r2 : List HP} (h1 : St w0 S (pre ++ ownHP 3 1 v1 (l.map intE) :: r) w) (h2 : St w0 S (pre2 ++ ownHP 3 1 v2 (l.map intE) :: r2) w) : Ret Tryz.prog 13 [v1, v2] w (.bool true) := by
  have hb : l.length ≤ 9223372036854775807 := by
    rcases own_form h1 with ⟨_, h⟩ | ⟨_, c, _, h3, h4, _⟩
    · have : l = [] := by simpa using h
      rw [this]; decide
    · rw [List.length_map] at h3
      unfold maxN at h4
      omega
  obtain ⟨A, c, e1, f1⟩ := own_shapeM h1
  obtain ⟨B, d, e2, f2⟩ := own_shapeM h2
  rw [List.length_map] at e1 e2
  subst e1
  subst e2
  have ne : ∀ k, k < l.length → l.map intE ≠ [] := fun k hk h => by
    have : l = [] := by simpa using h
    rw [this] at hk
    simp at hk
  refine sameInt_ret hb (fun k hk => ?_) (fun k hk => ?_)
  · obtain ⟨b, rfl⟩ := f1 (ne k hk)
    exact ⟨b, rfl, own_num h1 hk⟩
  · obtain ⟨b, rfl⟩ := f2 (ne k hk)
    exact ⟨b, rfl, own_num h2 hk⟩
theorem check_ret2 {s : kStat.V} {x : RC} {w : World} (hst : StatOn (mem w (fun b => ¬ No b)) s x) : Ret Tryz.prog 7 [.agg (x.stat s).toArray] w (.tuple #[.int .i64 (rCheck s).1, .int .i64 (rCheck s).2]) := by
  rw [← check_eq]; exact check_ret hst
theorem vars_ret2 {s : kStat.V} {x : RC} {n : Int} {w : World} (hst : StatOn (mem w (fun b => ¬ No b)) s x) :
    RetC Tryz.prog 9 [.agg (x.stat s).toArray, .int .i64 n] w No (fun q : Value × Value => .tuple #[q.1, q.2, .int .i64 (rVars s n).2.2]) (varsH (rVars s n)) := by
  rw [← vars_eq]; exact vars_ret hst
set_option maxHeartbeats 16000000 in
theorem checksLaw_ret {s : kStat.V} {x : RC} {sc : Int} {w : World} (hst : StatOn (mem w (fun b => ¬ No b)) s x) : Ret Tryz.prog 3 [.agg (x.stat s).toArray, .int .i64 sc] w (.bool true) := by
  refine Calls.enter Tryz.func3 rfl _ rfl rfl (S := No) (H := []) trivial ?_
  refine CW.seqR ?_
  refine RW.box_agg (l := x.stat s) rfl rfl fun b3 _ => ?_
  refine Jd ?_;refine Jb ?_;refine Ja ?_;refine JE ?_
  refine RW.callN Tryz.call6 rfl (fun w2 hw => copyStat_ret (StatOn.mono hst (ro_call hw))) rfl fun y => ?_
  refine RW.pack (statH y s) ?_
  refine RW.alloc (c := [.string ByteArray.empty, .slice none 0 0, .slice none 0 0, .slice none 0 0, .slice none 0 0, .slice none 0 0, .slice none 0 0, .slice none 0 0, .slice none 0 0]) rfl rfl fun b10 _ => ?_
  refine RW.store_whole [] rfl rfl (vs := y.stat s) rfl rfl rfl (by simp [Value.oneCell']) ?_
  refine Jb ?_;refine Ja ?_;refine JE ?_
  refine RW.call Tryz.call7 rfl (fun w2 hw => check_ret2 (stat_all (pre := [_]) hw.sep)) rfl ?_
  refine Jc ?_;refine Jt ?_;refine Jt ?_;refine Jd ?_;refine Jd ?_;refine Jb ?_;refine Ja ?_;refine JG ?_
  refine RW.call Tryz.call8 rfl (fun w2 hw => ref_check_ret (StatOn.mono hst (ro_call hw))) rfl ?_
  refine Jc ?_;refine Jt ?_;refine Jt ?_;refine Jd ?_;refine Jd ?_;refine Jb ?_;refine Ja ?_;refine JE ?_;refine Jc ?_
  refine RW.callN Tryz.call9 rfl (fun w2 hw => vars_ret2 (stat_all (pre := [_]) hw.sep)) rfl fun ⟨v1, v2⟩ => ?_
  refine RW.take [2, 3, 4, 0, 1] ?_
  refine Jc ?_;refine Jt ?_;refine Jt ?_;refine Jt ?_;refine Jd ?_;refine Jd ?_;refine Jd ?_;refine Jb ?_;refine Ja ?_;refine JG ?_;refine Jc ?_
  refine RW.callN Tryz.call10 rfl (fun w2 hw => ref_vars_ret (StatOn.mono hst (ro_call hw)) (fun h => passed_of h)) rfl fun ⟨v3, v4⟩ => ?_
  refine RW.take [2, 3, 4, 0, 1, 5, 6] ?_
  refine Jc ?_;refine Jt ?_;refine Jt ?_;refine Jt ?_;refine Jd ?_;refine Jd ?_;refine Jd ?_;refine Jb ?_;refine Ja ?_;refine Jc ?_
  refine RW.call Tryz.call11 rfl (fun w2 hw => num_ret) rfl ?_
  refine Jc ?_;refine Ea ?_;refine Jc ?_;refine Jy ?_;refine Jc ?_;refine Jy ?_;refine Jc ?_;refine Jy ?_;refine Ea ?_;refine Jv ?_;refine Jc ?_;refine Jy ?_;refine Jc ?_;refine Jy ?_;refine Jc ?_;refine Jy ?_
  refine RW.call Tryz.call12 rfl (fun w hw => sameS_own (pre := [_, _, _, _, _]) (pre2 := [_, _, _]) hw hw) rfl ?_
  refine Jv ?_;refine Jc ?_;refine Jy ?_;refine Jc ?_;refine Jy ?_;refine Jc ?_;refine Jy ?_
  refine RW.call Tryz.call13 rfl (fun w hw => sameI_own (pre := [_, _, _, _, _, _]) (pre2 := [_, _, _, _]) hw hw) rfl ?_
  refine Jv ?_;refine Jc ?_;refine Jy ?_;refine Jc ?_;refine Jy ?_
  refine RW.call Tryz.call11 rfl (fun w2 hw => num_ret) rfl ?_
  refine Jy ?_;refine Jc ?_;refine Jy ?_;refine Ea ?_;refine Jv ?_;refine Jc ?_;refine Jy ?_;refine JE ?_;refine Jy ?_;refine JG ?_;refine Jy ?_
  refine RW.call Tryz.call14 rfl (fun w2 hw => dStat_ret (stat_all (pre := [_]) hw.sep) (StatOn.mono hst (ro_call hw))) rfl ?_
  refine Jv ?_;refine Jc ?_;refine Jy ?_
  refine RW.call Tryz.call15 rfl (fun w2 hw => works_ret) rfl ?_
  refine Jv ?_;refine Jd ?_;refine Jb ?_
  exact CW.ret1 rfl Tryz.results3 rfl rfl fun w hw => ⟨rfl, hw.kp⟩
theorem law_ResolveChecks (W : World) {c0 : List Value} {x0 : kStat.V} {a1 x1 : Int} (y0 : Rd kStat (mem W Any) c0 x0) (y1 : Rd kI (mem W Any) [.int .i64 a1] x1) : Ret Tryz.prog 3 [.agg c0.toArray, .int .i64 a1] W (.bool true) := by
  obtain ⟨x, rfl, h⟩ := rd_stat y0
  exact checksLaw_ret (h.mono (mem_up fun _ _ k => k))
end Go.Proofs.YtkfmlekomfnleaaGreat
