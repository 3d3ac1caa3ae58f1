/- CopyStatute; deep data of one's own opened and closed; lexpriorlaw08.turned, args. Conditions: none. -/
import Derived.Test.YtkfmlekomfnleaaR36
import Derived.Test.YtkfmlekomfnleaaV
set_option linter.unusedVariables false
set_option linter.unusedSimpArgs false
set_option maxRecDepth 10000
namespace Go.Proofs.Ytkfmlekomfnleaa
open Go Go.RowKit Go.MapKept

theorem sl_out {t : K} {w : World} {A : Nat → Prop} {cs : List Value} {r : List HP} {by_ : Nat} {xs : List t.V} (h : Sep (ownDHP (.sl by_ t) cs xs :: r) w A) : ∃ A0 c, cs = [.slice A0 xs.length c] := by
  obtain ⟨F, _, hp, _⟩ := h
  exact sl_cell (OwnD.rd hp)
def memP (x : kMember.V) : Prop := ByteArray.size (x.1) ≤ reach ∧ ByteArray.size (x.2) ≤ reach
abbrev memCs (x : kMember.V) (q : Unit) : List Value := [.string x.1, .string x.2]
abbrev memH (x : kMember.V) (q : Unit) : List HP := []
theorem mem_open {x : kMember.V} {cs : List Value} {r : List HP} {w : World} {A : Nat → Prop} (h0 : Sep (ownDHP kMember cs x :: r) w A) : ∃ q : Unit, (cs = memCs x q ∧ memP x) ∧ Sep (memH x q ++ r) w A := by
  obtain ⟨_, _, rfl, h1⟩ := pr_open (y := x.1) (z := x.2) h0
  obtain ⟨rfl, p1, h2⟩ := str_out h1
  obtain ⟨rfl, p2, h3⟩ := str_out h2
  exact ⟨(), ⟨rfl, p1, p2⟩, h3⟩
theorem mem_close {x : kMember.V} {q : Unit} {r : List HP} {w : World} {A : Nat → Prop} (hP : memP x) (h : Sep (memH x q ++ r) w A) : Sep (ownDHP kMember (memCs x q) x :: r) w A := by
  obtain ⟨p1, p2⟩ := hP
  exact pr_close (Sep.addp (own_str_pure p1) (Sep.addp (own_str_pure p2) (h)))
def termP (x : kTerm.V) : Prop := inR .i64 x.1 ∧ ByteArray.size (x.2.1) ≤ reach ∧ inR .i64 x.2.2.2
abbrev termCs (x : kTerm.V) (q : (Option Addr × Nat)) : List Value := [.int .i64 x.1, .string x.2.1, .slice q.1 (x.2.2.1).length q.2, .int .i64 x.2.2.2]
abbrev termH (x : kTerm.V) (q : (Option Addr × Nat)) : List HP := [ownDHP kStrs [.slice q.1 (x.2.2.1).length q.2] x.2.2.1]
theorem term_open {x : kTerm.V} {cs : List Value} {r : List HP} {w : World} {A : Nat → Prop} (h0 : Sep (ownDHP kTerm cs x :: r) w A) : ∃ q : (Option Addr × Nat), (cs = termCs x q ∧ termP x) ∧ Sep (termH x q ++ r) w A := by
  obtain ⟨_, _, rfl, h1⟩ := pr_open (y := x.1) (z := x.2) h0
  obtain ⟨rfl, p1, h2⟩ := int_out h1
  obtain ⟨_, _, rfl, h3⟩ := pr_open (y := x.2.1) (z := x.2.2) h2
  obtain ⟨rfl, p2, h4⟩ := str_out h3
  obtain ⟨_, _, rfl, h5⟩ := pr_open (y := x.2.2.1) (z := x.2.2.2) h4
  obtain ⟨A0, c0, rfl⟩ := sl_out h5
  obtain ⟨F0, g0, k0, h6⟩ := h5
  obtain ⟨rfl, p3, h7⟩ := int_out h6
  exact ⟨(A0, c0), ⟨rfl, p1, p2, p3⟩, F0, g0, k0, h7⟩
theorem term_close {x : kTerm.V} {q : (Option Addr × Nat)} {r : List HP} {w : World} {A : Nat → Prop} (hP : termP x) (h : Sep (termH x q ++ r) w A) : Sep (ownDHP kTerm (termCs x q) x :: r) w A := by
  obtain ⟨p1, p2, p3⟩ := hP
  exact pr_close (Sep.addp (own_int_pure p1) (pr_close (Sep.addp (own_str_pure p2) (pr_close (Sep.cons_perm (fun A h => Sep.addp (own_int_pure p3) (h)) h)))))
def premP (x : kPrem.V) : Prop := inR .i64 x.1 ∧ ByteArray.size (x.2.1.2.1) ≤ reach ∧ inR .i64 x.2.1.2.2.2.2 ∧ inR .i64 x.2.2.1.2.1 ∧ ByteArray.size (x.2.2.2.1) ≤ reach ∧ ByteArray.size (x.2.2.2.2) ≤ reach
abbrev premCs (x : kPrem.V) (q : (Option Addr × Nat) × (Option Addr × Nat) × (Option Addr × Nat)) : List Value := [.int .i64 x.1, .bool x.2.1.1, .string x.2.1.2.1, .slice q.1.1 (x.2.1.2.2.1).length q.1.2, .bool x.2.1.2.2.2.1, .int .i64 x.2.1.2.2.2.2, .slice q.2.1.1 (x.2.2.1.1).length q.2.1.2, .int .i64 x.2.2.1.2.1, .slice q.2.2.1 (x.2.2.1.2.2).length q.2.2.2, .string x.2.2.2.1, .string x.2.2.2.2]
abbrev premH (x : kPrem.V) (q : (Option Addr × Nat) × (Option Addr × Nat) × (Option Addr × Nat)) : List HP := [ownDHP kStrs [.slice q.1.1 (x.2.1.2.2.1).length q.1.2] x.2.1.2.2.1, ownDHP kTerms [.slice q.2.1.1 (x.2.2.1.1).length q.2.1.2] x.2.2.1.1, ownDHP kTerms [.slice q.2.2.1 (x.2.2.1.2.2).length q.2.2.2] x.2.2.1.2.2]
theorem prem_open {x : kPrem.V} {cs : List Value} {r : List HP} {w : World} {A : Nat → Prop} (h0 : Sep (ownDHP kPrem cs x :: r) w A) : ∃ q : (Option Addr × Nat) × (Option Addr × Nat) × (Option Addr × Nat), (cs = premCs x q ∧ premP x) ∧ Sep (premH x q ++ r) w A := by
  obtain ⟨_, _, rfl, h1⟩ := pr_open (y := x.1) (z := x.2) h0
  obtain ⟨rfl, p1, h2⟩ := int_out h1
  obtain ⟨_, _, rfl, h3⟩ := pr_open (y := x.2.1) (z := x.2.2) h2
  obtain ⟨_, _, rfl, h4⟩ := pr_open (y := x.2.1.1) (z := x.2.1.2) h3
  obtain ⟨rfl, h5⟩ := bool_out h4
  obtain ⟨_, _, rfl, h6⟩ := pr_open (y := x.2.1.2.1) (z := x.2.1.2.2) h5
  obtain ⟨rfl, p2, h7⟩ := str_out h6
  obtain ⟨_, _, rfl, h8⟩ := pr_open (y := x.2.1.2.2.1) (z := x.2.1.2.2.2) h7
  obtain ⟨A0, c0, rfl⟩ := sl_out h8
  obtain ⟨F0, g0, k0, h9⟩ := h8
  obtain ⟨_, _, rfl, h10⟩ := pr_open (y := x.2.1.2.2.2.1) (z := x.2.1.2.2.2.2) h9
  obtain ⟨rfl, h11⟩ := bool_out h10
  obtain ⟨rfl, p3, h12⟩ := int_out h11
  obtain ⟨_, _, rfl, h13⟩ := pr_open (y := x.2.2.1) (z := x.2.2.2) h12
  obtain ⟨_, _, rfl, h14⟩ := pr_open (y := x.2.2.1.1) (z := x.2.2.1.2) h13
  obtain ⟨A1, c1, rfl⟩ := sl_out h14
  obtain ⟨F1, g1, k1, h15⟩ := h14
  obtain ⟨_, _, rfl, h16⟩ := pr_open (y := x.2.2.1.2.1) (z := x.2.2.1.2.2) h15
  obtain ⟨rfl, p4, h17⟩ := int_out h16
  obtain ⟨A2, c2, rfl⟩ := sl_out h17
  obtain ⟨F2, g2, k2, h18⟩ := h17
  obtain ⟨_, _, rfl, h19⟩ := pr_open (y := x.2.2.2.1) (z := x.2.2.2.2) h18
  obtain ⟨rfl, p5, h20⟩ := str_out h19
  obtain ⟨rfl, p6, h21⟩ := str_out h20
  exact ⟨((A0, c0), (A1, c1), (A2, c2)), ⟨rfl, p1, p2, p3, p4, p5, p6⟩, F0, g0, k0, F1, g1, k1, F2, g2, k2, h21⟩
theorem prem_close {x : kPrem.V} {q : (Option Addr × Nat) × (Option Addr × Nat) × (Option Addr × Nat)} {r : List HP} {w : World} {A : Nat → Prop} (hP : premP x) (h : Sep (premH x q ++ r) w A) : Sep (ownDHP kPrem (premCs x q) x :: r) w A := by
  obtain ⟨p1, p2, p3, p4, p5, p6⟩ := hP
  exact pr_close (Sep.addp (own_int_pure p1) (pr_close (pr_close (Sep.addp own_bool_pure (pr_close (Sep.addp (own_str_pure p2) (pr_close (Sep.cons_perm (fun A h => pr_close (Sep.addp own_bool_pure (Sep.addp (own_int_pure p3) (pr_close (pr_close (Sep.cons_perm (fun A h => pr_close (Sep.addp (own_int_pure p4) (Sep.cons_perm (fun A h => pr_close (Sep.addp (own_str_pure p5) (Sep.addp (own_str_pure p6) (h)))) h))) h)))))) h))))))))
def ruleP (x : kRule.V) : Prop := ByteArray.size (x.1) ≤ reach ∧ ByteArray.size (x.2.1) ≤ reach ∧ inR .i64 x.2.2.1 ∧ inR .i64 x.2.2.2.1 ∧ inR .i64 x.2.2.2.2.2.1 ∧ ByteArray.size (x.2.2.2.2.2.2.2.1) ≤ reach ∧ inR .i64 x.2.2.2.2.2.2.2.2.2.2
abbrev ruleCs (x : kRule.V) (q : (Option Addr × Nat) × (Option Addr × Nat)) : List Value := [.string x.1, .string x.2.1, .int .i64 x.2.2.1, .int .i64 x.2.2.2.1, .slice q.1.1 (x.2.2.2.2.1).length q.1.2, .int .i64 x.2.2.2.2.2.1, .bool x.2.2.2.2.2.2.1, .string x.2.2.2.2.2.2.2.1, .slice q.2.1 (x.2.2.2.2.2.2.2.2.1).length q.2.2, .bool x.2.2.2.2.2.2.2.2.2.1, .int .i64 x.2.2.2.2.2.2.2.2.2.2]
abbrev ruleH (x : kRule.V) (q : (Option Addr × Nat) × (Option Addr × Nat)) : List HP := [ownDHP kPrems [.slice q.1.1 (x.2.2.2.2.1).length q.1.2] x.2.2.2.2.1, ownDHP kStrs [.slice q.2.1 (x.2.2.2.2.2.2.2.2.1).length q.2.2] x.2.2.2.2.2.2.2.2.1]
theorem rule_open {x : kRule.V} {cs : List Value} {r : List HP} {w : World} {A : Nat → Prop} (h0 : Sep (ownDHP kRule cs x :: r) w A) : ∃ q : (Option Addr × Nat) × (Option Addr × Nat), (cs = ruleCs x q ∧ ruleP x) ∧ Sep (ruleH x q ++ r) w A := by
  obtain ⟨_, _, rfl, h1⟩ := pr_open (y := x.1) (z := x.2) h0
  obtain ⟨rfl, p1, h2⟩ := str_out h1
  obtain ⟨_, _, rfl, h3⟩ := pr_open (y := x.2.1) (z := x.2.2) h2
  obtain ⟨rfl, p2, h4⟩ := str_out h3
  obtain ⟨_, _, rfl, h5⟩ := pr_open (y := x.2.2.1) (z := x.2.2.2) h4
  obtain ⟨rfl, p3, h6⟩ := int_out h5
  obtain ⟨_, _, rfl, h7⟩ := pr_open (y := x.2.2.2.1) (z := x.2.2.2.2) h6
  obtain ⟨rfl, p4, h8⟩ := int_out h7
  obtain ⟨_, _, rfl, h9⟩ := pr_open (y := x.2.2.2.2.1) (z := x.2.2.2.2.2) h8
  obtain ⟨A0, c0, rfl⟩ := sl_out h9
  obtain ⟨F0, g0, k0, h10⟩ := h9
  obtain ⟨_, _, rfl, h11⟩ := pr_open (y := x.2.2.2.2.2.1) (z := x.2.2.2.2.2.2) h10
  obtain ⟨rfl, p5, h12⟩ := int_out h11
  obtain ⟨_, _, rfl, h13⟩ := pr_open (y := x.2.2.2.2.2.2.1) (z := x.2.2.2.2.2.2.2) h12
  obtain ⟨rfl, h14⟩ := bool_out h13
  obtain ⟨_, _, rfl, h15⟩ := pr_open (y := x.2.2.2.2.2.2.2.1) (z := x.2.2.2.2.2.2.2.2) h14
  obtain ⟨rfl, p6, h16⟩ := str_out h15
  obtain ⟨_, _, rfl, h17⟩ := pr_open (y := x.2.2.2.2.2.2.2.2.1) (z := x.2.2.2.2.2.2.2.2.2) h16
  obtain ⟨A1, c1, rfl⟩ := sl_out h17
  obtain ⟨F1, g1, k1, h18⟩ := h17
  obtain ⟨_, _, rfl, h19⟩ := pr_open (y := x.2.2.2.2.2.2.2.2.2.1) (z := x.2.2.2.2.2.2.2.2.2.2) h18
  obtain ⟨rfl, h20⟩ := bool_out h19
  obtain ⟨rfl, p7, h21⟩ := int_out h20
  exact ⟨((A0, c0), (A1, c1)), ⟨rfl, p1, p2, p3, p4, p5, p6, p7⟩, F0, g0, k0, F1, g1, k1, h21⟩
theorem rule_close {x : kRule.V} {q : (Option Addr × Nat) × (Option Addr × Nat)} {r : List HP} {w : World} {A : Nat → Prop} (hP : ruleP x) (h : Sep (ruleH x q ++ r) w A) : Sep (ownDHP kRule (ruleCs x q) x :: r) w A := by
  obtain ⟨p1, p2, p3, p4, p5, p6, p7⟩ := hP
  exact pr_close (Sep.addp (own_str_pure p1) (pr_close (Sep.addp (own_str_pure p2) (pr_close (Sep.addp (own_int_pure p3) (pr_close (Sep.addp (own_int_pure p4) (pr_close (Sep.cons_perm (fun A h => pr_close (Sep.addp (own_int_pure p5) (pr_close (Sep.addp own_bool_pure (pr_close (Sep.addp (own_str_pure p6) (pr_close (Sep.cons_perm (fun A h => pr_close (Sep.addp own_bool_pure (Sep.addp (own_int_pure p7) (h)))) h)))))))) h)))))))))
/-- A statute's parts, all of one's own. -/
abbrev statH (x : RC) (s : kStat.V) : List HP := [ownDHP kStrs [.slice x.A1 (sKinds s).length x.c1] (sKinds s), ownDHP (.sl 32 kMember) [.slice x.A2 (sMembers s).length x.c2] (sMembers s), ownDHP (.sl 72 kPredT) [.slice x.A3 (sPreds s).length x.c3] (sPreds s), ownDHP (.sl 24 kStrs) [.slice x.A4 (sClasses s).length x.c4] (sClasses s), ownDHP (.sl 24 kSource) [.slice x.A5 (sSources s).length x.c5] (sSources s), ownDHP (.sl 144 kRule) [.slice x.A6 (sRules s).length x.c6] (sRules s), ownDHP (.sl 32 kExc) [.slice x.A7 (sExcepts s).length x.c7] (sExcepts s), ownDHP (.sl 72 kTotal) [.slice x.A8 (sTotals s).length x.c8] (sTotals s)]
theorem rd_own {t : K} {cs : List Value} {x : t.V} {r : List HP} {w : World} {A : Nat → Prop} (pre : List HP) (h : Sep (pre ++ ownDHP t cs x :: r) w A) : Rd t (mem w (fun b => ¬ No b)) cs x := by
  obtain ⟨F, _, hp, _⟩ := Sep.pull h
  exact (OwnD.rd hp).mono (mem_up fun _ _ k => k)
theorem stat_on {x : RC} {s : kStat.V} {r : List HP} {w : World} {A : Nat → Prop} (h : Sep (statH x s ++ r) w A) : StatOn (mem w (fun b => ¬ No b)) s x :=
  ⟨rd_own [] h, rd_own [_] h, rd_own [_, _] h, rd_own [_, _, _] h, rd_own [_, _, _, _] h, rd_own [_, _, _, _, _] h, rd_own [_, _, _, _, _, _] h, rd_own [_, _, _, _, _, _, _] h⟩
attribute [local irreducible] RW CW
set_option maxHeartbeats 8000000 in
theorem copyStat_ret {s : kStat.V} {x : RC} {w : World} (hst : StatOn (mem w (fun b => ¬ No b)) s x) : RetC Try.prog 38 [.agg (x.stat s).toArray] w No (fun y : RC => .agg (y.stat s).toArray) (fun y => statH y s) := by
  refine Calls.enter Try.func38 rfl _ rfl rfl (S := No) (H := []) trivial ?_
  refine CW.seqR ?_
  refine RW.box_agg (l := [.string s.1, .slice x.A1 (sKinds s).length x.c1, .slice x.A2 (sMembers s).length x.c2, .slice x.A3 (sPreds s).length x.c3, .slice x.A4 (sClasses s).length x.c4, .slice x.A5 (sSources s).length x.c5, .slice x.A6 (sRules s).length x.c6, .slice x.A7 (sExcepts s).length x.c7, .slice x.A8 (sTotals s).length x.c8]) rfl rfl fun b1 _ => ?_
  refine RW.alloc (c := [.string ByteArray.empty, .slice none 0 0, .slice none 0 0, .slice none 0 0, .slice none 0 0, .slice none 0 0, .slice none 0 0, .slice none 0 0, .slice none 0 0]) rfl rfl fun b2 _ => ?_
  refine RW.take [1, 0] ?_
  repeat (first|refine Ja ?_|refine Jb ?_|refine Jc ?_|refine Jd ?_|refine Je ?_|refine Jf ?_|refine Jg ?_|refine Jh ?_|refine Ji ?_|refine Jj ?_|refine Jk ?_|refine Jl ?_|refine Jm ?_|refine Jn ?_|refine Jo ?_|refine Jp ?_|refine Jq ?_|refine Jr ?_|refine Js ?_|refine Jt ?_|refine Ju ?_|refine Jv ?_|refine Jw ?_|refine Jx ?_|refine Jy ?_|refine Jz ?_|refine JA ?_|refine JB ?_|refine JC ?_|refine JD ?_|refine JE ?_|refine JF ?_|refine JG ?_|refine JH ?_|refine JI ?_|refine JJ ?_|refine JK ?_|refine JL ?_|refine JM ?_|refine CW.skip (PW.code ?_)|refine RW.nil (PW.code ?_))
  refine RW.callN Try.call89 rfl (fun w2 hw => copyStrs_ret (hst.kinds.mono (ro_call hw))) rfl fun v1 => ?_
  refine RW.have_ (φ := ∃ B d, v1 = .slice B (sKinds s).length d) (fun w hw => ?_) (fun ⟨D1, d1, e1⟩ => ?_)
  · obtain ⟨A, c, e⟩ := sl_out hw.sep
    exact ⟨A, c, (List.cons.inj e).1⟩
  subst e1
  refine RW.take [1, 2, 0] ?_
  repeat (first|refine Ja ?_|refine Jb ?_|refine Jc ?_|refine Jd ?_|refine Je ?_|refine Jf ?_|refine Jg ?_|refine Jh ?_|refine Ji ?_|refine Jj ?_|refine Jk ?_|refine Jl ?_|refine Jm ?_|refine Jn ?_|refine Jo ?_|refine Jp ?_|refine Jq ?_|refine Jr ?_|refine Js ?_|refine Jt ?_|refine Ju ?_|refine Jv ?_|refine Jw ?_|refine Jx ?_|refine Jy ?_|refine Jz ?_|refine JA ?_|refine JB ?_|refine JC ?_|refine JD ?_|refine JE ?_|refine JF ?_|refine JG ?_|refine JH ?_|refine JI ?_|refine JJ ?_|refine JK ?_|refine JL ?_|refine JM ?_|refine CW.skip (PW.code ?_)|refine RW.nil (PW.code ?_))
  refine RW.store_blk [] rfl rfl rfl rfl rfl (by show 1 < 9; omega) ?_
  refine RW.change [] (blk b1 [.string s.1, .slice D1 (sKinds s).length d1, .slice x.A2 (sMembers s).length x.c2, .slice x.A3 (sPreds s).length x.c3, .slice x.A4 (sClasses s).length x.c4, .slice x.A5 (sSources s).length x.c5, .slice x.A6 (sRules s).length x.c6, .slice x.A7 (sExcepts s).length x.c7, .slice x.A8 (sTotals s).length x.c8] 31) (fun w F hp => hp) ?_
  repeat (first|refine Ja ?_|refine Jb ?_|refine Jc ?_|refine Jd ?_|refine Je ?_|refine Jf ?_|refine Jg ?_|refine Jh ?_|refine Ji ?_|refine Jj ?_|refine Jk ?_|refine Jl ?_|refine Jm ?_|refine Jn ?_|refine Jo ?_|refine Jp ?_|refine Jq ?_|refine Jr ?_|refine Js ?_|refine Jt ?_|refine Ju ?_|refine Jv ?_|refine Jw ?_|refine Jx ?_|refine Jy ?_|refine Jz ?_|refine JA ?_|refine JB ?_|refine JC ?_|refine JD ?_|refine JE ?_|refine JF ?_|refine JG ?_|refine JH ?_|refine JI ?_|refine JJ ?_|refine JK ?_|refine JL ?_|refine JM ?_|refine CW.skip (PW.code ?_)|refine RW.nil (PW.code ?_))
  refine RW.callN Try.call90 rfl (fun w2 hw => copyMembers_ret (hst.members.mono (ro_call hw))) rfl fun v2 => ?_
  refine RW.have_ (φ := ∃ B d, v2 = .slice B (sMembers s).length d) (fun w hw => ?_) (fun ⟨D2, d2, e2⟩ => ?_)
  · obtain ⟨A, c, e⟩ := sl_out hw.sep
    exact ⟨A, c, (List.cons.inj e).1⟩
  subst e2
  refine RW.take [1, 2, 3, 0] ?_
  repeat (first|refine Ja ?_|refine Jb ?_|refine Jc ?_|refine Jd ?_|refine Je ?_|refine Jf ?_|refine Jg ?_|refine Jh ?_|refine Ji ?_|refine Jj ?_|refine Jk ?_|refine Jl ?_|refine Jm ?_|refine Jn ?_|refine Jo ?_|refine Jp ?_|refine Jq ?_|refine Jr ?_|refine Js ?_|refine Jt ?_|refine Ju ?_|refine Jv ?_|refine Jw ?_|refine Jx ?_|refine Jy ?_|refine Jz ?_|refine JA ?_|refine JB ?_|refine JC ?_|refine JD ?_|refine JE ?_|refine JF ?_|refine JG ?_|refine JH ?_|refine JI ?_|refine JJ ?_|refine JK ?_|refine JL ?_|refine JM ?_|refine CW.skip (PW.code ?_)|refine RW.nil (PW.code ?_))
  refine RW.store_blk [] rfl rfl rfl rfl rfl (by show 2 < 9; omega) ?_
  refine RW.change [] (blk b1 [.string s.1, .slice D1 (sKinds s).length d1, .slice D2 (sMembers s).length d2, .slice x.A3 (sPreds s).length x.c3, .slice x.A4 (sClasses s).length x.c4, .slice x.A5 (sSources s).length x.c5, .slice x.A6 (sRules s).length x.c6, .slice x.A7 (sExcepts s).length x.c7, .slice x.A8 (sTotals s).length x.c8] 31) (fun w F hp => hp) ?_
  repeat (first|refine Ja ?_|refine Jb ?_|refine Jc ?_|refine Jd ?_|refine Je ?_|refine Jf ?_|refine Jg ?_|refine Jh ?_|refine Ji ?_|refine Jj ?_|refine Jk ?_|refine Jl ?_|refine Jm ?_|refine Jn ?_|refine Jo ?_|refine Jp ?_|refine Jq ?_|refine Jr ?_|refine Js ?_|refine Jt ?_|refine Ju ?_|refine Jv ?_|refine Jw ?_|refine Jx ?_|refine Jy ?_|refine Jz ?_|refine JA ?_|refine JB ?_|refine JC ?_|refine JD ?_|refine JE ?_|refine JF ?_|refine JG ?_|refine JH ?_|refine JI ?_|refine JJ ?_|refine JK ?_|refine JL ?_|refine JM ?_|refine CW.skip (PW.code ?_)|refine RW.nil (PW.code ?_))
  refine RW.callN Try.call91 rfl (fun w2 hw => copyPreds_ret (hst.preds.mono (ro_call hw))) rfl fun v3 => ?_
  refine RW.have_ (φ := ∃ B d, v3 = .slice B (sPreds s).length d) (fun w hw => ?_) (fun ⟨D3, d3, e3⟩ => ?_)
  · obtain ⟨A, c, e⟩ := sl_out hw.sep
    exact ⟨A, c, (List.cons.inj e).1⟩
  subst e3
  refine RW.take [1, 2, 3, 4, 0] ?_
  repeat (first|refine Ja ?_|refine Jb ?_|refine Jc ?_|refine Jd ?_|refine Je ?_|refine Jf ?_|refine Jg ?_|refine Jh ?_|refine Ji ?_|refine Jj ?_|refine Jk ?_|refine Jl ?_|refine Jm ?_|refine Jn ?_|refine Jo ?_|refine Jp ?_|refine Jq ?_|refine Jr ?_|refine Js ?_|refine Jt ?_|refine Ju ?_|refine Jv ?_|refine Jw ?_|refine Jx ?_|refine Jy ?_|refine Jz ?_|refine JA ?_|refine JB ?_|refine JC ?_|refine JD ?_|refine JE ?_|refine JF ?_|refine JG ?_|refine JH ?_|refine JI ?_|refine JJ ?_|refine JK ?_|refine JL ?_|refine JM ?_|refine CW.skip (PW.code ?_)|refine RW.nil (PW.code ?_))
  refine RW.store_blk [] rfl rfl rfl rfl rfl (by show 3 < 9; omega) ?_
  refine RW.change [] (blk b1 [.string s.1, .slice D1 (sKinds s).length d1, .slice D2 (sMembers s).length d2, .slice D3 (sPreds s).length d3, .slice x.A4 (sClasses s).length x.c4, .slice x.A5 (sSources s).length x.c5, .slice x.A6 (sRules s).length x.c6, .slice x.A7 (sExcepts s).length x.c7, .slice x.A8 (sTotals s).length x.c8] 31) (fun w F hp => hp) ?_
  repeat (first|refine Ja ?_|refine Jb ?_|refine Jc ?_|refine Jd ?_|refine Je ?_|refine Jf ?_|refine Jg ?_|refine Jh ?_|refine Ji ?_|refine Jj ?_|refine Jk ?_|refine Jl ?_|refine Jm ?_|refine Jn ?_|refine Jo ?_|refine Jp ?_|refine Jq ?_|refine Jr ?_|refine Js ?_|refine Jt ?_|refine Ju ?_|refine Jv ?_|refine Jw ?_|refine Jx ?_|refine Jy ?_|refine Jz ?_|refine JA ?_|refine JB ?_|refine JC ?_|refine JD ?_|refine JE ?_|refine JF ?_|refine JG ?_|refine JH ?_|refine JI ?_|refine JJ ?_|refine JK ?_|refine JL ?_|refine JM ?_|refine CW.skip (PW.code ?_)|refine RW.nil (PW.code ?_))
  refine RW.callN Try.call92 rfl (fun w2 hw => copyLists_ret (hst.classes.mono (ro_call hw))) rfl fun v4 => ?_
  refine RW.have_ (φ := ∃ B d, v4 = .slice B (sClasses s).length d) (fun w hw => ?_) (fun ⟨D4, d4, e4⟩ => ?_)
  · obtain ⟨A, c, e⟩ := sl_out hw.sep
    exact ⟨A, c, (List.cons.inj e).1⟩
  subst e4
  refine RW.take [1, 2, 3, 4, 5, 0] ?_
  repeat (first|refine Ja ?_|refine Jb ?_|refine Jc ?_|refine Jd ?_|refine Je ?_|refine Jf ?_|refine Jg ?_|refine Jh ?_|refine Ji ?_|refine Jj ?_|refine Jk ?_|refine Jl ?_|refine Jm ?_|refine Jn ?_|refine Jo ?_|refine Jp ?_|refine Jq ?_|refine Jr ?_|refine Js ?_|refine Jt ?_|refine Ju ?_|refine Jv ?_|refine Jw ?_|refine Jx ?_|refine Jy ?_|refine Jz ?_|refine JA ?_|refine JB ?_|refine JC ?_|refine JD ?_|refine JE ?_|refine JF ?_|refine JG ?_|refine JH ?_|refine JI ?_|refine JJ ?_|refine JK ?_|refine JL ?_|refine JM ?_|refine CW.skip (PW.code ?_)|refine RW.nil (PW.code ?_))
  refine RW.store_blk [] rfl rfl rfl rfl rfl (by show 4 < 9; omega) ?_
  refine RW.change [] (blk b1 [.string s.1, .slice D1 (sKinds s).length d1, .slice D2 (sMembers s).length d2, .slice D3 (sPreds s).length d3, .slice D4 (sClasses s).length d4, .slice x.A5 (sSources s).length x.c5, .slice x.A6 (sRules s).length x.c6, .slice x.A7 (sExcepts s).length x.c7, .slice x.A8 (sTotals s).length x.c8] 31) (fun w F hp => hp) ?_
  repeat (first|refine Ja ?_|refine Jb ?_|refine Jc ?_|refine Jd ?_|refine Je ?_|refine Jf ?_|refine Jg ?_|refine Jh ?_|refine Ji ?_|refine Jj ?_|refine Jk ?_|refine Jl ?_|refine Jm ?_|refine Jn ?_|refine Jo ?_|refine Jp ?_|refine Jq ?_|refine Jr ?_|refine Js ?_|refine Jt ?_|refine Ju ?_|refine Jv ?_|refine Jw ?_|refine Jx ?_|refine Jy ?_|refine Jz ?_|refine JA ?_|refine JB ?_|refine JC ?_|refine JD ?_|refine JE ?_|refine JF ?_|refine JG ?_|refine JH ?_|refine JI ?_|refine JJ ?_|refine JK ?_|refine JL ?_|refine JM ?_|refine CW.skip (PW.code ?_)|refine RW.nil (PW.code ?_))
  refine RW.callN Try.call93 rfl (fun w2 hw => copySources_ret (hst.sources.mono (ro_call hw))) rfl fun v5 => ?_
  refine RW.have_ (φ := ∃ B d, v5 = .slice B (sSources s).length d) (fun w hw => ?_) (fun ⟨D5, d5, e5⟩ => ?_)
  · obtain ⟨A, c, e⟩ := sl_out hw.sep
    exact ⟨A, c, (List.cons.inj e).1⟩
  subst e5
  refine RW.take [1, 2, 3, 4, 5, 6, 0] ?_
  repeat (first|refine Ja ?_|refine Jb ?_|refine Jc ?_|refine Jd ?_|refine Je ?_|refine Jf ?_|refine Jg ?_|refine Jh ?_|refine Ji ?_|refine Jj ?_|refine Jk ?_|refine Jl ?_|refine Jm ?_|refine Jn ?_|refine Jo ?_|refine Jp ?_|refine Jq ?_|refine Jr ?_|refine Js ?_|refine Jt ?_|refine Ju ?_|refine Jv ?_|refine Jw ?_|refine Jx ?_|refine Jy ?_|refine Jz ?_|refine JA ?_|refine JB ?_|refine JC ?_|refine JD ?_|refine JE ?_|refine JF ?_|refine JG ?_|refine JH ?_|refine JI ?_|refine JJ ?_|refine JK ?_|refine JL ?_|refine JM ?_|refine CW.skip (PW.code ?_)|refine RW.nil (PW.code ?_))
  refine RW.store_blk [] rfl rfl rfl rfl rfl (by show 5 < 9; omega) ?_
  refine RW.change [] (blk b1 [.string s.1, .slice D1 (sKinds s).length d1, .slice D2 (sMembers s).length d2, .slice D3 (sPreds s).length d3, .slice D4 (sClasses s).length d4, .slice D5 (sSources s).length d5, .slice x.A6 (sRules s).length x.c6, .slice x.A7 (sExcepts s).length x.c7, .slice x.A8 (sTotals s).length x.c8] 31) (fun w F hp => hp) ?_
  repeat (first|refine Ja ?_|refine Jb ?_|refine Jc ?_|refine Jd ?_|refine Je ?_|refine Jf ?_|refine Jg ?_|refine Jh ?_|refine Ji ?_|refine Jj ?_|refine Jk ?_|refine Jl ?_|refine Jm ?_|refine Jn ?_|refine Jo ?_|refine Jp ?_|refine Jq ?_|refine Jr ?_|refine Js ?_|refine Jt ?_|refine Ju ?_|refine Jv ?_|refine Jw ?_|refine Jx ?_|refine Jy ?_|refine Jz ?_|refine JA ?_|refine JB ?_|refine JC ?_|refine JD ?_|refine JE ?_|refine JF ?_|refine JG ?_|refine JH ?_|refine JI ?_|refine JJ ?_|refine JK ?_|refine JL ?_|refine JM ?_|refine CW.skip (PW.code ?_)|refine RW.nil (PW.code ?_))
  refine RW.callN Try.call94 rfl (fun w2 hw => copyRules_ret (hst.rules.mono (ro_call hw))) rfl fun v6 => ?_
  refine RW.have_ (φ := ∃ B d, v6 = .slice B (sRules s).length d) (fun w hw => ?_) (fun ⟨D6, d6, e6⟩ => ?_)
  · obtain ⟨A, c, e⟩ := sl_out hw.sep
    exact ⟨A, c, (List.cons.inj e).1⟩
  subst e6
  refine RW.take [1, 2, 3, 4, 5, 6, 7, 0] ?_
  repeat (first|refine Ja ?_|refine Jb ?_|refine Jc ?_|refine Jd ?_|refine Je ?_|refine Jf ?_|refine Jg ?_|refine Jh ?_|refine Ji ?_|refine Jj ?_|refine Jk ?_|refine Jl ?_|refine Jm ?_|refine Jn ?_|refine Jo ?_|refine Jp ?_|refine Jq ?_|refine Jr ?_|refine Js ?_|refine Jt ?_|refine Ju ?_|refine Jv ?_|refine Jw ?_|refine Jx ?_|refine Jy ?_|refine Jz ?_|refine JA ?_|refine JB ?_|refine JC ?_|refine JD ?_|refine JE ?_|refine JF ?_|refine JG ?_|refine JH ?_|refine JI ?_|refine JJ ?_|refine JK ?_|refine JL ?_|refine JM ?_|refine CW.skip (PW.code ?_)|refine RW.nil (PW.code ?_))
  refine RW.store_blk [] rfl rfl rfl rfl rfl (by show 6 < 9; omega) ?_
  refine RW.change [] (blk b1 [.string s.1, .slice D1 (sKinds s).length d1, .slice D2 (sMembers s).length d2, .slice D3 (sPreds s).length d3, .slice D4 (sClasses s).length d4, .slice D5 (sSources s).length d5, .slice D6 (sRules s).length d6, .slice x.A7 (sExcepts s).length x.c7, .slice x.A8 (sTotals s).length x.c8] 31) (fun w F hp => hp) ?_
  repeat (first|refine Ja ?_|refine Jb ?_|refine Jc ?_|refine Jd ?_|refine Je ?_|refine Jf ?_|refine Jg ?_|refine Jh ?_|refine Ji ?_|refine Jj ?_|refine Jk ?_|refine Jl ?_|refine Jm ?_|refine Jn ?_|refine Jo ?_|refine Jp ?_|refine Jq ?_|refine Jr ?_|refine Js ?_|refine Jt ?_|refine Ju ?_|refine Jv ?_|refine Jw ?_|refine Jx ?_|refine Jy ?_|refine Jz ?_|refine JA ?_|refine JB ?_|refine JC ?_|refine JD ?_|refine JE ?_|refine JF ?_|refine JG ?_|refine JH ?_|refine JI ?_|refine JJ ?_|refine JK ?_|refine JL ?_|refine JM ?_|refine CW.skip (PW.code ?_)|refine RW.nil (PW.code ?_))
  refine RW.callN Try.call95 rfl (fun w2 hw => copyExcepts_ret (hst.excepts.mono (ro_call hw))) rfl fun v7 => ?_
  refine RW.have_ (φ := ∃ B d, v7 = .slice B (sExcepts s).length d) (fun w hw => ?_) (fun ⟨D7, d7, e7⟩ => ?_)
  · obtain ⟨A, c, e⟩ := sl_out hw.sep
    exact ⟨A, c, (List.cons.inj e).1⟩
  subst e7
  refine RW.take [1, 2, 3, 4, 5, 6, 7, 8, 0] ?_
  repeat (first|refine Ja ?_|refine Jb ?_|refine Jc ?_|refine Jd ?_|refine Je ?_|refine Jf ?_|refine Jg ?_|refine Jh ?_|refine Ji ?_|refine Jj ?_|refine Jk ?_|refine Jl ?_|refine Jm ?_|refine Jn ?_|refine Jo ?_|refine Jp ?_|refine Jq ?_|refine Jr ?_|refine Js ?_|refine Jt ?_|refine Ju ?_|refine Jv ?_|refine Jw ?_|refine Jx ?_|refine Jy ?_|refine Jz ?_|refine JA ?_|refine JB ?_|refine JC ?_|refine JD ?_|refine JE ?_|refine JF ?_|refine JG ?_|refine JH ?_|refine JI ?_|refine JJ ?_|refine JK ?_|refine JL ?_|refine JM ?_|refine CW.skip (PW.code ?_)|refine RW.nil (PW.code ?_))
  refine RW.store_blk [] rfl rfl rfl rfl rfl (by show 7 < 9; omega) ?_
  refine RW.change [] (blk b1 [.string s.1, .slice D1 (sKinds s).length d1, .slice D2 (sMembers s).length d2, .slice D3 (sPreds s).length d3, .slice D4 (sClasses s).length d4, .slice D5 (sSources s).length d5, .slice D6 (sRules s).length d6, .slice D7 (sExcepts s).length d7, .slice x.A8 (sTotals s).length x.c8] 31) (fun w F hp => hp) ?_
  repeat (first|refine Ja ?_|refine Jb ?_|refine Jc ?_|refine Jd ?_|refine Je ?_|refine Jf ?_|refine Jg ?_|refine Jh ?_|refine Ji ?_|refine Jj ?_|refine Jk ?_|refine Jl ?_|refine Jm ?_|refine Jn ?_|refine Jo ?_|refine Jp ?_|refine Jq ?_|refine Jr ?_|refine Js ?_|refine Jt ?_|refine Ju ?_|refine Jv ?_|refine Jw ?_|refine Jx ?_|refine Jy ?_|refine Jz ?_|refine JA ?_|refine JB ?_|refine JC ?_|refine JD ?_|refine JE ?_|refine JF ?_|refine JG ?_|refine JH ?_|refine JI ?_|refine JJ ?_|refine JK ?_|refine JL ?_|refine JM ?_|refine CW.skip (PW.code ?_)|refine RW.nil (PW.code ?_))
  refine RW.callN Try.call96 rfl (fun w2 hw => copyTotals_ret (hst.totals.mono (ro_call hw))) rfl fun v8 => ?_
  refine RW.have_ (φ := ∃ B d, v8 = .slice B (sTotals s).length d) (fun w hw => ?_) (fun ⟨D8, d8, e8⟩ => ?_)
  · obtain ⟨A, c, e⟩ := sl_out hw.sep
    exact ⟨A, c, (List.cons.inj e).1⟩
  subst e8
  refine RW.take [1, 2, 3, 4, 5, 6, 7, 8, 9, 0] ?_
  repeat (first|refine Ja ?_|refine Jb ?_|refine Jc ?_|refine Jd ?_|refine Je ?_|refine Jf ?_|refine Jg ?_|refine Jh ?_|refine Ji ?_|refine Jj ?_|refine Jk ?_|refine Jl ?_|refine Jm ?_|refine Jn ?_|refine Jo ?_|refine Jp ?_|refine Jq ?_|refine Jr ?_|refine Js ?_|refine Jt ?_|refine Ju ?_|refine Jv ?_|refine Jw ?_|refine Jx ?_|refine Jy ?_|refine Jz ?_|refine JA ?_|refine JB ?_|refine JC ?_|refine JD ?_|refine JE ?_|refine JF ?_|refine JG ?_|refine JH ?_|refine JI ?_|refine JJ ?_|refine JK ?_|refine JL ?_|refine JM ?_|refine CW.skip (PW.code ?_)|refine RW.nil (PW.code ?_))
  refine RW.store_blk [] rfl rfl rfl rfl rfl (by show 8 < 9; omega) ?_
  refine RW.change [] (blk b1 [.string s.1, .slice D1 (sKinds s).length d1, .slice D2 (sMembers s).length d2, .slice D3 (sPreds s).length d3, .slice D4 (sClasses s).length d4, .slice D5 (sSources s).length d5, .slice D6 (sRules s).length d6, .slice D7 (sExcepts s).length d7, .slice D8 (sTotals s).length d8] 31) (fun w F hp => hp) ?_
  repeat (first|refine Ja ?_|refine Jb ?_|refine Jc ?_|refine Jd ?_|refine Je ?_|refine Jf ?_|refine Jg ?_|refine Jh ?_|refine Ji ?_|refine Jj ?_|refine Jk ?_|refine Jl ?_|refine Jm ?_|refine Jn ?_|refine Jo ?_|refine Jp ?_|refine Jq ?_|refine Jr ?_|refine Js ?_|refine Jt ?_|refine Ju ?_|refine Jv ?_|refine Jw ?_|refine Jx ?_|refine Jy ?_|refine Jz ?_|refine JA ?_|refine JB ?_|refine JC ?_|refine JD ?_|refine JE ?_|refine JF ?_|refine JG ?_|refine JH ?_|refine JI ?_|refine JJ ?_|refine JK ?_|refine JL ?_|refine JM ?_|refine CW.skip (PW.code ?_)|refine RW.nil (PW.code ?_))
  refine RW.store_whole [_] rfl rfl (vs := [.string s.1, .slice D1 (sKinds s).length d1, .slice D2 (sMembers s).length d2, .slice D3 (sPreds s).length d3, .slice D4 (sClasses s).length d4, .slice D5 (sSources s).length d5, .slice D6 (sRules s).length d6, .slice D7 (sExcepts s).length d7, .slice D8 (sTotals s).length d8]) rfl rfl rfl (by simp [Value.oneCell']) ?_
  repeat (first|refine Ja ?_|refine Jb ?_|refine Jc ?_|refine Jd ?_|refine Je ?_|refine Jf ?_|refine Jg ?_|refine Jh ?_|refine Ji ?_|refine Jj ?_|refine Jk ?_|refine Jl ?_|refine Jm ?_|refine Jn ?_|refine Jo ?_|refine Jp ?_|refine Jq ?_|refine Jr ?_|refine Js ?_|refine Jt ?_|refine Ju ?_|refine Jv ?_|refine Jw ?_|refine Jx ?_|refine Jy ?_|refine Jz ?_|refine JA ?_|refine JB ?_|refine JC ?_|refine JD ?_|refine JE ?_|refine JF ?_|refine JG ?_|refine JH ?_|refine JI ?_|refine JJ ?_|refine JK ?_|refine JL ?_|refine JM ?_|refine CW.skip (PW.code ?_)|refine RW.nil (PW.code ?_))
  refine CW.rets (rs := [.cell 2 31]) (vs := [_]) rfl Try.results38 rfl (ResOK.cell [_] rfl rfl rfl ResOK.nil) fun w hw => ⟨⟨D1, D2, D3, D4, D5, D6, D7, D8, d1, d2, d3, d4, d5, d6, d7, d8, 0, 0, 0, 0, 0, 0⟩, rfl, hw.take [2, 3, 4, 5, 6, 7, 8, 9]⟩
/-! ### names turned -/
def turnD (a b x : Str) : Str := if x = a then b else x
theorem turned_ret {x a b : Str} {w : World} : Ret Try.prog 39 [.string x, .string a, .string b] w (.string (turnD a b x)) := by
  unfold turnD
  refine Calls.enter Try.func39 rfl _ rfl rfl (S := No) (H := []) trivial ?_
  repeat (first|refine Ja ?_|refine Jb ?_|refine Jc ?_|refine Jd ?_|refine Je ?_|refine Jf ?_|refine Jg ?_|refine Jh ?_|refine Ji ?_|refine Jj ?_|refine Jk ?_|refine Jl ?_|refine Jm ?_|refine Jn ?_|refine Jo ?_|refine Jp ?_|refine Jq ?_|refine Jr ?_|refine Js ?_|refine Jt ?_|refine Ju ?_|refine Jv ?_|refine Jw ?_|refine Jx ?_|refine Jy ?_|refine Jz ?_|refine JA ?_|refine JB ?_|refine JC ?_|refine JD ?_|refine JE ?_|refine JF ?_|refine JG ?_|refine JH ?_|refine JI ?_|refine JJ ?_|refine JK ?_|refine JL ?_|refine JM ?_|refine CW.skip (PW.code ?_)|refine RW.nil (PW.code ?_))
  refine CW.seq ?_
  repeat (first|refine Ja ?_|refine Jb ?_|refine Jc ?_|refine Jd ?_|refine Je ?_|refine Jf ?_|refine Jg ?_|refine Jh ?_|refine Ji ?_|refine Jj ?_|refine Jk ?_|refine Jl ?_|refine Jm ?_|refine Jn ?_|refine Jo ?_|refine Jp ?_|refine Jq ?_|refine Jr ?_|refine Js ?_|refine Jt ?_|refine Ju ?_|refine Jv ?_|refine Jw ?_|refine Jx ?_|refine Jy ?_|refine Jz ?_|refine JA ?_|refine JB ?_|refine JC ?_|refine JD ?_|refine JE ?_|refine JF ?_|refine JG ?_|refine JH ?_|refine JI ?_|refine JJ ?_|refine JK ?_|refine JL ?_|refine JM ?_|refine CW.skip (PW.code ?_)|refine RW.nil (PW.code ?_))
  refine CW.ite rfl (fun h => ?_) (fun h => ?_)
  · repeat (first|refine Ja ?_|refine Jb ?_|refine Jc ?_|refine Jd ?_|refine Je ?_|refine Jf ?_|refine Jg ?_|refine Jh ?_|refine Ji ?_|refine Jj ?_|refine Jk ?_|refine Jl ?_|refine Jm ?_|refine Jn ?_|refine Jo ?_|refine Jp ?_|refine Jq ?_|refine Jr ?_|refine Js ?_|refine Jt ?_|refine Ju ?_|refine Jv ?_|refine Jw ?_|refine Jx ?_|refine Jy ?_|refine Jz ?_|refine JA ?_|refine JB ?_|refine JC ?_|refine JD ?_|refine JE ?_|refine JF ?_|refine JG ?_|refine JH ?_|refine JI ?_|refine JJ ?_|refine JK ?_|refine JL ?_|refine JM ?_|refine CW.skip (PW.code ?_)|refine RW.nil (PW.code ?_))
    rw [if_pos h]
    exact CW.ret1 rfl Try.results39 rfl rfl fun w hw => ⟨rfl, hw.kp⟩
  · refine CW.skip ?_
    refine PW.code ?_
    repeat (first|refine Ja ?_|refine Jb ?_|refine Jc ?_|refine Jd ?_|refine Je ?_|refine Jf ?_|refine Jg ?_|refine Jh ?_|refine Ji ?_|refine Jj ?_|refine Jk ?_|refine Jl ?_|refine Jm ?_|refine Jn ?_|refine Jo ?_|refine Jp ?_|refine Jq ?_|refine Jr ?_|refine Js ?_|refine Jt ?_|refine Ju ?_|refine Jv ?_|refine Jw ?_|refine Jx ?_|refine Jy ?_|refine Jz ?_|refine JA ?_|refine JB ?_|refine JC ?_|refine JD ?_|refine JE ?_|refine JF ?_|refine JG ?_|refine JH ?_|refine JI ?_|refine JJ ?_|refine JK ?_|refine JL ?_|refine JM ?_|refine CW.skip (PW.code ?_)|refine RW.nil (PW.code ?_))
    rw [if_neg h]
    exact CW.ret1 rfl Try.results39 rfl rfl fun w hw => ⟨rfl, hw.kp⟩
set_option maxHeartbeats 4000000 in
theorem argsT_ret {A : Option Addr} {c : Nat} {l : List Str} {a b : Str} {w : World} {F : Nat → Prop} (hb : b.size ≤ reach) (h : Sep [ownDHP kStrs [.slice A l.length c] l] w F) :
    RetC Try.prog 40 [.slice A l.length c, .string a, .string b] w F (fun _ : Unit => .tuple #[]) (fun _ => [ownDHP kStrs [.slice A (l.map (turnD a b)).length c] (l.map (turnD a b))]) := by
  obtain ⟨M, hM⟩ : ∃ M, Rd kStrs M [.slice A l.length c] l := by obtain ⟨F2, _, hp, _⟩ := h; exact ⟨_, OwnD.rd hp⟩
  have hsm := sl_small hM
  unfold reach at hsm
  refine Calls.enter Try.func40 rfl _ rfl rfl (S := F) (H := [ownDHP kStrs [.slice A l.length c] l]) h ?_
  refine CW.sepEx _ _ (fun w A h => sl_open h) fun ⟨e, es⟩ ⟨_, hes⟩ => ?_
  dsimp only at hes ⊢
  repeat (first|refine Ja ?_|refine Jb ?_|refine Jc ?_|refine Jd ?_|refine Je ?_|refine Jf ?_|refine Jg ?_|refine Jh ?_|refine Ji ?_|refine Jj ?_|refine Jk ?_|refine Jl ?_|refine Jm ?_|refine Jn ?_|refine Jo ?_|refine Jp ?_|refine Jq ?_|refine Jr ?_|refine Js ?_|refine Jt ?_|refine Ju ?_|refine Jv ?_|refine Jw ?_|refine Jx ?_|refine Jy ?_|refine Jz ?_|refine JA ?_|refine JB ?_|refine JC ?_|refine JD ?_|refine JE ?_|refine JF ?_|refine JG ?_|refine JH ?_|refine JI ?_|refine JJ ?_|refine JK ?_|refine JL ?_|refine JM ?_|refine CW.skip (PW.code ?_)|refine RW.nil (PW.code ?_))
  refine CW.block ?_
  refine CW.loop (ι := { q : Nat × List (List Value) // q.1 ≤ l.length }) (fun q => [(0, .slice A l.length c), (1, .string a), (2, .string b), (6, .int .i64 q.1.1)]) (fun q => [ownHP e 1 (.slice A l.length c) q.1.2, elemsHP none .str q.1.2 ((l.take q.1.1).map (turnD a b) ++ l.drop q.1.1)]) (fun q => l.length - q.1.1) ⟨(0, es), Nat.zero_le _⟩ ⟨rfl, rfl, rfl, rfl, trivial⟩ (fun h => h) ?_
  intro ⟨⟨j, es2⟩, hj⟩
  dsimp only at hj ⊢
  refine CW.seq ?_
  repeat (first|refine Ja ?_|refine Jb ?_|refine Jc ?_|refine Jd ?_|refine Je ?_|refine Jf ?_|refine Jg ?_|refine Jh ?_|refine Ji ?_|refine Jj ?_|refine Jk ?_|refine Jl ?_|refine Jm ?_|refine Jn ?_|refine Jo ?_|refine Jp ?_|refine Jq ?_|refine Jr ?_|refine Js ?_|refine Jt ?_|refine Ju ?_|refine Jv ?_|refine Jw ?_|refine Jx ?_|refine Jy ?_|refine Jz ?_|refine JA ?_|refine JB ?_|refine JC ?_|refine JD ?_|refine JE ?_|refine JF ?_|refine JG ?_|refine JH ?_|refine JI ?_|refine JJ ?_|refine JK ?_|refine JL ?_|refine JM ?_|refine CW.skip (PW.code ?_)|refine RW.nil (PW.code ?_))
  refine CW.ite rfl (fun hlt => ?_) (fun hge => ?_)
  rotate_left
  · have hge' : l.length ≤ j := by simpa using hge
    rw [map_end hge']
    refine CW.exit rfl ?_
    refine PW.ret (rs := []) (vs := []) Try.results40 rfl ResOK.nil fun w hw => ⟨(), rfl, St.sep_map hw (fun w A h => ?_)⟩
    rw [List.length_map]
    exact slice_close rfl (by rw [List.length_map]; exact sl_small hM) h
  have hlt' : j < l.length := by simpa using hlt
  refine CW.skip ?_
  refine PW.code ?_
  refine CW.sepEx (fun cs : List Value => es2[j]? = some cs ∧ cs = [.string l[j]] ∧ ByteArray.size l[j] ≤ reach ∧ j < es2.length) (fun cs => [elemsHP (some j) .str es2 ((l.take j).map (turnD a b) ++ l.drop j), ownHP e 1 (.slice A l.length c) es2]) (fun w A h => ?_) fun cs ⟨hc, hcs, hs, hje⟩ => ?_
  · have h2 := Sep.perm (List.Perm.swap _ _ _) h
    have hl := elems_len h2
    rw [map_len] at hl
    have h3 := elems_focus (List.getElem?_eq_getElem (show j < es2.length by omega)) (map_here hlt') h2
    obtain ⟨h4, h5, h6⟩ := str_out h3
    exact ⟨es2[j], ⟨List.getElem?_eq_getElem _, h4, h5, by omega⟩, h6⟩
  subst hcs
  refine CW.have_ (fun w hw => own_some (pre := [_]) hw hc) fun ⟨B, hB⟩ => ?_
  subst hB
  refine CW.seq ?_
  refine CW.block ?_
  refine CW.region ?_
  repeat (first|refine Ja ?_|refine Jb ?_|refine Jc ?_|refine Jd ?_|refine Je ?_|refine Jf ?_|refine Jg ?_|refine Jh ?_|refine Ji ?_|refine Jj ?_|refine Jk ?_|refine Jl ?_|refine Jm ?_|refine Jn ?_|refine Jo ?_|refine Jp ?_|refine Jq ?_|refine Jr ?_|refine Js ?_|refine Jt ?_|refine Ju ?_|refine Jv ?_|refine Jw ?_|refine Jx ?_|refine Jy ?_|refine Jz ?_|refine JA ?_|refine JB ?_|refine JC ?_|refine JD ?_|refine JE ?_|refine JF ?_|refine JG ?_|refine JH ?_|refine JI ?_|refine JJ ?_|refine JK ?_|refine JL ?_|refine JM ?_|refine CW.skip (PW.code ?_)|refine RW.nil (PW.code ?_))
  refine RW.indexAddr rfl rfl (by omega) hlt rfl ?_
  refine RW.loadOwn1 [_] (i := j) (j := 0) rfl (by simp) hc rfl rfl rfl ?_
  repeat (first|refine Ja ?_|refine Jb ?_|refine Jc ?_|refine Jd ?_|refine Je ?_|refine Jf ?_|refine Jg ?_|refine Jh ?_|refine Ji ?_|refine Jj ?_|refine Jk ?_|refine Jl ?_|refine Jm ?_|refine Jn ?_|refine Jo ?_|refine Jp ?_|refine Jq ?_|refine Jr ?_|refine Js ?_|refine Jt ?_|refine Ju ?_|refine Jv ?_|refine Jw ?_|refine Jx ?_|refine Jy ?_|refine Jz ?_|refine JA ?_|refine JB ?_|refine JC ?_|refine JD ?_|refine JE ?_|refine JF ?_|refine JG ?_|refine JH ?_|refine JI ?_|refine JJ ?_|refine JK ?_|refine JL ?_|refine JM ?_|refine CW.skip (PW.code ?_)|refine RW.nil (PW.code ?_))
  refine RW.call Try.call39 rfl (fun w hw => turned_ret) rfl ?_
  refine RW.indexAddr rfl rfl (by omega) hlt rfl ?_
  refine RW.storeOwn [_] (i := j) (j := 0) rfl (by simp) rfl rfl rfl hc (by simp) ?_
  refine RW.sep [ownHP e 1 (.slice (some ⟨B, 0, none⟩) l.length c) (es2.set j [.string (turnD a b l[j])]), elemsHP none .str (es2.set j [.string (turnD a b l[j])]) ((l.take (j + 1)).map (turnD a b) ++ l.drop (j + 1))] (fun w A h => ?_) ?_
  · rw [← map_step hlt']
    refine Sep.perm (List.Perm.swap _ _ _) (elems_put hje (Sep.addp (own_str_pure ?_) h))
    unfold turnD
    split
    · exact hb
    · exact hs
  repeat (first|refine Ja ?_|refine Jb ?_|refine Jc ?_|refine Jd ?_|refine Je ?_|refine Jf ?_|refine Jg ?_|refine Jh ?_|refine Ji ?_|refine Jj ?_|refine Jk ?_|refine Jl ?_|refine Jm ?_|refine Jn ?_|refine Jo ?_|refine Jp ?_|refine Jq ?_|refine Jr ?_|refine Js ?_|refine Jt ?_|refine Ju ?_|refine Jv ?_|refine Jw ?_|refine Jx ?_|refine Jy ?_|refine Jz ?_|refine JA ?_|refine JB ?_|refine JC ?_|refine JD ?_|refine JE ?_|refine JF ?_|refine JG ?_|refine JH ?_|refine JI ?_|refine JJ ?_|refine JK ?_|refine JL ?_|refine JM ?_|refine CW.skip (PW.code ?_)|refine RW.nil (PW.code ?_))
  refine CW.region ?_
  repeat (first|refine Ja ?_|refine Jb ?_|refine Jc ?_|refine Jd ?_|refine Je ?_|refine Jf ?_|refine Jg ?_|refine Jh ?_|refine Ji ?_|refine Jj ?_|refine Jk ?_|refine Jl ?_|refine Jm ?_|refine Jn ?_|refine Jo ?_|refine Jp ?_|refine Jq ?_|refine Jr ?_|refine Js ?_|refine Jt ?_|refine Ju ?_|refine Jv ?_|refine Jw ?_|refine Jx ?_|refine Jy ?_|refine Jz ?_|refine JA ?_|refine JB ?_|refine JC ?_|refine JD ?_|refine JE ?_|refine JF ?_|refine JG ?_|refine JH ?_|refine JI ?_|refine JJ ?_|refine JK ?_|refine JL ?_|refine JM ?_|refine CW.skip (PW.code ?_)|refine RW.nil (PW.code ?_))
  refine RW.add rfl rfl (w64 (by omega) (by omega)) rfl ?_
  repeat (first|refine Ja ?_|refine Jb ?_|refine Jc ?_|refine Jd ?_|refine Je ?_|refine Jf ?_|refine Jg ?_|refine Jh ?_|refine Ji ?_|refine Jj ?_|refine Jk ?_|refine Jl ?_|refine Jm ?_|refine Jn ?_|refine Jo ?_|refine Jp ?_|refine Jq ?_|refine Jr ?_|refine Js ?_|refine Jt ?_|refine Ju ?_|refine Jv ?_|refine Jw ?_|refine Jx ?_|refine Jy ?_|refine Jz ?_|refine JA ?_|refine JB ?_|refine JC ?_|refine JD ?_|refine JE ?_|refine JF ?_|refine JG ?_|refine JH ?_|refine JI ?_|refine JJ ?_|refine JK ?_|refine JL ?_|refine JM ?_|refine CW.skip (PW.code ?_)|refine RW.nil (PW.code ?_))
  refine RW.nil ?_
  exact PW.again ⟨(j + 1, es2.set j [.string (turnD a b l[j])]), hlt'⟩ ⟨rfl, rfl, rfl, rfl, trivial⟩ (fun h => h) (by show l.length - (j + 1) < l.length - j; omega)
end Go.Proofs.Ytkfmlekomfnleaa
