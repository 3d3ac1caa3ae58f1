/- lexpriorlaw08.renamed: a member by another name, all through. Conditions: none. -/
import Derived.Test.YtkfmlekomfnleaaR37
set_option linter.unusedVariables false
set_option linter.unusedSimpArgs false
set_option maxRecDepth 10000
namespace Go.Proofs.Ytkfmlekomfnleaa
open Go Go.RowKit Go.MapKept

abbrev rPrems (r : kRule.V) : List kPrem.V := r.2.2.2.2.1
abbrev pLeft (p : kPrem.V) : List kTerm.V := p.2.2.1.1
abbrev pRight (p : kPrem.V) : List kTerm.V := p.2.2.1.2.2
section
variable (a b : Str)
def memR (x : kMember.V) : kMember.V := (turnD a b x.1, x.2)
def litR (l : kLitT.V) : kLitT.V := (l.1, l.2.1, (l.2.2.1 : List Str).map (turnD a b), l.2.2.2.1, l.2.2.2.2)
def termR (l : kTerm.V) : kTerm.V := (l.1, l.2.1, (l.2.2.1 : List Str).map (turnD a b), l.2.2.2)
def guardR (g : kGuard.V) : kGuard.V := ((g.1 : List kTerm.V).map (termR a b), g.2.1, (g.2.2 : List kTerm.V).map (termR a b))
def premR (p : kPrem.V) : kPrem.V := (p.1, litR a b p.2.1, guardR a b p.2.2.1, turnD a b p.2.2.2.1, turnD a b p.2.2.2.2)
def ruleR (x : kRule.V) : kRule.V := (x.1, x.2.1, x.2.2.1, x.2.2.2.1, (x.2.2.2.2.1 : List kPrem.V).map (premR a b), x.2.2.2.2.2.1, litR a b x.2.2.2.2.2.2)
def statR (s : kStat.V) : kStat.V := (s.1, sKinds s, (sMembers s).map (memR a b), sPreds s, sClasses s, sSources s, (sRules s).map (ruleR a b), sExcepts s, sTotals s)
end
theorem turn_size {a b x : Str} (hb : b.size ≤ reach) (hx : x.size ≤ reach) : (turnD a b x).size ≤ reach := by
  unfold turnD
  split
  · exact hb
  · exact hx
theorem set_same {α : Type} {l : List α} {i : Nat} {x : α} (h : l[i]? = some x) : l.set i x = l := by
  apply List.ext_getElem?
  intro j
  rw [List.getElem?_set]
  split
  · rename_i e
    subst e
    obtain ⟨h1, h2⟩ := List.getElem?_eq_some_iff.1 h
    rw [if_pos h1, h]
  · rfl
theorem term_turn {a b : Str} {x : kTerm.V} {q : Option Addr × Nat} : termCs (termR a b x) q = termCs x q := by
  simp [termR, termCs]
theorem rule_turn {a b : Str} {x : kRule.V} {q : (Option Addr × Nat) × (Option Addr × Nat)} : ruleCs (ruleR a b x) q = ruleCs x q := by
  simp [ruleR, litR, ruleCs]
theorem stat_turn {a b : Str} {s : kStat.V} {x : RC} : x.stat (statR a b s) = x.stat s := by
  have h1 : (sMembers (statR a b s)).length = (sMembers s).length := List.length_map _
  have h2 : (sRules (statR a b s)).length = (sRules s).length := List.length_map _
  unfold RC.stat
  rw [h1, h2]
  rfl
theorem prem_turn {a b : Str} {x : kPrem.V} {q : (Option Addr × Nat) × (Option Addr × Nat) × (Option Addr × Nat)} : premCs (premR a b x) q = ((premCs x q).set 9 (.string (turnD a b x.2.2.2.1))).set 10 (.string (turnD a b x.2.2.2.2)) := by
  simp [premR, litR, guardR, premCs]
theorem slice_closeM {t : K} {w : World} {A : Nat → Prop} {es : List (List Value)} {xs : List t.V} {r : List HP} {by_ : Nat} {f : t.V → t.V} {A0 : Option Addr} {c : Nat} {e : TypeId} {sz : Nat} (hsz : sz = t.sz) (hb : xs.length * by_ ≤ reach) (h : Sep (ownHP e sz (.slice A0 xs.length c) es :: elemsHP none t es (xs.map f) :: r) w A) : Sep (ownDHP (.sl by_ t) [.slice A0 (xs.map f).length c] (xs.map f) :: r) w A := by
  rw [List.length_map]
  exact slice_close hsz (by rw [List.length_map]; exact hb) h
attribute [local irreducible] RW CW
set_option maxHeartbeats 16000000 in
theorem renamed_ret {s : kStat.V} {x : RC} {a b : Str} {w : World} (hb : b.size ≤ reach) (hst : StatOn (mem w (fun b => ¬ No b)) s x) :
    RetC Try.prog 9 [.agg (x.stat s).toArray, .string a, .string b] w No (fun y : RC => .agg (y.stat (statR a b s)).toArray) (fun y => statH y (statR a b s)) := by
  have hsm := sl_small hst.members
  have hsr := sl_small hst.rules
  unfold reach at hsm hsr
  refine Calls.enter Try.func9 rfl _ rfl rfl (S := No) (H := []) trivial ?_
  refine CW.seqR ?_
  refine RW.box_agg (l := x.stat s) rfl rfl fun b3 _ => ?_
  refine RW.alloc (c := [.string ByteArray.empty, .slice none 0 0, .slice none 0 0, .slice none 0 0, .slice none 0 0, .slice none 0 0, .slice none 0 0, .slice none 0 0, .slice none 0 0]) rfl rfl fun b6 _ => ?_
  refine RW.take [1, 0] ?_
  repeat (first|refine Ja ?_|refine Jb ?_|refine Jc ?_|refine Jd ?_|refine Je ?_|refine Jf ?_|refine Jg ?_|refine Jh ?_|refine Ji ?_|refine Jj ?_|refine Jk ?_|refine Jl ?_|refine Jm ?_|refine Jn ?_|refine Jo ?_|refine Jp ?_|refine Jq ?_|refine Jr ?_|refine Js ?_|refine Jt ?_|refine Ju ?_|refine Jv ?_|refine Jw ?_|refine Jx ?_|refine Jy ?_|refine Jz ?_|refine JA ?_|refine JB ?_|refine JC ?_|refine JD ?_|refine JE ?_|refine JF ?_|refine JG ?_|refine JH ?_|refine JI ?_|refine JJ ?_|refine JK ?_|refine JL ?_|refine JM ?_|refine CW.skip (PW.code ?_)|refine RW.nil (PW.code ?_))
  refine RW.callN Try.call38 rfl (fun w2 hw => copyStat_ret (hst.mono (ro_call hw))) rfl fun ⟨A1, A2, A3, A4, A5, A6, A7, A8, c1, c2, c3, c4, c5, c6, c7, c8, _, _, _, _, _, _⟩ => ?_
  dsimp only [statH]
  refine RW.take [8, 9, 1, 5, 0, 2, 3, 4, 6, 7] ?_
  refine RW.store_whole [] rfl rfl (vs := [.string s.1, .slice A1 (sKinds s).length c1, .slice A2 (sMembers s).length c2, .slice A3 (sPreds s).length c3, .slice A4 (sClasses s).length c4, .slice A5 (sSources s).length c5, .slice A6 (sRules s).length c6, .slice A7 (sExcepts s).length c7, .slice A8 (sTotals s).length c8]) rfl rfl rfl (by simp [Value.oneCell']) ?_
  refine RW.take [2, 0, 1, 3, 4, 5, 6, 7, 8, 9] ?_
  refine RW.sepEx _ _ (fun w A h => sl_open h) fun ⟨e, es⟩ ⟨_, hes⟩ => ?_
  dsimp only at hes ⊢
  refine RW.take [4, 5, 6, 7, 8, 9, 10, 0, 1, 2, 3] ?_
  refine RW.pack [_, _, _, _, _, _, _] ?_
  refine RW.take [3, 4, 1, 2, 0] ?_
  repeat (first|refine Ja ?_|refine Jb ?_|refine Jc ?_|refine Jd ?_|refine Je ?_|refine Jf ?_|refine Jg ?_|refine Jh ?_|refine Ji ?_|refine Jj ?_|refine Jk ?_|refine Jl ?_|refine Jm ?_|refine Jn ?_|refine Jo ?_|refine Jp ?_|refine Jq ?_|refine Jr ?_|refine Js ?_|refine Jt ?_|refine Ju ?_|refine Jv ?_|refine Jw ?_|refine Jx ?_|refine Jy ?_|refine Jz ?_|refine JA ?_|refine JB ?_|refine JC ?_|refine JD ?_|refine JE ?_|refine JF ?_|refine JG ?_|refine JH ?_|refine JI ?_|refine JJ ?_|refine JK ?_|refine JL ?_|refine JM ?_|refine CW.skip (PW.code ?_)|refine RW.nil (PW.code ?_))
  refine CW.seq ?_
  repeat (first|refine Ja ?_|refine Jb ?_|refine Jc ?_|refine Jd ?_|refine Je ?_|refine Jf ?_|refine Jg ?_|refine Jh ?_|refine Ji ?_|refine Jj ?_|refine Jk ?_|refine Jl ?_|refine Jm ?_|refine Jn ?_|refine Jo ?_|refine Jp ?_|refine Jq ?_|refine Jr ?_|refine Js ?_|refine Jt ?_|refine Ju ?_|refine Jv ?_|refine Jw ?_|refine Jx ?_|refine Jy ?_|refine Jz ?_|refine JA ?_|refine JB ?_|refine JC ?_|refine JD ?_|refine JE ?_|refine JF ?_|refine JG ?_|refine JH ?_|refine JI ?_|refine JJ ?_|refine JK ?_|refine JL ?_|refine JM ?_|refine CW.skip (PW.code ?_)|refine RW.nil (PW.code ?_))
  refine CW.block ?_
  refine CW.loop (ι := { q : Nat × List (List Value) // q.1 ≤ (sMembers s).length }) (fun q => [(3, ptrV b3), (6, ptrV b6), (1, .string a), (2, .string b), (7, .int .i64 q.1.1)]) (fun q => [blk b3 [.string s.1, .slice A1 (sKinds s).length c1, .slice A2 (sMembers s).length c2, .slice A3 (sPreds s).length c3, .slice A4 (sClasses s).length c4, .slice A5 (sSources s).length c5, .slice A6 (sRules s).length c6, .slice A7 (sExcepts s).length c7, .slice A8 (sTotals s).length c8] 31, _, ownHP e 2 (.slice A2 (sMembers s).length c2) q.1.2, elemsHP none kMember q.1.2 (((sMembers s).take q.1.1).map (memR a b) ++ (sMembers s).drop q.1.1), _]) (fun q => (sMembers s).length - q.1.1) ⟨(0, es), Nat.zero_le _⟩ ⟨rfl, rfl, rfl, rfl, rfl, trivial⟩ (fun h => h) ?_
  intro ⟨⟨j, es2⟩, hj⟩
  dsimp only at hj ⊢
  refine CW.seq ?_
  repeat (first|refine Ja ?_|refine Jb ?_|refine Jc ?_|refine Jd ?_|refine Je ?_|refine Jf ?_|refine Jg ?_|refine Jh ?_|refine Ji ?_|refine Jj ?_|refine Jk ?_|refine Jl ?_|refine Jm ?_|refine Jn ?_|refine Jo ?_|refine Jp ?_|refine Jq ?_|refine Jr ?_|refine Js ?_|refine Jt ?_|refine Ju ?_|refine Jv ?_|refine Jw ?_|refine Jx ?_|refine Jy ?_|refine Jz ?_|refine JA ?_|refine JB ?_|refine JC ?_|refine JD ?_|refine JE ?_|refine JF ?_|refine JG ?_|refine JH ?_|refine JI ?_|refine JJ ?_|refine JK ?_|refine JL ?_|refine JM ?_|refine CW.skip (PW.code ?_)|refine RW.nil (PW.code ?_))
  refine CW.ite rfl (fun hlt => ?_) (fun hge => ?_)
  · have hlt' : j < (sMembers s).length := by simpa using hlt
    refine CW.skip ?_
    refine PW.code ?_
    refine CW.take [3, 0, 1, 2, 4] ?_
    refine CW.focus (map_here hlt') fun cs hc => ?_
    refine CW.sepEx _ _ (fun w A h => mem_open h) fun q ⟨hcs, hP⟩ => ?_
    refine CW.take [1, 2, 3, 0, 4] ?_
    subst hcs
    refine CW.have_ (fun w hw => own_some (pre := [_, _]) hw hc) fun ⟨B, hB⟩ => ?_
    subst hB
    refine CW.seq ?_
    refine CW.block ?_
    refine CW.anyV (by kernel_rfl) rfl ?_
    repeat (apply AW.val rfl; · intro Gx X; (first | refine RW.yes rfl ?_ | skip); (first|refine Jc ?_|refine Jd ?_|refine Je ?_|refine Jf ?_|refine Jg ?_|refine Jh ?_|refine Ji ?_|refine Jj ?_|refine Jk ?_|refine Jl ?_|refine Jm ?_|refine Jn ?_|refine Jo ?_|refine Jp ?_|refine Jq ?_|refine Jr ?_|refine Js ?_|refine Jt ?_|refine Ju ?_|refine Jv ?_|refine Jw ?_|refine Jx ?_|refine Jz ?_|refine JA ?_|refine JB ?_|refine JC ?_|refine JD ?_|refine JE ?_|refine JF ?_|refine JG ?_|refine JH ?_|refine JI ?_|refine JJ ?_|refine JK ?_|refine JL ?_); exact RW.done rfl)
    (apply AW.val rfl; · intro Gx X; (first | refine RW.yes rfl ?_ | skip); refine RW.indexAddr rfl rfl (by omega) hlt rfl ?_; exact RW.done rfl)
    repeat (apply AW.val rfl; · intro Gx X; (first | refine RW.yes rfl ?_ | skip); (first|refine Jc ?_|refine Jd ?_|refine Je ?_|refine Jf ?_|refine Jg ?_|refine Jh ?_|refine Ji ?_|refine Jj ?_|refine Jk ?_|refine Jl ?_|refine Jm ?_|refine Jn ?_|refine Jo ?_|refine Jp ?_|refine Jq ?_|refine Jr ?_|refine Js ?_|refine Jt ?_|refine Ju ?_|refine Jv ?_|refine Jw ?_|refine Jx ?_|refine Jz ?_|refine JA ?_|refine JB ?_|refine JC ?_|refine JD ?_|refine JE ?_|refine JF ?_|refine JG ?_|refine JH ?_|refine JI ?_|refine JJ ?_|refine JK ?_|refine JL ?_); exact RW.done rfl)
    (apply AW.val rfl; · intro Gx X; (first | refine RW.yes rfl ?_ | skip); refine RW.loadOwn1 [_, _] (i := j) (j := 0) rfl (by simp) hc rfl rfl rfl ?_; exact RW.done rfl)
    repeat (apply AW.val rfl; · intro Gx X; (first | refine RW.yes rfl ?_ | skip); (first|refine Jc ?_|refine Jd ?_|refine Je ?_|refine Jf ?_|refine Jg ?_|refine Jh ?_|refine Ji ?_|refine Jj ?_|refine Jk ?_|refine Jl ?_|refine Jm ?_|refine Jn ?_|refine Jo ?_|refine Jp ?_|refine Jq ?_|refine Jr ?_|refine Js ?_|refine Jt ?_|refine Ju ?_|refine Jv ?_|refine Jw ?_|refine Jx ?_|refine Jz ?_|refine JA ?_|refine JB ?_|refine JC ?_|refine JD ?_|refine JE ?_|refine JF ?_|refine JG ?_|refine JH ?_|refine JI ?_|refine JJ ?_|refine JK ?_|refine JL ?_); exact RW.done rfl)
    (apply AW.val rfl; · intro Gx X; (first | refine RW.yes rfl ?_ | skip); refine RW.call Try.call39 rfl (fun w hw => turned_ret) rfl ?_; exact RW.done rfl)
    (apply AW.val rfl; · intro Gx X; (first | refine RW.yes rfl ?_ | skip); refine RW.indexAddr rfl rfl (by omega) hlt rfl ?_; exact RW.done rfl)
    repeat (apply AW.val rfl; · intro Gx X; (first | refine RW.yes rfl ?_ | skip); (first|refine Jc ?_|refine Jd ?_|refine Je ?_|refine Jf ?_|refine Jg ?_|refine Jh ?_|refine Ji ?_|refine Jj ?_|refine Jk ?_|refine Jl ?_|refine Jm ?_|refine Jn ?_|refine Jo ?_|refine Jp ?_|refine Jq ?_|refine Jr ?_|refine Js ?_|refine Jt ?_|refine Ju ?_|refine Jv ?_|refine Jw ?_|refine Jx ?_|refine Jz ?_|refine JA ?_|refine JB ?_|refine JC ?_|refine JD ?_|refine JE ?_|refine JF ?_|refine JG ?_|refine JH ?_|refine JI ?_|refine JJ ?_|refine JK ?_|refine JL ?_); exact RW.done rfl)
    refine AW.stop (by kernel_rfl) (by kernel_rfl) fun bs => ?_
    refine RW.storeOwn [_, _] (i := j) (j := 0) rfl (by simp) rfl rfl rfl hc (by simp) ?_
    refine RW.take [3, 0, 1, 2, 4] ?_
    refine RW.sep _ (fun w A h => mem_close (x := memR a b (sMembers s)[j]) (q := q) ⟨turn_size hb hP.1, hP.2⟩ h) ?_
    refine RW.put hc ?_
    rw [map_step hlt']
    refine RW.take [1, 2, 3, 0, 4] ?_
    repeat (first|refine Ja ?_|refine Jb ?_|refine Jc ?_|refine Jd ?_|refine Je ?_|refine Jf ?_|refine Jg ?_|refine Jh ?_|refine Ji ?_|refine Jj ?_|refine Jk ?_|refine Jl ?_|refine Jm ?_|refine Jn ?_|refine Jo ?_|refine Jp ?_|refine Jq ?_|refine Jr ?_|refine Js ?_|refine Jt ?_|refine Ju ?_|refine Jv ?_|refine Jw ?_|refine Jx ?_|refine Jy ?_|refine Jz ?_|refine JA ?_|refine JB ?_|refine JC ?_|refine JD ?_|refine JE ?_|refine JF ?_|refine JG ?_|refine JH ?_|refine JI ?_|refine JJ ?_|refine JK ?_|refine JL ?_|refine JM ?_|refine CW.skip (PW.code ?_)|refine RW.nil (PW.code ?_))
    refine CW.region ?_
    repeat (first|refine Ja ?_|refine Jb ?_|refine Jc ?_|refine Jd ?_|refine Je ?_|refine Jf ?_|refine Jg ?_|refine Jh ?_|refine Ji ?_|refine Jj ?_|refine Jk ?_|refine Jl ?_|refine Jm ?_|refine Jn ?_|refine Jo ?_|refine Jp ?_|refine Jq ?_|refine Jr ?_|refine Js ?_|refine Jt ?_|refine Ju ?_|refine Jv ?_|refine Jw ?_|refine Jx ?_|refine Jy ?_|refine Jz ?_|refine JA ?_|refine JB ?_|refine JC ?_|refine JD ?_|refine JE ?_|refine JF ?_|refine JG ?_|refine JH ?_|refine JI ?_|refine JJ ?_|refine JK ?_|refine JL ?_|refine JM ?_|refine CW.skip (PW.code ?_)|refine RW.nil (PW.code ?_))
    refine RW.add rfl rfl (w64 (by omega) (by omega)) rfl ?_
    repeat (first|refine Ja ?_|refine Jb ?_|refine Jc ?_|refine Jd ?_|refine Je ?_|refine Jf ?_|refine Jg ?_|refine Jh ?_|refine Ji ?_|refine Jj ?_|refine Jk ?_|refine Jl ?_|refine Jm ?_|refine Jn ?_|refine Jo ?_|refine Jp ?_|refine Jq ?_|refine Jr ?_|refine Js ?_|refine Jt ?_|refine Ju ?_|refine Jv ?_|refine Jw ?_|refine Jx ?_|refine Jy ?_|refine Jz ?_|refine JA ?_|refine JB ?_|refine JC ?_|refine JD ?_|refine JE ?_|refine JF ?_|refine JG ?_|refine JH ?_|refine JI ?_|refine JJ ?_|refine JK ?_|refine JL ?_|refine JM ?_|refine CW.skip (PW.code ?_)|refine RW.nil (PW.code ?_))
    refine RW.nil ?_
    exact PW.again ⟨(j + 1, es2.set j (memCs (memR a b (sMembers s)[j]) q)), hlt'⟩ ⟨rfl, rfl, rfl, rfl, rfl, trivial⟩ (fun h => h) (by show (sMembers s).length - (j + 1) < (sMembers s).length - j; omega)
  have hge' : (sMembers s).length ≤ j := by simpa using hge
  rw [map_end hge']
  refine CW.take [2, 3, 0, 1, 4] ?_
  refine CW.sep _ (fun w A h => slice_closeM (by_ := 32) rfl (sl_small hst.members) h) ?_
  refine CW.take [3, 0, 1, 2] ?_
  refine CW.unpack ?_
  refine CW.sepEx _ _ (fun w A h => sl_open h) fun ⟨e2, er⟩ ⟨_, her⟩ => ?_
  dsimp only at her ⊢
  refine CW.take [2, 3, 4, 5, 6, 7, 8, 0, 1, 9, 10] ?_
  refine CW.pack [_, _, _, _, _, _, _] ?_
  refine CW.take [3, 4, 1, 2, 0] ?_
  refine CW.exit rfl ?_
  refine PW.code ?_
  clear hge hge' hj hes
  refine CW.seq ?_
  repeat (first|refine Ja ?_|refine Jb ?_|refine Jc ?_|refine Jd ?_|refine Je ?_|refine Jf ?_|refine Jg ?_|refine Jh ?_|refine Ji ?_|refine Jj ?_|refine Jk ?_|refine Jl ?_|refine Jm ?_|refine Jn ?_|refine Jo ?_|refine Jp ?_|refine Jq ?_|refine Jr ?_|refine Js ?_|refine Jt ?_|refine Ju ?_|refine Jv ?_|refine Jw ?_|refine Jx ?_|refine Jy ?_|refine Jz ?_|refine JA ?_|refine JB ?_|refine JC ?_|refine JD ?_|refine JE ?_|refine JF ?_|refine JG ?_|refine JH ?_|refine JI ?_|refine JJ ?_|refine JK ?_|refine JL ?_|refine JM ?_|refine CW.skip (PW.code ?_)|refine RW.nil (PW.code ?_))
  refine CW.block ?_
  refine CW.loop (ι := { j : Nat // j ≤ (sRules s).length }) (fun q => [(3, ptrV b3), (6, ptrV b6), (1, .string a), (2, .string b), (8, .int .i64 q.1)]) (fun q => [blk b3 [.string s.1, .slice A1 (sKinds s).length c1, .slice A2 (sMembers s).length c2, .slice A3 (sPreds s).length c3, .slice A4 (sClasses s).length c4, .slice A5 (sSources s).length c5, .slice A6 (sRules s).length c6, .slice A7 (sExcepts s).length c7, .slice A8 (sTotals s).length c8] 31, _, ownHP e2 11 (.slice A6 (sRules s).length c6) er, elemsHP none kRule er (((sRules s).take q.1).map (ruleR a b) ++ (sRules s).drop q.1), _]) (fun q => (sRules s).length - q.1) ⟨0, Nat.zero_le _⟩ ⟨rfl, rfl, rfl, rfl, rfl, trivial⟩ (fun h => h) ?_
  intro ⟨j, hj⟩
  dsimp only at hj ⊢
  refine CW.seq ?_
  repeat (first|refine Ja ?_|refine Jb ?_|refine Jc ?_|refine Jd ?_|refine Je ?_|refine Jf ?_|refine Jg ?_|refine Jh ?_|refine Ji ?_|refine Jj ?_|refine Jk ?_|refine Jl ?_|refine Jm ?_|refine Jn ?_|refine Jo ?_|refine Jp ?_|refine Jq ?_|refine Jr ?_|refine Js ?_|refine Jt ?_|refine Ju ?_|refine Jv ?_|refine Jw ?_|refine Jx ?_|refine Jy ?_|refine Jz ?_|refine JA ?_|refine JB ?_|refine JC ?_|refine JD ?_|refine JE ?_|refine JF ?_|refine JG ?_|refine JH ?_|refine JI ?_|refine JJ ?_|refine JK ?_|refine JL ?_|refine JM ?_|refine CW.skip (PW.code ?_)|refine RW.nil (PW.code ?_))
  refine CW.ite rfl (fun hlt => ?_) (fun hge => ?_)
  rotate_left
  · have hge' : (sRules s).length ≤ j := by simpa using hge
    rw [map_end hge']
    refine CW.take [2, 3, 0, 1, 4] ?_
    refine CW.sep _ (fun w A h => slice_closeM (by_ := 144) rfl (sl_small hst.rules) h) ?_
    refine CW.take [3, 0, 1, 2] ?_
    refine CW.unpack ?_
    refine CW.take [8, 9, 0, 6, 1, 2, 3, 7, 4, 5] ?_
    refine CW.exit rfl ?_
    refine PW.code ?_
    repeat (first|refine Ja ?_|refine Jb ?_|refine Jc ?_|refine Jd ?_|refine Je ?_|refine Jf ?_|refine Jg ?_|refine Jh ?_|refine Ji ?_|refine Jj ?_|refine Jk ?_|refine Jl ?_|refine Jm ?_|refine Jn ?_|refine Jo ?_|refine Jp ?_|refine Jq ?_|refine Jr ?_|refine Js ?_|refine Jt ?_|refine Ju ?_|refine Jv ?_|refine Jw ?_|refine Jx ?_|refine Jy ?_|refine Jz ?_|refine JA ?_|refine JB ?_|refine JC ?_|refine JD ?_|refine JE ?_|refine JF ?_|refine JG ?_|refine JH ?_|refine JI ?_|refine JJ ?_|refine JK ?_|refine JL ?_|refine JM ?_|refine CW.skip (PW.code ?_)|refine RW.nil (PW.code ?_))
    refine RW.store_whole [_] rfl rfl (vs := [.string s.1, .slice A1 (sKinds s).length c1, .slice A2 (sMembers s).length c2, .slice A3 (sPreds s).length c3, .slice A4 (sClasses s).length c4, .slice A5 (sSources s).length c5, .slice A6 (sRules s).length c6, .slice A7 (sExcepts s).length c7, .slice A8 (sTotals s).length c8]) rfl rfl rfl (by simp [Value.oneCell']) ?_
    repeat (first|refine Ja ?_|refine Jb ?_|refine Jc ?_|refine Jd ?_|refine Je ?_|refine Jf ?_|refine Jg ?_|refine Jh ?_|refine Ji ?_|refine Jj ?_|refine Jk ?_|refine Jl ?_|refine Jm ?_|refine Jn ?_|refine Jo ?_|refine Jp ?_|refine Jq ?_|refine Jr ?_|refine Js ?_|refine Jt ?_|refine Ju ?_|refine Jv ?_|refine Jw ?_|refine Jx ?_|refine Jy ?_|refine Jz ?_|refine JA ?_|refine JB ?_|refine JC ?_|refine JD ?_|refine JE ?_|refine JF ?_|refine JG ?_|refine JH ?_|refine JI ?_|refine JJ ?_|refine JK ?_|refine JL ?_|refine JM ?_|refine CW.skip (PW.code ?_)|refine RW.nil (PW.code ?_))
    refine CW.rets (rs := [.cell 6 31]) (vs := [_]) rfl Try.results9 rfl (ResOK.cell [_] rfl rfl rfl ResOK.nil) fun w hw => ⟨⟨A1, A2, A3, A4, A5, A6, A7, A8, c1, c2, c3, c4, c5, c6, c7, c8, 0, 0, 0, 0, 0, 0⟩, ?_, hw.take [2, 3, 4, 5, 6, 7, 8, 9]⟩
    rw [stat_turn]
    rfl
  have hlt' : j < (sRules s).length := by simpa using hlt
  refine CW.skip ?_
  refine PW.code ?_
  have hstep := map_step (f := ruleR a b) hlt'
  refine CW.take [3, 0, 1, 2, 4] ?_
  refine CW.focus (map_here hlt') fun cs hc => ?_
  generalize hrr : (sRules s)[j] = rr at hstep ⊢
  refine CW.sepEx _ _ (fun w A h => rule_open h) fun ⟨⟨P1, q1⟩, ⟨P2, q2⟩⟩ ⟨hcs, hP⟩ => ?_
  subst hcs
  refine CW.take [3, 4, 5, 2, 1, 0, 6] ?_
  refine CW.have_ (fun w hw => own_some (pre := [_, _]) hw hc) fun ⟨B6, hB6⟩ => ?_
  subst hB6
  refine CW.seq ?_
  refine CW.block ?_
  refine CW.seqR ?_
  repeat (first|refine Ja ?_|refine Jb ?_|refine Jc ?_|refine Jd ?_|refine Je ?_|refine Jf ?_|refine Jg ?_|refine Jh ?_|refine Ji ?_|refine Jj ?_|refine Jk ?_|refine Jl ?_|refine Jm ?_|refine Jn ?_|refine Jo ?_|refine Jp ?_|refine Jq ?_|refine Jr ?_|refine Js ?_|refine Jt ?_|refine Ju ?_|refine Jv ?_|refine Jw ?_|refine Jx ?_|refine Jy ?_|refine Jz ?_|refine JA ?_|refine JB ?_|refine JC ?_|refine JD ?_|refine JE ?_|refine JF ?_|refine JG ?_|refine JH ?_|refine JI ?_|refine JJ ?_|refine JK ?_|refine JL ?_|refine JM ?_|refine CW.skip (PW.code ?_)|refine RW.nil (PW.code ?_))
  refine RW.indexAddr rfl rfl (by omega) hlt rfl ?_
  refine RW.loadOwn [_, _] (i := j) rfl (by simp) hc rfl rfl rfl ?_
  refine RW.alloc (c := [.string ByteArray.empty, .string ByteArray.empty, .int .i64 0, .int .i64 0, .slice none 0 0, .int .i64 0, .bool false, .string ByteArray.empty, .slice none 0 0, .bool false, .int .i64 0]) rfl rfl fun b9 _ => ?_
  refine RW.store_whole [] rfl rfl (vs := ruleCs rr ((P1, q1), (P2, q2))) rfl rfl rfl (by simp [Value.oneCell']) ?_
  repeat (first|refine Ja ?_|refine Jb ?_|refine Jc ?_|refine Jd ?_|refine Je ?_|refine Jf ?_|refine Jg ?_|refine Jh ?_|refine Ji ?_|refine Jj ?_|refine Jk ?_|refine Jl ?_|refine Jm ?_|refine Jn ?_|refine Jo ?_|refine Jp ?_|refine Jq ?_|refine Jr ?_|refine Js ?_|refine Jt ?_|refine Ju ?_|refine Jv ?_|refine Jw ?_|refine Jx ?_|refine Jy ?_|refine Jz ?_|refine JA ?_|refine JB ?_|refine JC ?_|refine JD ?_|refine JE ?_|refine JF ?_|refine JG ?_|refine JH ?_|refine JI ?_|refine JJ ?_|refine JK ?_|refine JL ?_|refine JM ?_|refine CW.skip (PW.code ?_)|refine RW.nil (PW.code ?_))
  refine RW.callT [5, 0, 1, 2, 3, 4, 6, 7] [_] rfl rfl rfl Try.call40 (fun w2 F2 _ h1 _ => argsT_ret hb h1) fun _ => ?_
  refine RW.take [6, 2, 3, 4, 5, 0, 7, 1] ?_
  refine RW.sepEx _ _ (fun w A h => sl_open h) fun ⟨e3, ep⟩ ⟨hps, hep⟩ => ?_
  dsimp only at hps hep ⊢
  have hsp : (rPrems rr).length * 160 ≤ reach := hps
  unfold reach at hsp
  refine RW.take [2, 3, 4, 5, 6, 7, 8, 0, 1] ?_
  refine RW.pack [_, _, _, _, _, _] ?_
  refine RW.take [1, 2, 3, 0] ?_
  repeat (first|refine Ja ?_|refine Jb ?_|refine Jc ?_|refine Jd ?_|refine Je ?_|refine Jf ?_|refine Jg ?_|refine Jh ?_|refine Ji ?_|refine Jj ?_|refine Jk ?_|refine Jl ?_|refine Jm ?_|refine Jn ?_|refine Jo ?_|refine Jp ?_|refine Jq ?_|refine Jr ?_|refine Js ?_|refine Jt ?_|refine Ju ?_|refine Jv ?_|refine Jw ?_|refine Jx ?_|refine Jy ?_|refine Jz ?_|refine JA ?_|refine JB ?_|refine JC ?_|refine JD ?_|refine JE ?_|refine JF ?_|refine JG ?_|refine JH ?_|refine JI ?_|refine JJ ?_|refine JK ?_|refine JL ?_|refine JM ?_|refine CW.skip (PW.code ?_)|refine RW.nil (PW.code ?_))
  refine CW.block ?_
  refine CW.loop (ι := { q : Nat × List (List Value) // q.1 ≤ (rPrems rr).length }) (fun q => [(3, ptrV b3), (6, ptrV b6), (1, .string a), (2, .string b), (8, .int .i64 j), (9, ptrV b9), (10, .int .i64 q.1.1)]) (fun q => [blk b9 (ruleCs rr ((P1, q1), (P2, q2))) 56, ownHP e3 11 (.slice P1 (rPrems rr).length q1) q.1.2, elemsHP none kPrem q.1.2 (((rPrems rr).take q.1.1).map (premR a b) ++ (rPrems rr).drop q.1.1), _]) (fun q => (rPrems rr).length - q.1.1) ⟨(0, ep), Nat.zero_le _⟩ ⟨rfl, rfl, rfl, rfl, rfl, rfl, rfl, trivial⟩ (fun h => h) ?_
  intro ⟨⟨k, ep2⟩, hk⟩
  dsimp only at hk ⊢
  refine CW.seq ?_
  repeat (first|refine Ja ?_|refine Jb ?_|refine Jc ?_|refine Jd ?_|refine Je ?_|refine Jf ?_|refine Jg ?_|refine Jh ?_|refine Ji ?_|refine Jj ?_|refine Jk ?_|refine Jl ?_|refine Jm ?_|refine Jn ?_|refine Jo ?_|refine Jp ?_|refine Jq ?_|refine Jr ?_|refine Js ?_|refine Jt ?_|refine Ju ?_|refine Jv ?_|refine Jw ?_|refine Jx ?_|refine Jy ?_|refine Jz ?_|refine JA ?_|refine JB ?_|refine JC ?_|refine JD ?_|refine JE ?_|refine JF ?_|refine JG ?_|refine JH ?_|refine JI ?_|refine JJ ?_|refine JK ?_|refine JL ?_|refine JM ?_|refine CW.skip (PW.code ?_)|refine RW.nil (PW.code ?_))
  refine CW.ite rfl (fun hltk => ?_) (fun hgek => ?_)
  rotate_left
  · have hgek' : (rPrems rr).length ≤ k := by simpa using hgek
    rw [map_end hgek']
    refine CW.take [1, 2, 3] ?_
    refine CW.sep _ (fun w A h => slice_closeM (by_ := 160) rfl hps h) ?_
    refine CW.take [1, 0] ?_
    refine CW.unpack ?_
    refine CW.take [6, 4, 3, 0, 1, 2, 5] ?_
    refine CW.sep _ (fun w A h => rule_close (x := ruleR a b rr) (q := ((P1, q1), (P2, q2))) hP h) ?_
    refine CW.put hc ?_
    rw [rule_turn, set_same hc, hstep]
    refine CW.take [1, 2, 3, 0, 4] ?_
    refine CW.exit rfl ?_
    refine PW.code ?_
    refine CW.region ?_
    repeat (first|refine Ja ?_|refine Jb ?_|refine Jc ?_|refine Jd ?_|refine Je ?_|refine Jf ?_|refine Jg ?_|refine Jh ?_|refine Ji ?_|refine Jj ?_|refine Jk ?_|refine Jl ?_|refine Jm ?_|refine Jn ?_|refine Jo ?_|refine Jp ?_|refine Jq ?_|refine Jr ?_|refine Js ?_|refine Jt ?_|refine Ju ?_|refine Jv ?_|refine Jw ?_|refine Jx ?_|refine Jy ?_|refine Jz ?_|refine JA ?_|refine JB ?_|refine JC ?_|refine JD ?_|refine JE ?_|refine JF ?_|refine JG ?_|refine JH ?_|refine JI ?_|refine JJ ?_|refine JK ?_|refine JL ?_|refine JM ?_|refine CW.skip (PW.code ?_)|refine RW.nil (PW.code ?_))
    refine RW.add rfl rfl (w64 (by omega) (by omega)) rfl ?_
    repeat (first|refine Ja ?_|refine Jb ?_|refine Jc ?_|refine Jd ?_|refine Je ?_|refine Jf ?_|refine Jg ?_|refine Jh ?_|refine Ji ?_|refine Jj ?_|refine Jk ?_|refine Jl ?_|refine Jm ?_|refine Jn ?_|refine Jo ?_|refine Jp ?_|refine Jq ?_|refine Jr ?_|refine Js ?_|refine Jt ?_|refine Ju ?_|refine Jv ?_|refine Jw ?_|refine Jx ?_|refine Jy ?_|refine Jz ?_|refine JA ?_|refine JB ?_|refine JC ?_|refine JD ?_|refine JE ?_|refine JF ?_|refine JG ?_|refine JH ?_|refine JI ?_|refine JJ ?_|refine JK ?_|refine JL ?_|refine JM ?_|refine CW.skip (PW.code ?_)|refine RW.nil (PW.code ?_))
    refine RW.nil ?_
    exact PW.again ⟨j + 1, hlt'⟩ ⟨rfl, rfl, rfl, rfl, rfl, trivial⟩ (fun h => h) (by show (sRules s).length - (j + 1) < (sRules s).length - j; omega)
  have hltk' : k < (rPrems rr).length := by simpa using hltk
  refine CW.skip ?_
  refine PW.code ?_
  have hstepp := map_step (f := premR a b) hltk'
  refine CW.take [2, 0, 1, 3] ?_
  refine CW.focus (map_here hltk') fun cs hcp0 => ?_
  generalize hpp : (rPrems rr)[k] = pp at hstepp ⊢
  refine CW.sepEx _ _ (fun w A h => prem_open h) fun ⟨⟨L1, l1⟩, ⟨L2, l2⟩, ⟨L3, l3⟩⟩ ⟨hcs, hPp⟩ => ?_
  subst hcs
  refine CW.take [4, 5, 3, 0, 1, 2, 6] ?_
  refine CW.have_ (fun w hw => own_some (pre := [_]) hw hcp0) fun ⟨Bp, hBp⟩ => ?_
  subst hBp
  refine CW.seq ?_
  refine CW.block ?_
  refine CW.seqR ?_
  repeat (first|refine Ja ?_|refine Jb ?_|refine Jc ?_|refine Jd ?_|refine Je ?_|refine Jf ?_|refine Jg ?_|refine Jh ?_|refine Ji ?_|refine Jj ?_|refine Jk ?_|refine Jl ?_|refine Jm ?_|refine Jn ?_|refine Jo ?_|refine Jp ?_|refine Jq ?_|refine Jr ?_|refine Js ?_|refine Jt ?_|refine Ju ?_|refine Jv ?_|refine Jw ?_|refine Jx ?_|refine Jy ?_|refine Jz ?_|refine JA ?_|refine JB ?_|refine JC ?_|refine JD ?_|refine JE ?_|refine JF ?_|refine JG ?_|refine JH ?_|refine JI ?_|refine JJ ?_|refine JK ?_|refine JL ?_|refine JM ?_|refine CW.skip (PW.code ?_)|refine RW.nil (PW.code ?_))
  refine RW.indexAddr rfl rfl (by omega) hltk rfl ?_
  repeat (first|refine Ja ?_|refine Jb ?_|refine Jc ?_|refine Jd ?_|refine Je ?_|refine Jf ?_|refine Jg ?_|refine Jh ?_|refine Ji ?_|refine Jj ?_|refine Jk ?_|refine Jl ?_|refine Jm ?_|refine Jn ?_|refine Jo ?_|refine Jp ?_|refine Jq ?_|refine Jr ?_|refine Js ?_|refine Jt ?_|refine Ju ?_|refine Jv ?_|refine Jw ?_|refine Jx ?_|refine Jy ?_|refine Jz ?_|refine JA ?_|refine JB ?_|refine JC ?_|refine JD ?_|refine JE ?_|refine JF ?_|refine JG ?_|refine JH ?_|refine JI ?_|refine JJ ?_|refine JK ?_|refine JL ?_|refine JM ?_|refine CW.skip (PW.code ?_)|refine RW.nil (PW.code ?_))
  refine RW.loadOwn1 [_] (i := k) (j := 3) rfl (by simp; try omega) hcp0 rfl rfl rfl ?_
  repeat (first|refine Ja ?_|refine Jb ?_|refine Jc ?_|refine Jd ?_|refine Je ?_|refine Jf ?_|refine Jg ?_|refine Jh ?_|refine Ji ?_|refine Jj ?_|refine Jk ?_|refine Jl ?_|refine Jm ?_|refine Jn ?_|refine Jo ?_|refine Jp ?_|refine Jq ?_|refine Jr ?_|refine Js ?_|refine Jt ?_|refine Ju ?_|refine Jv ?_|refine Jw ?_|refine Jx ?_|refine Jy ?_|refine Jz ?_|refine JA ?_|refine JB ?_|refine JC ?_|refine JD ?_|refine JE ?_|refine JF ?_|refine JG ?_|refine JH ?_|refine JI ?_|refine JJ ?_|refine JK ?_|refine JL ?_|refine JM ?_|refine CW.skip (PW.code ?_)|refine RW.nil (PW.code ?_))
  refine RW.callT [3, 0, 1, 2, 4, 5, 6] [_] rfl rfl rfl Try.call40 (fun w2 F2 _ h1 _ => argsT_ret hb h1) fun _ => ?_
  refine RW.take [1, 2, 3, 0, 4, 5, 6] ?_
  repeat (first|refine Ja ?_|refine Jb ?_|refine Jc ?_|refine Jd ?_|refine Je ?_|refine Jf ?_|refine Jg ?_|refine Jh ?_|refine Ji ?_|refine Jj ?_|refine Jk ?_|refine Jl ?_|refine Jm ?_|refine Jn ?_|refine Jo ?_|refine Jp ?_|refine Jq ?_|refine Jr ?_|refine Js ?_|refine Jt ?_|refine Ju ?_|refine Jv ?_|refine Jw ?_|refine Jx ?_|refine Jy ?_|refine Jz ?_|refine JA ?_|refine JB ?_|refine JC ?_|refine JD ?_|refine JE ?_|refine JF ?_|refine JG ?_|refine JH ?_|refine JI ?_|refine JJ ?_|refine JK ?_|refine JL ?_|refine JM ?_|refine CW.skip (PW.code ?_)|refine RW.nil (PW.code ?_))
  refine RW.loadOwn1 [_] (i := k) (j := 9) rfl (by simp; try omega) hcp0 rfl rfl rfl ?_
  repeat (first|refine Ja ?_|refine Jb ?_|refine Jc ?_|refine Jd ?_|refine Je ?_|refine Jf ?_|refine Jg ?_|refine Jh ?_|refine Ji ?_|refine Jj ?_|refine Jk ?_|refine Jl ?_|refine Jm ?_|refine Jn ?_|refine Jo ?_|refine Jp ?_|refine Jq ?_|refine Jr ?_|refine Js ?_|refine Jt ?_|refine Ju ?_|refine Jv ?_|refine Jw ?_|refine Jx ?_|refine Jy ?_|refine Jz ?_|refine JA ?_|refine JB ?_|refine JC ?_|refine JD ?_|refine JE ?_|refine JF ?_|refine JG ?_|refine JH ?_|refine JI ?_|refine JJ ?_|refine JK ?_|refine JL ?_|refine JM ?_|refine CW.skip (PW.code ?_)|refine RW.nil (PW.code ?_))
  refine RW.call Try.call39 rfl (fun w hw => turned_ret) rfl ?_
  repeat (first|refine Ja ?_|refine Jb ?_|refine Jc ?_|refine Jd ?_|refine Je ?_|refine Jf ?_|refine Jg ?_|refine Jh ?_|refine Ji ?_|refine Jj ?_|refine Jk ?_|refine Jl ?_|refine Jm ?_|refine Jn ?_|refine Jo ?_|refine Jp ?_|refine Jq ?_|refine Jr ?_|refine Js ?_|refine Jt ?_|refine Ju ?_|refine Jv ?_|refine Jw ?_|refine Jx ?_|refine Jy ?_|refine Jz ?_|refine JA ?_|refine JB ?_|refine JC ?_|refine JD ?_|refine JE ?_|refine JF ?_|refine JG ?_|refine JH ?_|refine JI ?_|refine JJ ?_|refine JK ?_|refine JL ?_|refine JM ?_|refine CW.skip (PW.code ?_)|refine RW.nil (PW.code ?_))
  refine RW.storeOwn [_] (i := k) (j := 9) rfl (by simp; try omega) rfl rfl rfl hcp0 (by simp) ?_
  have hlk : k < ep2.length := (List.getElem?_eq_some_iff.1 hcp0).1
  have hcp1 : (ep2.set k ((premCs pp ((L1, l1), (L2, l2), (L3, l3))).set 9 (.string (turnD a b pp.2.2.2.1))))[k]? = some ((premCs pp ((L1, l1), (L2, l2), (L3, l3))).set 9 (.string (turnD a b pp.2.2.2.1))) := List.getElem?_set_self hlk
  repeat (first|refine Ja ?_|refine Jb ?_|refine Jc ?_|refine Jd ?_|refine Je ?_|refine Jf ?_|refine Jg ?_|refine Jh ?_|refine Ji ?_|refine Jj ?_|refine Jk ?_|refine Jl ?_|refine Jm ?_|refine Jn ?_|refine Jo ?_|refine Jp ?_|refine Jq ?_|refine Jr ?_|refine Js ?_|refine Jt ?_|refine Ju ?_|refine Jv ?_|refine Jw ?_|refine Jx ?_|refine Jy ?_|refine Jz ?_|refine JA ?_|refine JB ?_|refine JC ?_|refine JD ?_|refine JE ?_|refine JF ?_|refine JG ?_|refine JH ?_|refine JI ?_|refine JJ ?_|refine JK ?_|refine JL ?_|refine JM ?_|refine CW.skip (PW.code ?_)|refine RW.nil (PW.code ?_))
  refine RW.loadOwn1 [_] (i := k) (j := 10) rfl (by simp; try omega) hcp1 rfl rfl rfl ?_
  repeat (first|refine Ja ?_|refine Jb ?_|refine Jc ?_|refine Jd ?_|refine Je ?_|refine Jf ?_|refine Jg ?_|refine Jh ?_|refine Ji ?_|refine Jj ?_|refine Jk ?_|refine Jl ?_|refine Jm ?_|refine Jn ?_|refine Jo ?_|refine Jp ?_|refine Jq ?_|refine Jr ?_|refine Js ?_|refine Jt ?_|refine Ju ?_|refine Jv ?_|refine Jw ?_|refine Jx ?_|refine Jy ?_|refine Jz ?_|refine JA ?_|refine JB ?_|refine JC ?_|refine JD ?_|refine JE ?_|refine JF ?_|refine JG ?_|refine JH ?_|refine JI ?_|refine JJ ?_|refine JK ?_|refine JL ?_|refine JM ?_|refine CW.skip (PW.code ?_)|refine RW.nil (PW.code ?_))
  refine RW.call Try.call39 rfl (fun w hw => turned_ret) rfl ?_
  repeat (first|refine Ja ?_|refine Jb ?_|refine Jc ?_|refine Jd ?_|refine Je ?_|refine Jf ?_|refine Jg ?_|refine Jh ?_|refine Ji ?_|refine Jj ?_|refine Jk ?_|refine Jl ?_|refine Jm ?_|refine Jn ?_|refine Jo ?_|refine Jp ?_|refine Jq ?_|refine Jr ?_|refine Js ?_|refine Jt ?_|refine Ju ?_|refine Jv ?_|refine Jw ?_|refine Jx ?_|refine Jy ?_|refine Jz ?_|refine JA ?_|refine JB ?_|refine JC ?_|refine JD ?_|refine JE ?_|refine JF ?_|refine JG ?_|refine JH ?_|refine JI ?_|refine JJ ?_|refine JK ?_|refine JL ?_|refine JM ?_|refine CW.skip (PW.code ?_)|refine RW.nil (PW.code ?_))
  refine RW.storeOwn [_] (i := k) (j := 10) rfl (by simp; try omega) rfl rfl rfl hcp1 (by simp) ?_
  rw [List.set_set]
  obtain ⟨pc, hpc⟩ : ∃ pc, pc = ((premCs pp ((L1, l1), (L2, l2), (L3, l3))).set 9 (.string (turnD a b pp.2.2.2.1))).set 10 (.string (turnD a b pp.2.2.2.2)) := ⟨_, rfl⟩
  have hcp : (ep2.set k pc)[k]? = some pc := List.getElem?_set_self hlk
  have hc6 : pc[6]? = some (.slice L2 (pLeft pp).length l2) := by rw [hpc]; rfl
  have hc8 : pc[8]? = some (.slice L3 (pRight pp).length l3) := by rw [hpc]; rfl
  rw [← hpc]
  refine RW.take [4, 0, 2, 3, 5, 6, 1] ?_
  refine RW.sepEx _ _ (fun w A h => sl_open h) fun ⟨e4, el⟩ ⟨hls, hel⟩ => ?_
  dsimp only at hls hel ⊢
  have hsl : (pLeft pp).length * 56 ≤ reach := hls
  unfold reach at hsl
  refine RW.take [2, 3, 4, 5, 6, 7, 0, 1] ?_
  refine RW.pack [_, _, _, _, _] ?_
  refine RW.take [1, 2, 3, 0] ?_
  repeat (first|refine Ja ?_|refine Jb ?_|refine Jc ?_|refine Jd ?_|refine Je ?_|refine Jf ?_|refine Jg ?_|refine Jh ?_|refine Ji ?_|refine Jj ?_|refine Jk ?_|refine Jl ?_|refine Jm ?_|refine Jn ?_|refine Jo ?_|refine Jp ?_|refine Jq ?_|refine Jr ?_|refine Js ?_|refine Jt ?_|refine Ju ?_|refine Jv ?_|refine Jw ?_|refine Jx ?_|refine Jy ?_|refine Jz ?_|refine JA ?_|refine JB ?_|refine JC ?_|refine JD ?_|refine JE ?_|refine JF ?_|refine JG ?_|refine JH ?_|refine JI ?_|refine JJ ?_|refine JK ?_|refine JL ?_|refine JM ?_|refine CW.skip (PW.code ?_)|refine RW.nil (PW.code ?_))
  refine CW.seq ?_
  repeat (first|refine Ja ?_|refine Jb ?_|refine Jc ?_|refine Jd ?_|refine Je ?_|refine Jf ?_|refine Jg ?_|refine Jh ?_|refine Ji ?_|refine Jj ?_|refine Jk ?_|refine Jl ?_|refine Jm ?_|refine Jn ?_|refine Jo ?_|refine Jp ?_|refine Jq ?_|refine Jr ?_|refine Js ?_|refine Jt ?_|refine Ju ?_|refine Jv ?_|refine Jw ?_|refine Jx ?_|refine Jy ?_|refine Jz ?_|refine JA ?_|refine JB ?_|refine JC ?_|refine JD ?_|refine JE ?_|refine JF ?_|refine JG ?_|refine JH ?_|refine JI ?_|refine JJ ?_|refine JK ?_|refine JL ?_|refine JM ?_|refine CW.skip (PW.code ?_)|refine RW.nil (PW.code ?_))
  refine CW.block ?_
  refine CW.loop (ι := { m : Nat // m ≤ (pLeft pp).length }) (fun q => [(3, ptrV b3), (6, ptrV b6), (1, .string a), (2, .string b), (8, .int .i64 j), (9, ptrV b9), (10, .int .i64 k), (11, .pointer (some ⟨Bp, 0 + (k : Int).toNat * 11, none⟩)), (12, .int .i64 q.1)]) (fun q => [ownHP e3 11 (.slice (some ⟨Bp, 0, none⟩) (rPrems rr).length q1) (ep2.set k pc), ownHP e4 4 (.slice L2 (pLeft pp).length l2) el, elemsHP none kTerm el (((pLeft pp).take q.1).map (termR a b) ++ (pLeft pp).drop q.1), _]) (fun q => (pLeft pp).length - q.1) ⟨0, Nat.zero_le _⟩ ⟨rfl, rfl, rfl, rfl, rfl, rfl, rfl, rfl, rfl, trivial⟩ (fun h => h) ?_
  intro ⟨m, hm⟩
  dsimp only at hm ⊢
  refine CW.seq ?_
  repeat (first|refine Ja ?_|refine Jb ?_|refine Jc ?_|refine Jd ?_|refine Je ?_|refine Jf ?_|refine Jg ?_|refine Jh ?_|refine Ji ?_|refine Jj ?_|refine Jk ?_|refine Jl ?_|refine Jm ?_|refine Jn ?_|refine Jo ?_|refine Jp ?_|refine Jq ?_|refine Jr ?_|refine Js ?_|refine Jt ?_|refine Ju ?_|refine Jv ?_|refine Jw ?_|refine Jx ?_|refine Jy ?_|refine Jz ?_|refine JA ?_|refine JB ?_|refine JC ?_|refine JD ?_|refine JE ?_|refine JF ?_|refine JG ?_|refine JH ?_|refine JI ?_|refine JJ ?_|refine JK ?_|refine JL ?_|refine JM ?_|refine CW.skip (PW.code ?_)|refine RW.nil (PW.code ?_))
  refine RW.loadOwn1 [] (i := k) (j := 6) rfl (by simp; try omega) hcp hc6 rfl rfl ?_
  repeat (first|refine Ja ?_|refine Jb ?_|refine Jc ?_|refine Jd ?_|refine Je ?_|refine Jf ?_|refine Jg ?_|refine Jh ?_|refine Ji ?_|refine Jj ?_|refine Jk ?_|refine Jl ?_|refine Jm ?_|refine Jn ?_|refine Jo ?_|refine Jp ?_|refine Jq ?_|refine Jr ?_|refine Js ?_|refine Jt ?_|refine Ju ?_|refine Jv ?_|refine Jw ?_|refine Jx ?_|refine Jy ?_|refine Jz ?_|refine JA ?_|refine JB ?_|refine JC ?_|refine JD ?_|refine JE ?_|refine JF ?_|refine JG ?_|refine JH ?_|refine JI ?_|refine JJ ?_|refine JK ?_|refine JL ?_|refine JM ?_|refine CW.skip (PW.code ?_)|refine RW.nil (PW.code ?_))
  refine CW.ite rfl (fun hltm => ?_) (fun hgem => ?_)
  · have hltm' : m < (pLeft pp).length := by simpa using hltm
    refine CW.skip ?_
    refine PW.code ?_
    have hstept := map_step (f := termR a b) hltm'
    refine CW.take [2, 0, 1, 3] ?_
    refine CW.focus (map_here hltm') fun cs hct => ?_
    generalize htt : (pLeft pp)[m] = tt at hstept ⊢
    refine CW.sepEx _ _ (fun w A h => term_open h) fun ⟨T1, t1⟩ ⟨hcs, hPt⟩ => ?_
    subst hcs
    refine CW.take [2, 3, 1, 0, 4] ?_
    refine CW.have_ (fun w hw => own_some (pre := [_]) hw hct) fun ⟨Bt, hBt⟩ => ?_
    subst hBt
    refine CW.seq ?_
    refine CW.block ?_
    refine CW.region ?_
    repeat (first|refine Ja ?_|refine Jb ?_|refine Jc ?_|refine Jd ?_|refine Je ?_|refine Jf ?_|refine Jg ?_|refine Jh ?_|refine Ji ?_|refine Jj ?_|refine Jk ?_|refine Jl ?_|refine Jm ?_|refine Jn ?_|refine Jo ?_|refine Jp ?_|refine Jq ?_|refine Jr ?_|refine Js ?_|refine Jt ?_|refine Ju ?_|refine Jv ?_|refine Jw ?_|refine Jx ?_|refine Jy ?_|refine Jz ?_|refine JA ?_|refine JB ?_|refine JC ?_|refine JD ?_|refine JE ?_|refine JF ?_|refine JG ?_|refine JH ?_|refine JI ?_|refine JJ ?_|refine JK ?_|refine JL ?_|refine JM ?_|refine CW.skip (PW.code ?_)|refine RW.nil (PW.code ?_))
    refine RW.loadOwn1 [] (i := k) (j := 6) rfl (by simp; try omega) hcp hc6 rfl rfl ?_
    repeat (first|refine Ja ?_|refine Jb ?_|refine Jc ?_|refine Jd ?_|refine Je ?_|refine Jf ?_|refine Jg ?_|refine Jh ?_|refine Ji ?_|refine Jj ?_|refine Jk ?_|refine Jl ?_|refine Jm ?_|refine Jn ?_|refine Jo ?_|refine Jp ?_|refine Jq ?_|refine Jr ?_|refine Js ?_|refine Jt ?_|refine Ju ?_|refine Jv ?_|refine Jw ?_|refine Jx ?_|refine Jy ?_|refine Jz ?_|refine JA ?_|refine JB ?_|refine JC ?_|refine JD ?_|refine JE ?_|refine JF ?_|refine JG ?_|refine JH ?_|refine JI ?_|refine JJ ?_|refine JK ?_|refine JL ?_|refine JM ?_|refine CW.skip (PW.code ?_)|refine RW.nil (PW.code ?_))
    refine RW.indexAddr rfl rfl (by omega) hltm rfl ?_
    repeat (first|refine Ja ?_|refine Jb ?_|refine Jc ?_|refine Jd ?_|refine Je ?_|refine Jf ?_|refine Jg ?_|refine Jh ?_|refine Ji ?_|refine Jj ?_|refine Jk ?_|refine Jl ?_|refine Jm ?_|refine Jn ?_|refine Jo ?_|refine Jp ?_|refine Jq ?_|refine Jr ?_|refine Js ?_|refine Jt ?_|refine Ju ?_|refine Jv ?_|refine Jw ?_|refine Jx ?_|refine Jy ?_|refine Jz ?_|refine JA ?_|refine JB ?_|refine JC ?_|refine JD ?_|refine JE ?_|refine JF ?_|refine JG ?_|refine JH ?_|refine JI ?_|refine JJ ?_|refine JK ?_|refine JL ?_|refine JM ?_|refine CW.skip (PW.code ?_)|refine RW.nil (PW.code ?_))
    refine RW.loadOwn1 [_] (i := m) (j := 2) rfl (by simp; try omega) hct rfl rfl rfl ?_
    repeat (first|refine Ja ?_|refine Jb ?_|refine Jc ?_|refine Jd ?_|refine Je ?_|refine Jf ?_|refine Jg ?_|refine Jh ?_|refine Ji ?_|refine Jj ?_|refine Jk ?_|refine Jl ?_|refine Jm ?_|refine Jn ?_|refine Jo ?_|refine Jp ?_|refine Jq ?_|refine Jr ?_|refine Js ?_|refine Jt ?_|refine Ju ?_|refine Jv ?_|refine Jw ?_|refine Jx ?_|refine Jy ?_|refine Jz ?_|refine JA ?_|refine JB ?_|refine JC ?_|refine JD ?_|refine JE ?_|refine JF ?_|refine JG ?_|refine JH ?_|refine JI ?_|refine JJ ?_|refine JK ?_|refine JL ?_|refine JM ?_|refine CW.skip (PW.code ?_)|refine RW.nil (PW.code ?_))
    refine RW.callT [3, 0, 1, 2, 4] [_] rfl rfl rfl Try.call40 (fun w2 F2 _ h1 _ => argsT_ret hb h1) fun _ => ?_
    refine RW.take [0, 3, 1, 2, 4] ?_
    refine RW.sep _ (fun w A h => term_close (x := termR a b tt) (q := (T1, t1)) hPt h) ?_
    refine RW.put hct ?_
    rw [term_turn, set_same hct, hstept]
    refine RW.take [1, 2, 0, 3] ?_
    repeat (first|refine Ja ?_|refine Jb ?_|refine Jc ?_|refine Jd ?_|refine Je ?_|refine Jf ?_|refine Jg ?_|refine Jh ?_|refine Ji ?_|refine Jj ?_|refine Jk ?_|refine Jl ?_|refine Jm ?_|refine Jn ?_|refine Jo ?_|refine Jp ?_|refine Jq ?_|refine Jr ?_|refine Js ?_|refine Jt ?_|refine Ju ?_|refine Jv ?_|refine Jw ?_|refine Jx ?_|refine Jy ?_|refine Jz ?_|refine JA ?_|refine JB ?_|refine JC ?_|refine JD ?_|refine JE ?_|refine JF ?_|refine JG ?_|refine JH ?_|refine JI ?_|refine JJ ?_|refine JK ?_|refine JL ?_|refine JM ?_|refine CW.skip (PW.code ?_)|refine RW.nil (PW.code ?_))
    refine CW.region ?_
    repeat (first|refine Ja ?_|refine Jb ?_|refine Jc ?_|refine Jd ?_|refine Je ?_|refine Jf ?_|refine Jg ?_|refine Jh ?_|refine Ji ?_|refine Jj ?_|refine Jk ?_|refine Jl ?_|refine Jm ?_|refine Jn ?_|refine Jo ?_|refine Jp ?_|refine Jq ?_|refine Jr ?_|refine Js ?_|refine Jt ?_|refine Ju ?_|refine Jv ?_|refine Jw ?_|refine Jx ?_|refine Jy ?_|refine Jz ?_|refine JA ?_|refine JB ?_|refine JC ?_|refine JD ?_|refine JE ?_|refine JF ?_|refine JG ?_|refine JH ?_|refine JI ?_|refine JJ ?_|refine JK ?_|refine JL ?_|refine JM ?_|refine CW.skip (PW.code ?_)|refine RW.nil (PW.code ?_))
    refine RW.add rfl rfl (w64 (by omega) (by omega)) rfl ?_
    repeat (first|refine Ja ?_|refine Jb ?_|refine Jc ?_|refine Jd ?_|refine Je ?_|refine Jf ?_|refine Jg ?_|refine Jh ?_|refine Ji ?_|refine Jj ?_|refine Jk ?_|refine Jl ?_|refine Jm ?_|refine Jn ?_|refine Jo ?_|refine Jp ?_|refine Jq ?_|refine Jr ?_|refine Js ?_|refine Jt ?_|refine Ju ?_|refine Jv ?_|refine Jw ?_|refine Jx ?_|refine Jy ?_|refine Jz ?_|refine JA ?_|refine JB ?_|refine JC ?_|refine JD ?_|refine JE ?_|refine JF ?_|refine JG ?_|refine JH ?_|refine JI ?_|refine JJ ?_|refine JK ?_|refine JL ?_|refine JM ?_|refine CW.skip (PW.code ?_)|refine RW.nil (PW.code ?_))
    refine RW.nil ?_
    exact PW.again ⟨m + 1, hltm'⟩ ⟨rfl, rfl, rfl, rfl, rfl, rfl, rfl, rfl, rfl, trivial⟩ (fun h => h) (by show (pLeft pp).length - (m + 1) < (pLeft pp).length - m; omega)
  have hgem' : (pLeft pp).length ≤ m := by simpa using hgem
  rw [map_end hgem']
  refine CW.take [1, 2, 0, 3] ?_
  refine CW.sep _ (fun w A h => slice_closeM (by_ := 56) rfl hls h) ?_
  refine CW.take [2, 0, 1] ?_
  refine CW.unpack ?_
  refine CW.take [3, 0, 1, 2, 5, 4, 6] ?_
  refine CW.sepEx _ _ (fun w A h => sl_open h) fun ⟨e5, eg⟩ ⟨hgs, heg⟩ => ?_
  dsimp only at hgs heg ⊢
  have hsg : (pRight pp).length * 56 ≤ reach := hgs
  unfold reach at hsg
  refine CW.take [2, 3, 4, 5, 6, 7, 0, 1] ?_
  refine CW.pack [_, _, _, _, _] ?_
  refine CW.take [1, 2, 3, 0] ?_
  refine CW.exit rfl ?_
  refine PW.code ?_
  repeat (first|refine Ja ?_|refine Jb ?_|refine Jc ?_|refine Jd ?_|refine Je ?_|refine Jf ?_|refine Jg ?_|refine Jh ?_|refine Ji ?_|refine Jj ?_|refine Jk ?_|refine Jl ?_|refine Jm ?_|refine Jn ?_|refine Jo ?_|refine Jp ?_|refine Jq ?_|refine Jr ?_|refine Js ?_|refine Jt ?_|refine Ju ?_|refine Jv ?_|refine Jw ?_|refine Jx ?_|refine Jy ?_|refine Jz ?_|refine JA ?_|refine JB ?_|refine JC ?_|refine JD ?_|refine JE ?_|refine JF ?_|refine JG ?_|refine JH ?_|refine JI ?_|refine JJ ?_|refine JK ?_|refine JL ?_|refine JM ?_|refine CW.skip (PW.code ?_)|refine RW.nil (PW.code ?_))
  refine CW.block ?_
  refine CW.loop (ι := { m : Nat // m ≤ (pRight pp).length }) (fun q => [(3, ptrV b3), (6, ptrV b6), (1, .string a), (2, .string b), (8, .int .i64 j), (9, ptrV b9), (10, .int .i64 k), (11, .pointer (some ⟨Bp, 0 + (k : Int).toNat * 11, none⟩)), (13, .int .i64 q.1)]) (fun q => [ownHP e3 11 (.slice (some ⟨Bp, 0, none⟩) (rPrems rr).length q1) (ep2.set k pc), ownHP e5 4 (.slice L3 (pRight pp).length l3) eg, elemsHP none kTerm eg (((pRight pp).take q.1).map (termR a b) ++ (pRight pp).drop q.1), _]) (fun q => (pRight pp).length - q.1) ⟨0, Nat.zero_le _⟩ ⟨rfl, rfl, rfl, rfl, rfl, rfl, rfl, rfl, rfl, trivial⟩ (fun h => h) ?_
  intro ⟨m, hm⟩
  dsimp only at hm ⊢
  refine CW.seq ?_
  repeat (first|refine Ja ?_|refine Jb ?_|refine Jc ?_|refine Jd ?_|refine Je ?_|refine Jf ?_|refine Jg ?_|refine Jh ?_|refine Ji ?_|refine Jj ?_|refine Jk ?_|refine Jl ?_|refine Jm ?_|refine Jn ?_|refine Jo ?_|refine Jp ?_|refine Jq ?_|refine Jr ?_|refine Js ?_|refine Jt ?_|refine Ju ?_|refine Jv ?_|refine Jw ?_|refine Jx ?_|refine Jy ?_|refine Jz ?_|refine JA ?_|refine JB ?_|refine JC ?_|refine JD ?_|refine JE ?_|refine JF ?_|refine JG ?_|refine JH ?_|refine JI ?_|refine JJ ?_|refine JK ?_|refine JL ?_|refine JM ?_|refine CW.skip (PW.code ?_)|refine RW.nil (PW.code ?_))
  refine RW.loadOwn1 [] (i := k) (j := 8) rfl (by simp; try omega) hcp hc8 rfl rfl ?_
  repeat (first|refine Ja ?_|refine Jb ?_|refine Jc ?_|refine Jd ?_|refine Je ?_|refine Jf ?_|refine Jg ?_|refine Jh ?_|refine Ji ?_|refine Jj ?_|refine Jk ?_|refine Jl ?_|refine Jm ?_|refine Jn ?_|refine Jo ?_|refine Jp ?_|refine Jq ?_|refine Jr ?_|refine Js ?_|refine Jt ?_|refine Ju ?_|refine Jv ?_|refine Jw ?_|refine Jx ?_|refine Jy ?_|refine Jz ?_|refine JA ?_|refine JB ?_|refine JC ?_|refine JD ?_|refine JE ?_|refine JF ?_|refine JG ?_|refine JH ?_|refine JI ?_|refine JJ ?_|refine JK ?_|refine JL ?_|refine JM ?_|refine CW.skip (PW.code ?_)|refine RW.nil (PW.code ?_))
  refine CW.ite rfl (fun hltm => ?_) (fun hgem => ?_)
  · have hltm' : m < (pRight pp).length := by simpa using hltm
    refine CW.skip ?_
    refine PW.code ?_
    have hstept := map_step (f := termR a b) hltm'
    refine CW.take [2, 0, 1, 3] ?_
    refine CW.focus (map_here hltm') fun cs hct => ?_
    generalize htt : (pRight pp)[m] = tt at hstept ⊢
    refine CW.sepEx _ _ (fun w A h => term_open h) fun ⟨T1, t1⟩ ⟨hcs, hPt⟩ => ?_
    subst hcs
    refine CW.take [2, 3, 1, 0, 4] ?_
    refine CW.have_ (fun w hw => own_some (pre := [_]) hw hct) fun ⟨Bt, hBt⟩ => ?_
    subst hBt
    refine CW.seq ?_
    refine CW.block ?_
    refine CW.region ?_
    repeat (first|refine Ja ?_|refine Jb ?_|refine Jc ?_|refine Jd ?_|refine Je ?_|refine Jf ?_|refine Jg ?_|refine Jh ?_|refine Ji ?_|refine Jj ?_|refine Jk ?_|refine Jl ?_|refine Jm ?_|refine Jn ?_|refine Jo ?_|refine Jp ?_|refine Jq ?_|refine Jr ?_|refine Js ?_|refine Jt ?_|refine Ju ?_|refine Jv ?_|refine Jw ?_|refine Jx ?_|refine Jy ?_|refine Jz ?_|refine JA ?_|refine JB ?_|refine JC ?_|refine JD ?_|refine JE ?_|refine JF ?_|refine JG ?_|refine JH ?_|refine JI ?_|refine JJ ?_|refine JK ?_|refine JL ?_|refine JM ?_|refine CW.skip (PW.code ?_)|refine RW.nil (PW.code ?_))
    refine RW.loadOwn1 [] (i := k) (j := 8) rfl (by simp; try omega) hcp hc8 rfl rfl ?_
    repeat (first|refine Ja ?_|refine Jb ?_|refine Jc ?_|refine Jd ?_|refine Je ?_|refine Jf ?_|refine Jg ?_|refine Jh ?_|refine Ji ?_|refine Jj ?_|refine Jk ?_|refine Jl ?_|refine Jm ?_|refine Jn ?_|refine Jo ?_|refine Jp ?_|refine Jq ?_|refine Jr ?_|refine Js ?_|refine Jt ?_|refine Ju ?_|refine Jv ?_|refine Jw ?_|refine Jx ?_|refine Jy ?_|refine Jz ?_|refine JA ?_|refine JB ?_|refine JC ?_|refine JD ?_|refine JE ?_|refine JF ?_|refine JG ?_|refine JH ?_|refine JI ?_|refine JJ ?_|refine JK ?_|refine JL ?_|refine JM ?_|refine CW.skip (PW.code ?_)|refine RW.nil (PW.code ?_))
    refine RW.indexAddr rfl rfl (by omega) hltm rfl ?_
    repeat (first|refine Ja ?_|refine Jb ?_|refine Jc ?_|refine Jd ?_|refine Je ?_|refine Jf ?_|refine Jg ?_|refine Jh ?_|refine Ji ?_|refine Jj ?_|refine Jk ?_|refine Jl ?_|refine Jm ?_|refine Jn ?_|refine Jo ?_|refine Jp ?_|refine Jq ?_|refine Jr ?_|refine Js ?_|refine Jt ?_|refine Ju ?_|refine Jv ?_|refine Jw ?_|refine Jx ?_|refine Jy ?_|refine Jz ?_|refine JA ?_|refine JB ?_|refine JC ?_|refine JD ?_|refine JE ?_|refine JF ?_|refine JG ?_|refine JH ?_|refine JI ?_|refine JJ ?_|refine JK ?_|refine JL ?_|refine JM ?_|refine CW.skip (PW.code ?_)|refine RW.nil (PW.code ?_))
    refine RW.loadOwn1 [_] (i := m) (j := 2) rfl (by simp; try omega) hct rfl rfl rfl ?_
    repeat (first|refine Ja ?_|refine Jb ?_|refine Jc ?_|refine Jd ?_|refine Je ?_|refine Jf ?_|refine Jg ?_|refine Jh ?_|refine Ji ?_|refine Jj ?_|refine Jk ?_|refine Jl ?_|refine Jm ?_|refine Jn ?_|refine Jo ?_|refine Jp ?_|refine Jq ?_|refine Jr ?_|refine Js ?_|refine Jt ?_|refine Ju ?_|refine Jv ?_|refine Jw ?_|refine Jx ?_|refine Jy ?_|refine Jz ?_|refine JA ?_|refine JB ?_|refine JC ?_|refine JD ?_|refine JE ?_|refine JF ?_|refine JG ?_|refine JH ?_|refine JI ?_|refine JJ ?_|refine JK ?_|refine JL ?_|refine JM ?_|refine CW.skip (PW.code ?_)|refine RW.nil (PW.code ?_))
    refine RW.callT [3, 0, 1, 2, 4] [_] rfl rfl rfl Try.call40 (fun w2 F2 _ h1 _ => argsT_ret hb h1) fun _ => ?_
    refine RW.take [0, 3, 1, 2, 4] ?_
    refine RW.sep _ (fun w A h => term_close (x := termR a b tt) (q := (T1, t1)) hPt h) ?_
    refine RW.put hct ?_
    rw [term_turn, set_same hct, hstept]
    refine RW.take [1, 2, 0, 3] ?_
    repeat (first|refine Ja ?_|refine Jb ?_|refine Jc ?_|refine Jd ?_|refine Je ?_|refine Jf ?_|refine Jg ?_|refine Jh ?_|refine Ji ?_|refine Jj ?_|refine Jk ?_|refine Jl ?_|refine Jm ?_|refine Jn ?_|refine Jo ?_|refine Jp ?_|refine Jq ?_|refine Jr ?_|refine Js ?_|refine Jt ?_|refine Ju ?_|refine Jv ?_|refine Jw ?_|refine Jx ?_|refine Jy ?_|refine Jz ?_|refine JA ?_|refine JB ?_|refine JC ?_|refine JD ?_|refine JE ?_|refine JF ?_|refine JG ?_|refine JH ?_|refine JI ?_|refine JJ ?_|refine JK ?_|refine JL ?_|refine JM ?_|refine CW.skip (PW.code ?_)|refine RW.nil (PW.code ?_))
    refine CW.region ?_
    repeat (first|refine Ja ?_|refine Jb ?_|refine Jc ?_|refine Jd ?_|refine Je ?_|refine Jf ?_|refine Jg ?_|refine Jh ?_|refine Ji ?_|refine Jj ?_|refine Jk ?_|refine Jl ?_|refine Jm ?_|refine Jn ?_|refine Jo ?_|refine Jp ?_|refine Jq ?_|refine Jr ?_|refine Js ?_|refine Jt ?_|refine Ju ?_|refine Jv ?_|refine Jw ?_|refine Jx ?_|refine Jy ?_|refine Jz ?_|refine JA ?_|refine JB ?_|refine JC ?_|refine JD ?_|refine JE ?_|refine JF ?_|refine JG ?_|refine JH ?_|refine JI ?_|refine JJ ?_|refine JK ?_|refine JL ?_|refine JM ?_|refine CW.skip (PW.code ?_)|refine RW.nil (PW.code ?_))
    refine RW.add rfl rfl (w64 (by omega) (by omega)) rfl ?_
    repeat (first|refine Ja ?_|refine Jb ?_|refine Jc ?_|refine Jd ?_|refine Je ?_|refine Jf ?_|refine Jg ?_|refine Jh ?_|refine Ji ?_|refine Jj ?_|refine Jk ?_|refine Jl ?_|refine Jm ?_|refine Jn ?_|refine Jo ?_|refine Jp ?_|refine Jq ?_|refine Jr ?_|refine Js ?_|refine Jt ?_|refine Ju ?_|refine Jv ?_|refine Jw ?_|refine Jx ?_|refine Jy ?_|refine Jz ?_|refine JA ?_|refine JB ?_|refine JC ?_|refine JD ?_|refine JE ?_|refine JF ?_|refine JG ?_|refine JH ?_|refine JI ?_|refine JJ ?_|refine JK ?_|refine JL ?_|refine JM ?_|refine CW.skip (PW.code ?_)|refine RW.nil (PW.code ?_))
    refine RW.nil ?_
    exact PW.again ⟨m + 1, hltm'⟩ ⟨rfl, rfl, rfl, rfl, rfl, rfl, rfl, rfl, rfl, trivial⟩ (fun h => h) (by show (pRight pp).length - (m + 1) < (pRight pp).length - m; omega)
  have hgem' : (pRight pp).length ≤ m := by simpa using hgem
  rw [map_end hgem']
  refine CW.take [1, 2, 0, 3] ?_
  refine CW.sep _ (fun w A h => slice_closeM (by_ := 56) rfl hgs h) ?_
  refine CW.take [2, 0, 1] ?_
  refine CW.unpack ?_
  refine CW.take [2, 3, 5, 1, 0, 6, 4] ?_
  refine CW.sep _ (fun w A h => prem_close (x := premR a b pp) (q := ((L1, l1), (L2, l2), (L3, l3))) ⟨hPp.1, hPp.2.1, hPp.2.2.1, hPp.2.2.2.1, turn_size hb hPp.2.2.2.2.1, turn_size hb hPp.2.2.2.2.2⟩ h) ?_
  refine CW.put hcp0 ?_
  rw [prem_turn, ← hpc, hstepp]
  refine CW.take [1, 2, 0, 3] ?_
  refine CW.exit rfl ?_
  refine PW.code ?_
  refine CW.region ?_
  repeat (first|refine Ja ?_|refine Jb ?_|refine Jc ?_|refine Jd ?_|refine Je ?_|refine Jf ?_|refine Jg ?_|refine Jh ?_|refine Ji ?_|refine Jj ?_|refine Jk ?_|refine Jl ?_|refine Jm ?_|refine Jn ?_|refine Jo ?_|refine Jp ?_|refine Jq ?_|refine Jr ?_|refine Js ?_|refine Jt ?_|refine Ju ?_|refine Jv ?_|refine Jw ?_|refine Jx ?_|refine Jy ?_|refine Jz ?_|refine JA ?_|refine JB ?_|refine JC ?_|refine JD ?_|refine JE ?_|refine JF ?_|refine JG ?_|refine JH ?_|refine JI ?_|refine JJ ?_|refine JK ?_|refine JL ?_|refine JM ?_|refine CW.skip (PW.code ?_)|refine RW.nil (PW.code ?_))
  refine RW.add rfl rfl (w64 (by omega) (by omega)) rfl ?_
  repeat (first|refine Ja ?_|refine Jb ?_|refine Jc ?_|refine Jd ?_|refine Je ?_|refine Jf ?_|refine Jg ?_|refine Jh ?_|refine Ji ?_|refine Jj ?_|refine Jk ?_|refine Jl ?_|refine Jm ?_|refine Jn ?_|refine Jo ?_|refine Jp ?_|refine Jq ?_|refine Jr ?_|refine Js ?_|refine Jt ?_|refine Ju ?_|refine Jv ?_|refine Jw ?_|refine Jx ?_|refine Jy ?_|refine Jz ?_|refine JA ?_|refine JB ?_|refine JC ?_|refine JD ?_|refine JE ?_|refine JF ?_|refine JG ?_|refine JH ?_|refine JI ?_|refine JJ ?_|refine JK ?_|refine JL ?_|refine JM ?_|refine CW.skip (PW.code ?_)|refine RW.nil (PW.code ?_))
  refine RW.nil ?_
  exact PW.again ⟨(k + 1, ep2.set k pc), hltk'⟩ ⟨rfl, rfl, rfl, rfl, rfl, rfl, rfl, trivial⟩ (fun h => h) (by show (rPrems rr).length - (k + 1) < (rPrems rr).length - k; omega)
end Go.Proofs.Ytkfmlekomfnleaa
