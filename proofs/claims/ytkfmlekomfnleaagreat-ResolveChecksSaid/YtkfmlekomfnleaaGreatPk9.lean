/- Parts of the proof: The document's item, Check. · The document's Check. · The document's seen. · The document's Vars. · The plain law of Check, first part: items without variables: the document's codes are the resolver's. · The plain law of Check, second part: classes, sources, exceptions, totals: the document's codes are the resolver's. · The plain law of Check, third part: rules: the document's book goes with the resolver's scope. · The plain law of Check, fourth part: the document's Check and Vars are the resolver's. Conditions: none. -/
import Derived.Test.YtkfmlekomfnleaaGreatPk8
/- The document's item, Check. Conditions: none. -/
set_option linter.unusedVariables false
set_option linter.unusedSimpArgs false
set_option maxRecDepth 10000
namespace Go.Proofs.YtkfmlekomfnleaaGreat
open Go Go.RowKit Go.MapKept

def noBk : Bk := ⟨[], [], []⟩
theorem noBk_ok : BkOK noBk := ⟨rfl, fun a h => (by cases h), fun a h => (by cases h)⟩
def rMem (s : kStat.V) (m : kMember.V) (n : Nat) : Int := if rNm (mN s) m.1 n = 0 then (if atN (sKinds s) m.2 < 0 then 81 else 0) else rNm (mN s) m.1 n
def rSrc (s : kStat.V) (x : kSource.V) (n : Nat) : Int := if rNm (uN s) x.1 n = 0 then (if x.2 < 0 then 4 else if 1000 < x.2 then 4 else 0) else rNm (uN s) x.1 n
def rItem (s : kStat.V) (sort n : Nat) : Int := match sort with
  | 0 => match (sKinds s)[n]? with | some x => rNm (sKinds s) x n | none => 0
  | 1 => match (sMembers s)[n]? with | some x => rMem s x n | none => 0
  | 2 => match (sPreds s)[n]? with | some x => rPred s x n | none => 0
  | 3 => match (sClasses s)[n]? with | some x => rClass s n x | none => 0
  | 4 => match (sSources s)[n]? with | some x => rSrc s x n | none => 0
  | 5 => match (sRules s)[n]? with | some x => (rRule s noBk n x).1 | none => 0
  | 6 => match (sExcepts s)[n]? with | some x => rExc s n x | none => 0
  | _ => match (sTotals s)[n]? with | some x => rTotal s x n | none => 0
def manyN (s : kStat.V) (sort : Nat) : Nat := match sort with
  | 0 => (sKinds s).length
  | 1 => (sMembers s).length
  | 2 => (sPreds s).length
  | 3 => (sClasses s).length
  | 4 => (sSources s).length
  | 5 => (sRules s).length
  | 6 => (sExcepts s).length
  | _ => (sTotals s).length
attribute [local irreducible] RW CW
set_option maxHeartbeats 16000000 in
theorem ref_item_ret {s : kStat.V} {x : RC} {sort n : Nat} {w : World} (hst : StatOn (mem w (fun b => ¬ No b)) s x) (hs : sort < 8) (hn : n < manyN s sort) (hK : sort = 5 → fourK s) : Ret Tryz.prog 39 [.agg (x.stat s).toArray, .int .i64 sort, .int .i64 n] w (.int .i64 (rItem s sort n)) := by
  have hle : Mem.le (mem w (fun b => ¬ No b)) (mem w (fun b => ¬ No b)) := Mem.le_refl _
  refine Calls.enter Tryz.func39 rfl _ rfl rfl (S := No) (H := []) trivial ?_
  refine CW.seqR ?_
  refine RW.box_agg (l := x.stat s) rfl rfl fun b3 _ => ?_
  refine Jd ?_;refine Jb ?_
  refine CW.seq ?_
  refine Ja ?_;refine Jc ?_;refine Jb ?_
  refine CW.block ?_
  obtain rfl | rfl | rfl | rfl | rfl | rfl | rfl | rfl : sort = 0 ∨ sort = 1 ∨ sort = 2 ∨ sort = 3 ∨ sort = 4 ∨ sort = 5 ∨ sort = 6 ∨ sort = 7 := by omega
  · have hn' : n < (sKinds s).length := hn
    have hx := List.getElem?_eq_getElem hn'
    have hI : rItem s 0 n = rNm (sKinds s) (sKinds s)[n] n := by unfold rItem; rw [hx]; rfl
    rw [hI]
    refine Ja ?_;refine Ji ?_;refine Jd ?_;refine Jb ?_
    refine CW.ct rfl ?_
    refine Ja ?_;refine Je ?_;refine JA ?_;refine Jc ?_
    refine RW.call Tryz.call120 rfl (fun w2 hw => named_ret (StatOn.mono hst (ro_call hw)).kinds hx) rfl ?_
    refine Jd ?_;refine Jb ?_
    exact CW.ret1 rfl Tryz.results39 rfl rfl fun w hw => ⟨rfl, hw.kp⟩
  · have hn' : n < (sMembers s).length := hn
    have hx := List.getElem?_eq_getElem hn'
    have hI : rItem s 1 n = rMem s (sMembers s)[n] n := by unfold rItem; rw [hx]; rfl
    rw [hI]
    have hnm := names_ok hst.members (by decide)
    have hx' : (mN s)[n]? = some (sMembers s)[n].1 := by rw [List.getElem?_map, hx]; rfl
    have hsm := sl_small hst.members
    unfold reach at hsm
    obtain ⟨B1, O1, es1, hA1, hl1, hr1, hm1⟩ := sl_get hst.members hx
    obtain ⟨_, _, rfl, r1, r2⟩ := hr1
    obtain rfl := str_cell r1
    obtain rfl := str_cell r2
    refine Ja ?_;refine Ji ?_;refine Jd ?_;refine Jb ?_
    refine CW.cf rfl ?_
    refine Ja ?_;refine Ji ?_;refine Jd ?_;refine Jb ?_
    refine CW.ct rfl ?_
    refine Ja ?_;refine JE ?_
    unfold rMem
    refine RW.callN Tryz.call57 rfl (fun w2 hw => ref_members_ret (StatOn.mono hst (ro_call hw))) rfl fun v => ?_
    refine Jc ?_
    refine RW.call Tryz.call120 rfl (fun w2 hw => named_own (pre := []) hw hnm hx') rfl ?_
    refine RW.take [1] ?_
    refine Jd ?_;refine Jb ?_
    refine CW.seq ?_
    by_cases h1 : rNm (mN s) (sMembers s)[n].1 n = 0
    · rw [if_pos h1]
      refine CW.seqA (by kernel_rfl) rfl ?_
      (apply AW.val rfl; · intro Gx X; (first | refine RW.yes rfl ?_ | skip); refine RW.move rfl rfl ?_; exact RW.done rfl)
      (apply AW.val rfl; · intro Gx X; (first | refine RW.yes rfl ?_ | skip); refine RW.eql rfl rfl rfl ?_; exact RW.done_eq (v := .bool true) rfl (by rw [decide_eq_true h1]))
      repeat (apply AW.val rfl; · intro Gx X; (first | refine RW.yes rfl ?_ | skip); (first|refine Jc ?_|refine Jd ?_|refine Je ?_|refine Jf ?_|refine Jg ?_|refine Jh ?_|refine Ji ?_|refine Jj ?_|refine Jk ?_|refine Jl ?_|refine Jm ?_|refine Jn ?_|refine Jo ?_|refine Jp ?_|refine Jq ?_|refine Jr ?_|refine Js ?_|refine Jt ?_|refine Ju ?_|refine Jv ?_|refine Jw ?_|refine Jx ?_|refine Jz ?_|refine JA ?_|refine JB ?_|refine JC ?_|refine JD ?_|refine JE ?_|refine JF ?_|refine JG ?_|refine JH ?_|refine JI ?_|refine JJ ?_|refine JK ?_|refine JL ?_); exact RW.done rfl)
      (apply AW.val rfl; · intro Gx X; (first | refine RW.yes rfl ?_ | skip); refine RW.indexAddrE hA1 rfl rfl (by omega) (by omega) rfl ?_; exact RW.done rfl)
      repeat (apply AW.val rfl; · intro Gx X; (first | refine RW.yes rfl ?_ | skip); (first|refine Jc ?_|refine Jd ?_|refine Je ?_|refine Jf ?_|refine Jg ?_|refine Jh ?_|refine Ji ?_|refine Jj ?_|refine Jk ?_|refine Jl ?_|refine Jm ?_|refine Jn ?_|refine Jo ?_|refine Jp ?_|refine Jq ?_|refine Jr ?_|refine Js ?_|refine Jt ?_|refine Ju ?_|refine Jv ?_|refine Jw ?_|refine Jx ?_|refine Jz ?_|refine JA ?_|refine JB ?_|refine JC ?_|refine JD ?_|refine JE ?_|refine JF ?_|refine JG ?_|refine JH ?_|refine JI ?_|refine JJ ?_|refine JK ?_|refine JL ?_); exact RW.done rfl)
      (apply AW.val rfl; · intro Gx X; (first | refine RW.yes rfl ?_ | skip); refine RW.load_ro rfl hle (hm1 1 _ rfl) rfl rfl ?_; exact RW.done rfl)
      (apply AW.val rfl; · intro Gx X; (first | refine RW.yes rfl ?_ | skip); refine RW.call Tryz.call44 rfl (fun w2 hw => refFind_ret (StatOn.mono hst (ro_call hw)).kinds) rfl ?_; exact RW.done rfl)
      repeat (apply AW.val rfl; · intro Gx X; (first | refine RW.yes rfl ?_ | skip); (first|refine Jc ?_|refine Jd ?_|refine Je ?_|refine Jf ?_|refine Jg ?_|refine Jh ?_|refine Ji ?_|refine Jj ?_|refine Jk ?_|refine Jl ?_|refine Jm ?_|refine Jn ?_|refine Jo ?_|refine Jp ?_|refine Jq ?_|refine Jr ?_|refine Js ?_|refine Jt ?_|refine Ju ?_|refine Jv ?_|refine Jw ?_|refine Jx ?_|refine Jz ?_|refine JA ?_|refine JB ?_|refine JC ?_|refine JD ?_|refine JE ?_|refine JF ?_|refine JG ?_|refine JH ?_|refine JI ?_|refine JJ ?_|refine JK ?_|refine JL ?_); exact RW.done rfl)
      refine AW.stop (by kernel_rfl) (by kernel_rfl) fun bs => ?_
      refine Jb ?_
      refine CW.ite rfl (fun h2 => ?_) (fun h2 => ?_)
      · refine Ja ?_;refine Jd ?_;refine Jb ?_
        exact CW.ret1 rfl Tryz.results39 rfl rfl fun w hw => ⟨by rw [if_pos h2], hw.kp⟩
      · refine CW.skip ?_
        refine PW.code ?_
        refine Ja ?_;refine Jc ?_;refine Jd ?_;refine Jb ?_
        exact CW.ret1 rfl Tryz.results39 rfl rfl fun w hw => ⟨by rw [if_neg h2, h1], hw.kp⟩
    · rw [if_neg h1]
      refine CW.seqA (by kernel_rfl) rfl ?_
      (apply AW.val rfl; · intro Gx X; (first | refine RW.yes rfl ?_ | skip); refine RW.move rfl rfl ?_; exact RW.done rfl)
      (apply AW.val rfl; · intro Gx X; (first | refine RW.yes rfl ?_ | skip); refine RW.eql rfl rfl rfl ?_; exact RW.done_eq (v := .bool false) rfl (by rw [decide_eq_false h1]))
      repeat (apply AW.val rfl; · intro Gx X; (first | refine RW.yes rfl ?_ | skip); (first|refine Jc ?_|refine Jd ?_|refine Je ?_|refine Jf ?_|refine Jg ?_|refine Jh ?_|refine Ji ?_|refine Jj ?_|refine Jk ?_|refine Jl ?_|refine Jm ?_|refine Jn ?_|refine Jo ?_|refine Jp ?_|refine Jq ?_|refine Jr ?_|refine Js ?_|refine Jt ?_|refine Ju ?_|refine Jv ?_|refine Jw ?_|refine Jx ?_|refine Jz ?_|refine JA ?_|refine JB ?_|refine JC ?_|refine JD ?_|refine JE ?_|refine JF ?_|refine JG ?_|refine JH ?_|refine JI ?_|refine JJ ?_|refine JK ?_|refine JL ?_); exact RW.done rfl)
      refine AW.stop (by kernel_rfl) (by kernel_rfl) fun bs => ?_
      refine Jb ?_
      refine CW.cf rfl ?_
      refine CW.skip ?_
      refine PW.code ?_
      refine Ja ?_;refine Jc ?_;refine Jd ?_;refine Jb ?_
      exact CW.ret1 rfl Tryz.results39 rfl rfl fun w hw => ⟨rfl, hw.kp⟩
  · have hn' : n < (sPreds s).length := hn
    have hx := List.getElem?_eq_getElem hn'
    have hI : rItem s 2 n = rPred s (sPreds s)[n] n := by unfold rItem; rw [hx]; rfl
    rw [hI]
    refine Ja ?_;refine Ji ?_;refine Jd ?_;refine Jb ?_
    refine CW.cf rfl ?_
    refine Ja ?_;refine Ji ?_;refine Jd ?_;refine Jb ?_
    refine CW.cf rfl ?_
    refine Ja ?_;refine Ji ?_;refine Jd ?_;refine Jb ?_
    refine CW.ct rfl ?_
    refine Ja ?_;refine JE ?_;refine Jc ?_
    refine RW.call Tryz.call121 rfl (fun w2 hw => ref_pred_ret (StatOn.mono hst (ro_call hw)) hx) rfl ?_
    refine Jd ?_;refine Jb ?_
    exact CW.ret1 rfl Tryz.results39 rfl rfl fun w hw => ⟨rfl, hw.kp⟩
  · have hn' : n < (sClasses s).length := hn
    have hx := List.getElem?_eq_getElem hn'
    have hI : rItem s 3 n = rClass s n (sClasses s)[n] := by unfold rItem; rw [hx]; rfl
    rw [hI]
    refine Ja ?_;refine Ji ?_;refine Jd ?_;refine Jb ?_
    refine CW.cf rfl ?_
    refine Ja ?_;refine Ji ?_;refine Jd ?_;refine Jb ?_
    refine CW.cf rfl ?_
    refine Ja ?_;refine Ji ?_;refine Jd ?_;refine Jb ?_
    refine CW.cf rfl ?_
    refine Ja ?_;refine Ji ?_;refine Jd ?_;refine Jb ?_
    refine CW.ct rfl ?_
    refine Ja ?_;refine JE ?_;refine Jc ?_
    refine RW.call Tryz.call122 rfl (fun w2 hw => ref_class_ret (StatOn.mono hst (ro_call hw)) hx) rfl ?_
    refine Jd ?_;refine Jb ?_
    exact CW.ret1 rfl Tryz.results39 rfl rfl fun w hw => ⟨rfl, hw.kp⟩
  · have hn' : n < (sSources s).length := hn
    have hx := List.getElem?_eq_getElem hn'
    have hI : rItem s 4 n = rSrc s (sSources s)[n] n := by unfold rItem; rw [hx]; rfl
    rw [hI]
    have hnm := names_ok hst.sources (by decide)
    have hx' : (uN s)[n]? = some (sSources s)[n].1 := by rw [List.getElem?_map, hx]; rfl
    have hsm := sl_small hst.sources
    unfold reach at hsm
    obtain ⟨B1, O1, es1, hA1, hl1, hr1, hm1⟩ := sl_get hst.sources hx
    obtain ⟨_, _, rfl, r1, r2⟩ := hr1
    obtain rfl := str_cell r1
    obtain rfl := int_cell r2
    refine Ja ?_;refine Ji ?_;refine Jd ?_;refine Jb ?_
    refine CW.cf rfl ?_
    refine Ja ?_;refine Ji ?_;refine Jd ?_;refine Jb ?_
    refine CW.cf rfl ?_
    refine Ja ?_;refine Ji ?_;refine Jd ?_;refine Jb ?_
    refine CW.cf rfl ?_
    refine Ja ?_;refine Ji ?_;refine Jd ?_;refine Jb ?_
    refine CW.cf rfl ?_
    refine Ja ?_;refine Ji ?_;refine Jd ?_;refine Jb ?_
    refine CW.ct rfl ?_
    refine Ja ?_;refine JE ?_
    unfold rSrc
    refine RW.callN Tryz.call123 rfl (fun w2 hw => ref_sources_ret (StatOn.mono hst (ro_call hw))) rfl fun v => ?_
    refine Jc ?_
    refine RW.call Tryz.call120 rfl (fun w2 hw => named_own (pre := []) hw hnm hx') rfl ?_
    refine RW.take [1] ?_
    refine Jd ?_;refine Jb ?_
    refine CW.seq ?_
    refine Ja ?_;refine Jc ?_;refine Ji ?_;refine Jc ?_
    refine RW.splitD 56 rfl (fun h1 => ?_) (fun h1 => ?_)
    · have h1' : rNm (uN s) (sSources s)[n].1 n = 0 := h1
      rw [if_pos h1']
      refine Jy ?_;refine Je ?_;refine Jy ?_;refine JA ?_;refine Jy ?_;refine Jc ?_;refine Jy ?_
      refine RW.indexAddrE hA1 rfl rfl (by omega) (by omega) rfl ?_
      refine Jy ?_;refine Je ?_;refine Jy ?_
      refine RW.load_ro rfl hle (hm1 1 _ rfl) rfl rfl ?_
      refine Jy ?_;refine Jk ?_;refine Jy ?_;refine Jc ?_
      refine RW.splitD 64 rfl (fun h2 => ?_) (fun h2 => ?_)
      · refine Jz ?_;refine Jz ?_;refine Jz ?_;refine Jz ?_;refine Jz ?_;refine Jz ?_;refine Jz ?_;refine Jy ?_;refine Jv ?_;refine Jv ?_;refine Jb ?_
        refine CW.ct rfl ?_
        refine Ja ?_;refine Jd ?_;refine Jb ?_
        exact CW.ret1 rfl Tryz.results39 rfl rfl fun w hw => ⟨by rw [if_pos h2], hw.kp⟩
      rw [if_neg h2]
      refine Jy ?_;refine Je ?_;refine Jy ?_;refine JA ?_;refine Jy ?_;refine Jc ?_;refine Jy ?_
      refine RW.indexAddrE hA1 rfl rfl (by omega) (by omega) rfl ?_
      refine Jy ?_;refine Je ?_;refine Jy ?_
      refine RW.load_ro rfl hle (hm1 1 _ rfl) rfl rfl ?_
      refine Jy ?_;refine Jm ?_;refine Jy ?_;refine Jw ?_;refine Jv ?_;refine Jb ?_
      refine CW.ite rfl (fun h3 => ?_) (fun h3 => ?_)
      · refine Ja ?_;refine Jd ?_;refine Jb ?_
        exact CW.ret1 rfl Tryz.results39 rfl rfl fun w hw => ⟨by rw [if_pos h3], hw.kp⟩
      · refine CW.skip ?_
        refine PW.code ?_
        refine Ja ?_;refine Jc ?_;refine Jd ?_;refine Jb ?_
        exact CW.ret1 rfl Tryz.results39 rfl rfl fun w hw => ⟨by rw [if_neg h3, h1'], hw.kp⟩
    · have h1' : ¬ rNm (uN s) (sSources s)[n].1 n = 0 := h1
      rw [if_neg h1']
      refine Jz ?_;refine Jz ?_;refine Jz ?_;refine Jz ?_;refine Jz ?_;refine Jz ?_;refine Jz ?_;refine Jz ?_;refine Jz ?_;refine Jz ?_;refine Jz ?_;refine Jz ?_;refine Jz ?_;refine Jz ?_;refine Jz ?_;refine Jz ?_;refine Jw ?_;refine Jb ?_
      refine CW.cf rfl ?_
      refine CW.skip ?_
      refine PW.code ?_
      refine Ja ?_;refine Jc ?_;refine Jd ?_;refine Jb ?_
      exact CW.ret1 rfl Tryz.results39 rfl rfl fun w hw => ⟨rfl, hw.kp⟩
  · have hn' : n < (sRules s).length := hn
    have hx := List.getElem?_eq_getElem hn'
    have hI : rItem s 5 n = (rRule s noBk n (sRules s)[n]).1 := by unfold rItem; rw [hx]; rfl
    rw [hI]
    refine Ja ?_;refine Ji ?_;refine Jd ?_;refine Jb ?_
    refine CW.cf rfl ?_
    refine Ja ?_;refine Ji ?_;refine Jd ?_;refine Jb ?_
    refine CW.cf rfl ?_
    refine Ja ?_;refine Ji ?_;refine Jd ?_;refine Jb ?_
    refine CW.cf rfl ?_
    refine Ja ?_;refine Ji ?_;refine Jd ?_;refine Jb ?_
    refine CW.cf rfl ?_
    refine Ja ?_;refine Ji ?_;refine Jd ?_;refine Jb ?_
    refine CW.cf rfl ?_
    refine Ja ?_;refine Ji ?_;refine Jd ?_;refine Jb ?_
    refine CW.ct rfl ?_
    refine Ja ?_
    refine RW.build (v := .agg #[.slice none 0 0, .slice none 0 0, .slice none 0 0]) rfl (fun w => by kernel_rfl) rfl ?_
    refine RW.box_agg (l := [.slice none 0 0, .slice none 0 0, .slice none 0 0]) rfl rfl fun b9 _ => ?_
    refine RW.add_ (ownHP 9 1 (.slice none 0 0) []) (fun w _ => .inl ⟨rfl, rfl⟩) ?_
    refine RW.add_ (ownHP 3 1 (.slice none 0 0) []) (fun w _ => .inl ⟨rfl, rfl⟩) ?_
    refine RW.add_ (ownHP 9 1 (.slice none 0 0) []) (fun w _ => .inl ⟨rfl, rfl⟩) ?_
    refine RW.take [4, 3, 0, 1, 2] ?_
    refine Jd ?_;refine Jb ?_;refine Ja ?_;refine Jc ?_;refine JE ?_;refine Jc ?_
    refine RW.callT [1, 2, 3, 4, 0] (bkH b9 noBk (.slice none 0 0, .slice none 0 0, .slice none 0 0)) rfl rfl rfl Tryz.call41 (fun w2 F2 hM h1 _ => ref_rule_ret (StatOn.mono hst hM) hx (hK rfl) h1 noBk_ok (Nat.zero_le _) (Nat.zero_le _)) fun q2 => ?_
    refine Jd ?_;refine Jb ?_
    exact CW.ret1 rfl Tryz.results39 rfl rfl fun w hw => ⟨rfl, hw.kp⟩
  · have hn' : n < (sExcepts s).length := hn
    have hx := List.getElem?_eq_getElem hn'
    have hI : rItem s 6 n = rExc s n (sExcepts s)[n] := by unfold rItem; rw [hx]; rfl
    rw [hI]
    refine Ja ?_;refine Ji ?_;refine Jd ?_;refine Jb ?_
    refine CW.cf rfl ?_
    refine Ja ?_;refine Ji ?_;refine Jd ?_;refine Jb ?_
    refine CW.cf rfl ?_
    refine Ja ?_;refine Ji ?_;refine Jd ?_;refine Jb ?_
    refine CW.cf rfl ?_
    refine Ja ?_;refine Ji ?_;refine Jd ?_;refine Jb ?_
    refine CW.cf rfl ?_
    refine Ja ?_;refine Ji ?_;refine Jd ?_;refine Jb ?_
    refine CW.cf rfl ?_
    refine Ja ?_;refine Ji ?_;refine Jd ?_;refine Jb ?_
    refine CW.cf rfl ?_
    refine Ja ?_;refine Ji ?_;refine Jd ?_;refine Jb ?_
    refine CW.ct rfl ?_
    refine Ja ?_;refine JE ?_;refine Jc ?_
    refine RW.call Tryz.call124 rfl (fun w2 hw => ref_except_ret (StatOn.mono hst (ro_call hw)) hx) rfl ?_
    refine Jd ?_;refine Jb ?_
    exact CW.ret1 rfl Tryz.results39 rfl rfl fun w hw => ⟨rfl, hw.kp⟩
  · have hn' : n < (sTotals s).length := hn
    have hx := List.getElem?_eq_getElem hn'
    have hI : rItem s 7 n = rTotal s (sTotals s)[n] n := by unfold rItem; rw [hx]; rfl
    rw [hI]
    refine Ja ?_;refine Ji ?_;refine Jd ?_;refine Jb ?_
    refine CW.cf rfl ?_
    refine Ja ?_;refine Ji ?_;refine Jd ?_;refine Jb ?_
    refine CW.cf rfl ?_
    refine Ja ?_;refine Ji ?_;refine Jd ?_;refine Jb ?_
    refine CW.cf rfl ?_
    refine Ja ?_;refine Ji ?_;refine Jd ?_;refine Jb ?_
    refine CW.cf rfl ?_
    refine Ja ?_;refine Ji ?_;refine Jd ?_;refine Jb ?_
    refine CW.cf rfl ?_
    refine Ja ?_;refine Ji ?_;refine Jd ?_;refine Jb ?_
    refine CW.cf rfl ?_
    refine Ja ?_;refine Ji ?_;refine Jd ?_;refine Jb ?_
    refine CW.cf rfl ?_
    refine CW.skip (PW.code ?_);refine Ja ?_;refine JE ?_;refine Jc ?_
    refine RW.call Tryz.call125 rfl (fun w2 hw => ref_total_ret (StatOn.mono hst (ro_call hw)) hx) rfl ?_
    refine Jd ?_;refine Jb ?_
    exact CW.ret1 rfl Tryz.results39 rfl rfl fun w hw => ⟨rfl, hw.kp⟩
end Go.Proofs.YtkfmlekomfnleaaGreat
/- The document's Check. Conditions: none. -/
set_option linter.unusedVariables false
set_option linter.unusedSimpArgs false
set_option maxRecDepth 10000
namespace Go.Proofs.YtkfmlekomfnleaaGreat
open Go Go.RowKit Go.MapKept

/-- The first code that is not 0, and how many stand ahead of it. -/
def scanR : List Int → Int → Int × Int
  | [], a => (0, a)
  | e :: r, a => if e = 0 then scanR r (a + 1) else (e, a)
def rowR (s : kStat.V) (sort n : Nat) : List Int := (List.range' n (manyN s sort - n)).map (rItem s sort)
def restR (s : kStat.V) (sort : Nat) : List Int := (List.range' sort (8 - sort)).flatMap fun k => rowR s k 0
def rCheck (s : kStat.V) : Int × Int := if countsD s = true then scanR (restR s 0) 0 else (3, 0)
theorem rowR_step {s : kStat.V} {sort n : Nat} (h : n < manyN s sort) : rowR s sort n = rItem s sort n :: rowR s sort (n + 1) := by
  unfold rowR
  rw [show manyN s sort - n = (manyN s sort - (n + 1)) + 1 by omega, List.range'_succ, List.map_cons]
theorem rowR_end {s : kStat.V} {sort n : Nat} (h : manyN s sort ≤ n) : rowR s sort n = [] := by
  unfold rowR
  rw [show manyN s sort - n = 0 by omega]
  rfl
theorem restR_step {s : kStat.V} {sort : Nat} (h : sort < 8) : restR s sort = rowR s sort 0 ++ restR s (sort + 1) := by
  unfold restR
  rw [show 8 - sort = (8 - (sort + 1)) + 1 by omega, List.range'_succ, List.flatMap_cons]
/-- What has passed: the predicates have four kinds at most. -/
def passed (s : kStat.V) (sort n : Nat) : Prop := (sort = 2 → ∀ m p, m < n → (sPreds s)[m]? = some p → p.2.2.1.length ≤ 4) ∧ (3 ≤ sort → fourK s)
theorem passed_item {s : kStat.V} {sort n : Nat} (h : passed s sort n) (hn : n < manyN s sort) (h0 : rItem s sort n = 0) : passed s sort (n + 1) := by
  refine ⟨fun e m p hm hp => ?_, h.2⟩
  rcases Nat.lt_or_ge m n with h1 | h1
  · exact h.1 e m p h1 hp
  · obtain rfl : m = n := by omega
    subst e
    have : rPred s p m = 0 := by rw [← h0]; unfold rItem; rw [hp]; rfl
    unfold rPred at this
    split at this
    · split at this
      · cases this
      split at this
      · cases this
      split at this
      · cases this
      · omega
    · rename_i hh; exact absurd this hh
theorem passed_row {s : kStat.V} {sort n : Nat} (h : passed s sort n) (hn : manyN s sort ≤ n) : passed s (sort + 1) 0 := by
  refine ⟨fun _ m p hm => absurd hm (by omega), fun h3 => ?_⟩
  rcases Nat.lt_or_ge sort 3 with h1 | h1
  · obtain rfl : sort = 2 := by omega
    intro p hp
    obtain ⟨m, hm⟩ := List.mem_iff_getElem?.1 hp
    exact h.1 rfl m p (Nat.lt_of_lt_of_le (List.getElem?_eq_some_iff.1 hm).1 hn) hm
  · exact h.2 h1
theorem many_at {s : kStat.V} {k : Nat} (h : k < 8) : ([.int .i64 (sKinds s).length, .int .i64 (sMembers s).length, .int .i64 (sPreds s).length, .int .i64 (sClasses s).length, .int .i64 (sSources s).length, .int .i64 (sRules s).length, .int .i64 (sExcepts s).length, .int .i64 (sTotals s).length] : List Value)[k]? = some (.int .i64 (manyN s k)) := by
  obtain rfl | rfl | rfl | rfl | rfl | rfl | rfl | rfl : k = 0 ∨ k = 1 ∨ k = 2 ∨ k = 3 ∨ k = 4 ∨ k = 5 ∨ k = 6 ∨ k = 7 := by omega
  all_goals rfl
theorem many_le {s : kStat.V} (h : countsD s = true) (k : Nat) : manyN s k ≤ 512 := by
  unfold countsD at h
  simp only [Bool.and_eq_true, decide_eq_true_eq] at h
  unfold manyN
  split <;> omega
attribute [local irreducible] RW CW
set_option maxHeartbeats 16000000 in
theorem ref_check_ret {s : kStat.V} {x : RC} {w : World} (hst : StatOn (mem w (fun b => ¬ No b)) s x) : Ret Tryz.prog 8 [.agg (x.stat s).toArray] w (.tuple #[.int .i64 (rCheck s).1, .int .i64 (rCheck s).2]) := by
  generalize hS : rCheck s = SP
  have hS := hS.symm
  unfold rCheck at hS
  refine Calls.enter Tryz.func8 rfl _ rfl rfl (S := No) (H := []) trivial ?_
  refine CW.seqR ?_
  refine RW.box_agg (l := x.stat s) rfl rfl fun b1 _ => ?_
  refine Jd ?_;refine Jd ?_;refine Jb ?_
  refine CW.seq ?_
  refine Ja ?_;refine Je ?_;refine JA ?_;refine Jg ?_;refine Jm ?_;refine Jc ?_
  refine RW.splitD 13 rfl (fun h0 => ?_) (fun h0 => ?_)
  · have hc : ¬ countsD s = true := fun h => by unfold countsD at h; simp only [Bool.and_eq_true, decide_eq_true_eq] at h; omega
    rw [if_neg hc] at hS
    refine Jz ?_;refine Jz ?_;refine Jz ?_;refine Jz ?_;refine Jv ?_;refine Jc ?_;refine Jz ?_;refine Jz ?_;refine Jz ?_;refine Jz ?_;refine Jv ?_;refine Jc ?_;refine Jz ?_;refine Jz ?_;refine Jz ?_;refine Jz ?_;refine Jv ?_;refine Jc ?_;refine Jz ?_;refine Jz ?_;refine Jz ?_;refine Jz ?_;refine Jv ?_;refine Jc ?_;refine Jz ?_;refine Jz ?_;refine Jz ?_;refine Jz ?_;refine Jv ?_;refine Jc ?_;refine Jz ?_;refine Jz ?_;refine Jz ?_;refine Jz ?_;refine Jv ?_;refine Jc ?_;refine Jz ?_;refine Jz ?_;refine Jz ?_;refine Jz ?_;refine Jv ?_;refine Jb ?_
    refine CW.ct rfl ?_
    refine Ja ?_;refine Jd ?_;refine Jd ?_;refine Jb ?_
    exact CW.rets (rs := [.tmp 2, .tmp 3]) (vs := [_, _]) rfl Tryz.results8 rfl (ResOK.tmp rfl (ResOK.tmp rfl ResOK.nil)) fun w hw => ⟨by rw [hS]; rfl, hw.kp⟩
  refine Jy ?_;refine Je ?_;refine Jy ?_;refine JA ?_;refine Jy ?_;refine Jg ?_;refine Jy ?_;refine Jm ?_;refine Jw ?_;refine Jc ?_
  refine RW.splitD 19 rfl (fun h1 => ?_) (fun h1 => ?_)
  · have hc : ¬ countsD s = true := fun h => by unfold countsD at h; simp only [Bool.and_eq_true, decide_eq_true_eq] at h; omega
    rw [if_neg hc] at hS
    refine Jz ?_;refine Jz ?_;refine Jz ?_;refine Jz ?_;refine Jv ?_;refine Jc ?_;refine Jz ?_;refine Jz ?_;refine Jz ?_;refine Jz ?_;refine Jv ?_;refine Jc ?_;refine Jz ?_;refine Jz ?_;refine Jz ?_;refine Jz ?_;refine Jv ?_;refine Jc ?_;refine Jz ?_;refine Jz ?_;refine Jz ?_;refine Jz ?_;refine Jv ?_;refine Jc ?_;refine Jz ?_;refine Jz ?_;refine Jz ?_;refine Jz ?_;refine Jv ?_;refine Jc ?_;refine Jz ?_;refine Jz ?_;refine Jz ?_;refine Jz ?_;refine Jv ?_;refine Jb ?_
    refine CW.ct rfl ?_
    refine Ja ?_;refine Jd ?_;refine Jd ?_;refine Jb ?_
    exact CW.rets (rs := [.tmp 2, .tmp 3]) (vs := [_, _]) rfl Tryz.results8 rfl (ResOK.tmp rfl (ResOK.tmp rfl ResOK.nil)) fun w hw => ⟨by rw [hS]; rfl, hw.kp⟩
  refine Jy ?_;refine Je ?_;refine Jy ?_;refine JA ?_;refine Jy ?_;refine Jg ?_;refine Jy ?_;refine Jm ?_;refine Jw ?_;refine Jc ?_
  refine RW.splitD 25 rfl (fun h2 => ?_) (fun h2 => ?_)
  · have hc : ¬ countsD s = true := fun h => by unfold countsD at h; simp only [Bool.and_eq_true, decide_eq_true_eq] at h; omega
    rw [if_neg hc] at hS
    refine Jz ?_;refine Jz ?_;refine Jz ?_;refine Jz ?_;refine Jv ?_;refine Jc ?_;refine Jz ?_;refine Jz ?_;refine Jz ?_;refine Jz ?_;refine Jv ?_;refine Jc ?_;refine Jz ?_;refine Jz ?_;refine Jz ?_;refine Jz ?_;refine Jv ?_;refine Jc ?_;refine Jz ?_;refine Jz ?_;refine Jz ?_;refine Jz ?_;refine Jv ?_;refine Jc ?_;refine Jz ?_;refine Jz ?_;refine Jz ?_;refine Jz ?_;refine Jv ?_;refine Jb ?_
    refine CW.ct rfl ?_
    refine Ja ?_;refine Jd ?_;refine Jd ?_;refine Jb ?_
    exact CW.rets (rs := [.tmp 2, .tmp 3]) (vs := [_, _]) rfl Tryz.results8 rfl (ResOK.tmp rfl (ResOK.tmp rfl ResOK.nil)) fun w hw => ⟨by rw [hS]; rfl, hw.kp⟩
  refine Jy ?_;refine Je ?_;refine Jy ?_;refine JA ?_;refine Jy ?_;refine Jg ?_;refine Jy ?_;refine Jm ?_;refine Jw ?_;refine Jc ?_
  refine RW.splitD 31 rfl (fun h3 => ?_) (fun h3 => ?_)
  · have hc : ¬ countsD s = true := fun h => by unfold countsD at h; simp only [Bool.and_eq_true, decide_eq_true_eq] at h; omega
    rw [if_neg hc] at hS
    refine Jz ?_;refine Jz ?_;refine Jz ?_;refine Jz ?_;refine Jv ?_;refine Jc ?_;refine Jz ?_;refine Jz ?_;refine Jz ?_;refine Jz ?_;refine Jv ?_;refine Jc ?_;refine Jz ?_;refine Jz ?_;refine Jz ?_;refine Jz ?_;refine Jv ?_;refine Jc ?_;refine Jz ?_;refine Jz ?_;refine Jz ?_;refine Jz ?_;refine Jv ?_;refine Jb ?_
    refine CW.ct rfl ?_
    refine Ja ?_;refine Jd ?_;refine Jd ?_;refine Jb ?_
    exact CW.rets (rs := [.tmp 2, .tmp 3]) (vs := [_, _]) rfl Tryz.results8 rfl (ResOK.tmp rfl (ResOK.tmp rfl ResOK.nil)) fun w hw => ⟨by rw [hS]; rfl, hw.kp⟩
  refine Jy ?_;refine Je ?_;refine Jy ?_;refine JA ?_;refine Jy ?_;refine Jg ?_;refine Jy ?_;refine Jm ?_;refine Jw ?_;refine Jc ?_
  refine RW.splitD 37 rfl (fun h4 => ?_) (fun h4 => ?_)
  · have hc : ¬ countsD s = true := fun h => by unfold countsD at h; simp only [Bool.and_eq_true, decide_eq_true_eq] at h; omega
    rw [if_neg hc] at hS
    refine Jz ?_;refine Jz ?_;refine Jz ?_;refine Jz ?_;refine Jv ?_;refine Jc ?_;refine Jz ?_;refine Jz ?_;refine Jz ?_;refine Jz ?_;refine Jv ?_;refine Jc ?_;refine Jz ?_;refine Jz ?_;refine Jz ?_;refine Jz ?_;refine Jv ?_;refine Jb ?_
    refine CW.ct rfl ?_
    refine Ja ?_;refine Jd ?_;refine Jd ?_;refine Jb ?_
    exact CW.rets (rs := [.tmp 2, .tmp 3]) (vs := [_, _]) rfl Tryz.results8 rfl (ResOK.tmp rfl (ResOK.tmp rfl ResOK.nil)) fun w hw => ⟨by rw [hS]; rfl, hw.kp⟩
  refine Jy ?_;refine Je ?_;refine Jy ?_;refine JA ?_;refine Jy ?_;refine Jg ?_;refine Jy ?_;refine Jm ?_;refine Jw ?_;refine Jc ?_
  refine RW.splitD 43 rfl (fun h5 => ?_) (fun h5 => ?_)
  · have hc : ¬ countsD s = true := fun h => by unfold countsD at h; simp only [Bool.and_eq_true, decide_eq_true_eq] at h; omega
    rw [if_neg hc] at hS
    refine Jz ?_;refine Jz ?_;refine Jz ?_;refine Jz ?_;refine Jv ?_;refine Jc ?_;refine Jz ?_;refine Jz ?_;refine Jz ?_;refine Jz ?_;refine Jv ?_;refine Jb ?_
    refine CW.ct rfl ?_
    refine Ja ?_;refine Jd ?_;refine Jd ?_;refine Jb ?_
    exact CW.rets (rs := [.tmp 2, .tmp 3]) (vs := [_, _]) rfl Tryz.results8 rfl (ResOK.tmp rfl (ResOK.tmp rfl ResOK.nil)) fun w hw => ⟨by rw [hS]; rfl, hw.kp⟩
  refine Jy ?_;refine Je ?_;refine Jy ?_;refine JA ?_;refine Jy ?_;refine Jg ?_;refine Jy ?_;refine Jm ?_;refine Jw ?_;refine Jc ?_
  refine RW.splitD 49 rfl (fun h6 => ?_) (fun h6 => ?_)
  · have hc : ¬ countsD s = true := fun h => by unfold countsD at h; simp only [Bool.and_eq_true, decide_eq_true_eq] at h; omega
    rw [if_neg hc] at hS
    refine Jz ?_;refine Jz ?_;refine Jz ?_;refine Jz ?_;refine Jv ?_;refine Jb ?_
    refine CW.ct rfl ?_
    refine Ja ?_;refine Jd ?_;refine Jd ?_;refine Jb ?_
    exact CW.rets (rs := [.tmp 2, .tmp 3]) (vs := [_, _]) rfl Tryz.results8 rfl (ResOK.tmp rfl (ResOK.tmp rfl ResOK.nil)) fun w hw => ⟨by rw [hS]; rfl, hw.kp⟩
  refine Jy ?_;refine Je ?_;refine Jy ?_;refine JA ?_;refine Jy ?_;refine Jg ?_;refine Jy ?_;refine Jm ?_;refine Jw ?_;refine Jb ?_
  refine CW.ite rfl (fun h7 => ?_) (fun h7 => ?_)
  · have hc : ¬ countsD s = true := fun h => by unfold countsD at h; simp only [Bool.and_eq_true, decide_eq_true_eq] at h; omega
    rw [if_neg hc] at hS
    refine Ja ?_;refine Jd ?_;refine Jd ?_;refine Jb ?_
    exact CW.rets (rs := [.tmp 2, .tmp 3]) (vs := [_, _]) rfl Tryz.results8 rfl (ResOK.tmp rfl (ResOK.tmp rfl ResOK.nil)) fun w hw => ⟨by rw [hS]; rfl, hw.kp⟩
  have hc : countsD s = true := by
    unfold countsD
    simp only [Bool.and_eq_true, decide_eq_true_eq]
    omega
  rw [if_pos hc] at hS
  refine CW.skip ?_
  refine PW.code ?_
  refine Ja ?_;refine Je ?_;refine JA ?_;refine Jg ?_;refine Je ?_;refine JA ?_;refine Jg ?_;refine Je ?_;refine JA ?_;refine Jg ?_;refine Je ?_;refine JA ?_;refine Jg ?_;refine Je ?_;refine JA ?_;refine Jg ?_;refine Je ?_;refine JA ?_;refine Jg ?_;refine Je ?_;refine JA ?_;refine Jg ?_;refine Je ?_;refine JA ?_;refine Jg ?_
  refine RW.buildSlice (e := 3) (c := [.int .i64 (sKinds s).length, .int .i64 (sMembers s).length, .int .i64 (sPreds s).length, .int .i64 (sClasses s).length, .int .i64 (sSources s).length, .int .i64 (sRules s).length, .int .i64 (sExcepts s).length, .int .i64 (sTotals s).length]) rfl (fun w => by kernel_rfl) rfl fun b4 _ => ?_
  refine Jd ?_;refine Jb ?_;refine Ja ?_;refine Jd ?_;refine Jb ?_
  refine CW.seq ?_
  refine Ja ?_;refine Jd ?_;refine Jb ?_
  refine CW.block ?_
  refine CW.loop (ι := { y : Nat × Int // y.1 ≤ 8 ∧ passed s y.1 0 ∧ 0 ≤ y.2 ∧ y.2 ≤ 512 * y.1 ∧ SP = scanR (restR s y.1) y.2 }) (fun y => [(1, ptrV b1), (4, .slice (some ⟨b4, 0, none⟩) 8 8), (5, .int .i64 y.1.2), (6, .int .i64 y.1.1)]) (fun _ => [blk b4 [.int .i64 (sKinds s).length, .int .i64 (sMembers s).length, .int .i64 (sPreds s).length, .int .i64 (sClasses s).length, .int .i64 (sSources s).length, .int .i64 (sRules s).length, .int .i64 (sExcepts s).length, .int .i64 (sTotals s).length] 3, blk b1 (x.stat s) 31]) (fun y => 8 - y.1.1) ⟨(0, 0), Nat.zero_le _, ⟨fun h => (by cases h), fun h => absurd h (by decide)⟩, by decide, by decide, hS⟩ ⟨rfl, rfl, rfl, rfl, trivial⟩ (fun h => h) ?_
  intro ⟨⟨so, a⟩, hso, hp, ha0, ha1, hR⟩
  dsimp only at hso hp ha0 ha1 hR ⊢
  refine CW.seq ?_
  refine Ja ?_;refine Jc ?_;refine Jc ?_;refine Jg ?_;refine Jk ?_;refine Jb ?_
  refine CW.ite rfl (fun hlt => ?_) (fun hge => ?_)
  rotate_left
  · obtain rfl : so = 8 := by
      have : (8 : Int) ≤ so := by simpa using hge
      omega
    refine CW.exit rfl ?_
    refine PW.code ?_
    refine Ja ?_;refine Jc ?_;refine Jd ?_;refine Jd ?_;refine Jb ?_
    exact CW.rets (rs := [.tmp 2, .tmp 3]) (vs := [_, _]) rfl Tryz.results8 rfl (ResOK.tmp rfl (ResOK.tmp rfl ResOK.nil)) fun w hw => ⟨by rw [hR]; rfl, hw.kp⟩
  have hlt' : so < 8 := by
    have : (so : Int) < 8 := by simpa using hlt
    omega
  have hml := many_le hc so
  rw [restR_step hlt'] at hR
  refine CW.skip ?_
  refine PW.code ?_
  refine CW.seq ?_
  refine CW.block ?_
  refine Ja ?_;refine Jd ?_;refine Jb ?_
  refine CW.block ?_
  refine CW.loop (ι := { y : Nat × Int // y.1 ≤ manyN s so ∧ passed s so y.1 ∧ 0 ≤ y.2 ∧ y.2 ≤ 512 * so + y.1 ∧ SP = scanR (rowR s so y.1 ++ restR s (so + 1)) y.2 }) (fun y => [(1, ptrV b1), (4, .slice (some ⟨b4, 0, none⟩) 8 8), (5, .int .i64 y.1.2), (6, .int .i64 so), (7, .int .i64 y.1.1)]) (fun _ => [blk b4 [.int .i64 (sKinds s).length, .int .i64 (sMembers s).length, .int .i64 (sPreds s).length, .int .i64 (sClasses s).length, .int .i64 (sSources s).length, .int .i64 (sRules s).length, .int .i64 (sExcepts s).length, .int .i64 (sTotals s).length] 3, blk b1 (x.stat s) 31]) (fun y => manyN s so - y.1.1) ⟨(0, a), Nat.zero_le _, hp, ha0, by show a ≤ 512 * so + (0 : Nat); omega, hR⟩ ⟨rfl, rfl, rfl, rfl, rfl, trivial⟩ (fun h => h) ?_
  intro ⟨⟨n, a2⟩, hn, hp2, hb0, hb1, hR2⟩
  dsimp only at hn hp2 hb0 hb1 hR2 ⊢
  refine CW.seq ?_
  refine Ja ?_;refine Jc ?_;refine Jc ?_;refine Jc ?_
  refine RW.indexAddr rfl rfl (by omega) (by omega) rfl ?_
  refine RW.load_fact (v := .int .i64 (manyN s so)) rfl rfl rfl (fun w hw => ?_) ?_
  · have := (CellsAt.of_blk (St.blk (pre := []) hw)) so _ (many_at hlt')
    simpa using this
  refine Jk ?_;refine Jb ?_
  refine CW.ite rfl (fun hlt2 => ?_) (fun hge2 => ?_)
  · have hlt2' : n < manyN s so := by simpa using hlt2
    rw [rowR_step hlt2', List.cons_append, scanR] at hR2
    refine CW.skip ?_
    refine PW.code ?_
    refine CW.seq ?_
    refine CW.block ?_
    refine Ja ?_;refine JF ?_;refine Jc ?_;refine Jc ?_
    refine RW.call Tryz.call39 rfl (fun w2 hw => ref_item_ret (StatOn.mono hst (ro_call hw)) hlt' hlt2' (fun h => hp2.2 (by omega))) rfl ?_
    refine Jd ?_;refine Jb ?_
    refine CW.seq ?_
    refine Ja ?_;refine Jc ?_;refine Jj ?_;refine Jb ?_
    refine CW.ite rfl (fun h9 => ?_) (fun h9 => ?_)
    · rw [if_neg h9] at hR2
      refine Ja ?_;refine Jc ?_;refine Jc ?_;refine Jd ?_;refine Jd ?_;refine Jb ?_
      exact CW.rets (rs := [.tmp 2, .tmp 3]) (vs := [_, _]) rfl Tryz.results8 rfl (ResOK.tmp rfl (ResOK.tmp rfl ResOK.nil)) fun w hw => ⟨by rw [hR2]; rfl, hw.kp⟩
    have h9 := Decidable.of_not_not h9
    rw [if_pos h9] at hR2
    refine CW.skip ?_
    refine PW.code ?_
    refine CW.region ?_
    refine Jc ?_
    refine RW.add rfl rfl (w64 (by omega) (by omega)) rfl ?_
    refine Jd ?_;refine RW.nil (PW.code ?_)
    refine CW.region ?_
    refine Jc ?_
    refine RW.add rfl rfl (w64 (by omega) (by omega)) rfl ?_
    refine Jd ?_
    refine RW.nil ?_
    exact PW.again ⟨(n + 1, a2 + 1), hlt2', passed_item hp2 hlt2' h9, by show 0 ≤ a2 + 1; omega, by show a2 + 1 ≤ 512 * so + ((n + 1 : Nat) : Int); omega, hR2⟩ ⟨rfl, rfl, rfl, rfl, rfl, trivial⟩ (fun h => h) (by show manyN s so - (n + 1) < manyN s so - n; omega)
  have hge2' : manyN s so ≤ n := by simpa using hge2
  rw [rowR_end hge2', List.nil_append] at hR2
  refine CW.exit rfl ?_
  refine PW.code ?_
  refine CW.region ?_
  refine Jc ?_
  refine RW.add rfl rfl (w64 (by omega) (by omega)) rfl ?_
  refine Jd ?_
  refine RW.nil ?_
  exact PW.again ⟨(so + 1, a2), hlt', passed_row hp2 hge2', hb0, by show a2 ≤ 512 * ((so + 1 : Nat) : Int); omega, hR2⟩ ⟨rfl, rfl, rfl, rfl, trivial⟩ (fun h => h) (by show 8 - (so + 1) < 8 - so; omega)
end Go.Proofs.YtkfmlekomfnleaaGreat
/- The document's seen. Conditions: none. -/
set_option linter.unusedVariables false
set_option linter.unusedSimpArgs false
set_option maxRecDepth 10000
namespace Go.Proofs.YtkfmlekomfnleaaGreat
open Go Go.RowKit Go.MapKept

theorem flat_str (l : List Str) : (l.map strE).flatten = l.map Value.string := by
  induction l with
  | nil => rfl
  | cons x l ih => rw [List.map_cons, List.flatten_cons, ih]; rfl
theorem strs_cells {M : Mem} {A : Option Addr} {n c : Nat} {l : List Str} (h : Rd kStrs M [.slice A n c] l) {w : World} (hM : Mem.le M (mem w (fun b => ¬ No b))) (hne : l ≠ []) : ∃ B O, A = some ⟨B, O, none⟩ ∧ CellsAt w B O (l.map strE).flatten := by
  obtain ⟨A', c', he, h2, h3, h4, h5⟩ := h
  have := (List.cons.inj he).1
  injection this with e1 _ _
  subst e1
  obtain ⟨B, O, hA, hj⟩ := h5 hne
  refine ⟨B, O, hA, fun i v hv => ?_⟩
  rw [flat_str, List.getElem?_map] at hv
  cases hx : l[i]? with
  | none => rw [hx] at hv; cases hv
  | some x =>
    rw [hx] at hv
    cases hv
    obtain ⟨cs, hl, hr, hm⟩ := hj i x hx
    obtain rfl := str_cell hr
    have := (hM _ _ _ (hm 0 _ rfl)).2
    simpa [K.sz] using this
abbrev argsT (t : kTerm.V) : List Str := t.2.2.1
def seenP (p : kPrem.V) : List Str := if p.1 = 1 then p.2.1.2.2.1 else if p.1 = 2 then (p.2.2.1.1 : List kTerm.V).flatMap argsT ++ (p.2.2.1.2.2 : List kTerm.V).flatMap argsT else [p.2.2.2.1, p.2.2.2.2]
def rSeen (r : kRule.V) : List Str := (prU r).flatMap seenP ++ (hdU r).2.2.1
/-- Not too long. -/
structure Short (r : kRule.V) : Prop where
  prems : (prU r).length ≤ 16
  head : List.length (hdU r).2.2.1 ≤ 4
  lit : ∀ p ∈ prU r, p.1 = 1 → List.length p.2.1.2.2.1 ≤ 4
  left : ∀ p ∈ prU r, p.1 = 2 → List.length p.2.2.1.1 ≤ 8 ∧ ∀ t ∈ (p.2.2.1.1 : List kTerm.V), (argsT t).length ≤ 4
  right : ∀ p ∈ prU r, p.1 = 2 → List.length p.2.2.1.2.2 ≤ 8 ∧ ∀ t ∈ (p.2.2.1.2.2 : List kTerm.V), (argsT t).length ≤ 4
theorem flat_len {α : Type} {f : α → List Str} {l : List α} {d : Nat} (h : ∀ x ∈ l, (f x).length ≤ d) : (l.flatMap f).length ≤ d * l.length := by
  induction l with
  | nil => simp
  | cons x l ih =>
    have h1 := h x (by simp)
    have h2 := ih fun y hy => h y (by simp [hy])
    rw [List.flatMap_cons, List.length_append, List.length_cons, Nat.mul_succ]
    omega
attribute [local irreducible] RW CW
set_option maxHeartbeats 32000000 in
theorem ref_seen_ret {r : kRule.V} {cs : List Value} {w : World} (hr : Rd kRule (mem w (fun b => ¬ No b)) cs r) (hs : Short r) : RetC Tryz.prog 42 [.agg cs.toArray] w No (fun v : Value => v) (fun v => [ownHP 9 1 v ((rSeen r).map strE)]) := by
  have hle : Mem.le (mem w (fun b => ¬ No b)) (mem w (fun b => ¬ No b)) := Mem.le_refl _
  obtain ⟨PA, pc, HA, hc, rfl, hprs, hhd⟩ := Rd.ruleT hr
  have hpl := hs.prems
  have hhl := hs.head
  refine Calls.enter Tryz.func42 rfl _ rfl rfl (S := No) (H := []) trivial ?_
  refine CW.seqR ?_
  refine RW.box_agg (l := [.string r.1, .string r.2.1, .int .i64 r.2.2.1, .int .i64 r.2.2.2.1, .slice PA (prU r).length pc, .int .i64 r.2.2.2.2.2.1, .bool (hdU r).1, .string (hdU r).2.1, .slice HA (hdU r).2.2.1.length hc, .bool (hdU r).2.2.2.1, .int .i64 (hdU r).2.2.2.2]) rfl rfl fun b1 _ => ?_
  refine RW.add_ (ownHP 9 1 (.slice none 0 0) []) (fun w _ => .inl ⟨rfl, rfl⟩) ?_
  refine Jd ?_;refine Jb ?_;refine Ja ?_;refine Jd ?_;refine Jb ?_
  refine CW.seq ?_
  refine Ja ?_;refine Jd ?_;refine Jb ?_
  refine CW.block ?_
  refine CW.loop (ι := { y : Nat × Value × List Str // y.1 ≤ (prU r).length ∧ y.2.2 = ((prU r).take y.1).flatMap seenP ∧ y.2.2.length ≤ 64 * y.1 }) (fun y => [(1, ptrV b1), (3, y.1.2.1), (4, .int .i64 y.1.1)]) (fun y => [ownHP 9 1 y.1.2.1 (y.1.2.2.map strE), blk b1 [.string r.1, .string r.2.1, .int .i64 r.2.2.1, .int .i64 r.2.2.2.1, .slice PA (prU r).length pc, .int .i64 r.2.2.2.2.2.1, .bool (hdU r).1, .string (hdU r).2.1, .slice HA (hdU r).2.2.1.length hc, .bool (hdU r).2.2.2.1, .int .i64 (hdU r).2.2.2.2] 120]) (fun y => (prU r).length - y.1.1) ⟨(0, .slice none 0 0, []), Nat.zero_le _, rfl, by simp⟩ ⟨rfl, rfl, rfl, trivial⟩ (fun h => h) ?_
  intro ⟨⟨i, v, acc⟩, hi, hQ, hL⟩
  dsimp only at hi hQ hL ⊢
  refine CW.seq ?_
  refine Ja ?_;refine Jc ?_;refine Je ?_;refine JB ?_;refine Jg ?_;refine Jk ?_;refine Jb ?_
  refine CW.ite rfl (fun hlti => ?_) (fun hgei => ?_)
  rotate_left
  · have hgei' : (prU r).length ≤ i := by simpa using hgei
    rw [List.take_of_length_le hgei'] at hQ
    obtain ⟨LA, lc, hcs, hla⟩ := Rd.litT hhd
    have hla' : Rd kStrs (mem w (fun b => ¬ No b)) [.slice HA (hdU r).2.2.1.length hc] (hdU r).2.2.1 := by
      have e := (List.cons.inj (List.cons.inj (List.cons.inj hcs).2).2).1
      rw [e]
      exact hla
    refine CW.exit rfl ?_
    refine PW.code ?_
    refine Ja ?_;refine Jc ?_;refine Je ?_;refine Je ?_;refine JB ?_
    refine RW.append [] (e := 9) (sz := 1) (news := ((hdU r).2.2.1).map strE) (zc := [.string ByteArray.empty]) rfl rfl rfl rfl (List.length_map _) (by simp) (by simp [Value.oneCell']) (fun w2 hw hn => ?_) ?_ ?_ rfl fun u1 => ?_
    · exact strs_cells hla' (ro_call hw) (fun e => hn (by rw [e]; rfl))
    · rw [List.length_map]; omega
    · rw [List.length_map]; unfold maxN; omega
    rw [← List.map_append]
    refine Jd ?_;refine Jb ?_
    refine CW.ret1 rfl Tryz.results42 rfl rfl fun w hw => ⟨u1, rfl, ?_⟩
    rw [show rSeen r = acc ++ (hdU r).2.2.1 by rw [hQ]; rfl]
    exact hw.take [0]
  have hlti' : i < (prU r).length := by simpa using hlti
  have hts : (prU r).take (i + 1) = (prU r).take i ++ [(prU r)[i]] := List.take_succ_eq_append_getElem hlti'
  obtain ⟨B1, O1, es1, hA1, hl1, hr1, hm1⟩ := sl_get hprs (List.getElem?_eq_getElem hlti')
  have hmem : (prU r)[i] ∈ prU r := List.getElem_mem hlti'
  generalize hp : (prU r)[i] = p at *
  obtain ⟨A0, c0, A1, c1, A2, c2, rfl, hlit, hgu⟩ := Rd.premT hr1
  refine CW.skip ?_
  refine PW.code ?_
  refine CW.seq ?_
  refine CW.block ?_
  refine CW.seqR ?_
  refine Je ?_;refine JB ?_;refine Jc ?_
  refine RW.indexAddrE hA1 rfl rfl (by omega) hlti rfl ?_
  refine RW.load_ros (cs := [.int .i64 p.1, .bool p.2.1.1, .string p.2.1.2.1, .slice A0 p.2.1.2.2.1.length c0, .bool p.2.1.2.2.2.1, .int .i64 p.2.1.2.2.2.2, .slice A1 p.2.2.1.1.length c1, .int .i64 p.2.2.1.2.1, .slice A2 p.2.2.1.2.2.length c2, .string p.2.2.2.1, .string p.2.2.2.2]) rfl hle hm1 rfl rfl (by simp) rfl ?_
  refine RW.alloc (c := [.int .i64 0, .bool false, .string ByteArray.empty, .slice none 0 0, .bool false, .int .i64 0, .slice none 0 0, .int .i64 0, .slice none 0 0, .string ByteArray.empty, .string ByteArray.empty]) rfl rfl fun b5 _ => ?_
  refine RW.store_whole [] rfl rfl (vs := [.int .i64 p.1, .bool p.2.1.1, .string p.2.1.2.1, .slice A0 p.2.1.2.2.1.length c0, .bool p.2.1.2.2.2.1, .int .i64 p.2.1.2.2.2.2, .slice A1 p.2.2.1.1.length c1, .int .i64 p.2.2.1.2.1, .slice A2 p.2.2.1.2.2.length c2, .string p.2.2.2.1, .string p.2.2.2.2]) rfl rfl rfl (by simp [Value.oneCell']) ?_
  refine Jb ?_;refine Ja ?_;refine Je ?_;refine JA ?_;refine Jb ?_
  refine CW.block ?_
  refine Ja ?_;refine Ji ?_;refine Jd ?_;refine Jb ?_
  refine CW.ite rfl (fun h1 => ?_) (fun h1 => ?_)
  · have hse : seenP p = p.2.1.2.2.1 := if_pos h1
    have hl4 := hs.lit p hmem h1
    have hl5 : (seenP p).length ≤ 4 := by rw [hse]; exact hl4
    obtain ⟨LA, lc, hcs, hla⟩ := Rd.litT hlit
    have hla' : Rd kStrs (mem w (fun b => ¬ No b)) [.slice A0 p.2.1.2.2.1.length c0] p.2.1.2.2.1 := by
      have e := (List.cons.inj (List.cons.inj (List.cons.inj hcs).2).2).1
      rw [e]
      exact hla
    refine CW.region ?_
    refine Jc ?_;refine Je ?_;refine Je ?_;refine JA ?_
    refine RW.append [_] (e := 9) (sz := 1) (news := (p.2.1.2.2.1).map strE) (zc := [.string ByteArray.empty]) rfl rfl rfl rfl (List.length_map _) (by simp) (by simp [Value.oneCell']) (fun w2 hw hn => ?_) ?_ ?_ rfl fun u2 => ?_
    · exact strs_cells hla' (ro_call hw) (fun e => hn (by rw [e]; rfl))
    · rw [List.length_map]; omega
    · rw [List.length_map]; unfold maxN; omega
    rw [← List.map_append]
    rw [← hse]
    refine Jd ?_;refine RW.nil (PW.code ?_)
    refine CW.region ?_
    refine Jc ?_
    refine RW.add rfl rfl (w64 (by omega) (by omega)) rfl ?_
    refine Jd ?_
    refine RW.nil ?_
    exact PW.again ⟨(i + 1, u2, acc ++ seenP p), hlti', by show acc ++ seenP p = _; rw [hts, List.flatMap_append, ← hQ, List.flatMap_cons, List.flatMap_nil, List.append_nil], by show (acc ++ seenP p).length ≤ 64 * (i + 1); rw [List.length_append]; omega⟩ ⟨rfl, rfl, rfl, trivial⟩ (fun h => h.take [1, 2]) (by show (prU r).length - (i + 1) < (prU r).length - i; omega)
  refine Ja ?_;refine Ji ?_;refine Jd ?_;refine Jb ?_
  refine CW.ite rfl (fun h2 => ?_) (fun h2 => ?_)
  · have hse : seenP p = (p.2.2.1.1 : List kTerm.V).flatMap argsT ++ (p.2.2.1.2.2 : List kTerm.V).flatMap argsT := by unfold seenP; rw [if_neg h1, if_pos h2]
    obtain ⟨GA, gc, GB, gd, hcs, hgl, hgr⟩ := Rd.guardT hgu
    have hgl' : Rd kTerms (mem w (fun b => ¬ No b)) [.slice A1 p.2.2.1.1.length c1] p.2.2.1.1 := by
      have e := (List.cons.inj hcs).1
      rw [e]
      exact hgl
    have hgr' : Rd kTerms (mem w (fun b => ¬ No b)) [.slice A2 p.2.2.1.2.2.length c2] p.2.2.1.2.2 := by
      have e := (List.cons.inj (List.cons.inj (List.cons.inj hcs).2).2).1
      rw [e]
      exact hgr
    have sL := hs.left p hmem h2
    have sR := hs.right p hmem h2
    have sL1 := sL.1
    have sR1 := sR.1
    have fL := flat_len (f := argsT) (l := p.2.2.1.1) sL.2
    have fR := flat_len (f := argsT) (l := p.2.2.1.2.2) sR.2
    have hl5 : (seenP p).length ≤ 64 := by rw [hse, List.length_append]; omega
    refine CW.seq ?_
    refine Ja ?_;refine Jd ?_;refine Jb ?_
    refine CW.block ?_
    refine CW.loop (ι := { y : Nat × Value × List Str // y.1 ≤ List.length p.2.2.1.1 ∧ y.2.2.length ≤ 64 * i + 4 * y.1 ∧ y.2.2 = acc ++ ((p.2.2.1.1 : List kTerm.V).take y.1).flatMap argsT }) (fun y => [(1, ptrV b1), (3, y.1.2.1), (4, .int .i64 i), (5, ptrV b5), (6, .int .i64 y.1.1)]) (fun y => [blk b5 [.int .i64 p.1, .bool p.2.1.1, .string p.2.1.2.1, .slice A0 p.2.1.2.2.1.length c0, .bool p.2.1.2.2.2.1, .int .i64 p.2.1.2.2.2.2, .slice A1 p.2.2.1.1.length c1, .int .i64 p.2.2.1.2.1, .slice A2 p.2.2.1.2.2.length c2, .string p.2.2.2.1, .string p.2.2.2.2] 145, ownHP 9 1 y.1.2.1 (y.1.2.2.map strE), blk b1 [.string r.1, .string r.2.1, .int .i64 r.2.2.1, .int .i64 r.2.2.2.1, .slice PA (prU r).length pc, .int .i64 r.2.2.2.2.2.1, .bool (hdU r).1, .string (hdU r).2.1, .slice HA (hdU r).2.2.1.length hc, .bool (hdU r).2.2.2.1, .int .i64 (hdU r).2.2.2.2] 120]) (fun y => List.length p.2.2.1.1 - y.1.1) ⟨(0, v, acc), Nat.zero_le _, by show acc.length ≤ 64 * i + 4 * 0; omega, by simp⟩ ⟨rfl, rfl, rfl, rfl, rfl, trivial⟩ (fun h => h) ?_
    intro ⟨⟨m, v2, acc2⟩, hm, hL2, hQ2⟩
    dsimp only at hm hL2 hQ2 ⊢
    refine CW.seq ?_
    refine Ja ?_;refine Jc ?_;refine Je ?_;refine Je ?_;refine JA ?_;refine Jg ?_;refine Jk ?_;refine Jb ?_
    refine CW.ite rfl (fun hltm => ?_) (fun hgem => ?_)
    · have hltm' : m < List.length p.2.2.1.1 := by simpa using hltm
      have htm : (p.2.2.1.1 : List kTerm.V).take (m + 1) = (p.2.2.1.1 : List kTerm.V).take m ++ [(p.2.2.1.1 : List kTerm.V)[m]] := List.take_succ_eq_append_getElem hltm'
      have h4 := (sL).2 _ (List.getElem_mem hltm')
      obtain ⟨B2, O2, es2, hA2, hl2, hr2, hm2⟩ := sl_get hgl' (List.getElem?_eq_getElem hltm')
      generalize ht : (p.2.2.1.1 : List kTerm.V)[m] = t at *
      have h4' : List.length t.2.2.1 ≤ 4 := h4
      obtain ⟨TA, tc, rfl, hta⟩ := Rd.termT hr2
      refine CW.skip ?_
      refine PW.code ?_
      refine CW.seq ?_
      refine CW.block ?_
      refine CW.region ?_
      refine Jc ?_;refine Je ?_;refine Je ?_;refine JA ?_;refine Jc ?_
      refine RW.indexAddrE hA2 rfl rfl (by omega) hltm rfl ?_
      refine Je ?_
      refine RW.load_ro rfl hle (hm2 2 _ rfl) rfl rfl ?_
      refine RW.append [_] (e := 9) (sz := 1) (news := (argsT t).map strE) (zc := [.string ByteArray.empty]) rfl rfl rfl rfl (List.length_map _) (by simp) (by simp [Value.oneCell']) (fun w2 hw hn => ?_) ?_ ?_ rfl fun u3 => ?_
      · exact strs_cells hta (ro_call hw) (fun e => hn (by rw [e]; rfl))
      · rw [List.length_map]; omega
      · rw [List.length_map]; unfold maxN; omega
      rw [← List.map_append]
      refine Jd ?_;refine RW.nil (PW.code ?_)
      refine CW.region ?_
      refine Jc ?_
      refine RW.add rfl rfl (w64 (by omega) (by omega)) rfl ?_
      refine Jd ?_
      refine RW.nil ?_
      exact PW.again ⟨(m + 1, u3, acc2 ++ argsT t), hltm', by show (acc2 ++ argsT t).length ≤ 64 * i + 4 * (m + 1); rw [List.length_append]; omega, by show acc2 ++ argsT t = _; rw [htm, List.flatMap_append, List.flatMap_cons, List.flatMap_nil, List.append_nil, hQ2, List.append_assoc]⟩ ⟨rfl, rfl, rfl, rfl, rfl, trivial⟩ (fun h => h) (by show List.length p.2.2.1.1 - (m + 1) < List.length p.2.2.1.1 - m; omega)
    have hgem' : List.length p.2.2.1.1 ≤ m := by simpa using hgem
    rw [List.take_of_length_le hgem'] at hQ2
    have hA2L : acc2.length ≤ 64 * i + 32 := by omega
    refine CW.exit rfl ?_
    refine PW.code ?_
    refine Ja ?_;refine Jd ?_;refine Jb ?_
    refine CW.block ?_
    clear hgem hgem' hL2 hm
    refine CW.loop (ι := { y : Nat × Value × List Str // y.1 ≤ List.length p.2.2.1.2.2 ∧ y.2.2.length ≤ (64 * i + 32) + 4 * y.1 ∧ y.2.2 = acc2 ++ ((p.2.2.1.2.2 : List kTerm.V).take y.1).flatMap argsT }) (fun y => [(1, ptrV b1), (3, y.1.2.1), (4, .int .i64 i), (5, ptrV b5), (7, .int .i64 y.1.1)]) (fun y => [blk b5 [.int .i64 p.1, .bool p.2.1.1, .string p.2.1.2.1, .slice A0 p.2.1.2.2.1.length c0, .bool p.2.1.2.2.2.1, .int .i64 p.2.1.2.2.2.2, .slice A1 p.2.2.1.1.length c1, .int .i64 p.2.2.1.2.1, .slice A2 p.2.2.1.2.2.length c2, .string p.2.2.2.1, .string p.2.2.2.2] 145, ownHP 9 1 y.1.2.1 (y.1.2.2.map strE), blk b1 [.string r.1, .string r.2.1, .int .i64 r.2.2.1, .int .i64 r.2.2.2.1, .slice PA (prU r).length pc, .int .i64 r.2.2.2.2.2.1, .bool (hdU r).1, .string (hdU r).2.1, .slice HA (hdU r).2.2.1.length hc, .bool (hdU r).2.2.2.1, .int .i64 (hdU r).2.2.2.2] 120]) (fun y => List.length p.2.2.1.2.2 - y.1.1) ⟨(0, v2, acc2), Nat.zero_le _, by show acc2.length ≤ (64 * i + 32) + 4 * 0; omega, by simp⟩ ⟨rfl, rfl, rfl, rfl, rfl, trivial⟩ (fun h => h) ?_
    intro ⟨⟨m, v3, acc3⟩, hm, hL3, hQ3⟩
    dsimp only at hm hL3 hQ3 ⊢
    refine CW.seq ?_
    refine Ja ?_;refine Jc ?_;refine Je ?_;refine Je ?_;refine JA ?_;refine Jg ?_;refine Jk ?_;refine Jb ?_
    refine CW.ite rfl (fun hltm => ?_) (fun hgem => ?_)
    · have hltm' : m < List.length p.2.2.1.2.2 := by simpa using hltm
      have htm : (p.2.2.1.2.2 : List kTerm.V).take (m + 1) = (p.2.2.1.2.2 : List kTerm.V).take m ++ [(p.2.2.1.2.2 : List kTerm.V)[m]] := List.take_succ_eq_append_getElem hltm'
      have h4 := (sR).2 _ (List.getElem_mem hltm')
      obtain ⟨B2, O2, es2, hA2, hl2, hr2, hm2⟩ := sl_get hgr' (List.getElem?_eq_getElem hltm')
      generalize ht : (p.2.2.1.2.2 : List kTerm.V)[m] = t at *
      have h4' : List.length t.2.2.1 ≤ 4 := h4
      obtain ⟨TA, tc, rfl, hta⟩ := Rd.termT hr2
      refine CW.skip ?_
      refine PW.code ?_
      refine CW.seq ?_
      refine CW.block ?_
      refine CW.region ?_
      refine Jc ?_;refine Je ?_;refine Je ?_;refine JA ?_;refine Jc ?_
      refine RW.indexAddrE hA2 rfl rfl (by omega) hltm rfl ?_
      refine Je ?_
      refine RW.load_ro rfl hle (hm2 2 _ rfl) rfl rfl ?_
      refine RW.append [_] (e := 9) (sz := 1) (news := (argsT t).map strE) (zc := [.string ByteArray.empty]) rfl rfl rfl rfl (List.length_map _) (by simp) (by simp [Value.oneCell']) (fun w2 hw hn => ?_) ?_ ?_ rfl fun u4 => ?_
      · exact strs_cells hta (ro_call hw) (fun e => hn (by rw [e]; rfl))
      · rw [List.length_map]; omega
      · rw [List.length_map]; unfold maxN; omega
      rw [← List.map_append]
      refine Jd ?_;refine RW.nil (PW.code ?_)
      refine CW.region ?_
      refine Jc ?_
      refine RW.add rfl rfl (w64 (by omega) (by omega)) rfl ?_
      refine Jd ?_
      refine RW.nil ?_
      exact PW.again ⟨(m + 1, u4, acc3 ++ argsT t), hltm', by show (acc3 ++ argsT t).length ≤ (64 * i + 32) + 4 * (m + 1); rw [List.length_append]; omega, by show acc3 ++ argsT t = _; rw [htm, List.flatMap_append, List.flatMap_cons, List.flatMap_nil, List.append_nil, hQ3, List.append_assoc]⟩ ⟨rfl, rfl, rfl, rfl, rfl, trivial⟩ (fun h => h) (by show List.length p.2.2.1.2.2 - (m + 1) < List.length p.2.2.1.2.2 - m; omega)
    have hgem' : List.length p.2.2.1.2.2 ≤ m := by simpa using hgem
    rw [List.take_of_length_le hgem'] at hQ3
    have hfin : acc3 = acc ++ seenP p := by rw [hQ3, hQ2, hse, List.append_assoc]
    rw [hfin]
    refine CW.exit rfl ?_
    refine PW.code ?_
    refine CW.region ?_
    refine Jc ?_
    refine RW.add rfl rfl (w64 (by omega) (by omega)) rfl ?_
    refine Jd ?_
    refine RW.nil ?_
    exact PW.again ⟨(i + 1, v3, acc ++ seenP p), hlti', by show acc ++ seenP p = _; rw [hts, List.flatMap_append, ← hQ, List.flatMap_cons, List.flatMap_nil, List.append_nil], by show (acc ++ seenP p).length ≤ 64 * (i + 1); rw [List.length_append]; omega⟩ ⟨rfl, rfl, rfl, trivial⟩ (fun h => h.take [1, 2]) (by show (prU r).length - (i + 1) < (prU r).length - i; omega)
  have hse : seenP p = [p.2.2.2.1, p.2.2.2.2] := by unfold seenP; rw [if_neg h1, if_neg h2]
  have hl5 : (seenP p).length ≤ 2 := by rw [hse]; exact Nat.le_refl _
  refine CW.region ?_
  refine Jc ?_;refine Je ?_;refine JA ?_;refine Je ?_;refine JA ?_
  refine RW.buildSlice (e := 9) (c := [.string p.2.2.2.1, .string p.2.2.2.2]) rfl (fun w => by kernel_rfl) rfl fun b27 _ => ?_
  refine RW.append [_, _] (e := 9) (sz := 1) (news := [p.2.2.2.1, p.2.2.2.2].map strE) (zc := [.string ByteArray.empty]) rfl rfl rfl rfl rfl (by simp) (by simp [Value.oneCell']) (fun w hw hn => ?_) ?_ ?_ rfl fun u5 => ?_
  · exact ⟨b27, 0, rfl, CellsAt.of_blk (St.blk (pre := []) hw)⟩
  · rw [List.length_map]; omega
  · rw [List.length_map]; unfold maxN; omega
  rw [← List.map_append, ← hse]
  refine RW.take [1, 2, 3] ?_
  refine Jd ?_;refine RW.nil (PW.code ?_)
  refine CW.region ?_
  refine Jc ?_
  refine RW.add rfl rfl (w64 (by omega) (by omega)) rfl ?_
  refine Jd ?_
  refine RW.nil ?_
  exact PW.again ⟨(i + 1, u5, acc ++ seenP p), hlti', by show acc ++ seenP p = _; rw [hts, List.flatMap_append, ← hQ, List.flatMap_cons, List.flatMap_nil, List.append_nil], by show (acc ++ seenP p).length ≤ 64 * (i + 1); rw [List.length_append]; omega⟩ ⟨rfl, rfl, rfl, trivial⟩ (fun h => h.take [1, 2]) (by show (prU r).length - (i + 1) < (prU r).length - i; omega)
end Go.Proofs.YtkfmlekomfnleaaGreat
/- The document's Vars. Conditions: none. -/
set_option linter.unusedVariables false
set_option linter.unusedSimpArgs false
set_option maxRecDepth 10000
namespace Go.Proofs.YtkfmlekomfnleaaGreat
open Go Go.RowKit Go.MapKept

/-- Each variable once, with its number. -/
def rVarsL (b : Bk) : List Str → List Int → List Str → List Str × List Int
  | ns, ks, [] => (ns, ks)
  | ns, ks, x :: r => if isVarD x = true then (if atN ns x < 0 then rVarsL b (ns ++ [x]) (ks ++ [(b.kinds[(atN b.names x).toNat]?).getD 0]) r else rVarsL b ns ks r) else rVarsL b ns ks r
def ruleU (s : kStat.V) (n : Int) : kRule.V := ((sRules s)[n.toNat]?).getD noRule
def rVars (s : kStat.V) (n : Int) : List Str × List Int × Int :=
  if ¬ (rCheck s).1 = 0 then ([], [], (rCheck s).1)
  else if n < 0 then ([], [], 1) else if ((sRules s).length : Int) ≤ n then ([], [], 1)
  else ((rVarsL (rRule s noBk n.toNat (ruleU s n)).2 [] [] (rSeen (ruleU s n))).1, (rVarsL (rRule s noBk n.toNat (ruleU s n)).2 [] [] (rSeen (ruleU s n))).2, 0)
/-- What has passed. -/
def Passed (s : kStat.V) : Prop := fourK s ∧ ∀ n r, (sRules s)[n]? = some r → Short r ∧ ∀ x ∈ rSeen r, isVarD x = true → ¬ atN (rRule s noBk n r).2.names x < 0
theorem seen_len {r : kRule.V} (hs : Short r) : (rSeen r).length ≤ 1028 := by
  have h1 : ∀ p ∈ prU r, (seenP p).length ≤ 64 := fun p hp => by
    unfold seenP
    split
    · rename_i e; have := hs.lit p hp e; omega
    split
    · rename_i e
      have sL := hs.left p hp e
      have sR := hs.right p hp e
      have fL := flat_len (f := argsT) (l := p.2.2.1.1) sL.2
      have fR := flat_len (f := argsT) (l := p.2.2.1.2.2) sR.2
      rw [List.length_append]
      have := sL.1
      have := sR.1
      omega
    · exact (by decide : 2 ≤ 64)
  have h2 := flat_len h1
  have h3 := hs.prems
  have h4 := hs.head
  unfold rSeen
  rw [List.length_append]
  omega
theorem rule_ok {s : kStat.V} (hK : fourK s) {b : Bk} {n : Nat} {r : kRule.V} (hp : (prU r).length ≤ 16) (h : BkOK b) : BkOK (rRule s b n r).2 ∧ (rRule s b n r).2.names.length ≤ b.names.length + 1028 := by
  obtain ⟨h1, h2, h3⟩ := body_ok hK (r := r) h
  obtain ⟨g1, g2, g3⟩ := lit_ok hK (l := hdU r) h1
  unfold rRule
  split
  · exact ⟨h, by simp⟩
  split
  · exact ⟨h1, by omega⟩
  split
  · exact ⟨g1, by show (rLit s (rBody s b r).2 (hdU r)).2.names.length ≤ _; omega⟩
  · exact ⟨g1, by show (rLit s (rBody s b r).2 (hdU r)).2.names.length ≤ _; omega⟩
attribute [local irreducible] RW CW
set_option maxHeartbeats 32000000 in
theorem ref_vars_ret {s : kStat.V} {x : RC} {n : Int} {w : World} (hst : StatOn (mem w (fun b => ¬ No b)) s x) (hg : (rCheck s).1 = 0 → Passed s) :
    RetC Tryz.prog 10 [.agg (x.stat s).toArray, .int .i64 n] w No (fun q : Value × Value => .tuple #[q.1, q.2, .int .i64 (rVars s n).2.2]) (fun q => [ownHP 9 1 q.1 ((rVars s n).1.map strE), ownHP 3 1 q.2 ((rVars s n).2.1.map numE)]) := by
  generalize hV : rVars s n = V
  unfold rVars at hV
  have nilH : ∀ (w2 : World) (H : List HP), St w No H w2 → St w No [ownHP 9 1 (.slice none 0 0) (([] : List Str).map strE), ownHP 3 1 (.slice none 0 0) (([] : List Int).map numE)] w2 := fun w2 H hw =>
    ⟨hw.kp, No, fun b hb => hb.elim, .inl ⟨rfl, rfl⟩, No, fun b hb => hb.elim, .inl ⟨rfl, rfl⟩, trivial⟩
  have hle : Mem.le (mem w (fun b => ¬ No b)) (mem w (fun b => ¬ No b)) := Mem.le_refl _
  have hsm := sl_small hst.rules
  unfold reach at hsm
  refine Calls.enter Tryz.func10 rfl _ rfl rfl (S := No) (H := []) trivial ?_
  refine CW.seqR ?_
  refine RW.box_agg (l := x.stat s) rfl rfl fun b2 _ => ?_
  refine Jd ?_;refine Jd ?_;refine Jd ?_;refine Jb ?_;refine Ja ?_;refine JE ?_
  refine RW.call Tryz.call8 rfl (fun w2 hw => ref_check_ret (StatOn.mono hst (ro_call hw))) rfl ?_
  refine Jc ?_;refine Jt ?_;refine Jt ?_;refine Jd ?_;refine Jd ?_;refine Jb ?_
  refine CW.seq ?_
  refine Ja ?_;refine Jc ?_;refine Jj ?_;refine Jb ?_
  refine CW.ite rfl (fun h1 => ?_) (fun h1 => ?_)
  · rw [if_pos h1] at hV
    subst hV
    refine Ja ?_;refine Jc ?_;refine Jd ?_;refine Jd ?_;refine Jd ?_;refine Jb ?_
    exact CW.rets (rs := [.tmp 4, .tmp 5, .tmp 6]) (vs := [_, _, _]) rfl Tryz.results10 rfl (ResOK.tmp rfl (ResOK.tmp rfl (ResOK.tmp rfl ResOK.nil))) fun w hw => ⟨(.slice none 0 0, .slice none 0 0), rfl, nilH w _ hw⟩
  rw [if_neg h1] at hV
  obtain ⟨hK, hpass⟩ := hg (Decidable.of_not_not h1)
  refine CW.skip ?_
  refine PW.code ?_
  refine CW.seq ?_
  refine Ja ?_;refine Jc ?_;refine Jk ?_;refine Jc ?_
  refine RW.splitD 24 rfl (fun h2 => ?_) (fun h2 => ?_)
  · rw [if_pos h2] at hV
    subst hV
    refine Jz ?_;refine Jz ?_;refine Jz ?_;refine Jz ?_;refine Jz ?_;refine Jv ?_;refine Jb ?_
    refine CW.ct rfl ?_
    refine Ja ?_;refine Jd ?_;refine Jd ?_;refine Jd ?_;refine Jb ?_
    exact CW.rets (rs := [.tmp 4, .tmp 5, .tmp 6]) (vs := [_, _, _]) rfl Tryz.results10 rfl (ResOK.tmp rfl (ResOK.tmp rfl (ResOK.tmp rfl ResOK.nil))) fun w hw => ⟨(.slice none 0 0, .slice none 0 0), rfl, nilH w _ hw⟩
  rw [if_neg h2] at hV
  refine Jy ?_;refine Jc ?_;refine Jy ?_;refine Je ?_;refine Jy ?_;refine JA ?_;refine Jy ?_;refine Jg ?_;refine Jy ?_;refine Jn ?_;refine Jw ?_;refine Jb ?_
  refine CW.ite rfl (fun h3 => ?_) (fun h3 => ?_)
  · rw [if_pos h3] at hV
    subst hV
    refine Ja ?_;refine Jd ?_;refine Jd ?_;refine Jd ?_;refine Jb ?_
    exact CW.rets (rs := [.tmp 4, .tmp 5, .tmp 6]) (vs := [_, _, _]) rfl Tryz.results10 rfl (ResOK.tmp rfl (ResOK.tmp rfl (ResOK.tmp rfl ResOK.nil))) fun w hw => ⟨(.slice none 0 0, .slice none 0 0), rfl, nilH w _ hw⟩
  rw [if_neg h3] at hV
  obtain ⟨m, rfl⟩ : ∃ m : Nat, n = (m : Int) := ⟨n.toNat, by omega⟩
  have hm : m < (sRules s).length := by omega
  have hx : (sRules s)[m]? = some (ruleU s m) := by unfold ruleU; rw [Int.toNat_natCast, List.getElem?_eq_getElem hm]; rfl
  rw [Int.toNat_natCast] at hV
  obtain ⟨hsh, hvs⟩ := hpass m _ hx
  have hsl := seen_len hsh
  obtain ⟨gB, gN⟩ := rule_ok hK (n := m) hsh.prems noBk_ok
  have gN : (rRule s noBk m (ruleU s m)).2.names.length ≤ 1028 := by simpa [noBk] using gN
  obtain ⟨B0, O0, cs0, hA, hl1, hr, hmm⟩ := sl_get hst.rules hx
  have hr' := hr
  obtain ⟨PA, pc, HA, hc, rfl, _, _⟩ := Rd.ruleT hr
  generalize hrr : ruleU s m = r at *
  refine CW.skip ?_
  refine PW.code ?_
  refine Ja ?_
  refine RW.build (v := .agg #[.slice none 0 0, .slice none 0 0, .slice none 0 0]) rfl (fun w => by kernel_rfl) rfl ?_
  refine RW.box_agg (l := [.slice none 0 0, .slice none 0 0, .slice none 0 0]) rfl rfl fun b9 _ => ?_
  refine RW.add_ (ownHP 9 1 (.slice none 0 0) []) (fun w _ => .inl ⟨rfl, rfl⟩) ?_
  refine RW.add_ (ownHP 3 1 (.slice none 0 0) []) (fun w _ => .inl ⟨rfl, rfl⟩) ?_
  refine RW.add_ (ownHP 9 1 (.slice none 0 0) []) (fun w _ => .inl ⟨rfl, rfl⟩) ?_
  refine RW.take [4, 3, 0, 1, 2] ?_
  refine Jd ?_;refine Jb ?_;refine Ja ?_;refine Jc ?_;refine JE ?_;refine Jc ?_
  refine RW.callT [1, 2, 3, 4, 0] (bkH b9 noBk (.slice none 0 0, .slice none 0 0, .slice none 0 0)) rfl rfl rfl Tryz.call41 (fun w2 F2 hM h1 _ => ref_rule_ret (StatOn.mono hst hM) hx hK h1 noBk_ok (Nat.zero_le _) (Nat.zero_le _)) fun ⟨v1, v2, v3⟩ => ?_
  generalize hbb : (rRule s noBk m r).2 = b at *
  refine RW.take [4, 0, 1, 2, 3] ?_
  refine Jb ?_;refine Ja ?_;refine Je ?_;refine JA ?_;refine Jc ?_
  refine RW.indexAddrE hA rfl rfl (by omega) (by omega) rfl ?_
  refine RW.load_ros (cs := [.string r.1, .string r.2.1, .int .i64 r.2.2.1, .int .i64 r.2.2.2.1, .slice PA (prU r).length pc, .int .i64 r.2.2.2.2.2.1, .bool (hdU r).1, .string (hdU r).2.1, .slice HA (hdU r).2.2.1.length hc, .bool (hdU r).2.2.2.1, .int .i64 (hdU r).2.2.2.2]) rfl hle hmm rfl rfl (by simp) rfl ?_
  refine RW.callN Tryz.call42 rfl (fun w2 hw => ref_seen_ret (hr'.mono (ro_call hw)) hsh) rfl fun v10 => ?_
  refine RW.take [0, 2, 3, 4] ?_
  refine RW.add_ (ownHP 3 1 (.slice none 0 0) []) (fun w _ => .inl ⟨rfl, rfl⟩) ?_
  refine RW.add_ (ownHP 9 1 (.slice none 0 0) []) (fun w _ => .inl ⟨rfl, rfl⟩) ?_
  refine RW.take [2, 3, 4, 5, 0, 1] ?_
  obtain ⟨L, hL⟩ : ∃ L, rSeen r = L := ⟨_, rfl⟩
  rw [hL] at hV hvs hsl ⊢
  refine RW.have_ (φ := ∃ A c, v10 = .slice A L.length c ∧ (L.map strE ≠ [] → ∃ B, A = some ⟨B, 0, none⟩)) (fun w hw => ?_) (fun ⟨SA, sc, e10, hSB⟩ => ?_)
  · obtain ⟨A, c, e, f⟩ := own_shapeN (pre := []) hw
    rw [List.length_map] at e
    exact ⟨A, c, e, f⟩
  subst e10
  refine Jd ?_;refine Jb ?_;refine Ja ?_;refine Jd ?_;refine Jb ?_;refine Ja ?_;refine Jd ?_;refine Jb ?_
  refine CW.seq ?_
  refine Ja ?_;refine Jd ?_;refine Jb ?_
  refine CW.block ?_
  have hno := gB.namesOK (by omega)
  refine CW.loop (ι := { y : (Nat × Value × Value) × List Str × List Int // y.1.1 ≤ L.length ∧ rVarsL b [] [] L = rVarsL b y.2.1 y.2.2 (L.drop y.1.1) ∧ y.2.1.length ≤ y.1.1 ∧ y.2.2.length ≤ y.1.1 ∧ ∀ a ∈ y.2.1, isVarD a = true }) (fun y => [(9, ptrV b9), (10, .slice SA L.length sc), (11, y.1.1.2.1), (12, y.1.1.2.2), (13, .int .i64 y.1.1.1)]) (fun y => [ownHP 9 1 (.slice SA L.length sc) (L.map strE), blk b9 [v1, v2, v3] 126, ownHP 9 1 v1 (b.names.map strE), ownHP 3 1 v2 (b.kinds.map numE), ownHP 9 1 y.1.1.2.1 (y.1.2.1.map strE), ownHP 3 1 y.1.1.2.2 (y.1.2.2.map numE)]) (fun y => L.length - y.1.1.1) ⟨((0, .slice none 0 0, .slice none 0 0), [], []), Nat.zero_le _, rfl, Nat.le_refl _, Nat.le_refl _, fun a h => (by cases h)⟩ ⟨rfl, rfl, rfl, rfl, rfl, trivial⟩ (fun h => h) ?_
  intro ⟨⟨⟨k, v11, v12⟩, ns, ks⟩, hk, hS, hl1', hl2', hvar⟩
  dsimp only at hk hS hl1' hl2' hvar ⊢
  refine CW.seq ?_
  refine Ja ?_;refine Jc ?_;refine Jc ?_;refine Jg ?_;refine Jk ?_;refine Jb ?_
  refine CW.ite rfl (fun hlt => ?_) (fun hge => ?_)
  rotate_left
  · have hge' : L.length ≤ k := by simpa using hge
    rw [List.drop_eq_nil_of_le hge'] at hS
    rw [hS] at hV
    subst hV
    refine CW.exit rfl ?_
    refine PW.code ?_
    refine Ja ?_;refine Jc ?_;refine Jc ?_;refine Jd ?_;refine Jd ?_;refine Jd ?_;refine Jb ?_
    exact CW.rets (rs := [.tmp 4, .tmp 5, .tmp 6]) (vs := [_, _, _]) rfl Tryz.results10 rfl (ResOK.tmp rfl (ResOK.tmp rfl (ResOK.tmp rfl ResOK.nil))) fun w hw => ⟨(v11, v12), rfl, hw.take [4, 5]⟩
  have hlt' : k < L.length := by simpa using hlt
  obtain ⟨SB, rfl⟩ := hSB (by intro h; rw [List.map_eq_nil_iff] at h; rw [h] at hlt'; simp at hlt')
  have hce : (L.map strE)[k]? = some (strE L[k]) := by rw [List.getElem?_map, List.getElem?_eq_getElem hlt']; rfl
  rw [List.drop_eq_getElem_cons hlt', rVarsL] at hS
  have hxin : L[k] ∈ L := List.getElem_mem hlt'
  generalize hxx : L[k] = x0 at *
  refine CW.skip ?_
  refine PW.code ?_
  refine CW.seq ?_
  refine CW.block ?_
  refine CW.seqR ?_
  refine Jc ?_;refine Jc ?_
  refine RW.indexAddr rfl rfl (by omega) hlt rfl ?_
  refine RW.loadOwn1 [] (i := k) (j := 0) rfl (by simp) hce rfl rfl rfl ?_
  skip
  refine RW.call Tryz.call43 rfl (fun w2 hw => r8_IsVar_ret) rfl ?_
  refine Jc ?_
  cases hv : isVarD x0 with
  | false =>
    rw [if_neg (by rw [hv]; simp)] at hS
    refine Jz ?_;refine Jz ?_;refine Jz ?_;refine Jz ?_;refine Jz ?_;refine Jz ?_;refine Jz ?_;refine Jw ?_;refine Jb ?_
    refine CW.cf rfl ?_
    refine CW.skip ?_
    refine PW.code ?_
    refine CW.region ?_
    refine Jc ?_
    refine RW.add rfl rfl (w64 (by omega) (by omega)) rfl ?_
    refine Jd ?_
    refine RW.nil ?_
    exact PW.again ⟨((k + 1, v11, v12), ns, ks), hlt', hS, by show ns.length ≤ k + 1; omega, by show ks.length ≤ k + 1; omega, hvar⟩ ⟨rfl, rfl, rfl, rfl, rfl, trivial⟩ (fun h => h) (by show L.length - (k + 1) < L.length - k; omega)
  | true =>
    rw [if_pos hv] at hS
    have hns : NamesOK ns := ⟨fun a ha => var_sizeU (hvar a ha), by unfold reach; omega⟩
    refine Jy ?_;refine Jc ?_;refine Jy ?_;refine Jc ?_;refine Jy ?_;refine Jc ?_;refine Jy ?_
    refine RW.indexAddr rfl rfl (by omega) hlt rfl ?_
    refine Jy ?_
    refine RW.loadOwn1 [] (i := k) (j := 0) rfl (by simp) hce rfl rfl rfl ?_
    refine Jy ?_
    refine RW.call Tryz.call44 rfl (fun w2 hw => find_own (pre := [_, _, _, _]) hw hns) rfl ?_
    refine Jy ?_;refine Jk ?_;refine Jv ?_;refine Jb ?_
    refine CW.ite rfl (fun h4 => ?_) (fun h4 => ?_)
    · rw [if_pos h4] at hS
      have hb0 := hvs x0 hxin hv
      obtain ⟨kx, hkx, ekx, _⟩ := atN_in hb0
      have hkk : kx < b.kinds.length := by rw [gB.len]; exact hkx
      rw [ekx, show (b.kinds[(kx : Int).toNat]?).getD 0 = b.kinds[kx] by rw [Int.toNat_natCast, List.getElem?_eq_getElem hkk]; rfl] at hS
      have hck : (b.kinds.map numE)[kx]? = some (numE b.kinds[kx]) := by rw [List.getElem?_map, List.getElem?_eq_getElem hkk]; rfl
      generalize hnum : b.kinds[kx] = num at *
      refine CW.have_ (φ := ∃ B c, v2 = .slice (some ⟨B, 0, none⟩) b.kinds.length c) (fun w hw => ?_) (fun ⟨KB, kc, hKB⟩ => ?_)
      · rcases own_form (pre := [_, _, _]) hw with ⟨_, h2⟩ | ⟨B, c, h2, _⟩
        · rw [h2] at hck; simp at hck
        · rw [List.length_map] at h2; exact ⟨B, c, h2⟩
      subst hKB
      refine CW.seqR ?_
      refine Jc ?_;refine Jc ?_;refine Jc ?_
      refine RW.indexAddr rfl rfl (by omega) hlt rfl ?_
      refine RW.loadOwn1 [] (i := k) (j := 0) rfl (by simp) hce rfl rfl rfl ?_
      refine RW.buildSlice (e := 9) (c := [.string x0]) rfl (fun w => by kernel_rfl) rfl fun b68 _ => ?_
      refine RW.append [_, _, _, _, _] (e := 9) (sz := 1) (news := [[.string x0]]) (zc := [.string ByteArray.empty]) rfl rfl rfl rfl rfl (by simp) (by simp [Value.oneCell']) (fun w hw hn => ?_) ?_ ?_ rfl fun u1 => ?_
      · exact ⟨b68, 0, rfl, CellsAt.of_blk (St.blk (pre := []) hw)⟩
      · rw [List.length_map]; omega
      · rw [List.length_map]; unfold maxN; omega
      refine RW.take [1, 2, 3, 4, 5, 6] ?_
      refine Jd ?_;refine Jb ?_
      refine CW.anyV (by kernel_rfl) rfl ?_
      repeat (apply AW.val rfl; · intro Gx X; (first | refine RW.yes rfl ?_ | skip); (first|refine Jc ?_|refine Jd ?_|refine Je ?_|refine Jf ?_|refine Jg ?_|refine Jh ?_|refine Ji ?_|refine Jj ?_|refine Jk ?_|refine Jl ?_|refine Jm ?_|refine Jn ?_|refine Jo ?_|refine Jp ?_|refine Jq ?_|refine Jr ?_|refine Js ?_|refine Jt ?_|refine Ju ?_|refine Jv ?_|refine Jw ?_|refine Jx ?_|refine Jz ?_|refine JA ?_|refine JB ?_|refine JC ?_|refine JD ?_|refine JE ?_|refine JF ?_|refine JG ?_|refine JH ?_|refine JI ?_|refine JJ ?_|refine JK ?_|refine JL ?_); exact RW.done rfl)
      (apply AW.val rfl; · intro Gx X; (first | refine RW.yes rfl ?_ | skip); refine RW.indexAddr rfl rfl (by omega) hlt rfl ?_; exact RW.done rfl)
      (apply AW.val rfl; · intro Gx X; (first | refine RW.yes rfl ?_ | skip); refine RW.loadOwn1 [] (i := k) (j := 0) rfl (by simp) hce rfl rfl rfl ?_; exact RW.done rfl)
      (apply AW.val rfl; · intro Gx X; (first | refine RW.yes rfl ?_ | skip); refine RW.call Tryz.call44 rfl (fun w2 hw => ekx ▸ find_own (pre := [_, _]) hw hno) rfl ?_; exact RW.done rfl)
      (apply AW.val rfl; · intro Gx X; (first | refine RW.yes rfl ?_ | skip); refine RW.indexAddr rfl rfl (by omega) (by omega) rfl ?_; exact RW.done rfl)
      (apply AW.val rfl; · intro Gx X; (first | refine RW.yes rfl ?_ | skip); refine RW.loadOwn1 [_, _, _] (i := kx) (j := 0) rfl (by simp) hck rfl rfl rfl ?_; exact RW.done rfl)
      (apply AW.gen (fun b => .slice (some ⟨b, 0, none⟩) 1 1) (fun b => blk b [.int .i64 num] 3) rfl; · intro Gx X; refine RW.buildSlice (e := 3) (c := [.int .i64 num]) rfl (fun w => by kernel_rfl) rfl fun b _ => ?_; exact RW.done_gen rfl)
      refine AW.stop (by kernel_rfl) (by kernel_rfl) fun bs => ?_
      refine RW.append [_, _, _, _, _] (e := 3) (sz := 1) (news := [[.int .i64 num]]) (zc := [.int .i64 0]) rfl rfl rfl rfl rfl (by simp) (by simp [Value.oneCell']) (fun w hw hn => ?_) ?_ ?_ rfl fun u2 => ?_
      · exact ⟨bs 86, 0, rfl, CellsAt.of_blk (St.blk (pre := [_, _, _, _, _, _]) hw)⟩
      · rw [List.length_map]; omega
      · rw [List.length_map]; unfold maxN; omega
      refine RW.take [0, 1, 2, 3, 4, 5] ?_
      refine Jd ?_;refine RW.nil (PW.code ?_)
      refine CW.region ?_
      refine Jc ?_
      refine RW.add rfl rfl (w64 (by omega) (by omega)) rfl ?_
      refine Jd ?_
      refine RW.nil ?_
      refine PW.again ⟨((k + 1, u1, u2), ns ++ [x0], ks ++ [num]), hlt', hS, by show (ns ++ [x0]).length ≤ k + 1; rw [List.length_append, List.length_singleton]; omega, by show (ks ++ [num]).length ≤ k + 1; rw [List.length_append, List.length_singleton]; omega, fun a ha => ?_⟩ ⟨rfl, rfl, rfl, rfl, rfl, trivial⟩ (fun h => ?_) (by show L.length - (k + 1) < L.length - k; omega)
      · rcases List.mem_append.1 ha with ha | ha
        · exact hvar a ha
        · rw [List.mem_singleton.1 ha]; exact hv
      · dsimp only
        rw [List.map_append, List.map_append]
        exact h
    · rw [if_neg h4] at hS
      refine CW.skip ?_
      refine PW.code ?_
      refine CW.region ?_
      refine Jc ?_
      refine RW.add rfl rfl (w64 (by omega) (by omega)) rfl ?_
      refine Jd ?_
      refine RW.nil ?_
      exact PW.again ⟨((k + 1, v11, v12), ns, ks), hlt', hS, by show ns.length ≤ k + 1; omega, by show ks.length ≤ k + 1; omega, hvar⟩ ⟨rfl, rfl, rfl, rfl, rfl, trivial⟩ (fun h => h) (by show L.length - (k + 1) < L.length - k; omega)
end Go.Proofs.YtkfmlekomfnleaaGreat
/- The plain law of Check, first part: items without variables: the document's codes are the resolver's. Conditions: none. -/
set_option linter.unusedVariables false
set_option linter.unusedSimpArgs false
set_option maxRecDepth 10000
namespace Go.Proofs.YtkfmlekomfnleaaGreat
open Go Go.RowKit

/-- An answer with a code; what holds of what passes. -/
def IsP {α : Type} (x : Ex α) (c a : Int) (φ : α → Prop) : Prop := (c = 0 → ∃ v, x = .ok v ∧ φ v) ∧ (¬ c = 0 → x = .error (c, a))
section
variable {α β : Type} {x : Ex α} {k : α → Ex β} {c c1 c2 a e : Int} {φ : α → Prop} {ψ : β → Prop}
theorem IsP.ok {v : α} (h : φ v) : IsP (.ok v) 0 a φ := ⟨fun _ => ⟨v, rfl, h⟩, fun h => absurd rfl h⟩
theorem IsP.want {b : Bool} (he : ¬ e = 0) : IsP (wantD b e a) (if b = true then 0 else e) a (fun _ => True) := by
  cases b with
  | true => exact ⟨fun _ => ⟨(), rfl, trivial⟩, fun h => absurd rfl h⟩
  | false => exact ⟨fun h => absurd h he, fun _ => rfl⟩
protected theorem IsP.bnd (h : IsP x c1 a φ) (hk : c1 = 0 → ∀ v, φ v → IsP (k v) c2 a ψ) : IsP (Go.Proofs.YtkfmlekomfnleaaGreat.bnd x k) (if c1 = 0 then c2 else c1) a ψ := by
  by_cases h1 : c1 = 0
  · obtain ⟨v, hv, hφ⟩ := h.1 h1
    rw [if_pos h1, bnd_ok hv]
    exact hk h1 v hφ
  · rw [if_neg h1, bnd_err (h.2 h1)]
    exact ⟨fun h => absurd h h1, fun _ => rfl⟩
theorem IsP.code (h : IsP x c a φ) (hc : c = c1) : IsP x c1 a φ := hc ▸ h
theorem IsP.imp {ψ : α → Prop} (h : IsP x c a φ) (hi : ∀ v, φ v → ψ v) : IsP x c a ψ := ⟨fun h0 => by obtain ⟨v, h1, h2⟩ := h.1 h0; exact ⟨v, h1, hi v h2⟩, h.2⟩
end
theorem fst?_le {l : List Str} {n : Nat} {x : Str} (h : l[n]? = some x) : ∃ j, fst? l x = some j ∧ 0 ≤ j ∧ j ≤ (n : Int) := by
  induction l generalizing n with
  | nil => simp at h
  | cons y l ih =>
    rw [fst?]
    by_cases hy : y = x
    · exact ⟨0, by rw [if_pos hy], by omega, by omega⟩
    · cases n with
      | zero => simp at h; exact absurd h hy
      | succ n =>
        obtain ⟨j, h1, h2, h3⟩ := ih (by simpa using h)
        exact ⟨j + 1, by rw [if_neg hy, h1]; rfl, by omega, by omega⟩
section
variable {s : kStat.V} {a : Int}
theorem fresh_is {l : List Str} {x : Str} {n : Nat} (hx : l[n]? = some x) : IsP (freshD l a x n) (rNm l x n) a (fun _ => True) := by
  obtain ⟨j, h1, h2, h3⟩ := fst?_le hx
  have hd : decide ((getM (indexD l) x).getD 0 = (n : Int)) = decide (¬ atN l x < (n : Int)) := by
    rw [indexD_get]
    unfold atN
    rw [h1]
    exact decide_eq_decide.2 (by simp only [Option.getD_some]; omega)
  unfold freshD
  rw [hd]
  refine (IsP.bnd (IsP.want (by decide)) fun _ _ _ => IsP.bnd (IsP.want (by decide)) fun _ _ _ => IsP.ok trivial).code ?_
  unfold rNm
  cases isNameD x with
  | false => rfl
  | true =>
    simp only [if_true]
    by_cases hlt : atN l x < (n : Int)
    · rw [if_pos hlt, decide_eq_false (not_not_intro hlt)]; rfl
    · rw [if_neg hlt, decide_eq_true hlt]; rfl
theorem some_atN {l : List Str} {x : Str} : (fst? l x).isSome = decide (¬ atN l x < 0) := by
  rw [Bool.eq_iff_iff, decide_eq_true_iff]
  cases h : fst? l x with
  | none => exact ⟨fun k => (by cases k), fun k => absurd (atN_neg.2 h) k⟩
  | some i => exact ⟨fun _ k => (by rw [atN_neg.1 k] at h; cases h), fun _ => rfl⟩
theorem kind_is {k : Str} : IsP (kindD s a k) (if atN (sKinds s) k < 0 then 81 else 0) a (fun _ => True) := by
  unfold kindD
  rw [indexD_get, some_atN]
  refine (IsP.bnd (IsP.want (by decide)) fun _ _ _ => IsP.ok trivial).code ?_
  by_cases h : atN (sKinds s) k < 0
  · rw [if_pos h, decide_eq_false (not_not_intro h)]; rfl
  · rw [if_neg h, decide_eq_true h]; rfl
theorem kinds_is {l : List Str} : IsP (allX (kindD s a) l) (if rKinds s l = true then 0 else 81) a (fun _ => True) := by
  induction l with
  | nil => exact IsP.ok trivial
  | cons k l ih =>
    refine (IsP.bnd (kind_is (s := s) (a := a) (k := k)) fun _ _ _ => ih).code ?_
    rw [rKinds_cons]
    by_cases h : atN (sKinds s) k < 0
    · rw [if_pos h, decide_eq_false (not_not_intro h), Bool.false_and]; rfl
    · rw [if_neg h, decide_eq_true h, Bool.true_and]; rfl
theorem may_money {v : Int} : decide (moneyD v = 0) = mayD v := by
  unfold moneyD mayD
  by_cases h1 : v < -1000000000000000
  · rw [if_pos h1, decide_eq_false (show ¬ -1000000000000000 ≤ v by omega)]; rfl
  · rw [if_neg h1, decide_eq_true (show -1000000000000000 ≤ v by omega), Bool.true_and]
    by_cases h2 : 1000000000000000 < v
    · rw [if_pos h2, decide_eq_false (show ¬ v ≤ 1000000000000000 by omega)]; rfl
    · rw [if_neg h2, decide_eq_true (show v ≤ 1000000000000000 by omega)]; rfl
theorem has_mem {l : List Int} {v : Int} : hasD l v = decide (v ∈ l) := by
  unfold hasD
  rw [Bool.eq_iff_iff]
  simp
theorem vals_is : ∀ {vals pre : List Int} {m : List (Int × Int)}, (∀ v, (getM m v).getD 0 = 0 ↔ v ∉ pre) → IsP (foldX (seenD a) m vals) (if rVals pre vals = true then 0 else 85) a (fun _ => True) := by
  intro vals
  induction vals with
  | nil => intro pre m _; exact IsP.ok trivial
  | cons v r ih =>
    intro pre m hm
    have hstep : seenD a m v = bnd (wantD (decide (0 ≤ v) && mayD v && decide ((getM m v).getD 0 = 0)) 85 a) fun _ => .ok (putM m v 1) := by unfold seenD; rw [may_money]
    rw [rVals]
    show IsP (bnd (seenD a m v) fun m' => foldX (seenD a) m' r) _ _ _
    rw [hstep]
    refine (IsP.bnd (φ := fun m' => m' = putM m v 1) (c2 := if rVals (pre ++ [v]) r = true then 0 else 85) (IsP.bnd (IsP.want (by decide)) fun _ _ _ => IsP.ok rfl) fun _ m' hm' => ih fun u => ?_).code ?_
    · subst hm'
      rw [getM_put]
      by_cases hvu : v = u
      · subst hvu; simp
      · rw [if_neg hvu, hm u]
        simp [Ne.symm hvu]
    · have e : (decide (0 ≤ v) && mayD v && decide ((getM m v).getD 0 = 0)) = !(!mayD v || decide (v < 0) || hasD pre v) := by
        rw [has_mem, show decide (v < 0) = !decide (0 ≤ v) by rw [Bool.eq_iff_iff]; simp]
        have : decide ((getM m v).getD 0 = 0) = !decide (v ∈ pre) := by
          rw [Bool.eq_iff_iff]; simp [hm v]
        rw [this]
        cases decide (0 ≤ v) <;> cases mayD v <;> cases decide (v ∈ pre) <;> rfl
      rw [e]
      cases (!(!mayD v || decide (v < 0) || hasD pre v)) with
      | false => rfl
      | true => simp
theorem pred_is {p : kPredT.V} {n : Nat} (hx : (sPreds s)[n]? = some p) : IsP (predD s a p n) (rPred s p n) a (fun _ => True) := by
  have hx' : (pN s)[n]? = some p.1 := by rw [List.getElem?_map, hx]; rfl
  have h3 : IsP (if p.2.1 = 3 then bnd (wantD (decide (0 < (p.2.2.2.length : Int))) 85 a) fun _ => bnd (foldX (seenD a) [] p.2.2.2) fun _ => .ok () else bnd (wantD (decide ((p.2.2.2.length : Int) = 0)) 85 a) fun _ => .ok ()) (if decide (p.2.1 = 3) = decide (0 < (p.2.2.2.length : Int)) then (if rVals [] p.2.2.2 = true then 0 else 85) else 85) a (fun _ => True) := by
    by_cases h : p.2.1 = 3
    · rw [if_pos h, decide_eq_true h]
      refine (IsP.bnd (IsP.want (by decide)) fun _ _ _ => IsP.bnd (vals_is (pre := []) fun v => by simp [getM]) fun _ _ _ => IsP.ok trivial).code ?_
      cases decide (0 < (p.2.2.2.length : Int)) with
      | false => rfl
      | true =>
        simp only [if_true]
        by_cases hv : rVals [] p.2.2.2 = true
        · rw [if_pos hv]; rfl
        · rw [if_neg hv]; rfl
    · rw [if_neg h, decide_eq_false h]
      refine (IsP.bnd (IsP.want (by decide)) fun _ _ _ => IsP.ok trivial).code ?_
      by_cases h0 : (p.2.2.2.length : Int) = 0
      · have : p.2.2.2 = [] := List.eq_nil_of_length_eq_zero (by omega)
        rw [this]; rfl
      · rw [decide_eq_false h0, decide_eq_true (show 0 < (p.2.2.2.length : Int) by omega)]
        rfl
  unfold predD
  refine (IsP.bnd (fresh_is hx') fun _ _ _ => IsP.bnd (IsP.want (by decide)) fun _ _ _ => IsP.bnd (IsP.want (by decide)) fun _ _ _ => IsP.bnd kinds_is fun _ _ _ => h3).code ?_
  unfold rPred
  by_cases h1 : rNm (pN s) p.1 n = 0
  · rw [if_pos h1, if_pos h1]
    by_cases h2 : p.2.1 < 1
    · rw [if_pos h2, decide_eq_false (Int.not_le.2 h2 : ¬ (1 : Int) ≤ p.2.1)]; rfl
    by_cases h4 : 3 < p.2.1
    · rw [if_neg h2, if_pos h4, decide_eq_false (Int.not_le.2 h4 : ¬ (p.2.1 : Int) ≤ 3), Bool.and_false]; rfl
    rw [if_neg h2, if_neg h4, decide_eq_true (Int.not_lt.1 h2 : (1 : Int) ≤ p.2.1), decide_eq_true (Int.not_lt.1 h4 : (p.2.1 : Int) ≤ 3)]
    simp only [Bool.and_self, if_true]
    by_cases h5 : 4 < (p.2.2.1.length : Int)
    · rw [if_pos h5, decide_eq_false (show ¬ (p.2.2.1.length : Int) ≤ 4 by omega), Bool.false_and]; rfl
    by_cases h6 : 64 < (p.2.2.2.length : Int)
    · rw [if_neg h5, if_pos h6, decide_eq_false (show ¬ (p.2.2.2.length : Int) ≤ 64 by omega), Bool.and_false]; rfl
    rw [if_neg h5, if_neg h6, decide_eq_true (show (p.2.2.1.length : Int) ≤ 4 by omega), decide_eq_true (show (p.2.2.2.length : Int) ≤ 64 by omega)]
    simp only [Bool.and_self, if_true]
    by_cases h7 : rKinds s p.2.2.1 = true
    · rw [if_pos h7, if_pos h7]; rfl
    · rw [if_neg h7, if_neg h7]; rfl
  · rw [if_neg h1, if_neg h1]
end
end Go.Proofs.YtkfmlekomfnleaaGreat
/- The plain law of Check, second part: classes, sources, exceptions, totals: the document's codes are the resolver's. Conditions: none. -/
set_option linter.unusedVariables false
set_option linter.unusedSimpArgs false
set_option maxRecDepth 10000
namespace Go.Proofs.YtkfmlekomfnleaaGreat
open Go Go.RowKit

noncomputable instance memDec {α : Type} (x : α) (l : List α) : Decidable (x ∈ l) := Classical.propDecidable _
section
variable {β : Type} {k : Unit → Ex β} {c a e : Int} {b : Bool} {ψ : β → Prop} {p : Prop} [Decidable p]
theorem IsP.bad (he : ¬ e = 0) (hb : b = true ↔ ¬ p) (hk : ¬ p → IsP (k ()) c a ψ) : IsP (bnd (wantD b e a) k) (if p then e else c) a ψ := by
  by_cases h : p
  · rw [if_pos h]
    have : b = false := by cases b with
      | false => rfl
      | true => exact absurd h (hb.1 rfl)
    subst this
    exact ⟨fun h => absurd h he, fun _ => rfl⟩
  · rw [if_neg h]
    obtain rfl := hb.2 h
    exact hk h
theorem IsP.good (he : ¬ e = 0) (hb : b = true ↔ p) (hk : p → IsP (k ()) c a ψ) : IsP (bnd (wantD b e a) k) (if p then c else e) a ψ := by
  by_cases h : p
  · rw [if_pos h]
    obtain rfl := hb.2 h
    exact hk h
  · rw [if_neg h]
    have : b = false := by cases b with
      | false => rfl
      | true => exact absurd (hb.1 rfl) h
    subst this
    exact ⟨fun h => absurd h he, fun _ => rfl⟩
theorem IsP.fin {α : Type} {x : Ex α} {c a : Int} {φ : α → Prop} (h : IsP x c a φ) : IsP (bnd x .ok) c a φ := by
  rw [show bnd x .ok = x by cases x <;> rfl]; exact h
theorem if_two {p q : Prop} [Decidable p] [Decidable q] {e c : Int} : (if p then e else if q then e else c) = if p ∨ q then e else c := by
  by_cases hp : p
  · rw [if_pos hp, if_pos (.inl hp)]
  · rw [if_neg hp]
    by_cases hq : q
    · rw [if_pos hq, if_pos (.inr hq)]
    · rw [if_neg hq, if_neg (by rintro (h | h) <;> contradiction)]
/-- A code of what goes ahead, then another's. -/
theorem IsP.then {α : Type} {x : Ex α} {k : α → Ex β} {c1 : Int} {φ : α → Prop} (h : IsP x c1 a φ) (hk : c1 = 0 → ∀ v, φ v → IsP (k v) c a ψ) : IsP (Go.Proofs.YtkfmlekomfnleaaGreat.bnd x k) (if c1 = 0 then c else c1) a ψ := IsP.bnd h hk
theorem IsP.thenN {α : Type} {x : Ex α} {k : α → Ex β} {c1 : Int} {φ : α → Prop} (h : IsP x c1 a φ) (hk : c1 = 0 → ∀ v, φ v → IsP (k v) c a ψ) : IsP (Go.Proofs.YtkfmlekomfnleaaGreat.bnd x k) (if ¬ c1 = 0 then c1 else c) a ψ := by
  have := IsP.bnd h hk
  by_cases h : c1 = 0
  · rw [if_neg (not_not_intro h)]; rwa [if_pos h] at this
  · rw [if_pos h]; rwa [if_neg h] at this
end
theorem isSome_atN {l : List Str} {x : Str} : (getM (indexD l) x).isSome = true ↔ ¬ atN l x < 0 := by
  rw [indexD_get, some_atN]; exact decide_eq_true_iff
theorem atN_mem {l : List Str} {x : Str} : atN l x < 0 ↔ x ∉ l := by
  rw [atN_neg]
  induction l with
  | nil => simp [fst?]
  | cons y l ih =>
    rw [fst?]
    by_cases h : y = x
    · rw [if_pos h]; simp [h]
    · rw [if_neg h, Option.map_eq_none_iff, ih]; simp [Ne.symm h]
theorem atN_mem' {l : List Str} {x : Str} : ¬ atN l x < 0 ↔ x ∈ l := by rw [atN_mem]; exact Decidable.not_not
theorem atN_ahead {p r : List Str} {x : Str} : atN (p ++ x :: r) x < (p.length : Int) ↔ x ∈ p := by
  unfold atN
  rw [fst?_append]
  cases h : fst? p x with
  | some v =>
    have h1 := (fst?_some h).2.1
    refine ⟨fun _ => ?_, fun _ => by simpa using h1⟩
    refine atN_mem'.1 fun k => ?_
    rw [atN_neg.1 k] at h; cases h
  | none =>
    refine ⟨fun k => ?_, fun k => ?_⟩
    · simp [fst?] at k
    · exact absurd k (atN_mem.1 (atN_neg.2 h))
section
variable {s : kStat.V} {a : Int}
theorem pGet_at {x : Str} : (pGet s x).isSome = true ↔ ¬ atN (pN s) x < 0 := isSome_atN
theorem mGet_at {x : Str} : (mGet s x).isSome = true ↔ ¬ atN (mN s) x < 0 := isSome_atN
theorem rGet_at {x : Str} : (rGet s x).isSome = true ↔ ¬ atN (rN s) x < 0 := isSome_atN
theorem mark_step {κ : Type} [DecidableEq κ] {m : List (κ × Int)} {pre : List κ} {x : κ} (hm : ∀ u, (getM m u).getD 0 = 0 ↔ u ∉ pre) (u : κ) : (getM (putM m x 1) u).getD 0 = 0 ↔ u ∉ pre ++ [x] := by
  rw [getM_put]
  by_cases h : x = u
  · subst h; simp
  · rw [if_neg h, hm u]; simp [Ne.symm h]
theorem taken_any {n : Nat} {x : Str} : ((sClasses s).take n).any (fun c => decide (0 ≤ atN c x)) = true ↔ x ∈ ((sClasses s).take n).flatten := by
  rw [List.any_eq_true, List.mem_flatten]
  refine ⟨fun ⟨c, h1, h2⟩ => ⟨c, h1, ?_⟩, fun ⟨c, h1, h2⟩ => ⟨c, h1, ?_⟩⟩
  · have : 0 ≤ atN c x := of_decide_eq_true h2
    exact atN_mem'.1 (by omega)
  · have := atN_mem'.2 h2
    exact decide_eq_true (by omega)
theorem cls_is {n : Nat} {l : List Str} : ∀ {r p : List Str} {m : List (Str × Int)}, l = p ++ r → (∀ u, (getM m u).getD 0 = 0 ↔ u ∉ ((sClasses s).take n).flatten ++ p) →
    IsP (foldX (classStep s a (l[0]?.getD ByteArray.empty)) m r) (rCls s n l r p.length) a (fun m' => ∀ u, (getM m' u).getD 0 = 0 ↔ u ∉ ((sClasses s).take n).flatten ++ l) := by
  intro r
  induction r with
  | nil => intro p m hl hm; rw [List.append_nil] at hl; subst hl; exact IsP.ok hm
  | cons x r ih =>
    intro p m hl hm
    have hl2 : l = (p ++ [x]) ++ r := by rw [hl]; simp
    have h6 : ∀ {c : Int}, (if atN l x < (p.length : Int) then 6 else if ((sClasses s).take n).any (fun c => decide (0 ≤ atN c x)) = true then 6 else c) = if x ∈ ((sClasses s).take n).flatten ++ p then 6 else c := by
      intro c
      rw [if_two]
      refine ite_congr (propext ?_) (fun _ => rfl) (fun _ => rfl)
      rw [hl, atN_ahead, taken_any, List.mem_append]
      exact Or.comm
    rw [foldX, rCls, h6]
    unfold classStep
    rw [bnd_assoc]
    refine IsP.bad (by decide) pGet_at fun h1 => ?_
    rw [bnd_assoc]
    refine IsP.bad (by decide) (by rw [decide_eq_true_iff]; exact Decidable.not_not.symm) fun h2 => ?_
    rw [bnd_assoc]
    refine IsP.good (by decide) decide_eq_true_iff fun h3 => ?_
    rw [bnd_assoc]
    refine IsP.bad (by decide) (by rw [decide_eq_true_iff]; exact hm x) fun h4 => ?_
    have := ih (p := p ++ [x]) (m := putM m x 1) hl2 (fun u => by rw [← List.append_assoc]; exact mark_step hm u)
    rw [List.length_append] at this
    exact this
theorem class_is {i : Int} {n : Nat} {l : List Str} {m : List (Str × Int)} (hm : ∀ u, (getM m u).getD 0 = 0 ↔ u ∉ ((sClasses s).take n).flatten) :
    IsP (classItemD s a i m l) (rClass s n l) a (fun m' => ∀ u, (getM m' u).getD 0 = 0 ↔ u ∉ ((sClasses s).take n).flatten ++ l) := by
  unfold classItemD classD rClass
  refine IsP.fin ?_
  rw [if_two]
  refine IsP.bad (by decide) ?_ fun h1 => IsP.fin ?_
  · simp only [Bool.and_eq_true, decide_eq_true_eq]; omega
  · have := cls_is (s := s) (a := a) (n := n) (l := l) (r := l) (p := []) (m := m) rfl (fun u => by rw [List.append_nil]; exact hm u)
    exact this
theorem member_is {n : Nat} {x : kMember.V} (hx : (sMembers s)[n]? = some x) : IsP (memberItemD s a n () x) (rMem s x n) a (fun _ => True) := by
  have hx' : (mN s)[n]? = some x.1 := by rw [List.getElem?_map, hx]; rfl
  unfold memberItemD rMem
  refine IsP.then (fresh_is hx') fun _ _ _ => ?_
  exact (IsP.bnd (c2 := 0) kind_is fun _ _ _ => IsP.ok trivial).code (by by_cases h : atN (sKinds s) x.2 < 0 <;> simp [h])
theorem source_is {n : Nat} {x : kSource.V} (hx : (sSources s)[n]? = some x) : IsP (sourceItemD s a n () x) (rSrc s x n) a (fun _ => True) := by
  have hx' : (uN s)[n]? = some x.1 := by rw [List.getElem?_map, hx]; rfl
  unfold sourceItemD rSrc
  refine IsP.then (fresh_is hx') fun _ _ _ => ?_
  rw [if_two]
  have e : ∀ v : Int, (decide (0 ≤ v) && decide (v ≤ 1000)) = true ↔ ¬ (v < 0 ∨ 1000 < v) := fun v => by
    simp only [Bool.and_eq_true, decide_eq_true_eq]; omega
  exact IsP.bad (by decide) (e x.2) fun _ => IsP.ok trivial
theorem except_is {n : Nat} {x : kExc.V} {m : List (Strs2 × Int)} (hx : (sExcepts s)[n]? = some x) (hm : ∀ u : Strs2, (getM m u).getD 0 = 0 ↔ u ∉ ((sExcepts s).take n : List Strs2)) :
    IsP (exceptItemD s a n m x) (rExc s n x) a (fun m' => ∀ u : Strs2, (getM m' u).getD 0 = 0 ↔ u ∉ ((sExcepts s).take (n + 1) : List Strs2)) := by
  have ht : ((sExcepts s).take (n + 1) : List Strs2) = (sExcepts s).take n ++ [x] := by
    obtain ⟨h1, h2⟩ := List.getElem?_eq_some_iff.1 hx
    rw [← h2]
    exact List.take_succ_eq_append_getElem h1
  unfold exceptItemD rExc
  rw [if_two]
  refine IsP.bad (by decide) ?_ fun _ => ?_
  · rw [Bool.and_eq_true, rGet_at, rGet_at]
    exact not_or.symm
  refine IsP.bad (by decide) ?_ fun _ => IsP.ok fun u => ?_
  · rw [decide_eq_true_iff, hm x, List.any_eq_true]
    refine not_congr ⟨fun h => ⟨x, h, decide_eq_true rfl⟩, fun ⟨y, h1, h2⟩ => ?_⟩
    rw [← of_decide_eq_true h2]; exact h1
  · rw [ht]; exact mark_step hm u
theorem tot_is {t : kTotal.V} : ∀ {r p : List Str} {m : List (Str × Int)}, t.2.2.1 = p ++ r → (∀ u, (getM m u).getD 0 = 0 ↔ u ∉ p) →
    IsP (foldX (totalStep s a t.2.1) m r) (rTotL s t r p.length) a (fun _ => True) := by
  intro r
  induction r with
  | nil => intro p m hl hm; exact IsP.ok trivial
  | cons x r ih =>
    intro p m hl hm
    have hl2 : t.2.2.1 = (p ++ [x]) ++ r := by rw [hl]; simp
    rw [foldX, rTotL]
    unfold totalStep
    rw [bnd_assoc]
    refine IsP.bad (by decide) pGet_at fun h1 => ?_
    rw [bnd_assoc]
    refine IsP.bad (by decide) (by rw [decide_eq_true_iff]; exact Decidable.not_not.symm) fun h2 => ?_
    rw [if_two, bnd_assoc]
    refine IsP.bad (by decide) ?_ fun h3 => ?_
    · rw [Bool.and_eq_true, decide_eq_true_iff, decide_eq_true_iff, not_or, Decidable.not_not, Decidable.not_not]
    rw [bnd_assoc]
    refine IsP.bad (by decide) ?_ fun h4 => ?_
    · rw [decide_eq_true_iff, hm x, hl, atN_ahead]
    have := ih (p := p ++ [x]) (m := putM m x 1) hl2 (fun u => mark_step hm u)
    rw [List.length_append] at this
    exact this
theorem total_is {n : Nat} {t : kTotal.V} (hx : (sTotals s)[n]? = some t) : IsP (totalItemD s a n () t) (rTotal s t n) a (fun _ => True) := by
  have hx' : (tN s)[n]? = some t.1 := by rw [List.getElem?_map, hx]; rfl
  unfold totalItemD totalD rTotal
  refine IsP.then (fresh_is hx') fun _ _ _ => ?_
  refine (IsP.then (c := if (t.2.2.1.length : Int) = 0 then 3 else if 16 < (t.2.2.1.length : Int) then 3
    else if rTotL s t t.2.2.1 0 = 0 then
      if (t.2.2.2.1 && (!mayD t.2.2.2.2 || decide (t.2.2.2.2 < 0))) = true then 22 else if (!t.2.2.2.1 && decide (¬ t.2.2.2.2 = 0)) = true then 1 else 0
    else rTotL s t t.2.2.1 0) kind_is fun _ _ _ => ?_).code (by by_cases h : atN (sKinds s) t.2.1 < 0 <;> simp [h])
  rw [if_two]
  refine IsP.bad (by decide) ?_ fun _ => ?_
  · simp only [Bool.and_eq_true, decide_eq_true_eq]; omega
  refine IsP.then (tot_is (p := []) rfl fun u => by simp [getM]) fun _ _ _ => ?_
  refine IsP.bad (by decide) ?_ fun _ => ?_
  · rw [may_money]
    have : decide (t.2.2.2.2 < 0) = !decide (0 ≤ t.2.2.2.2) := by rw [Bool.eq_iff_iff]; simp
    rw [this]
    cases t.2.2.2.1 <;> cases decide (0 ≤ t.2.2.2.2) <;> cases mayD t.2.2.2.2 <;> decide
  refine IsP.bad (by decide) ?_ fun _ => IsP.ok trivial
  cases t.2.2.2.1 <;> simp
end
end Go.Proofs.YtkfmlekomfnleaaGreat
/- The plain law of Check, third part: rules: the document's book goes with the resolver's scope. Conditions: none. -/
set_option linter.unusedVariables false
set_option linter.unusedSimpArgs false
set_option maxRecDepth 10000
namespace Go.Proofs.YtkfmlekomfnleaaGreat
open Go Go.RowKit

/-- A variable, once. -/
def stepN (ns : List Str) (x : Str) : List Str := if isVarD x = true then (if atN ns x < 0 then ns ++ [x] else ns) else ns
def dn (ns : List Str) (l : List Str) : List Str := l.foldl stepN ns
theorem dn_snoc {ns l : List Str} {x : Str} : dn ns (l ++ [x]) = stepN (dn ns l) x := by unfold dn; rw [List.foldl_append]; rfl
structure Rel (s : kStat.V) (c : Sc) (b : Bk) (L : List Str) : Prop where
  names : c.names = dn [] L
  here : ∀ x, (getM c.km x).isSome = true ↔ x ∈ c.names
  bound : ∀ x ∈ b.names, ∃ k, getM c.km x = some k ∧ k ∈ sKinds s ∧ b.kinds[(atN b.names x).toNat]? = some (atN (sKinds s) k)
  free : ∀ x, x ∉ b.names → (getM c.km x).getD ByteArray.empty = ByteArray.empty
  loose : ∀ x ∈ b.loose, x ∈ c.names
  only : ∀ x ∈ c.names, x ∈ b.names ∨ x ∈ b.loose
  len : b.kinds.length = b.names.length
theorem not_both {x : Str} (h : isVarD x = true) : ¬ isNameD x = true := by
  unfold isVarD at h
  unfold isNameD
  simp only [Bool.and_eq_true] at h ⊢
  intro k
  have h1 := h.1.1
  have k1 := k.1.1
  unfold headB at h1 k1
  cases hx : x[0]? with
  | none => rw [hx] at h1; cases h1
  | some c =>
    rw [hx] at h1 k1
    simp only [bigD, smallD, Bool.and_eq_true, decide_eq_true_eq] at h1 k1
    omega
theorem no_name : ¬ isNameD ByteArray.empty = true := by decide
/-- What the document's items ahead of the rules have shown. -/
structure Fit (s : kStat.V) : Prop where
  kinds : ∀ p ∈ sPreds s, ∀ k ∈ p.2.2.1, k ∈ sKinds s
  no : ByteArray.empty ∉ sKinds s
  four : fourK s
theorem see_names {c : Sc} {x : Str} (hx : isVarD x = true) (h : ∀ x, (getM c.km x).isSome = true ↔ x ∈ c.names) : (seeD c x).names = stepN c.names x := by
  unfold seeD stepN
  rw [if_pos hx]
  have := h x
  cases hg : getM c.km x with
  | none =>
    rw [hg] at this
    have : x ∉ c.names := fun k => by have := this.2 k; cases this
    rw [if_pos (atN_mem.2 this)]
  | some k =>
    rw [hg] at this
    have : x ∈ c.names := this.1 rfl
    rw [if_neg (atN_mem'.2 this)]
theorem see_get {c : Sc} {x y : Str} : (getM (seeD c x).km y).getD ByteArray.empty = (getM c.km y).getD ByteArray.empty := by
  unfold seeD
  cases hg : getM c.km x with
  | some k => rfl
  | none =>
    show (getM (putM c.km x ByteArray.empty) y).getD _ = _
    rw [getM_put]
    by_cases h : x = y
    · subst h; rw [if_pos rfl, hg]; rfl
    · rw [if_neg h]
theorem see_some {c : Sc} {x y : Str} {k : Str} (h : getM c.km y = some k) : getM (seeD c x).km y = some k := by
  unfold seeD
  cases hg : getM c.km x with
  | some k => exact h
  | none =>
    show getM (putM c.km x ByteArray.empty) y = _
    rw [getM_put]
    by_cases hxy : x = y
    · subst hxy; rw [hg] at h; cases h
    · rw [if_neg hxy, h]
theorem see_here {c : Sc} {x : Str} (h : ∀ x, (getM c.km x).isSome = true ↔ x ∈ c.names) : ∀ y, (getM (seeD c x).km y).isSome = true ↔ y ∈ (seeD c x).names := by
  intro y
  unfold seeD
  cases hg : getM c.km x with
  | some k => exact h y
  | none =>
    show (getM (putM c.km x ByteArray.empty) y).isSome = true ↔ y ∈ c.names ++ [x]
    rw [getM_put]
    by_cases hxy : x = y
    · subst hxy; simp
    · rw [if_neg hxy, h y]; simp [Ne.symm hxy]
theorem see_mem {c : Sc} {x : Str} (h : ∀ x, (getM c.km x).isSome = true ↔ x ∈ c.names) (y : Str) : y ∈ (seeD c x).names ↔ y ∈ c.names ∨ y = x := by
  rw [← see_here h y, ← h y]
  unfold seeD
  cases hg : getM c.km x with
  | some k =>
    refine ⟨.inl, fun k => ?_⟩
    rcases k with k | k
    · exact k
    · subst k; rw [hg]; rfl
  | none =>
    show (getM (putM c.km x ByteArray.empty) y).isSome = true ↔ _
    rw [getM_put]
    by_cases hxy : x = y
    · subst hxy; simp
    · rw [if_neg hxy]; simp [Ne.symm hxy]
theorem Rel.skip {s : kStat.V} {c : Sc} {b : Bk} {L : List Str} {x : Str} (h : Rel s c b L) (hx : ¬ isVarD x = true) : Rel s c b (L ++ [x]) :=
  ⟨by rw [dn_snoc, stepN, if_neg hx]; exact h.names, h.here, h.bound, h.free, h.loose, h.only, h.len⟩
theorem Rel.see {s : kStat.V} {c : Sc} {b : Bk} {L : List Str} {x : Str} (h : Rel s c b L) (hx : isVarD x = true) : Rel s (seeD c x) ⟨b.names, b.kinds, b.loose ++ [x]⟩ (L ++ [x]) where
  names := by rw [dn_snoc, ← h.names]; exact see_names hx h.here
  here := see_here h.here
  bound y hy := by
    obtain ⟨k, h1, h2, h3⟩ := h.bound y hy
    exact ⟨k, see_some h1, h2, h3⟩
  free y hy := by rw [see_get]; exact h.free y hy
  loose y hy := by
    rw [see_mem h.here]
    rcases List.mem_append.1 hy with hy | hy
    · exact .inl (h.loose y hy)
    · exact .inr (List.mem_singleton.1 hy)
  only y hy := by
    rcases (see_mem h.here y).1 hy with hy | rfl
    · rcases h.only y hy with k | k
      · exact .inl k
      · exact .inr (List.mem_append.2 (.inl k))
    · exact .inr (List.mem_append.2 (.inr (List.mem_singleton.2 rfl)))
  len := h.len
theorem atN_last {l : List Str} {x : Str} (h : x ∉ l) : atN (l ++ [x]) x = (l.length : Int) := by
  unfold atN
  rw [fst?_append, atN_neg.1 (atN_mem.2 h)]
  simp [fst?]
theorem atN_app {l r : List Str} {x : Str} (h : x ∈ l) : atN (l ++ r) x = atN l x := by
  unfold atN
  rw [fst?_append]
  obtain ⟨v, hv⟩ := fst?_mem h
  rw [hv]
theorem Rel.mark {s : kStat.V} {c : Sc} {b b' : Bk} {L : List Str} {x k : Str} (h : Rel s c b L) (hx : isVarD x = true) (hk : k ∈ sKinds s)
    (hb : (x ∉ b.names ∧ b' = ⟨b.names ++ [x], b.kinds ++ [atN (sKinds s) k], b.loose⟩) ∨ (x ∈ b.names ∧ getM c.km x = some k ∧ b' = b)) : Rel s ⟨(seeD c x).names, putM (seeD c x).km x k⟩ b' (L ++ [x]) where
  names := by rw [dn_snoc, ← h.names]; exact see_names hx h.here
  here y := by
    show (getM (putM (seeD c x).km x k) y).isSome = true ↔ y ∈ (seeD c x).names
    rw [getM_put]
    by_cases hxy : x = y
    · subst hxy; rw [if_pos rfl, see_mem h.here]; simp
    · rw [if_neg hxy]; exact see_here h.here y
  bound y hy := by
    show ∃ k', getM (putM (seeD c x).km x k) y = some k' ∧ _
    rw [getM_put]
    rcases hb with ⟨hb, rfl⟩ | ⟨hb, hg, rfl⟩
    · by_cases hxy : x = y
      · subst hxy
        refine ⟨k, by rw [if_pos rfl], hk, ?_⟩
        show (b.kinds ++ [atN (sKinds s) k])[(atN (b.names ++ [x]) x).toNat]? = _
        rw [atN_last hb, Int.toNat_natCast, ← h.len]
        simp
      · have hy' : y ∈ b.names := by
          rcases List.mem_append.1 hy with hy | hy
          · exact hy
          · exact absurd (List.mem_singleton.1 hy).symm hxy
        obtain ⟨k', h1, h2, h3⟩ := h.bound y hy'
        refine ⟨k', by rw [if_neg hxy]; exact see_some h1, h2, ?_⟩
        show (b.kinds ++ [atN (sKinds s) k])[(atN (b.names ++ [x]) y).toNat]? = _
        rw [atN_app hy', List.getElem?_append_left (List.getElem?_eq_some_iff.1 h3).1]
        exact h3
    · obtain ⟨k', h1, h2, h3⟩ := h.bound y hy
      by_cases hxy : x = y
      · subst hxy
        rw [hg] at h1
        cases h1
        exact ⟨k, by rw [if_pos rfl], h2, h3⟩
      · exact ⟨k', by rw [if_neg hxy]; exact see_some h1, h2, h3⟩
  free y hy := by
    show (getM (putM (seeD c x).km x k) y).getD _ = _
    rw [getM_put]
    rcases hb with ⟨hb, rfl⟩ | ⟨hb, hg, rfl⟩
    · have hn : y ∉ b.names ∧ x ≠ y := ⟨fun k => hy (List.mem_append.2 (.inl k)), fun k => hy (List.mem_append.2 (.inr (List.mem_singleton.2 k.symm)))⟩
      rw [if_neg hn.2, see_get]
      exact h.free y hn.1
    · have : x ≠ y := fun e => hy (e ▸ hb)
      rw [if_neg this, see_get]
      exact h.free y hy
  loose y hy := by
    show y ∈ (seeD c x).names
    rw [see_mem h.here]
    rcases hb with ⟨_, rfl⟩ | ⟨_, _, rfl⟩ <;> exact .inl (h.loose y hy)
  only y hy := by
    rcases (see_mem h.here y).1 hy with hy | rfl
    · rcases hb with ⟨_, rfl⟩ | ⟨_, _, rfl⟩
      · rcases h.only y hy with k | k
        · exact .inl (List.mem_append.2 (.inl k))
        · exact .inr k
      · exact h.only y hy
    · rcases hb with ⟨_, rfl⟩ | ⟨hb, _, rfl⟩
      · exact .inl (List.mem_append.2 (.inr (List.mem_singleton.2 rfl)))
      · exact .inl hb
  len := by
    rcases hb with ⟨_, rfl⟩ | ⟨_, _, rfl⟩
    · show (b.kinds ++ [_]).length = (b.names ++ [_]).length
      rw [List.length_append, List.length_append, h.len]; rfl
    · exact h.len
theorem IsP.err {α : Type} {e c a : Int} {φ : α → Prop} (h : ¬ e = 0) (hc : c = e) : IsP (.error (e, a)) c a φ := by subst hc; exact ⟨fun k => absurd k h, fun _ => rfl⟩
/-- The resolver's answer goes with the document's code and book. -/
def IsQ (s : kStat.V) (x : Ex Sc) (z : Int × Bk) (a : Int) (L : List Str) : Prop := IsP x z.1 a (fun c => Rel s c z.2 L)
section
variable {s : kStat.V} {a e : Int} {k : Unit → Ex Sc} {z z2 : Int × Bk} {bk : Bk} {L M : List Str} {b : Bool} {p : Prop} [Decidable p] {x : Ex Sc} {kk : Sc → Ex Sc}
theorem IsQ.bad (he : ¬ e = 0) (hb : b = true ↔ ¬ p) (hk : ¬ p → IsQ s (k ()) z a L) : IsQ s (bnd (wantD b e a) k) (if p then (e, bk) else z) a L := by
  by_cases h : p
  · rw [if_pos h]
    have : b = false := by cases b with
      | false => rfl
      | true => exact absurd h (hb.1 rfl)
    subst this
    exact ⟨fun h => absurd h he, fun _ => rfl⟩
  · rw [if_neg h]
    obtain rfl := hb.2 h
    exact hk h
theorem IsQ.then (h : IsQ s x z a L) (hk : z.1 = 0 → ∀ c, Rel s c z.2 L → IsQ s (kk c) z2 a M) : IsQ s (bnd x kk) (if z.1 = 0 then z2 else z) a M := by
  by_cases h1 : z.1 = 0
  · rw [if_pos h1]
    obtain ⟨v, hv, hφ⟩ := h.1 h1
    rw [bnd_ok hv]
    exact hk h1 v hφ
  · rw [if_neg h1, bnd_err (h.2 h1)]
    exact ⟨fun h => absurd h h1, fun _ => rfl⟩
theorem IsQ.thenN (h : IsQ s x z a L) (hk : z.1 = 0 → ∀ c, Rel s c z.2 L → IsQ s (kk c) z2 a M) : IsQ s (bnd x kk) (if ¬ z.1 = 0 then z else z2) a M := by
  rw [ite_not]; exact IsQ.then h hk
theorem IsQ.fin (h : IsQ s x z a L) : IsQ s (bnd x .ok) z a L := IsP.fin h
theorem if_twoQ {α : Type} {p q : Prop} [Decidable p] [Decidable q] {e c : α} : (if p then e else if q then e else c) = if p ∨ q then e else c := by
  by_cases hp : p
  · rw [if_pos hp, if_pos (.inl hp)]
  · rw [if_neg hp]
    by_cases hq : q
    · rw [if_pos hq, if_pos (.inr hq)]
    · rw [if_neg hq, if_neg (by rintro (h | h) <;> contradiction)]
theorem foldQ {α : Type} {f : Sc → α → Ex Sc} {g : Bk → α → Int × Bk} {seen : α → List Str} : ∀ {l : List α}, (∀ x ∈ l, ∀ c b L, Rel s c b L → IsQ s (f c x) (g b x) a (L ++ seen x)) →
    ∀ {c b L}, Rel s c b L → IsQ s (foldX f c l) (foldC g b l) a (L ++ l.flatMap seen) := by
  intro l
  induction l with
  | nil => intro _ c b L h; rw [List.flatMap_nil, List.append_nil]; exact IsP.ok h
  | cons x l ih =>
    intro hf c b L h
    rw [foldX, foldC, List.flatMap_cons, ← List.append_assoc]
    exact IsQ.then (hf x (by simp) c b L h) fun _ c' h' => ih (fun y hy => hf y (by simp [hy])) h'
theorem foldX_append {α σ : Type} {f : σ → α → Ex σ} {l m : List α} {c : σ} : foldX f c (l ++ m) = bnd (foldX f c l) fun c' => foldX f c' m := by
  induction l generalizing c with
  | nil => rfl
  | cons x l ih =>
    rw [List.cons_append, foldX, foldX, bnd_assoc]
    congr 1
    funext c'
    exact ih
end
section
variable {s : kStat.V} {a : Int} {c : Sc} {b : Bk} {L : List Str}
theorem atN_inj {l : List Str} {x y : Str} (hx : x ∈ l) (hy : y ∈ l) (h : atN l x = atN l y) : x = y := by
  obtain ⟨i, _, h1, h2⟩ := atN_in (atN_mem'.2 hx)
  obtain ⟨j, _, h3, h4⟩ := atN_in (atN_mem'.2 hy)
  have : i = j := by rw [h1, h3] at h; omega
  subst this
  rw [h2] at h4
  exact Option.some.inj h4
theorem arg_is (hno : ByteArray.empty ∉ sKinds s) {x k : Str} (hk : k ∈ sKinds s) (h : Rel s c b L) : IsQ s (argD s a false c x k) (rArg s b x k) a (L ++ [x]) := by
  by_cases hv : isVarD x = true
  · unfold argD rArg
    rw [if_pos hv, if_neg (not_both hv), if_pos hv]
    show IsQ s (bnd (wantD (decide ((getM (seeD c x).km x).getD ByteArray.empty = ByteArray.empty) || decide ((getM (seeD c x).km x).getD ByteArray.empty = k)) 81 a) _) _ a _
    rw [see_get]
    by_cases hb : atN b.names x < 0
    · have hb' := atN_mem.1 hb
      rw [if_pos hb, h.free x hb', decide_eq_true rfl, Bool.true_or]
      exact IsP.ok (h.mark hv hk (.inl ⟨hb', rfl⟩))
    · have hb' := atN_mem'.1 hb
      obtain ⟨k', h1, h2, h3⟩ := h.bound x hb'
      have hne : ¬ k' = ByteArray.empty := fun e => hno (e ▸ h2)
      rw [if_neg hb, h1, h3]
      simp only [Option.getD_some]
      rw [decide_eq_false hne, Bool.false_or]
      by_cases hkk : k' = k
      · subst hkk
        rw [if_pos rfl, decide_eq_true rfl]
        exact IsP.ok (h.mark hv hk (.inr ⟨hb', h1, rfl⟩))
      · rw [if_neg (fun e => hkk (atN_inj h2 hk e)), decide_eq_false hkk]
        exact IsP.err (e := 81) (by decide) rfl
  · unfold argD rArg
    rw [if_neg hv, if_neg hv]
    by_cases hn : isNameD x = true
    · rw [if_pos hn, hn]
      show IsQ s (bnd (wantD (mGet s x).isSome 82 a) _) _ a _
      show IsP _ (if atN (mN s) x < 0 then 82 else if (memAt s x).2 = k then 0 else 81) a (fun c => Rel s c b _)
      refine IsP.bad (by decide) mGet_at fun _ => ?_
      exact IsP.good (by decide) decide_eq_true_iff fun _ => IsP.ok (h.skip hv)
    · rw [if_neg hn, Bool.eq_false_iff.2 hn]
      exact IsP.err (e := 71) (by decide) rfl
theorem args_is (hf : Fit s) {p : kPredT.V} (hp : p ∈ sPreds s) {l : List Str} (h : Rel s c b L) : IsQ s (argsD s a false c l p) (rArgs s b p l) a (L ++ l) := by
  unfold argsD rArgs
  refine IsQ.bad (by decide) (by rw [decide_eq_true_iff]; exact Decidable.not_not.symm) fun hl => IsQ.fin ?_
  have hl : (l.length : Int) = p.2.2.1.length := Decidable.of_not_not hl
  have := foldQ (s := s) (a := a) (f := fun x (y : Str × Str) => argD s a false x y.1 y.2) (g := fun b (y : Str × Str) => rArg s b y.1 y.2) (seen := fun y => [y.1]) (l := l.zip p.2.2.1) (fun y hy c b L h => arg_is hf.no (hf.kinds p hp _ (List.of_mem_zip hy).2) h) h
  rwa [show (l.zip p.2.2.1).flatMap (fun y => [y.1]) = l by rw [← List.map_eq_flatMap]; exact List.map_fst_zip (by omega)] at this
theorem pred_mem {x : Str} (h : ¬ atN (pN s) x < 0) : predAt s x ∈ sPreds s := by
  obtain ⟨k, h1, h2, _⟩ := atN_in h
  have hk : k < (sPreds s).length := by simpa using h1
  rw [pred_of h2 hk]
  exact List.getElem_mem hk
theorem lit_is (hf : Fit s) {l : kLitT.V} (h : Rel s c b L) : IsQ s (literalD s a false c l) (rLit s b l) a (L ++ l.2.2.1) := by
  unfold literalD rLit
  refine IsQ.bad (by decide) pGet_at fun h1 => ?_
  refine IsQ.bad (by decide) decide_eq_true_iff fun h2 => ?_
  refine IsQ.thenN (args_is hf (pred_mem h1) h) fun h3 c' h' => ?_
  generalize rArgs s b (predAt s l.2.1) l.2.2.1 = z at *
  have hh : hasD (predAt s l.2.1).2.2.2 l.2.2.2.2 = (predAt s l.2.1).2.2.2.any (fun x => decide (x = l.2.2.2.2)) := rfl
  show IsP _ (if ¬ l.2.2.2.1 = decide ((predAt s l.2.1).2.1 = 3) then 84 else if l.2.2.2.1 = true then (if hasD (predAt s l.2.1).2.2.2 l.2.2.2.2 = true then 0 else 85) else if ¬ l.2.2.2.2 = 0 then 84 else 0) a (fun c => Rel s c z.2 _)
  rw [← hh]
  generalize hasD (predAt s l.2.1).2.2.2 l.2.2.2.2 = B
  generalize decide ((predAt s l.2.1).2.1 = 3) = D
  cases hv : l.2.2.2.1 <;> cases D
  · by_cases h0 : l.2.2.2.2 = 0
    · rw [decide_eq_true h0]
      exact IsP.code (c := 0) (IsP.ok h') (by simp [h0])
    · rw [decide_eq_false h0]
      exact IsP.err (e := 84) (by decide) (by simp [h0])
  · exact IsP.err (e := 84) (by decide) (by simp)
  · exact IsP.err (e := 84) (by decide) (by simp)
  · cases B
    · exact IsP.err (e := 85) (by decide) (by simp)
    · exact IsP.code (c := 0) (IsP.ok h') (by simp)
theorem term_is (hf : Fit s) {t : kTerm.V} (h : Rel s c b L) : IsQ s (termD s a false c t) (rTerm s b t) a (L ++ argsT t) := by
  unfold termD rTerm
  by_cases h0 : t.2.1 = ByteArray.empty
  · rw [if_pos h0, if_pos h0]
    show IsP _ (if ¬ t.1 = 0 then 101 else if 0 < (t.2.2.1.length : Int) then 101 else if mayD t.2.2.2 = true then 0 else 22) a (fun c => Rel s c b _)
    rw [if_two]
    have e : ∀ (v : Int) (n : Nat), (decide (v = 0) && decide ((n : Int) = 0)) = true ↔ ¬ (¬ v = 0 ∨ 0 < (n : Int)) := fun v n => by
      rw [Bool.and_eq_true, decide_eq_true_iff, decide_eq_true_iff]; omega
    refine IsP.bad (by decide) (e _ _) fun h1 => ?_
    refine IsP.good (by decide) ?_ fun h2 => IsP.ok ?_
    · rw [may_money]
    have : argsT t = [] := List.eq_nil_of_length_eq_zero (by unfold argsT; omega)
    rw [this, List.append_nil]
    exact h
  · rw [if_neg h0, if_neg h0]
    refine IsQ.bad (by decide) pGet_at fun h1 => ?_
    refine IsQ.bad (by decide) (by rw [decide_eq_true_iff]; exact Decidable.not_not.symm) fun h2 => ?_
    rw [if_twoQ, if_twoQ, if_twoQ]
    have e : ∀ v u : Int, (decide (¬ v = 0) && decide (-1000 ≤ v) && decide (v ≤ 1000) && decide (u = 0)) = true ↔ ¬ (((v = 0 ∨ v < -1000) ∨ 1000 < v) ∨ ¬ u = 0) := fun v u => by
      simp only [Bool.and_eq_true, decide_eq_true_eq]; omega
    exact IsQ.bad (by decide) (e _ _) fun h3 => IsQ.fin (args_is hf (pred_mem h1) h)
theorem guard_is (hf : Fit s) {g : kGuard.V} (h : Rel s c b L) : IsQ s (guardD s a false c g) (rGuard s b g) a (L ++ ((g.1 : List kTerm.V).flatMap argsT ++ (g.2.2 : List kTerm.V).flatMap argsT)) := by
  unfold guardD rGuard
  rw [if_twoQ, if_twoQ, if_twoQ, if_twoQ, if_twoQ]
  have e : ∀ v n m : Int, (decide (1 ≤ v) && decide (v ≤ 6) && sideD n && sideD m) = true ↔ 1 ≤ v ∧ v ≤ 6 ∧ 1 ≤ n ∧ n ≤ 8 ∧ 1 ≤ m ∧ m ≤ 8 := fun v n m => by
    simp only [sideD, Bool.and_eq_true, decide_eq_true_eq]; omega
  have e2 : ∀ (v : Int) (n m : Nat), (1 ≤ v ∧ v ≤ 6 ∧ 1 ≤ (n : Int) ∧ (n : Int) ≤ 8 ∧ 1 ≤ (m : Int) ∧ (m : Int) ≤ 8) ↔ ¬ (((((v < 1 ∨ 6 < v) ∨ (n : Int) = 0) ∨ 8 < (n : Int)) ∨ (m : Int) = 0) ∨ 8 < (m : Int)) := fun v n m => by omega
  refine IsQ.bad (by decide) ((e _ _ _).trans (e2 _ _ _)) fun _ => IsQ.fin ?_
  have e : foldX (fun x l => foldX (termD s a false) x l) c [g.1, g.2.2] = foldX (termD s a false) c ((g.1 : List kTerm.V) ++ g.2.2) := by
    rw [foldX_append]
    show bnd (foldX (termD s a false) c g.1) (fun c' => bnd (foldX (termD s a false) c' g.2.2) .ok) = _
    congr 1
    funext c'
    cases foldX (termD s a false) c' g.2.2 <;> rfl
  rw [e, ← List.flatMap_append]
  exact foldQ (f := termD s a false) (g := rTerm s) (seen := argsT) (fun t _ c b L h => term_is hf h) h
theorem unlike_is {x : Str} (h : Rel s c b L) : IsQ s (unlikeD s a c x) (rLoose s b x) a (L ++ [x]) := by
  unfold unlikeD rLoose
  by_cases hv : isVarD x = true
  · rw [if_pos hv, if_neg (not_both hv), if_pos hv]
    exact IsP.ok (h.see hv)
  · rw [if_neg hv, if_neg hv]
    by_cases hn : isNameD x = true
    · rw [if_pos hn, hn]
      show IsP (bnd (wantD (mGet s x).isSome 82 a) _) (if atN (mN s) x < 0 then 82 else 0) a (fun c => Rel s c b _)
      exact IsP.bad (by decide) mGet_at fun _ => IsP.ok (h.skip hv)
    · rw [if_neg hn, Bool.eq_false_iff.2 hn]
      exact IsP.err (e := 71) (by decide) rfl
theorem premise_is (hf : Fit s) {p : kPrem.V} (h : Rel s c b L) : IsQ s (premiseD s a false c p) (rPrem s b p) a (L ++ seenP p) := by
  unfold premiseD rPrem seenP
  by_cases h1 : p.1 = 1
  · rw [if_pos h1, if_pos h1, if_pos h1]; exact IsQ.fin (lit_is hf h)
  rw [if_neg h1, if_neg h1, if_neg h1]
  by_cases h2 : p.1 = 2
  · rw [if_pos h2, if_pos h2, if_pos h2]; exact IsQ.fin (guard_is hf h)
  rw [if_neg h2, if_neg h2, if_neg h2]
  by_cases h3 : p.1 = 3
  · rw [if_pos h3, if_pos h3]
    refine IsQ.then (unlike_is h) fun _ c' h' => IsQ.fin ?_
    have := unlike_is (a := a) (x := p.2.2.2.2) h'
    rwa [List.append_assoc] at this
  · rw [if_neg h3, if_neg h3]
    exact IsP.err (e := 1) (by decide) rfl
/-- The document's answer of a rule's variables. -/
def rRest (s : kStat.V) (b : Bk) (r : kRule.V) : Int × Bk := if ¬ (rBody s b r).1 = 0 then rBody s b r else if ¬ (rHead s b r).1 = 0 then rHead s b r else (if looseOK (rHead s b r).2 = true then 0 else 86, (rHead s b r).2)
theorem rRule_rest {n : Nat} {r : kRule.V} : rRule s b n r = if ¬ rRuleC s r n = 0 then (rRuleC s r n, b) else rRest s b r := rfl
theorem all_is {α : Type} {f : α → Ex Unit} {g : α → Bool} {e : Int} : ∀ {l : List α}, (∀ x ∈ l, IsP (f x) (if g x = true then 0 else e) a (fun _ => True)) → IsP (allX f l) (if l.all g = true then 0 else e) a (fun _ => True) := by
  intro l
  induction l with
  | nil => intro _; exact IsP.ok trivial
  | cons x l ih =>
    intro h
    refine (IsP.bnd (h x (by simp)) fun _ _ _ => ih fun y hy => h y (by simp [hy])).code ?_
    rw [List.all_cons]
    cases g x with
    | false => simp only [Bool.false_and]; by_cases he : e = 0 <;> simp [he]
    | true => rfl
theorem rule_is (hf : Fit s) {r : kRule.V} : IsQ s (ruleD s a r) (rRest s noBk r) a (rSeen r) := by
  have h0 : Rel s ⟨[], []⟩ noBk [] := ⟨rfl, fun x => (by simp [getM]), fun x hx => (by cases hx), fun x _ => rfl, fun x hx => (by cases hx), fun x hx => (by cases hx), rfl⟩
  unfold ruleD rRest
  have hB := foldQ (s := s) (a := a) (l := prU r) (f := premiseD s a false) (g := rPrem s) (seen := seenP) (fun p _ c b L h => premise_is hf h) h0
  rw [List.nil_append] at hB
  refine IsQ.thenN (z := rBody s noBk r) hB fun _ c1 h1 => ?_
  have hH := lit_is (a := a) (l := hdU r) hf h1
  refine IsQ.thenN (z := rHead s noBk r) hH fun _ c2 h2 => ?_
  have key : ∀ x ∈ c2.names, (¬ (getM c2.km x).getD ByteArray.empty = ByteArray.empty ↔ x ∈ (rHead s noBk r).2.names) := fun x _ => by
    refine ⟨fun k => Decidable.byContradiction fun hn => k (h2.free x hn), fun hx k => ?_⟩
    obtain ⟨k', g1, g2, _⟩ := h2.bound x hx
    rw [g1] at k
    exact hf.no (k ▸ g2)
  show IsP _ (if looseOK (rHead s noBk r).2 = true then 0 else 86) a (fun c => Rel s c (rHead s noBk r).2 _)
  have hall := all_is (a := a) (e := 86) (f := freeD a c2.km) (g := fun x => decide (x ∈ (rHead s noBk r).2.names)) (l := c2.names) fun x hx => by
    unfold freeD
    refine IsP.good (by decide) ?_ fun _ => IsP.ok trivial
    rw [decide_eq_true_iff, decide_eq_true_iff]
    exact key x hx
  have e : c2.names.all (fun x => decide (x ∈ (rHead s noBk r).2.names)) = looseOK (rHead s noBk r).2 := by
    unfold looseOK
    rw [Bool.eq_iff_iff, List.all_eq_true, List.all_eq_true]
    refine ⟨fun k x hx => ?_, fun k x hx => ?_⟩
    · exact decide_eq_true (atN_mem'.2 (of_decide_eq_true (k x (h2.loose x hx))))
    · rcases h2.only x hx with g | g
      · exact decide_eq_true g
      · exact decide_eq_true (atN_mem'.1 (of_decide_eq_true (k x g)))
  rw [e] at hall
  have hfin : IsP (Except.ok c2 : Ex Sc) 0 a (fun c => Rel s c (rHead s noBk r).2 (rSeen r)) := IsP.ok h2
  exact (IsP.bnd (c2 := 0) hall fun _ _ _ => hfin).code (by by_cases h : looseOK (rHead s noBk r).2 = true <;> simp [h])
theorem ifR {A : Prop} [Decidable A] {x c : Int} {b : Bk} {R : Int × Bk} (hx : A → ¬ x = 0) : (if ¬ (if A then x else c) = 0 then ((if A then x else c), b) else R).1 = if A then x else (if ¬ c = 0 then (c, b) else R).1 := by
  by_cases h : A
  · rw [if_pos h, if_pos h, if_pos (hx h)]
  · rw [if_neg h, if_neg h]
theorem ruleItem_is (hf : Fit s) {n : Nat} {r : kRule.V} (hx : (sRules s)[n]? = some r) : IsP (rulesItemD s a n () r) (rRule s noBk n r).1 a (fun _ => True) := by
  have hx' : (rN s)[n]? = some r.1 := by rw [List.getElem?_map, hx]; rfl
  have e : (rRule s noBk n r).1 = if ¬ rNm (rN s) r.1 n = 0 then rNm (rN s) r.1 n
      else if atN (uN s) r.2.1 < 0 then 88
      else if (!dayD r.2.2.1 || (!decide (r.2.2.2.1 = 0) && !dayD r.2.2.2.1)) = true then 31
      else if (!decide (r.2.2.2.1 = 0) && decide (r.2.2.2.1 ≤ r.2.2.1)) = true then 7
      else if (r.2.2.2.2.2.1 < 1 ∨ 3 < r.2.2.2.2.2.1) then 1
      else if 16 < ((prU r).length : Int) then 3 else (rRest s noBk r).1 := by
    rw [rRule_rest]
    unfold rRuleC
    rw [ifR (fun h => h), ifR (fun _ => by decide), ifR (fun _ => by decide), ifR (fun _ => by decide), ifR (fun _ => by decide), ifR (fun _ => by decide), ifR (fun _ => by decide), if_neg (not_not_intro rfl), if_two]
  rw [e]
  unfold rulesItemD ruleItemD
  refine IsP.thenN (fresh_is hx') fun _ _ _ => ?_
  refine IsP.bad (by decide) isSome_atN fun _ => ?_
  refine IsP.bad (by decide) ?_ fun _ => ?_
  · cases dayD r.2.2.1 <;> cases decide (r.2.2.2.1 = 0) <;> cases dayD r.2.2.2.1 <;> decide
  refine IsP.bad (by decide) ?_ fun _ => ?_
  · have : decide (r.2.2.1 < r.2.2.2.1) = !decide (r.2.2.2.1 ≤ r.2.2.1) := by rw [Bool.eq_iff_iff]; simp
    rw [this]
    cases decide (r.2.2.2.1 = 0) <;> cases decide (r.2.2.2.1 ≤ r.2.2.1) <;> decide
  have e1 : ∀ v : Int, (decide (1 ≤ v) && decide (v ≤ 3)) = true ↔ ¬ (v < 1 ∨ 3 < v) := fun v => by
    rw [Bool.and_eq_true, decide_eq_true_iff, decide_eq_true_iff]; omega
  refine IsP.bad (by decide) (e1 _) fun _ => ?_
  have e2 : ∀ v : Int, decide (v ≤ 16) = true ↔ ¬ 16 < v := fun v => by
    rw [decide_eq_true_iff]; omega
  refine IsP.bad (by decide) (e2 _) fun _ => ?_
  exact (IsP.bnd (c2 := 0) (rule_is hf) fun _ _ _ => IsP.ok trivial).code (by by_cases h : (rRest s noBk r).1 = 0 <;> simp [h])
end
end Go.Proofs.YtkfmlekomfnleaaGreat
/- The plain law of Check, fourth part: the document's Check and Vars are the resolver's. Conditions: none. -/
set_option linter.unusedVariables false
set_option linter.unusedSimpArgs false
set_option maxRecDepth 10000
namespace Go.Proofs.YtkfmlekomfnleaaGreat
open Go Go.RowKit

/-- All items in one row, counted. -/
def IsS {σ : Type} (x : Ex (Int × σ)) (z : Int × Int) : Prop := (z.1 = 0 → ∃ y, x = .ok (z.2, y)) ∧ (¬ z.1 = 0 → x = .error z)
theorem scan_append {A B : List Int} {a : Int} : scanR (A ++ B) a = if (scanR A a).1 = 0 then scanR B (scanR A a).2 else scanR A a := by
  induction A generalizing a with
  | nil => rfl
  | cons e A ih =>
    rw [List.cons_append, scanR, scanR]
    by_cases h : e = 0
    · rw [if_pos h, if_pos h]; exact ih
    · rw [if_neg h, if_neg h, if_neg h]
theorem scan_zero {A : List Int} {a : Int} (h : (scanR A a).1 = 0) : ∀ e ∈ A, e = 0 := by
  induction A generalizing a with
  | nil => intro e he; cases he
  | cons x A ih =>
    rw [scanR] at h
    by_cases hx : x = 0
    · rw [if_pos hx] at h
      intro e he
      rcases List.mem_cons.1 he with rfl | he
      · exact hx
      · exact ih h e he
    · rw [if_neg hx] at h; exact absurd h hx
theorem each_is {s : kStat.V} {α σ : Type} {f : Int → Int → σ → α → Ex σ} {sort : Nat} {l : List α} (hl : manyN s sort = l.length) {I : Nat → σ → Prop}
    (hf : ∀ (n : Nat) x, l[n]? = some x → ∀ a y, I n y → IsP (f a n y x) (rItem s sort n) a (I (n + 1))) : ∀ {k n : Nat} {a : Int} {y : σ}, l.length - n = k → I n y → IsS (eachD f a n y (l.drop n)) (scanR (rowR s sort n) a) := by
  intro k
  induction k with
  | zero =>
    intro n a y hk hI
    rw [eachD_end (by omega), rowR_end (by omega)]
    exact ⟨fun _ => ⟨y, rfl⟩, fun h => absurd rfl h⟩
  | succ k ih =>
    intro n a y hk hI
    have hn : n < l.length := by omega
    rw [eachD_step hn, rowR_step (by omega), scanR]
    have h1 := hf n l[n] (List.getElem?_eq_getElem hn) a y hI
    by_cases h0 : rItem s sort n = 0
    · obtain ⟨y', hy, hI'⟩ := h1.1 h0
      rw [if_pos h0, bnd_ok hy]
      exact ih (n := n + 1) (by omega) hI'
    · rw [if_neg h0, bnd_err (h1.2 h0)]
      exact ⟨fun h => absurd h h0, fun _ => rfl⟩
theorem IsS.bnd {σ τ : Type} {x : Ex (Int × σ)} {k : Int × σ → Ex τ} {A B : List Int} {a : Int} {φ : Ex τ → Int × Int → Prop} (h : IsS x (scanR A a)) (hbad : ∀ z : Int × Int, ¬ z.1 = 0 → φ (.error z) z) (hk : (∀ e ∈ A, e = 0) → ∀ y, φ (k ((scanR A a).2, y)) (scanR B (scanR A a).2)) :
    φ (Go.Proofs.YtkfmlekomfnleaaGreat.bnd x k) (scanR (A ++ B) a) := by
  rw [scan_append]
  by_cases h0 : (scanR A a).1 = 0
  · obtain ⟨y, hy⟩ := h.1 h0
    rw [if_pos h0, bnd_ok hy]
    exact hk (scan_zero h0) y
  · rw [if_neg h0, bnd_err (h.2 h0)]
    exact hbad _ h0
theorem row_zero {s : kStat.V} {sort n : Nat} (h : ∀ e ∈ rowR s sort 0, e = 0) (hn : n < manyN s sort) : rItem s sort n = 0 :=
  h _ (List.mem_map.2 ⟨n, List.mem_range'_1.2 ⟨Nat.zero_le _, by omega⟩, rfl⟩)
theorem fit_of {s : kStat.V} (h0 : ∀ e ∈ rowR s 0 0, e = 0) (h2 : ∀ e ∈ rowR s 2 0, e = 0) : Fit s := by
  have hp : ∀ p ∈ sPreds s, ∃ n, rPred s p n = 0 := fun p hp => by
    obtain ⟨n, hn⟩ := List.mem_iff_getElem?.1 hp
    refine ⟨n, ?_⟩
    rw [← row_zero h2 (n := n) (List.getElem?_eq_some_iff.1 hn).1]
    unfold rItem; rw [hn]; rfl
  have hq : ∀ p ∈ sPreds s, p.2.2.1.length ≤ 4 ∧ rKinds s p.2.2.1 = true := fun p hp' => by
    obtain ⟨n, this⟩ := hp p hp'
    unfold rPred at this
    split at this
    · split at this
      · cases this
      split at this
      · cases this
      split at this
      · cases this
      split at this
      · cases this
      split at this
      · rename_i hh; exact ⟨by omega, hh⟩
      · cases this
    · rename_i hh; exact absurd this hh
  refine ⟨fun p hp' k hk => ?_, fun he => ?_, fun p hp' => (hq p hp').1⟩
  · have := List.all_eq_true.1 (hq p hp').2 k hk
    exact atN_mem'.1 (of_decide_eq_true this)
  · obtain ⟨n, hn⟩ := List.mem_iff_getElem?.1 he
    have : rNm (sKinds s) ByteArray.empty n = 0 := by
      rw [← row_zero h0 (n := n) (List.getElem?_eq_some_iff.1 hn).1]
      unfold rItem; rw [hn]; rfl
    unfold rNm at this
    rw [if_neg no_name] at this
    cases this
theorem check_of {x : Ex Int} {z : Int × Int} : ((z.1 = 0 → x = .ok z.2) ∧ (¬ z.1 = 0 → x = .error z)) → (match x with | .ok n => (0, n) | .error e => e : Int × Int) = z := by
  intro h
  by_cases h0 : z.1 = 0
  · rw [h.1 h0]; show (0, z.2) = z; rw [← h0]
  · rw [h.2 h0]
theorem check_eq (s : kStat.V) : checkD s = rCheck s := by
  unfold checkD rCheck itemsD
  cases hc : countsD s with
  | false => rfl
  | true =>
    rw [if_pos rfl]
    show (match bnd (eachD (kindItemD s) 0 0 () (sKinds s)) _ with | .ok n => (0, n) | .error e => e : Int × Int) = _
    refine check_of ?_
    rw [restR_step (by decide), restR_step (by decide), restR_step (by decide), restR_step (by decide), restR_step (by decide), restR_step (by decide), restR_step (by decide), restR_step (by decide)]
    have hbad : ∀ z : Int × Int, ¬ z.1 = 0 → (z.1 = 0 → (Except.error z : Ex Int) = .ok z.2) ∧ (¬ z.1 = 0 → (Except.error z : Ex Int) = .error z) := fun z h => ⟨fun k => absurd k h, fun _ => rfl⟩
    refine IsS.bnd (φ := fun x z => (z.1 = 0 → x = .ok z.2) ∧ (¬ z.1 = 0 → x = .error z)) (each_is (s := s) (sort := 0) (l := sKinds s) (n := 0) rfl (I := fun _ _ => True) (fun n x hx a y _ => ?_) rfl trivial) hbad fun h0 _ => ?_
    · rw [show rItem s 0 n = rNm (sKinds s) x n by unfold rItem; rw [hx]; rfl]
      exact (IsP.bnd (c2 := 0) (fresh_is hx) fun _ _ _ => IsP.ok trivial).code (by by_cases h : rNm (sKinds s) x n = 0 <;> simp [h])
    refine IsS.bnd (φ := fun x z => (z.1 = 0 → x = .ok z.2) ∧ (¬ z.1 = 0 → x = .error z)) (each_is (s := s) (sort := 1) (l := sMembers s) (n := 0) rfl (I := fun _ _ => True) (fun n x hx a y _ => ?_) rfl trivial) hbad fun h1 _ => ?_
    · rw [show rItem s 1 n = rMem s x n by unfold rItem; rw [hx]; rfl]
      exact member_is hx
    refine IsS.bnd (φ := fun x z => (z.1 = 0 → x = .ok z.2) ∧ (¬ z.1 = 0 → x = .error z)) (each_is (s := s) (sort := 2) (l := sPreds s) (n := 0) rfl (I := fun _ _ => True) (fun n x hx a y _ => ?_) rfl trivial) hbad fun h2 _ => ?_
    · rw [show rItem s 2 n = rPred s x n by unfold rItem; rw [hx]; rfl]
      exact pred_is hx
    have hf := fit_of h0 h2
    refine IsS.bnd (φ := fun x z => (z.1 = 0 → x = .ok z.2) ∧ (¬ z.1 = 0 → x = .error z)) (each_is (s := s) (sort := 3) (l := sClasses s) (n := 0) rfl (I := fun n (m : List (Str × Int)) => ∀ u, (getM m u).getD 0 = 0 ↔ u ∉ ((sClasses s).take n).flatten) (fun n x hx a y hy => ?_) rfl (fun u => by simp [getM])) hbad fun h3 _ => ?_
    · rw [show rItem s 3 n = rClass s n x by unfold rItem; rw [hx]; rfl]
      obtain ⟨h1, h2⟩ := List.getElem?_eq_some_iff.1 hx
      rw [List.take_succ_eq_append_getElem h1, h2, List.flatten_append, List.flatten_singleton]
      exact class_is hy
    refine IsS.bnd (φ := fun x z => (z.1 = 0 → x = .ok z.2) ∧ (¬ z.1 = 0 → x = .error z)) (each_is (s := s) (sort := 4) (l := sSources s) (n := 0) rfl (I := fun _ _ => True) (fun n x hx a y _ => ?_) rfl trivial) hbad fun h4 _ => ?_
    · rw [show rItem s 4 n = rSrc s x n by unfold rItem; rw [hx]; rfl]
      exact source_is hx
    refine IsS.bnd (φ := fun x z => (z.1 = 0 → x = .ok z.2) ∧ (¬ z.1 = 0 → x = .error z)) (each_is (s := s) (sort := 5) (l := sRules s) (n := 0) rfl (I := fun _ _ => True) (fun n x hx a y _ => ?_) rfl trivial) hbad fun h5 _ => ?_
    · rw [show rItem s 5 n = (rRule s noBk n x).1 by unfold rItem; rw [hx]; rfl]
      exact ruleItem_is hf hx
    refine IsS.bnd (φ := fun x z => (z.1 = 0 → x = .ok z.2) ∧ (¬ z.1 = 0 → x = .error z)) (each_is (s := s) (sort := 6) (l := sExcepts s) (n := 0) rfl (I := fun n (m : List (Strs2 × Int)) => ∀ u : Strs2, (getM m u).getD 0 = 0 ↔ u ∉ ((sExcepts s).take n : List Strs2)) (fun n x hx a y hy => ?_) rfl (fun u => by simp [getM])) hbad fun h6 _ => ?_
    · rw [show rItem s 6 n = rExc s n x by unfold rItem; rw [hx]; rfl]
      exact except_is hx hy
    refine IsS.bnd (φ := fun x z => (z.1 = 0 → x = .ok z.2) ∧ (¬ z.1 = 0 → x = .error z)) (each_is (s := s) (sort := 7) (l := sTotals s) (n := 0) rfl (I := fun _ _ => True) (fun n x hx a y _ => ?_) rfl trivial) hbad fun h7 _ => ?_
    · rw [show rItem s 7 n = rTotal s x n by unfold rItem; rw [hx]; rfl]
      exact total_is hx
    exact ⟨fun _ => rfl, fun h => absurd rfl h⟩
theorem fit_check {s : kStat.V} (h : (rCheck s).1 = 0) : Fit s ∧ ∀ (n : Nat) r, (sRules s)[n]? = some r → (rRule s noBk n r).1 = 0 := by
  unfold rCheck at h
  split at h
  · have hz := scan_zero h
    have row : ∀ k, k < 8 → ∀ e ∈ rowR s k 0, e = 0 := fun k hk e he => hz e (List.mem_flatMap.2 ⟨k, List.mem_range'_1.2 ⟨Nat.zero_le _, by omega⟩, he⟩)
    refine ⟨fit_of (row 0 (by decide)) (row 2 (by decide)), fun n r hr => ?_⟩
    rw [← row_zero (row 5 (by decide)) (n := n) (List.getElem?_eq_some_iff.1 hr).1]
    unfold rItem; rw [hr]; rfl
  · cases h
theorem foldC_all {α : Type} {f : Bk → α → Int × Bk} : ∀ {l : List α} {b : Bk}, (foldC f b l).1 = 0 → ∀ x ∈ l, ∃ b', (f b' x).1 = 0 := by
  intro l
  induction l with
  | nil => intro b _ x hx; cases hx
  | cons y l ih =>
    intro b h x hx
    rw [foldC] at h
    by_cases h0 : (f b y).1 = 0
    · rw [if_pos h0] at h
      rcases List.mem_cons.1 hx with rfl | hx
      · exact ⟨b, h0⟩
      · exact ih h x hx
    · rw [if_neg h0] at h; exact absurd h h0
theorem args_short {s : kStat.V} (hK : fourK s) {b : Bk} {x : Str} {l : List Str} (h : (rArgs s b (predAt s x) l).1 = 0) : l.length ≤ 4 := by
  unfold rArgs at h
  split at h
  · cases h
  · have := predAt_four hK x; omega
theorem lit_short {s : kStat.V} (hK : fourK s) {b : Bk} {l : kLitT.V} (h : (rLit s b l).1 = 0) : List.length l.2.2.1 ≤ 4 := by
  unfold rLit at h
  split at h
  · cases h
  split at h
  · cases h
  split at h
  · rename_i hh; exact absurd h hh
  · rename_i hh; exact args_short hK (Decidable.of_not_not hh)
theorem term_short {s : kStat.V} (hK : fourK s) {b : Bk} {t : kTerm.V} (h : (rTerm s b t).1 = 0) : (argsT t).length ≤ 4 := by
  unfold rTerm at h
  split at h
  · dsimp only at h
    split at h
    · cases h
    split at h
    · cases h
    · show t.2.2.1.length ≤ 4; omega
  split at h
  · cases h
  split at h
  · cases h
  split at h
  · cases h
  split at h
  · cases h
  split at h
  · cases h
  split at h
  · cases h
  exact args_short hK h
theorem prem_guard {s : kStat.V} (hK : fourK s) {b : Bk} {g : kGuard.V} (h : (rGuard s b g).1 = 0) : (List.length g.1 ≤ 8 ∧ ∀ t ∈ (g.1 : List kTerm.V), (argsT t).length ≤ 4) ∧ List.length g.2.2 ≤ 8 ∧ ∀ t ∈ (g.2.2 : List kTerm.V), (argsT t).length ≤ 4 := by
  unfold rGuard at h
  split at h
  · cases h
  split at h
  · cases h
  split at h
  · cases h
  split at h
  · cases h
  split at h
  · cases h
  split at h
  · cases h
  have ht := foldC_all h
  refine ⟨⟨by omega, fun t hm => ?_⟩, by omega, fun t hm => ?_⟩
  · obtain ⟨b', hb⟩ := ht t (List.mem_append.2 (.inl hm)); exact term_short hK hb
  · obtain ⟨b', hb⟩ := ht t (List.mem_append.2 (.inr hm)); exact term_short hK hb
theorem rule_parts {s : kStat.V} {n : Nat} {r : kRule.V} (h : (rRule s noBk n r).1 = 0) : rRuleC s r n = 0 ∧ (rBody s noBk r).1 = 0 ∧ (rHead s noBk r).1 = 0 ∧ looseOK (rHead s noBk r).2 = true ∧ (rRule s noBk n r).2 = (rHead s noBk r).2 ∧ (rRest s noBk r).1 = 0 := by
  have h' := h
  rw [rRule_rest] at h ⊢
  by_cases h1 : rRuleC s r n = 0
  · rw [if_neg (not_not_intro h1)] at h ⊢
    have hR := h
    unfold rRest at h ⊢
    by_cases h2 : (rBody s noBk r).1 = 0
    · rw [if_neg (not_not_intro h2)] at h ⊢
      by_cases h3 : (rHead s noBk r).1 = 0
      · rw [if_neg (not_not_intro h3)] at h ⊢
        by_cases h4 : looseOK (rHead s noBk r).2 = true
        · exact ⟨h1, h2, h3, h4, rfl, h⟩
        · rw [if_neg h4] at h; cases h
      · rw [if_pos h3] at h; exact absurd h h3
    · rw [if_pos h2] at h; exact absurd h h2
  · rw [if_pos h1] at h; exact absurd h h1
theorem short_of {s : kStat.V} (hK : fourK s) {n : Nat} {r : kRule.V} (h : (rRule s noBk n r).1 = 0) : Short r := by
  obtain ⟨h1, h2, h3, _, _, _⟩ := rule_parts h
  have hp : (prU r).length ≤ 16 := by
    unfold rRuleC at h1
    repeat (split at h1; · first | (cases h1; done) | contradiction)
    omega
  refine ⟨hp, lit_short hK h3, fun p hm e => ?_, fun p hm e => ?_, fun p hm e => ?_⟩
  all_goals obtain ⟨b', hb⟩ := foldC_all h2 p hm
  all_goals unfold rPrem at hb
  · rw [if_pos e] at hb; exact lit_short hK hb
  · rw [if_neg (fun k => absurd (k.symm.trans e) (by decide : ¬ (1 : Int) = 2)), if_pos e] at hb; exact (prem_guard hK hb).1
  · rw [if_neg (fun k => absurd (k.symm.trans e) (by decide : ¬ (1 : Int) = 2)), if_pos e] at hb; exact (prem_guard hK hb).2
theorem dn_mem {l : List Str} : ∀ {ns : List Str} {x : Str}, x ∈ dn ns l ↔ x ∈ ns ∨ (x ∈ l ∧ isVarD x = true) := by
  induction l with
  | nil => intro ns x; simp [dn]
  | cons y l ih =>
    intro ns x
    show x ∈ dn (stepN ns y) l ↔ _
    rw [ih]
    unfold stepN
    by_cases hv : isVarD y = true
    · rw [if_pos hv]
      by_cases hn : atN ns y < 0
      · rw [if_pos hn]
        simp only [List.mem_append, List.mem_cons, List.not_mem_nil, or_false]
        constructor
        · rintro ((h | rfl) | h)
          · exact .inl h
          · exact .inr ⟨.inl rfl, hv⟩
          · exact .inr ⟨.inr h.1, h.2⟩
        · rintro (h | ⟨rfl | h, g⟩)
          · exact .inl (.inl h)
          · exact .inl (.inr rfl)
          · exact .inr ⟨h, g⟩
      · rw [if_neg hn]
        have := atN_mem'.1 hn
        simp only [List.mem_cons]
        constructor
        · rintro (h | h)
          · exact .inl h
          · exact .inr ⟨.inr h.1, h.2⟩
        · rintro (h | ⟨rfl | h, g⟩)
          · exact .inl h
          · exact .inl this
          · exact .inr ⟨h, g⟩
    · rw [if_neg hv]
      simp only [List.mem_cons]
      constructor
      · rintro (h | h)
        · exact .inl h
        · exact .inr ⟨.inr h.1, h.2⟩
      · rintro (h | ⟨rfl | h, g⟩)
        · exact .inl h
        · exact absurd g hv
        · exact .inr ⟨h, g⟩
/-- A rule that has passed. -/
theorem rule_rel {s : kStat.V} (hf : Fit s) {n : Nat} {r : kRule.V} (h : (rRule s noBk n r).1 = 0) (a : Int) : ∃ c, ruleD s a r = .ok c ∧ Rel s c (rRule s noBk n r).2 (rSeen r) ∧ ∀ x ∈ c.names, x ∈ (rRule s noBk n r).2.names := by
  obtain ⟨_, h2, h3, h4, h5, h6⟩ := rule_parts h
  obtain ⟨c, hc, hr⟩ := (rule_is (a := a) hf (r := r)).1 h6
  have e : (rRest s noBk r).2 = (rHead s noBk r).2 := by
    unfold rRest
    rw [if_neg (not_not_intro h2), if_neg (not_not_intro h3)]
  rw [e] at hr
  rw [h5]
  refine ⟨c, hc, hr, fun x hx => ?_⟩
  rcases hr.only x hx with k | k
  · exact k
  · exact atN_mem'.1 (of_decide_eq_true (List.all_eq_true.1 h4 x k))
theorem passed_of {s : kStat.V} (h : (rCheck s).1 = 0) : Passed s := by
  obtain ⟨hf, hr⟩ := fit_check h
  refine ⟨hf.four, fun n r hx => ⟨short_of hf.four (hr n r hx), fun x hm hv => ?_⟩⟩
  obtain ⟨c, _, h1, h2⟩ := rule_rel hf (hr n r hx) 0
  refine atN_mem'.2 (h2 x ?_)
  rw [h1.names, dn_mem]
  exact .inr ⟨hm, hv⟩
theorem varsL_eq {b : Bk} : ∀ {l ns : List Str}, rVarsL b ns (ns.map fun x => (b.kinds[(atN b.names x).toNat]?).getD 0) l = (dn ns l, (dn ns l).map fun x => (b.kinds[(atN b.names x).toNat]?).getD 0) := by
  intro l
  induction l with
  | nil => intro ns; rfl
  | cons x l ih =>
    intro ns
    rw [rVarsL]
    show _ = (dn (stepN ns x) l, (dn (stepN ns x) l).map _)
    unfold stepN
    by_cases hv : isVarD x = true
    · rw [if_pos hv, if_pos hv]
      by_cases hn : atN ns x < 0
      · rw [if_pos hn, if_pos hn]
        have := ih (ns := ns ++ [x])
        rwa [List.map_append] at this
      · rw [if_neg hn, if_neg hn]; exact ih
    · rw [if_neg hv, if_neg hv]; exact ih
theorem vars_eq (s : kStat.V) (n : Int) : varsD s n = rVars s n := by
  unfold varsD rVars
  rw [check_eq]
  by_cases h : (rCheck s).1 = 0
  · rw [if_pos h, if_neg (not_not_intro h)]
    by_cases h1 : n < 0
    · rw [if_pos (.inl h1), if_pos h1]
    by_cases h2 : ((sRules s).length : Int) ≤ n
    · rw [if_pos (.inr h2), if_neg h1, if_pos h2]
    rw [if_neg (by rintro (k | k) <;> contradiction), if_neg h1, if_neg h2]
    obtain ⟨hf, hr⟩ := fit_check h
    have hlt : n.toNat < (sRules s).length := by omega
    have hx : (sRules s)[n.toNat]? = some (ruleU s n) := by unfold ruleU; rw [List.getElem?_eq_getElem hlt]; rfl
    obtain ⟨c, hc, hR, hin⟩ := rule_rel hf (hr _ _ hx) 0
    show (match ruleD s 0 (ruleU s n) with | .ok c => (c.names, c.names.map (kindNo s c), 0) | .error e => ([], [], e.1) : List Str × List Int × Int) = _
    rw [hc]
    have hv := varsL_eq (b := (rRule s noBk n.toNat (ruleU s n)).2) (l := rSeen (ruleU s n)) (ns := [])
    rw [List.map_nil] at hv
    rw [hv, ← hR.names]
    show (c.names, c.names.map (kindNo s c), (0 : Int)) = (c.names, c.names.map _, 0)
    congr 2
    refine List.map_congr_left fun x hx => ?_
    obtain ⟨k, g1, g2, g3⟩ := hR.bound x (hin x hx)
    unfold kindNo
    rw [g1, g3, indexD_get]
    obtain ⟨v, hv⟩ := fst?_mem g2
    show (fst? (sKinds s) k).getD 0 = (fst? (sKinds s) k).getD (-1)
    rw [hv]; rfl
  · rw [if_neg h, if_pos h]
end Go.Proofs.YtkfmlekomfnleaaGreat
