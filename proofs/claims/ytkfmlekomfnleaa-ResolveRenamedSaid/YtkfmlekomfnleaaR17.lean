/- The resolver's closure for exceptions: a map of two names. Conditions: none. -/
import Derived.Test.YtkfmlekomfnleaaR16
set_option linter.unusedVariables false
set_option linter.unusedSimpArgs false
set_option maxRecDepth 10000
namespace Go.Proofs.Ytkfmlekomfnleaa
open Go Go.RowKit Go.MapKept

attribute [local irreducible] RW CW
instance keyExc : KeyR Try.prog strs2 138 := keyR_strs2 (t1 := 9) rfl rfl rfl rfl (by simp) (by simp) (by kernel_rfl)
abbrev excH (bi : Nat) (m : List (Strs2 × Int)) : HP := mapHP strs2 intK .string bi m
set_option maxHeartbeats 8000000 in
theorem items5_ret {br b2 b3 bi : Nat} {s : kStat.V} {at_ i : Int} {x : RC} {w : World} {M : Mem} {p : kExc.V} {cs : List Value} {m : List (Strs2 × Int)} {F : Nat → Prop} (hR : RS w (fun b => ¬ F b) br s at_ x) (h2 : mem w (fun b => ¬ F b) b2 0 (ptrV br)) (h3 : mem w (fun b => ¬ F b) b3 0 (.map (some bi))) (hp : Rd kExc M cs p) (hH : Sep [excH bi m] w F) :
    RetE Try.prog 86 [.agg cs.toArray, .int .i64 i, ptrV b2, ptrV b3] w F (exceptItemD s at_ i m p) (fun _ _ => .tuple #[]) (fun m' (_ : Unit) => [excH bi m']) := by
  generalize hS : exceptItemD s at_ i m p = SP
  have hS := hS.symm
  unfold exceptItemD rGet at hS
  obtain ⟨c1, c2, rfl, hp1, hp2⟩ := hp
  obtain rfl := str_cell hp1
  obtain rfl := str_cell hp2
  have hle : Mem.le (mem w (fun b => ¬ F b)) (mem w (fun b => ¬ F b)) := Mem.le_refl _
  refine Calls.enter Try.func86 rfl _ rfl rfl (S := F) (H := [excH bi m]) hH ?_
  refine CW.seqR ?_
  refine RW.box_agg (l := [.string p.1, .string p.2]) rfl rfl fun b4 _ => ?_
  refine RW.next ?_
  refine CW.seqA (by kernel_rfl) rfl ?_
  (apply AW.val rfl; · intro Gx X; (first | refine RW.yes rfl ?_ | skip); refine RW.load_ro rfl hle h2 rfl rfl ?_; exact RW.done rfl)
  repeat (apply AW.val rfl; · intro Gx X; (first | refine RW.yes rfl ?_ | skip); (first|refine Jc ?_|refine Jd ?_|refine Je ?_|refine Jf ?_|refine Jg ?_|refine Jh ?_|refine Ji ?_|refine Jj ?_|refine Jk ?_|refine Jl ?_|refine Jm ?_|refine Jn ?_|refine Jo ?_|refine Jp ?_|refine Jq ?_|refine Jr ?_|refine Js ?_|refine Jt ?_|refine Ju ?_|refine Jv ?_|refine Jw ?_|refine Jx ?_|refine Jz ?_|refine JA ?_|refine JB ?_|refine JC ?_|refine JD ?_|refine JE ?_|refine JF ?_|refine JG ?_|refine JH ?_|refine JI ?_|refine JJ ?_|refine JK ?_|refine JL ?_); exact RW.done rfl)
  (apply AW.val rfl; · intro Gx X; (first | refine RW.yes rfl ?_ | skip); refine RW.load_ro rfl hle (hR.cell 14 _ rfl) rfl rfl ?_; exact RW.done rfl)
  repeat (apply AW.val rfl; · intro Gx X; (first | refine RW.yes rfl ?_ | skip); (first|refine Jc ?_|refine Jd ?_|refine Je ?_|refine Jf ?_|refine Jg ?_|refine Jh ?_|refine Ji ?_|refine Jj ?_|refine Jk ?_|refine Jl ?_|refine Jm ?_|refine Jn ?_|refine Jo ?_|refine Jp ?_|refine Jq ?_|refine Jr ?_|refine Js ?_|refine Jt ?_|refine Ju ?_|refine Jv ?_|refine Jw ?_|refine Jx ?_|refine Jz ?_|refine JA ?_|refine JB ?_|refine JC ?_|refine JD ?_|refine JE ?_|refine JF ?_|refine JG ?_|refine JH ?_|refine JI ?_|refine JJ ?_|refine JK ?_|refine JL ?_); exact RW.done rfl)
  (apply AW.val rfl; · intro Gx X; (first | refine RW.yes rfl ?_ | skip); refine RW.lookupMOk (D := indexD ((sRules s).map nameOf)) hR.rules rfl rfl rfl rfl ?_; exact RW.done rfl)
  repeat (apply AW.val rfl; · intro Gx X; (first | refine RW.yes rfl ?_ | skip); (first|refine Jc ?_|refine Jd ?_|refine Je ?_|refine Jf ?_|refine Jg ?_|refine Jh ?_|refine Ji ?_|refine Jj ?_|refine Jk ?_|refine Jl ?_|refine Jm ?_|refine Jn ?_|refine Jo ?_|refine Jp ?_|refine Jq ?_|refine Jr ?_|refine Js ?_|refine Jt ?_|refine Ju ?_|refine Jv ?_|refine Jw ?_|refine Jx ?_|refine Jz ?_|refine JA ?_|refine JB ?_|refine JC ?_|refine JD ?_|refine JE ?_|refine JF ?_|refine JG ?_|refine JH ?_|refine JI ?_|refine JJ ?_|refine JK ?_|refine JL ?_); exact RW.done rfl)
  refine AW.stop (by kernel_rfl) (by kernel_rfl) fun bs => ?_
  refine RW.next ?_
  refine CW.keep [(2, ptrV b2), (3, ptrV b3), (4, ptrV b4), (7, .bool (getM (indexD ((sRules s).map nameOf)) p.1).isSome)] ⟨rfl, rfl, rfl, rfl, trivial⟩ ?_
  refine CW.seqA (by kernel_rfl) rfl ?_
  (apply AW.val rfl; · intro Gx X; (first | refine RW.yes rfl ?_ | skip); refine RW.load_ro rfl hle h2 rfl rfl ?_; exact RW.done rfl)
  repeat (apply AW.val rfl; · intro Gx X; (first | refine RW.yes rfl ?_ | skip); (first|refine Jc ?_|refine Jd ?_|refine Je ?_|refine Jf ?_|refine Jg ?_|refine Jh ?_|refine Ji ?_|refine Jj ?_|refine Jk ?_|refine Jl ?_|refine Jm ?_|refine Jn ?_|refine Jo ?_|refine Jp ?_|refine Jq ?_|refine Jr ?_|refine Js ?_|refine Jt ?_|refine Ju ?_|refine Jv ?_|refine Jw ?_|refine Jx ?_|refine Jz ?_|refine JA ?_|refine JB ?_|refine JC ?_|refine JD ?_|refine JE ?_|refine JF ?_|refine JG ?_|refine JH ?_|refine JI ?_|refine JJ ?_|refine JK ?_|refine JL ?_); exact RW.done rfl)
  (apply AW.val rfl; · intro Gx X; (first | refine RW.yes rfl ?_ | skip); refine RW.load_ro rfl hle (hR.cell 14 _ rfl) rfl rfl ?_; exact RW.done rfl)
  repeat (apply AW.val rfl; · intro Gx X; (first | refine RW.yes rfl ?_ | skip); (first|refine Jc ?_|refine Jd ?_|refine Je ?_|refine Jf ?_|refine Jg ?_|refine Jh ?_|refine Ji ?_|refine Jj ?_|refine Jk ?_|refine Jl ?_|refine Jm ?_|refine Jn ?_|refine Jo ?_|refine Jp ?_|refine Jq ?_|refine Jr ?_|refine Js ?_|refine Jt ?_|refine Ju ?_|refine Jv ?_|refine Jw ?_|refine Jx ?_|refine Jz ?_|refine JA ?_|refine JB ?_|refine JC ?_|refine JD ?_|refine JE ?_|refine JF ?_|refine JG ?_|refine JH ?_|refine JI ?_|refine JJ ?_|refine JK ?_|refine JL ?_); exact RW.done rfl)
  (apply AW.val rfl; · intro Gx X; (first | refine RW.yes rfl ?_ | skip); refine RW.lookupMOk (D := indexD ((sRules s).map nameOf)) hR.rules rfl rfl rfl rfl ?_; exact RW.done rfl)
  repeat (apply AW.val rfl; · intro Gx X; (first | refine RW.yes rfl ?_ | skip); (first|refine Jc ?_|refine Jd ?_|refine Je ?_|refine Jf ?_|refine Jg ?_|refine Jh ?_|refine Ji ?_|refine Jj ?_|refine Jk ?_|refine Jl ?_|refine Jm ?_|refine Jn ?_|refine Jo ?_|refine Jp ?_|refine Jq ?_|refine Jr ?_|refine Js ?_|refine Jt ?_|refine Ju ?_|refine Jv ?_|refine Jw ?_|refine Jx ?_|refine Jz ?_|refine JA ?_|refine JB ?_|refine JC ?_|refine JD ?_|refine JE ?_|refine JF ?_|refine JG ?_|refine JH ?_|refine JI ?_|refine JJ ?_|refine JK ?_|refine JL ?_); exact RW.done rfl)
  refine AW.stop (by kernel_rfl) (by kernel_rfl) fun bs => ?_
  refine RW.next ?_
  refine CW.keep [(2, ptrV b2), (3, ptrV b3), (4, ptrV b4), (7, .bool (getM (indexD ((sRules s).map nameOf)) p.1).isSome), (9, .bool (getM (indexD ((sRules s).map nameOf)) p.2).isSome)] ⟨rfl, rfl, rfl, rfl, rfl, trivial⟩ ?_
  refine CW.seqR ?_
  refine RW.load_ro rfl hle h2 rfl rfl ?_
  repeat (first|refine Ja ?_|refine Jb ?_|refine Jc ?_|refine Jd ?_|refine Je ?_|refine Jf ?_|refine Jg ?_|refine Jh ?_|refine Ji ?_|refine Jj ?_|refine Jk ?_|refine Jl ?_|refine Jm ?_|refine Jn ?_|refine Jo ?_|refine Jp ?_|refine Jq ?_|refine Jr ?_|refine Js ?_|refine Jt ?_|refine Ju ?_|refine Jv ?_|refine Jw ?_|refine Jx ?_|refine Jy ?_|refine Jz ?_|refine JA ?_|refine JB ?_|refine JC ?_|refine JD ?_|refine JE ?_|refine JF ?_|refine JG ?_|refine JH ?_|refine JI ?_|refine JJ ?_|refine JK ?_|refine JL ?_|refine JM ?_|refine CW.skip (PW.code ?_)|refine RW.nil (PW.code ?_))
  cases h7 : (getM (indexD ((sRules s).map nameOf)) p.1).isSome with
  | false =>
    rw [h7] at hS
    repeat (first|refine Ja ?_|refine Jb ?_|refine Jc ?_|refine Jd ?_|refine Je ?_|refine Jf ?_|refine Jg ?_|refine Jh ?_|refine Ji ?_|refine Jj ?_|refine Jk ?_|refine Jl ?_|refine Jm ?_|refine Jn ?_|refine Jo ?_|refine Jp ?_|refine Jq ?_|refine Jr ?_|refine Js ?_|refine Jt ?_|refine Ju ?_|refine Jv ?_|refine Jw ?_|refine Jx ?_|refine Jy ?_|refine Jz ?_|refine JA ?_|refine JB ?_|refine JC ?_|refine JD ?_|refine JE ?_|refine JF ?_|refine JG ?_|refine JH ?_|refine JI ?_|refine JJ ?_|refine JK ?_|refine JL ?_|refine JM ?_|refine CW.skip (PW.code ?_)|refine RW.nil (PW.code ?_))
    refine RW.want hS rfl ((by rfl)) (fun w hw => RS.at_cell hR hw) rfl rfl rfl fun hb _ => absurd hb (by decide)
  | true =>
  rw [h7] at hS
  repeat (first|refine Ja ?_|refine Jb ?_|refine Jc ?_|refine Jd ?_|refine Je ?_|refine Jf ?_|refine Jg ?_|refine Jh ?_|refine Ji ?_|refine Jj ?_|refine Jk ?_|refine Jl ?_|refine Jm ?_|refine Jn ?_|refine Jo ?_|refine Jp ?_|refine Jq ?_|refine Jr ?_|refine Js ?_|refine Jt ?_|refine Ju ?_|refine Jv ?_|refine Jw ?_|refine Jx ?_|refine Jy ?_|refine Jz ?_|refine JA ?_|refine JB ?_|refine JC ?_|refine JD ?_|refine JE ?_|refine JF ?_|refine JG ?_|refine JH ?_|refine JI ?_|refine JJ ?_|refine JK ?_|refine JL ?_|refine JM ?_|refine CW.skip (PW.code ?_)|refine RW.nil (PW.code ?_))
  refine RW.want hS rfl ((by rw [Bool.true_and])) (fun w hw => RS.at_cell hR hw) rfl rfl rfl fun hb hS => ?_
  refine RW.next ?_
  refine CW.keep [(2, ptrV b2), (3, ptrV b3), (4, ptrV b4)] ⟨rfl, rfl, rfl, trivial⟩ ?_
  refine CW.seqA (by kernel_rfl) rfl ?_
  (apply AW.val rfl; · intro Gx X; (first | refine RW.yes rfl ?_ | skip); refine RW.load_ro rfl hle h2 rfl rfl ?_; exact RW.done rfl)
  (apply AW.val rfl; · intro Gx X; (first | refine RW.yes rfl ?_ | skip); refine RW.load_ro rfl hle h3 rfl rfl ?_; exact RW.done rfl)
  repeat (apply AW.val rfl; · intro Gx X; (first | refine RW.yes rfl ?_ | skip); (first|refine Jc ?_|refine Jd ?_|refine Je ?_|refine Jf ?_|refine Jg ?_|refine Jh ?_|refine Ji ?_|refine Jj ?_|refine Jk ?_|refine Jl ?_|refine Jm ?_|refine Jn ?_|refine Jo ?_|refine Jp ?_|refine Jq ?_|refine Jr ?_|refine Js ?_|refine Jt ?_|refine Ju ?_|refine Jv ?_|refine Jw ?_|refine Jx ?_|refine Jz ?_|refine JA ?_|refine JB ?_|refine JC ?_|refine JD ?_|refine JE ?_|refine JF ?_|refine JG ?_|refine JH ?_|refine JI ?_|refine JJ ?_|refine JK ?_|refine JL ?_); exact RW.done rfl)
  (apply AW.val rfl; · intro Gx X; (first | refine RW.yes rfl ?_ | skip); refine RW.lookupR [_] (a0 := (0 : Int)) rfl rfl rfl rfl ?_; exact RW.done rfl)
  repeat (apply AW.val rfl; · intro Gx X; (first | refine RW.yes rfl ?_ | skip); (first|refine Jc ?_|refine Jd ?_|refine Je ?_|refine Jf ?_|refine Jg ?_|refine Jh ?_|refine Ji ?_|refine Jj ?_|refine Jk ?_|refine Jl ?_|refine Jm ?_|refine Jn ?_|refine Jo ?_|refine Jp ?_|refine Jq ?_|refine Jr ?_|refine Js ?_|refine Jt ?_|refine Ju ?_|refine Jv ?_|refine Jw ?_|refine Jx ?_|refine Jz ?_|refine JA ?_|refine JB ?_|refine JC ?_|refine JD ?_|refine JE ?_|refine JF ?_|refine JG ?_|refine JH ?_|refine JI ?_|refine JJ ?_|refine JK ?_|refine JL ?_); exact RW.done rfl)
  refine AW.stop (by kernel_rfl) (by kernel_rfl) fun bs => ?_
  refine RW.want hS rfl (rfl) (fun w hw => RS.at_cell hR hw) rfl rfl rfl fun hb hS => ?_
  have hg : (getM m p).getD 0 = 0 := of_decide_eq_true hb
  refine RW.next ?_
  refine CW.keep [(2, ptrV b2), (3, ptrV b3), (4, ptrV b4)] ⟨rfl, rfl, rfl, trivial⟩ ?_
  refine CW.take [1, 0] ?_
  refine CW.open_ [] (ι := { q : Array MapEntry × Nat // Stamped q.1 q.2 ∧ q.1.toList.map (fun e => (e.key, e.val)) = m.map (fun x => (strs2 x.1, intK x.2)) }) (fun q => mapFix bi q.1.1 q.1.2) (fun w F ⟨hF, es, clock, e1, e2, e3⟩ => ⟨⟨(es, clock), e2, e3⟩, hF, e1⟩) fun q => ?_
  obtain ⟨⟨es, clock⟩, hs, hm⟩ := q
  dsimp only at hs hm ⊢
  obtain ⟨st, hst⟩ := entry_fix (P := Try.prog) (t := 135) (υ := intK) (a0 := (0 : Int)) hm hs rfl bi p
  refine CW.anyT 4 (fun b => [if b then mapEnt strs2 intK .string bi (putM m p ((getM m p).getD 0)) p st else mapFix bi es clock, blk b4 [.string p.1, .string p.2] 138]) 6
    [.val (.map (some bi)), .val (.agg #[.string p.1, .string p.2]), .val (.int .i64 0), .val (.int .i64 1), .val (.tuple #[.int .i64 ((getM m p).getD 0), .int .i64 st]), .val (.int .i64 st)] (by kernel_rfl) rfl rfl rfl rfl (by kernel_rfl)
    (PutOK.plain (fun dj c t c2 h => by simp at h) (fun c t p c2 h => by simp at h)) (fun i o d hi _ _ h => ?_) (fun k h => by cases h; exact ⟨_, rfl⟩) (fun i o k hi ho hk b => ?_) (fun o v ho hv Gx X => ?_) (fun bs => ?_)
  · have : i = 0 ∨ i = 1 ∨ i = 2 ∨ i = 3 ∨ i = 4 ∨ i = 5 := by omega
    rcases this with rfl | rfl | rfl | rfl | rfl | rfl <;> cases h
  · have : i = 0 ∨ i = 1 ∨ i = 2 ∨ i = 3 ∨ i = 4 ∨ i = 5 ∨ 6 ≤ i := by omega
    rcases this with rfl | rfl | rfl | rfl | rfl | rfl | h6
    · obtain rfl := Option.some.inj ho
      obtain rfl := Option.some.inj hk
      intro Gx X
      refine RW.load_ro rfl hle h3 rfl rfl ?_
      exact RW.done rfl
    · obtain rfl := Option.some.inj ho
      obtain rfl := Option.some.inj hk
      intro Gx X
      refine RW.load_whole [_] rfl rfl rfl rfl ?_
      exact RW.done rfl
    · obtain rfl := Option.some.inj ho
      obtain rfl := Option.some.inj hk
      intro Gx X
      cases b with
      | false =>
        refine RW.lookupFix [] (a0 := (0 : Int)) hm hs rfl rfl rfl rfl ?_
        exact RW.done_eq (v := .int .i64 0) rfl (by rw [hg])
      | true =>
        refine RW.lookupEnt (kd := .string) [] (a0 := (0 : Int)) (k := p) rfl rfl rfl rfl ?_
        exact RW.done_eq (v := .int .i64 0) rfl (by rw [getM_put, if_pos rfl]; show intK ((getM m p).getD 0) = _; rw [hg])
    · obtain rfl := Option.some.inj ho
      obtain rfl := Option.some.inj hk
      intro Gx X
      refine RW.add rfl rfl (w64 (by omega) (by omega)) rfl ?_
      exact RW.done rfl
    · exact absurd rfl hi
    · obtain rfl := Option.some.inj ho
      obtain rfl := Option.some.inj hk
      intro Gx X
      refine RW.extract rfl rfl rfl ?_
      exact RW.done rfl
    · rw [List.getElem?_eq_none (by simpa using h6)] at hk; cases hk
  · obtain rfl := Option.some.inj ho
    cases hv
    refine RW.mapEntryFix (kd := .string) [] (a0 := (0 : Int)) hst rfl rfl rfl ?_
    exact RW.done rfl
  · show RW _ _ _ _ _ _ (mapEnt strs2 intK .string bi (putM m p ((getM m p).getD 0)) p st :: _)
    refine RW.entryStoreR (kd := .string) (kt := 138) [] (a := (1 : Int)) rfl rfl rfl rfl ?_
    rw [putM_put]
    exact RW.nil (PW.ret (rs := []) (vs := []) Try.results86 rfl ResOK.nil fun w hw => XP.ok (V := fun _ _ => .tuple #[]) () hS (hw.sub (List.Sublist.cons_cons _ (List.nil_sublist _))))
end Go.Proofs.Ytkfmlekomfnleaa
