/- The laws' works: true. Conditions: none. -/
import Derived.Test.YtkfmlekomfnleaaR23
set_option linter.unusedVariables false
set_option linter.unusedSimpArgs false
set_option maxRecDepth 10000
namespace Go.Proofs.Ytkfmlekomfnleaa
open Go Go.RowKit Go.MapKept

theorem all2_one {α β : Type} {R : α → β → Prop} {x : α} {y : β} (h : R x y) : All2 R [x] [y] := ⟨rfl, fun i a b ha hb => by
  cases i with
  | zero => simp at ha hb; subst ha; subst hb; exact h
  | succ i => simp at ha⟩
theorem all2_two {α β : Type} {R : α → β → Prop} {x x' : α} {y y' : β} (h : R x y) (h' : R x' y') : All2 R [x, x'] [y, y'] := ⟨rfl, fun i a b ha hb => by
  cases i with
  | zero => simp at ha hb; subst ha; subst hb; exact h
  | succ i =>
    cases i with
    | zero => simp at ha hb; subst ha; subst hb; exact h'
    | succ i => simp at ha⟩
section
variable {q : SQ} {u : Value} {w : World} {A : Nat → Prop} {r : List HP}
theorem small_on1 (h : Sep (smallH q u [premC q.bX] ++ r) w A) : StatOn (mem w (fun b => ¬ No b)) (statS [premS]) (xS q) := small_on h (by decide) fun M hM => all2_one (rd_premC hM)
theorem small_on2 (h : Sep (smallH q u [premC q.bX, premUC] ++ r) w A) : StatOn (mem w (fun b => ¬ No b)) (statS [premS, premU]) (xS q) := small_on h (by decide) fun M hM => all2_two (rd_premC hM) rd_premUC
theorem check_small (h : Sep (smallH q u [premC q.bX] ++ r) w A) : Ret Try.prog 8 [.agg (statC q).toArray] w (.tuple #[.int .i64 0, .int .i64 5]) := by
  have := check_ret (small_on1 h)
  rw [small_check] at this
  exact this
theorem check_loose (h : Sep (smallH q u [premC q.bX, premUC] ++ r) w A) : Ret Try.prog 8 [.agg (statC q).toArray] w (.tuple #[.int .i64 86, .int .i64 4]) := by
  have := check_ret (small_on2 h)
  rw [small_loose] at this
  exact this
theorem vars_small (h : Sep (smallH q u [premC q.bX] ++ r) w A) : RetC Try.prog 11 [.agg (statC q).toArray, .int .i64 0] w No (fun p : Value × Value => .tuple #[p.1, p.2, .int .i64 0]) (fun p => [ownHP 9 1 p.1 [[.string nX]], ownHP 3 1 p.2 [[.int .i64 0]]]) := by
  have := vars_ret (n := 0) (small_on1 h)
  rw [small_vars] at this
  exact this
end
attribute [local irreducible] RW CW
theorem num_ret {e : Int} {w : World} : Ret Try.prog 34 [.int .i64 e] w (.int .i64 e) := by
  refine Calls.enter Try.func34 rfl _ rfl rfl (S := No) (H := []) trivial ?_
  repeat (first|refine Ja ?_|refine Jb ?_|refine Jc ?_|refine Jd ?_|refine Je ?_|refine Jf ?_|refine Jg ?_|refine Jh ?_|refine Ji ?_|refine Jj ?_|refine Jk ?_|refine Jl ?_|refine Jm ?_|refine Jn ?_|refine Jo ?_|refine Jp ?_|refine Jq ?_|refine Jr ?_|refine Js ?_|refine Jt ?_|refine Ju ?_|refine Jv ?_|refine Jw ?_|refine Jx ?_|refine Jy ?_|refine Jz ?_|refine JA ?_|refine JB ?_|refine JC ?_|refine JD ?_|refine JE ?_|refine JF ?_|refine JG ?_|refine JH ?_|refine JI ?_|refine JJ ?_|refine JK ?_|refine JL ?_|refine JM ?_|refine CW.skip (PW.code ?_)|refine RW.nil (PW.code ?_))
  exact CW.ret1 rfl Try.results34 rfl rfl fun w hw => ⟨rfl, hw.kp⟩
abbrev KB : Nat := 9223372036854775808
abbrev apV (n : Nat) : Value := .slice (some ⟨n / KB, 0, none⟩) 2 (n % KB)
set_option maxHeartbeats 16000000 in
theorem works_ret {w : World} : Ret Try.prog 7 [] w (.bool true) := by
  refine Calls.enter Try.func7 rfl _ rfl rfl (S := No) (H := []) trivial ?_
  repeat (first|refine Ja ?_|refine Jb ?_|refine Jc ?_|refine Jd ?_|refine Je ?_|refine Jf ?_|refine Jg ?_|refine Jh ?_|refine Ji ?_|refine Jj ?_|refine Jk ?_|refine Jl ?_|refine Jm ?_|refine Jn ?_|refine Jo ?_|refine Jp ?_|refine Jq ?_|refine Jr ?_|refine Js ?_|refine Jt ?_|refine Ju ?_|refine Jv ?_|refine Jw ?_|refine Jx ?_|refine Jy ?_|refine Jz ?_|refine JA ?_|refine JB ?_|refine JC ?_|refine JD ?_|refine JE ?_|refine JF ?_|refine JG ?_|refine JH ?_|refine JI ?_|refine JJ ?_|refine JK ?_|refine JL ?_|refine JM ?_|refine CW.skip (PW.code ?_)|refine RW.nil (PW.code ?_))
  refine RW.callN Try.call33 rfl (fun w2 hw => smallStat_ret) rfl fun q => ?_
  refine RW.alloc (c := [.string nNo, .slice none 0 0, .slice none 0 0, .slice none 0 0, .slice none 0 0, .slice none 0 0, .slice none 0 0, .slice none 0 0, .slice none 0 0]) rfl rfl fun b1 _ => ?_
  refine RW.store_whole [] rfl rfl (vs := statC q) rfl rfl rfl (by simp [Value.oneCell']) ?_
  repeat (first|refine Ja ?_|refine Jb ?_|refine Jc ?_|refine Jd ?_|refine Je ?_|refine Jf ?_|refine Jg ?_|refine Jh ?_|refine Ji ?_|refine Jj ?_|refine Jk ?_|refine Jl ?_|refine Jm ?_|refine Jn ?_|refine Jo ?_|refine Jp ?_|refine Jq ?_|refine Jr ?_|refine Js ?_|refine Jt ?_|refine Ju ?_|refine Jv ?_|refine Jw ?_|refine Jx ?_|refine Jy ?_|refine Jz ?_|refine JA ?_|refine JB ?_|refine JC ?_|refine JD ?_|refine JE ?_|refine JF ?_|refine JG ?_|refine JH ?_|refine JI ?_|refine JJ ?_|refine JK ?_|refine JL ?_|refine JM ?_|refine CW.skip (PW.code ?_)|refine RW.nil (PW.code ?_))
  refine RW.call Try.call8 rfl (fun w2 hw => check_small (u := slV q.b14) (r := []) (Sep.tail hw.sep)) rfl ?_
  repeat (first|refine Ja ?_|refine Jb ?_|refine Jc ?_|refine Jd ?_|refine Je ?_|refine Jf ?_|refine Jg ?_|refine Jh ?_|refine Ji ?_|refine Jj ?_|refine Jk ?_|refine Jl ?_|refine Jm ?_|refine Jn ?_|refine Jo ?_|refine Jp ?_|refine Jq ?_|refine Jr ?_|refine Js ?_|refine Jt ?_|refine Ju ?_|refine Jv ?_|refine Jw ?_|refine Jx ?_|refine Jy ?_|refine Jz ?_|refine JA ?_|refine JB ?_|refine JC ?_|refine JD ?_|refine JE ?_|refine JF ?_|refine JG ?_|refine JH ?_|refine JI ?_|refine JJ ?_|refine JK ?_|refine JL ?_|refine JM ?_|refine CW.skip (PW.code ?_)|refine RW.nil (PW.code ?_))
  refine RW.callN Try.call11 rfl (fun w2 hw => vars_small (u := slV q.b14) (r := []) (Sep.tail hw.sep)) rfl fun p => ?_
  obtain ⟨v1, v2⟩ := p
  refine RW.have_ (φ := (∃ B c, v1 = .slice (some ⟨B, 0, none⟩) 1 c) ∧ ∃ B c, v2 = .slice (some ⟨B, 0, none⟩) 1 c) (fun w hw => ⟨?_, ?_⟩) (fun ⟨⟨B1, c1, hv1⟩, B2, c2, hv2⟩ => ?_)
  · rcases own_form (pre := []) hw with ⟨_, h2⟩ | ⟨B, c, h1, _⟩
    · cases h2
    · exact ⟨B, c, h1⟩
  · rcases own_form (pre := [_]) hw with ⟨_, h2⟩ | ⟨B, c, h1, _⟩
    · cases h2
    · exact ⟨B, c, h1⟩
  subst hv1
  subst hv2
  dsimp only [List.cons_append, List.nil_append]
  repeat (first|refine Ja ?_|refine Jb ?_|refine Jc ?_|refine Jd ?_|refine Je ?_|refine Jf ?_|refine Jg ?_|refine Jh ?_|refine Ji ?_|refine Jj ?_|refine Jk ?_|refine Jl ?_|refine Jm ?_|refine Jn ?_|refine Jo ?_|refine Jp ?_|refine Jq ?_|refine Jr ?_|refine Js ?_|refine Jt ?_|refine Ju ?_|refine Jv ?_|refine Jw ?_|refine Jx ?_|refine Jy ?_|refine Jz ?_|refine JA ?_|refine JB ?_|refine JC ?_|refine JD ?_|refine JE ?_|refine JF ?_|refine JG ?_|refine JH ?_|refine JI ?_|refine JJ ?_|refine JK ?_|refine JL ?_|refine JM ?_|refine CW.skip (PW.code ?_)|refine RW.nil (PW.code ?_))
  refine CW.keep [(1, ptrV b1), (2, .int .i64 0), (3, .int .i64 5), (4, .slice (some ⟨B1, 0, none⟩) 1 c1), (5, .slice (some ⟨B2, 0, none⟩) 1 c2), (6, .int .i64 0)] ⟨rfl, rfl, rfl, rfl, rfl, rfl, trivial⟩ ?_
  refine CW.take [2, 3, 4, 5, 6, 7, 8, 9, 10, 0, 1] ?_
  refine CW.seq ?_
  refine CW.anyU 99 9 8 (fun _ => [blk b1 (statC q) 31, blk q.b17 (ruleC (slV q.b14) q.bX) 56, ownHP 64 11 (slV q.b14) [premC q.bX], blk q.b11 [.string nAct, .int .i64 1] 103, blk q.b9 (predC q.b7) 95, blk q.b7 [.string nPerson] 9, blk q.b6 [.string nAnn, .string nPerson] 38, blk q.b4 [.string nPerson] 9, blk q.bX [.string nX] 9, ownHP 9 1 (.slice (some ⟨B1, 0, none⟩) 1 c1) [[.string nX]], ownHP 3 1 (.slice (some ⟨B2, 0, none⟩) 1 c2) [[.int .i64 0]]]) 12
    [.val (.pointer (some ⟨b1, 6, none⟩)), .val (slV q.b17), .val (.pointer (some ⟨b1, 6, none⟩)), .val (slV q.b17), .val (ptrV q.b17), .val (.pointer (some ⟨q.b17, 4, none⟩)), .val (slV q.b14), .val (.agg premUC.toArray), .new (fun b => blk b premUC 64) (fun b => slV b) 99 (fun b => blk b premUC 64),
     .new (fun n => ownHP 64 11 (apV n) [premC q.bX, premUC]) (fun n => apV n) 99 (fun n => ownHP 64 11 (apV n) [premC q.bX, premUC]), .val (ptrV q.b17), .val (.pointer (some ⟨q.b17, 4, none⟩))] (by kernel_rfl) rfl rfl rfl rfl (by kernel_rfl)
    ⟨fun p dj c t c2 h => by have := List.mem_of_getElem? h; simp at this, fun j j' p c t c2 c' t' c2' h h' hne => ?_, fun j c t p c2 h => .inl ?_⟩ (fun i o d hi _ _ h => ?_) (fun k h => by cases h) (fun i o k _ h9 ho hk b => ?_) (fun o v ho _ => by cases ho) (fun o _ ho => ?_) (fun bs => ?_)
  · have := List.mem_of_getElem? h'
    simp at this
    rcases this with ⟨rfl, _, _, rfl⟩ | ⟨rfl, _, _, rfl⟩ <;> rfl
  · have := List.mem_of_getElem? h
    simp at this
    rcases this with ⟨rfl, _, _, rfl⟩ | ⟨rfl, _, _, rfl⟩ <;> rfl
  · have : i = 0 ∨ i = 1 ∨ i = 2 ∨ i = 3 ∨ i = 4 ∨ i = 5 ∨ i = 6 ∨ i = 7 ∨ i = 8 ∨ i = 9 ∨ i = 10 ∨ i = 11 := by omega
    rcases this with rfl | rfl | rfl | rfl | rfl | rfl | rfl | rfl | rfl | rfl | rfl | rfl <;> cases h
  · have : i = 0 ∨ i = 1 ∨ i = 2 ∨ i = 3 ∨ i = 4 ∨ i = 5 ∨ i = 6 ∨ i = 7 ∨ i = 8 ∨ i = 9 ∨ i = 10 ∨ i = 11 ∨ 12 ≤ i := by omega
    rcases this with rfl | rfl | rfl | rfl | rfl | rfl | rfl | rfl | rfl | rfl | rfl | rfl | h12
    any_goals (obtain rfl := Option.some.inj ho; obtain rfl := Option.some.inj hk; intro Gx X)
    · refine RW.fieldAddr rfl rfl ?_; exact RW.done rfl
    · refine RW.load_blk [] rfl rfl rfl rfl ?_; exact RW.done rfl
    · refine RW.fieldAddr rfl rfl ?_; exact RW.done rfl
    · refine RW.load_blk [] rfl rfl rfl rfl ?_; exact RW.done rfl
    · refine RW.indexAddr rfl rfl (by decide) (by decide) rfl ?_; exact RW.done rfl
    · refine RW.fieldAddr rfl rfl ?_; exact RW.done rfl
    · refine RW.load_blk [_] rfl rfl rfl rfl ?_; exact RW.done rfl
    · refine RW.build (v := .agg premUC.toArray) rfl (fun w => by kernel_rfl) rfl ?_; exact RW.done rfl
    · refine RW.buildSlice (e := 64) (c := premUC) rfl (fun w => by kernel_rfl) rfl fun b29 _ => ?_; exact RW.done_gen rfl
    · exact absurd rfl h9
    · refine RW.indexAddr rfl rfl (by decide) (by decide) rfl ?_; exact RW.done rfl
    · refine RW.fieldAddr rfl rfl ?_; exact RW.done rfl
    · rw [List.getElem?_eq_none (by simpa using h12)] at hk; cases hk
  · obtain rfl := Option.some.inj ho
    refine ⟨_, _, 29, _, _, _, _, _, _, _, List.mem_of_getElem? (i := 1) rfl, rfl, rfl, rfl, rfl, rfl, rfl, fun b0 b Gx X => ?_⟩
    refine RW.appendGrow (e := 64) (zc := [.int .i64 0, .bool false, .string nNo, .slice none 0 0, .bool false, .int .i64 0, .slice none 0 0, .int .i64 0, .slice none 0 0, .string nNo, .string nNo]) (olds := premC q.bX) (news := premUC) rfl rfl rfl rfl (by decide) rfl rfl (fun w hw => own_cells (es := [premC q.bX]) (pre := [_, _, _]) hw) (fun w hw => CellsAt.of_blk (St.blk (pre := []) hw)) (by decide) (by decide) (by decide) rfl fun b' cap tl _ h1 h2 h3 => ?_
    obtain ⟨n, rfl, rfl⟩ := enc b' cap h2
    refine RW.change [] (ownHP 64 11 (apV n) [premC q.bX, premUC]) (fun w F hp => own_of_blk hp tl rfl rfl (by intro x hx; simp at hx; rcases hx with rfl | rfl <;> rfl) (by rw [List.length_append] at h3 ⊢; exact h3) h1 h2) ?_
    exact RW.done_gen (b := n) rfl
  · refine RW.store_blk [_] rfl rfl rfl rfl rfl (by show 4 < 11; omega) ?_
    refine RW.take [0, 1, 12, 3, 4, 5, 6, 7, 8, 9, 10] ?_
    refine RW.change [_] (blk q.b17 (ruleC (apV (bs 30)) q.bX) 56) (fun w F hp => hp) ?_
    repeat (first|refine Ja ?_|refine Jb ?_|refine Jc ?_|refine Jd ?_|refine Je ?_|refine Jf ?_|refine Jg ?_|refine Jh ?_|refine Ji ?_|refine Jj ?_|refine Jk ?_|refine Jl ?_|refine Jm ?_|refine Jn ?_|refine Jo ?_|refine Jp ?_|refine Jq ?_|refine Jr ?_|refine Js ?_|refine Jt ?_|refine Ju ?_|refine Jv ?_|refine Jw ?_|refine Jx ?_|refine Jy ?_|refine Jz ?_|refine JA ?_|refine JB ?_|refine JC ?_|refine JD ?_|refine JE ?_|refine JF ?_|refine JG ?_|refine JH ?_|refine JI ?_|refine JJ ?_|refine JK ?_|refine JL ?_|refine JM ?_|refine CW.skip (PW.code ?_)|refine RW.nil (PW.code ?_))
    refine RW.call Try.call8 rfl (fun w2 hw => check_loose (u := apV (bs 30)) (r := [_, _]) (Sep.tail hw.sep)) rfl ?_
    repeat (first|refine Ja ?_|refine Jb ?_|refine Jc ?_|refine Jd ?_|refine Je ?_|refine Jf ?_|refine Jg ?_|refine Jh ?_|refine Ji ?_|refine Jj ?_|refine Jk ?_|refine Jl ?_|refine Jm ?_|refine Jn ?_|refine Jo ?_|refine Jp ?_|refine Jq ?_|refine Jr ?_|refine Js ?_|refine Jt ?_|refine Ju ?_|refine Jv ?_|refine Jw ?_|refine Jx ?_|refine Jy ?_|refine Jz ?_|refine JA ?_|refine JB ?_|refine JC ?_|refine JD ?_|refine JE ?_|refine JF ?_|refine JG ?_|refine JH ?_|refine JI ?_|refine JJ ?_|refine JK ?_|refine JL ?_|refine JM ?_|refine CW.skip (PW.code ?_)|refine RW.nil (PW.code ?_))
    refine RW.call Try.call34 rfl (fun w2 hw => num_ret) rfl ?_
    repeat (first|refine Ja ?_|refine Jb ?_|refine Jc ?_|refine Jd ?_|refine Je ?_|refine Jf ?_|refine Jg ?_|refine Jh ?_|refine Ji ?_|refine Jj ?_|refine Jk ?_|refine Jl ?_|refine Jm ?_|refine Jn ?_|refine Jo ?_|refine Jp ?_|refine Jq ?_|refine Jr ?_|refine Js ?_|refine Jt ?_|refine Ju ?_|refine Jv ?_|refine Jw ?_|refine Jx ?_|refine Jy ?_|refine Jz ?_|refine JA ?_|refine JB ?_|refine JC ?_|refine JD ?_|refine JE ?_|refine JF ?_|refine JG ?_|refine JH ?_|refine JI ?_|refine JJ ?_|refine JK ?_|refine JL ?_|refine JM ?_|refine CW.skip (PW.code ?_)|refine RW.nil (PW.code ?_))
    refine RW.call Try.call34 rfl (fun w2 hw => num_ret) rfl ?_
    repeat (first|refine Ja ?_|refine Jb ?_|refine Jc ?_|refine Jd ?_|refine Je ?_|refine Jf ?_|refine Jg ?_|refine Jh ?_|refine Ji ?_|refine Jj ?_|refine Jk ?_|refine Jl ?_|refine Jm ?_|refine Jn ?_|refine Jo ?_|refine Jp ?_|refine Jq ?_|refine Jr ?_|refine Js ?_|refine Jt ?_|refine Ju ?_|refine Jv ?_|refine Jw ?_|refine Jx ?_|refine Jy ?_|refine Jz ?_|refine JA ?_|refine JB ?_|refine JC ?_|refine JD ?_|refine JE ?_|refine JF ?_|refine JG ?_|refine JH ?_|refine JI ?_|refine JJ ?_|refine JK ?_|refine JL ?_|refine JM ?_|refine CW.skip (PW.code ?_)|refine RW.nil (PW.code ?_))
    refine RW.indexAddr rfl rfl (by decide) (by decide) rfl ?_
    repeat (first|refine Ja ?_|refine Jb ?_|refine Jc ?_|refine Jd ?_|refine Je ?_|refine Jf ?_|refine Jg ?_|refine Jh ?_|refine Ji ?_|refine Jj ?_|refine Jk ?_|refine Jl ?_|refine Jm ?_|refine Jn ?_|refine Jo ?_|refine Jp ?_|refine Jq ?_|refine Jr ?_|refine Js ?_|refine Jt ?_|refine Ju ?_|refine Jv ?_|refine Jw ?_|refine Jx ?_|refine Jy ?_|refine Jz ?_|refine JA ?_|refine JB ?_|refine JC ?_|refine JD ?_|refine JE ?_|refine JF ?_|refine JG ?_|refine JH ?_|refine JI ?_|refine JJ ?_|refine JK ?_|refine JL ?_|refine JM ?_|refine CW.skip (PW.code ?_)|refine RW.nil (PW.code ?_))
    refine RW.load_fact (v := .string nX) rfl rfl rfl (fun w hw => (own_cells (es := [[.string nX]]) (pre := [_, _, _, _, _, _, _, _, _]) hw).at_ 0 rfl) ?_
    repeat (first|refine Ja ?_|refine Jb ?_|refine Jc ?_|refine Jd ?_|refine Je ?_|refine Jf ?_|refine Jg ?_|refine Jh ?_|refine Ji ?_|refine Jj ?_|refine Jk ?_|refine Jl ?_|refine Jm ?_|refine Jn ?_|refine Jo ?_|refine Jp ?_|refine Jq ?_|refine Jr ?_|refine Js ?_|refine Jt ?_|refine Ju ?_|refine Jv ?_|refine Jw ?_|refine Jx ?_|refine Jy ?_|refine Jz ?_|refine JA ?_|refine JB ?_|refine JC ?_|refine JD ?_|refine JE ?_|refine JF ?_|refine JG ?_|refine JH ?_|refine JI ?_|refine JJ ?_|refine JK ?_|refine JL ?_|refine JM ?_|refine CW.skip (PW.code ?_)|refine RW.nil (PW.code ?_))
    refine RW.indexAddr rfl rfl (by decide) (by decide) rfl ?_
    repeat (first|refine Ja ?_|refine Jb ?_|refine Jc ?_|refine Jd ?_|refine Je ?_|refine Jf ?_|refine Jg ?_|refine Jh ?_|refine Ji ?_|refine Jj ?_|refine Jk ?_|refine Jl ?_|refine Jm ?_|refine Jn ?_|refine Jo ?_|refine Jp ?_|refine Jq ?_|refine Jr ?_|refine Js ?_|refine Jt ?_|refine Ju ?_|refine Jv ?_|refine Jw ?_|refine Jx ?_|refine Jy ?_|refine Jz ?_|refine JA ?_|refine JB ?_|refine JC ?_|refine JD ?_|refine JE ?_|refine JF ?_|refine JG ?_|refine JH ?_|refine JI ?_|refine JJ ?_|refine JK ?_|refine JL ?_|refine JM ?_|refine CW.skip (PW.code ?_)|refine RW.nil (PW.code ?_))
    refine RW.load_fact (v := .int .i64 0) rfl rfl rfl (fun w hw => (own_cells (es := [[.int .i64 0]]) (pre := [_, _, _, _, _, _, _, _, _, _]) hw).at_ 0 rfl) ?_
    repeat (first|refine Ja ?_|refine Jb ?_|refine Jc ?_|refine Jd ?_|refine Je ?_|refine Jf ?_|refine Jg ?_|refine Jh ?_|refine Ji ?_|refine Jj ?_|refine Jk ?_|refine Jl ?_|refine Jm ?_|refine Jn ?_|refine Jo ?_|refine Jp ?_|refine Jq ?_|refine Jr ?_|refine Js ?_|refine Jt ?_|refine Ju ?_|refine Jv ?_|refine Jw ?_|refine Jx ?_|refine Jy ?_|refine Jz ?_|refine JA ?_|refine JB ?_|refine JC ?_|refine JD ?_|refine JE ?_|refine JF ?_|refine JG ?_|refine JH ?_|refine JI ?_|refine JJ ?_|refine JK ?_|refine JL ?_|refine JM ?_|refine CW.skip (PW.code ?_)|refine RW.nil (PW.code ?_))
    refine RW.call Try.call34 rfl (fun w2 hw => num_ret) rfl ?_
    repeat (first|refine Ja ?_|refine Jb ?_|refine Jc ?_|refine Jd ?_|refine Je ?_|refine Jf ?_|refine Jg ?_|refine Jh ?_|refine Ji ?_|refine Jj ?_|refine Jk ?_|refine Jl ?_|refine Jm ?_|refine Jn ?_|refine Jo ?_|refine Jp ?_|refine Jq ?_|refine Jr ?_|refine Js ?_|refine Jt ?_|refine Ju ?_|refine Jv ?_|refine Jw ?_|refine Jx ?_|refine Jy ?_|refine Jz ?_|refine JA ?_|refine JB ?_|refine JC ?_|refine JD ?_|refine JE ?_|refine JF ?_|refine JG ?_|refine JH ?_|refine JI ?_|refine JJ ?_|refine JK ?_|refine JL ?_|refine JM ?_|refine CW.skip (PW.code ?_)|refine RW.nil (PW.code ?_))
    exact CW.ret1 rfl Try.results7 rfl rfl fun w hw => ⟨rfl, hw.kp⟩
end Go.Proofs.Ytkfmlekomfnleaa
