/- The laws' small statute, walked. Conditions: none. -/
import Derived.Test.YtkfmlekomfnleaaR22
import Derived.Test.YtkfmlekomfnleaaZ
set_option linter.unusedVariables false
set_option linter.unusedSimpArgs false
set_option maxRecDepth 10000
namespace Go.Proofs.Ytkfmlekomfnleaa
open Go Go.RowKit Go.MapKept

structure SQ where
  (b17 b14 b11 b9 b7 b6 b4 bX : Nat)
abbrev slV (b : Nat) : Value := .slice (some ⟨b, 0, none⟩) 1 1
abbrev premC (bX : Nat) : List Value := [.int .i64 1, .bool false, .string nOld, slV bX, .bool false, .int .i64 0, .slice none 0 0, .int .i64 0, .slice none 0 0, .string nNo, .string nNo]
abbrev premUC : List Value := [.int .i64 3, .bool false, .string nNo, .slice none 0 0, .bool false, .int .i64 0, .slice none 0 0, .int .i64 0, .slice none 0 0, .string nX, .string nY]
abbrev ruleC (u : Value) (bX : Nat) : List Value := [.string nR, .string nAct, .int .i64 1, .int .i64 0, u, .int .i64 1, .bool false, .string nOld, slV bX, .bool false, .int .i64 0]
abbrev predC (b7 : Nat) : List Value := [.string nOld, .int .i64 1, slV b7, .slice none 0 0]
def xS (q : SQ) : RC := ⟨some ⟨q.b4, 0, none⟩, some ⟨q.b6, 0, none⟩, some ⟨q.b9, 0, none⟩, none, some ⟨q.b11, 0, none⟩, some ⟨q.b17, 0, none⟩, none, none, 1, 1, 1, 0, 1, 1, 0, 0, 0, 0, 0, 0, 0, 0⟩
abbrev statC (q : SQ) : List Value := [.string nNo, slV q.b4, slV q.b6, slV q.b9, .slice none 0 0, slV q.b11, slV q.b17, .slice none 0 0, .slice none 0 0]
theorem stat_xS (q : SQ) (body : List kPrem.V) : (xS q).stat (statS body) = statC q := rfl
abbrev smallH (q : SQ) (u : Value) (es : List (List Value)) : List HP := [blk q.b17 (ruleC u q.bX) 56, ownHP 64 11 u es, blk q.b11 [.string nAct, .int .i64 1] 103, blk q.b9 (predC q.b7) 95, blk q.b7 [.string nPerson] 9, blk q.b6 [.string nAnn, .string nPerson] 38, blk q.b4 [.string nPerson] 9, blk q.bX [.string nX] 9]
theorem blk_has {pre r : List HP} {b : Nat} {c : List Value} {t : TypeId} {w : World} {A : Nat → Prop} (h : Sep (pre ++ blk b c t :: r) w A) : ∀ (j : Nat) (v : Value), c[j]? = some v → mem w (fun b => ¬ No b) b j v := by
  obtain ⟨F, _, hp, _⟩ := Sep.pull h
  exact blk_mem (fun k => k) hp.2
theorem rd_litC {M : Mem} {b : Nat} (h : Rd kStrs M [slV b] [nX]) : Rd kLitT M [.bool false, .string nOld, slV b, .bool false, .int .i64 0] litS :=
  rdP (c1 := [_]) (rdB false) (rdP (c1 := [_]) (rdS nOld (by decide)) (rdP (c1 := [_]) h (rdP (c1 := [_]) (rdB false) (rdI .i64 0 rfl))))
theorem rd_noG {M : Mem} {a b : Str} (ha : Nat.ble a.size reach = true) (hb : Nat.ble b.size reach = true) : Rd (.pr kGuard (.pr .str .str)) M [.slice none 0 0, .int .i64 0, .slice none 0 0, .string a, .string b] (((([] : List kTerm.V), (0 : Int), ([] : List kTerm.V)) : kGuard.V), a, b) :=
  rdP (a := kGuard) (b := .pr .str .str) (c1 := [_, _, _]) (rdP (a := kTerms) (b := .pr kI kTerms) (c1 := [_]) rdNil (rdP (a := kI) (b := kTerms) (c1 := [_]) (rdI .i64 0 rfl) rdNil)) (rdP (c1 := [_]) (rdS a ha) (rdS b hb))
theorem rd_premC {M : Mem} {b : Nat} (h : Rd kStrs M [slV b] [nX]) : Rd kPrem M (premC b) premS :=
  rdP (a := kI) (b := .pr kLitT (.pr kGuard (.pr .str .str))) (c1 := [_]) (rdI .i64 1 rfl) (rdP (a := kLitT) (b := .pr kGuard (.pr .str .str)) (c1 := [_, _, _, _, _]) (rd_litC h) (rd_noG (by decide) (by decide)))
theorem rd_premUC {M : Mem} : Rd kPrem M premUC premU :=
  rdP (a := kI) (b := .pr kLitT (.pr kGuard (.pr .str .str))) (c1 := [_]) (rdI .i64 3 rfl) (rdP (a := kLitT) (b := .pr kGuard (.pr .str .str)) (c1 := [_, _, _, _, _]) (rdP (c1 := [_]) (rdB false) (rdP (c1 := [_]) (rdS nNo (by decide)) (rdP (c1 := [_]) rdNil (rdP (c1 := [_]) (rdB false) (rdI .i64 0 rfl))))) (rd_noG (by decide) (by decide)))
/-- The small statute can be read. -/
theorem small_on {q : SQ} {u : Value} {es : List (List Value)} {body : List kPrem.V} {w : World} {A : Nat → Prop} {r : List HP} (h : Sep (smallH q u es ++ r) w A) (hb : body.length * 160 ≤ reach) (hes : ∀ M : Mem, Rd kStrs M [slV q.bX] [nX] → All2 (fun cs x => Rd kPrem M cs x) es body) : StatOn (mem w (fun b => ¬ No b)) (statS body) (xS q) := by
  have hX : Rd kStrs (mem w (fun b => ¬ No b)) [slV q.bX] [nX] := rdOne (t := .str) (cs := [.string nX]) (blk_has (pre := [_, _, _, _, _, _, _]) h) (rdS nX (by decide)) (by decide)
  have h7 : Rd kStrs (mem w (fun b => ¬ No b)) [slV q.b7] [nPerson] := rdOne (t := .str) (cs := [.string nPerson]) (blk_has (pre := [_, _, _, _]) h) (rdS nPerson (by decide)) (by decide)
  have h4 : Rd kStrs (mem w (fun b => ¬ No b)) [slV q.b4] [nPerson] := rdOne (t := .str) (cs := [.string nPerson]) (blk_has (pre := [_, _, _, _, _, _]) h) (rdS nPerson (by decide)) (by decide)
  have hu : Rd kPrems (mem w (fun b => ¬ No b)) [u] body := by
    obtain ⟨F, _, hp, _⟩ := Sep.pull (pre := [_]) h
    exact rd_of_own hp rfl (mem_up fun _ _ k => k) (hes _ hX) hb
  refine ⟨h4, ?_, ?_, rdNil, ?_, ?_, rdNil, rdNil⟩
  · exact rdOne (t := kMember) (cs := [.string nAnn, .string nPerson]) (blk_has (pre := [_, _, _, _, _]) h) (rdP (c1 := [_]) (rdS nAnn (by decide)) (rdS nPerson (by decide))) (by decide)
  · exact rdOne (t := kPredT) (cs := predC q.b7) (blk_has (pre := [_, _, _]) h) (rdP (c1 := [_]) (rdS nOld (by decide)) (rdP (c1 := [_]) (rdI .i64 1 rfl) (rdP (c1 := [_]) h7 rdNil))) (by decide)
  · exact rdOne (t := kSource) (cs := [.string nAct, .int .i64 1]) (blk_has (pre := [_, _]) h) (rdP (c1 := [_]) (rdS nAct (by decide)) (rdI .i64 1 rfl)) (by decide)
  · exact rdOne (t := kRule) (cs := ruleC u q.bX) (blk_has (pre := []) h) (rdP (c1 := [_]) (rdS nR (by decide)) (rdP (c1 := [_]) (rdS nAct (by decide)) (rdP (c1 := [_]) (rdI .i64 1 rfl) (rdP (c1 := [_]) (rdI .i64 0 rfl) (rdP (c1 := [_]) hu (rdP (c1 := [_]) (rdI .i64 1 rfl) (rd_litC hX))))))) (by decide)
attribute [local irreducible] RW CW
set_option maxHeartbeats 4000000 in
theorem smallStat_ret {w : World} : RetC Try.prog 33 [] w No (fun q : SQ => .agg (statC q).toArray) (fun q => smallH q (slV q.b14) [premC q.bX]) := by
  refine Calls.enter Try.func33 rfl _ rfl rfl (S := No) (H := []) trivial ?_
  refine CW.seqR ?_
  refine RW.alloc (c := [.string nNo, .slice none 0 0, .slice none 0 0, .slice none 0 0, .slice none 0 0, .slice none 0 0, .slice none 0 0, .slice none 0 0, .slice none 0 0]) rfl rfl fun b0 _ => ?_
  repeat (first|refine Ja ?_|refine Jb ?_|refine Jc ?_|refine Jd ?_|refine Je ?_|refine Jf ?_|refine Jg ?_|refine Jh ?_|refine Ji ?_|refine Jj ?_|refine Jk ?_|refine Jl ?_|refine Jm ?_|refine Jn ?_|refine Jo ?_|refine Jp ?_|refine Jq ?_|refine Jr ?_|refine Js ?_|refine Jt ?_|refine Ju ?_|refine Jv ?_|refine Jw ?_|refine Jx ?_|refine Jy ?_|refine Jz ?_|refine JA ?_|refine JB ?_|refine JC ?_|refine JD ?_|refine JE ?_|refine JF ?_|refine JG ?_|refine JH ?_|refine JI ?_|refine JJ ?_|refine JK ?_|refine JL ?_|refine JM ?_|refine CW.skip (PW.code ?_)|refine RW.nil (PW.code ?_))
  refine RW.buildSlice (e := 9) (c := [.string nX]) rfl (fun w => by kernel_rfl) rfl fun bX _ => ?_
  refine RW.build (v := .agg #[.bool false, .string nOld, slV bX, .bool false, .int .i64 0]) rfl (fun w => by kernel_rfl) rfl ?_
  refine RW.alloc (c := [.bool false, .string nNo, .slice none 0 0, .bool false, .int .i64 0]) rfl rfl fun b1 _ => ?_
  refine RW.store_whole [] rfl rfl (vs := [.bool false, .string nOld, slV bX, .bool false, .int .i64 0]) rfl rfl rfl (by simp [Value.oneCell']) ?_
  repeat (first|refine Ja ?_|refine Jb ?_|refine Jc ?_|refine Jd ?_|refine Je ?_|refine Jf ?_|refine Jg ?_|refine Jh ?_|refine Ji ?_|refine Jj ?_|refine Jk ?_|refine Jl ?_|refine Jm ?_|refine Jn ?_|refine Jo ?_|refine Jp ?_|refine Jq ?_|refine Jr ?_|refine Js ?_|refine Jt ?_|refine Ju ?_|refine Jv ?_|refine Jw ?_|refine Jx ?_|refine Jy ?_|refine Jz ?_|refine JA ?_|refine JB ?_|refine JC ?_|refine JD ?_|refine JE ?_|refine JF ?_|refine JG ?_|refine JH ?_|refine JI ?_|refine JJ ?_|refine JK ?_|refine JL ?_|refine JM ?_|refine CW.skip (PW.code ?_)|refine RW.nil (PW.code ?_))
  refine RW.buildSlice (e := 9) (c := [.string nPerson]) rfl (fun w => by kernel_rfl) rfl fun b4 _ => ?_
  refine RW.build (v := .agg #[.string nAnn, .string nPerson]) rfl (fun w => by kernel_rfl) rfl ?_
  refine RW.buildSlice (e := 38) (c := [.string nAnn, .string nPerson]) rfl (fun w => by kernel_rfl) rfl fun b6 _ => ?_
  refine RW.buildSlice (e := 9) (c := [.string nPerson]) rfl (fun w => by kernel_rfl) rfl fun b7 _ => ?_
  refine RW.build (v := .agg (predC b7).toArray) rfl (fun w => by kernel_rfl) rfl ?_
  refine RW.buildSlice (e := 95) (c := predC b7) rfl (fun w => by kernel_rfl) rfl fun b9 _ => ?_
  refine RW.build (v := .agg #[.string nAct, .int .i64 1]) rfl (fun w => by kernel_rfl) rfl ?_
  refine RW.buildSlice (e := 103) (c := [.string nAct, .int .i64 1]) rfl (fun w => by kernel_rfl) rfl fun b11 _ => ?_
  refine RW.load_whole [_, _, _, _, _] rfl rfl rfl rfl ?_
  refine RW.build (v := .agg (premC bX).toArray) rfl (fun w => by kernel_rfl) rfl ?_
  refine RW.buildSlice (e := 64) (c := premC bX) rfl (fun w => by kernel_rfl) rfl fun b14 _ => ?_
  refine RW.load_whole [_, _, _, _, _, _] rfl rfl rfl rfl ?_
  refine RW.build (v := .agg (ruleC (slV b14) bX).toArray) rfl (fun w => by kernel_rfl) rfl ?_
  refine RW.buildSlice (e := 56) (c := ruleC (slV b14) bX) rfl (fun w => by kernel_rfl) rfl fun b17 _ => ?_
  refine RW.build (v := .agg (statC ⟨b17, b14, b11, b9, b7, b6, b4, bX⟩).toArray) rfl (fun w => by kernel_rfl) rfl ?_
  refine RW.take [9, 0, 1, 2, 3, 4, 5, 6, 7, 8] ?_
  refine RW.store_whole [] rfl rfl (vs := statC ⟨b17, b14, b11, b9, b7, b6, b4, bX⟩) rfl rfl rfl (by simp [Value.oneCell']) ?_
  repeat (first|refine Ja ?_|refine Jb ?_|refine Jc ?_|refine Jd ?_|refine Je ?_|refine Jf ?_|refine Jg ?_|refine Jh ?_|refine Ji ?_|refine Jj ?_|refine Jk ?_|refine Jl ?_|refine Jm ?_|refine Jn ?_|refine Jo ?_|refine Jp ?_|refine Jq ?_|refine Jr ?_|refine Js ?_|refine Jt ?_|refine Ju ?_|refine Jv ?_|refine Jw ?_|refine Jx ?_|refine Jy ?_|refine Jz ?_|refine JA ?_|refine JB ?_|refine JC ?_|refine JD ?_|refine JE ?_|refine JF ?_|refine JG ?_|refine JH ?_|refine JI ?_|refine JJ ?_|refine JK ?_|refine JL ?_|refine JM ?_|refine CW.skip (PW.code ?_)|refine RW.nil (PW.code ?_))
  refine CW.rets (rs := [.cell 0 31]) (vs := [_]) rfl Try.results33 rfl (ResOK.cell [] rfl rfl rfl ResOK.nil) fun w hw => ⟨⟨b17, b14, b11, b9, b7, b6, b4, bX⟩, rfl, ?_⟩
  exact (hw.take [1, 2, 3, 4, 5, 6, 7, 9]).change (pre := [_]) (r := [_, _, _, _, _, _]) (fun F hp => own_of_blk hp [] rfl rfl (by intro x hx; simp at hx; subst hx; rfl) rfl (Nat.le_refl _) (by decide))
end Go.Proofs.Ytkfmlekomfnleaa
