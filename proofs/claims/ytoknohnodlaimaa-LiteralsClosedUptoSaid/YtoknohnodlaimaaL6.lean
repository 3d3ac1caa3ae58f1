/- slices.Clone, literals.twin, literals.Complement, by the calculus. -/
import Derived.Test.YtoknohnodlaimaaL2
import Derived.Test.YtoknohnodlaimaaH
set_option linter.unusedVariables false
set_option linter.unusedSimpArgs false
set_option maxRecDepth 10000
namespace Go.Proofs.Ytoknohnodlaimaa
open Go Go.RowKit

attribute [local irreducible] RW CW
abbrev litV (l : LitD) : kLit.V := (l.neg, (l.pred, l.args, l.value), l.guard)
theorem litOf_V (l : LitD) : litOf (litV l) = l := rfl
theorem flat_ints (xs : List Int) : (xs.map (fun x => [Value.int .i64 x])).flatten = xs.map (fun x => Value.int .i64 x) := by
  induction xs with
  | nil => rfl
  | cons x xs ih => simp [ih]
theorem ints_cells {M : Mem} {A : Option Addr} {c : Nat} {xs : List Int} (h : Rd kInts M [.slice A xs.length c] xs) (hn : xs.length ≠ 0) : ∃ B O, A = some ⟨B, O, none⟩ ∧ ∀ (i : Nat) (v : Value), (xs.map (fun x => Value.int .i64 x))[i]? = some v → M B (O + i) v := by
  obtain ⟨A', c', he, _, _, _, hx⟩ := Rd.ints h
  cases he
  obtain ⟨_, B, O, rfl, _⟩ := hx 0 xs[0] (List.getElem?_eq_getElem (by omega))
  refine ⟨B, O, rfl, fun i v hv => ?_⟩
  rw [List.getElem?_map] at hv
  cases hi : xs[i]? with
  | none => rw [hi] at hv; cases hv
  | some x =>
    rw [hi] at hv
    cases hv
    obtain ⟨_, B', O', he, hm⟩ := hx i x hi
    cases he
    simpa using hm
theorem cloneInts_ret {A : Option Addr} {c : Nat} {xs : List Int} {w : World} (h : Rd kInts (mem w Any) [.slice A xs.length c] xs) :
    RetF Try.prog 51 [.slice A xs.length c] w (fun x : Option Addr × Nat => .slice x.1 xs.length x.2) (fun x => rdHP Mem.none kInts [.slice x.1 xs.length x.2] xs) := by
  obtain ⟨A', c', he, h2, h3, h4, hx⟩ := Rd.ints h
  cases he
  have hl : xs.length ≤ reach := by omega
  refine Calls.enter Try.func51 rfl _ rfl rfl (S := No) (H := []) trivial ?_
  repeat (first|refine Ja ?_|refine Jb ?_|refine Jc ?_|refine Jd ?_|refine Je ?_|refine Jf ?_|refine Jg ?_|refine Jh ?_|refine Ji ?_|refine Jj ?_|refine Jk ?_|refine Jl ?_|refine Jm ?_|refine Jn ?_|refine Jo ?_|refine Jp ?_|refine Jq ?_|refine Jr ?_|refine Js ?_|refine Jt ?_|refine Ju ?_|refine Jv ?_|refine Jw ?_|refine Jx ?_|refine Jy ?_|refine Jz ?_|refine JA ?_|refine JB ?_|refine JC ?_|refine JD ?_|refine JE ?_|refine JF ?_|refine JG ?_|refine JH ?_|refine JI ?_|refine JJ ?_|refine JK ?_|refine JL ?_|refine JM ?_|refine CW.skip (PW.code ?_)|refine RW.nil (PW.code ?_))
  refine CW.seq ?_
  repeat (first|refine Ja ?_|refine Jb ?_|refine Jc ?_|refine Jd ?_|refine Je ?_|refine Jf ?_|refine Jg ?_|refine Jh ?_|refine Ji ?_|refine Jj ?_|refine Jk ?_|refine Jl ?_|refine Jm ?_|refine Jn ?_|refine Jo ?_|refine Jp ?_|refine Jq ?_|refine Jr ?_|refine Js ?_|refine Jt ?_|refine Ju ?_|refine Jv ?_|refine Jw ?_|refine Jx ?_|refine Jy ?_|refine Jz ?_|refine JA ?_|refine JB ?_|refine JC ?_|refine JD ?_|refine JE ?_|refine JF ?_|refine JG ?_|refine JH ?_|refine JI ?_|refine JJ ?_|refine JK ?_|refine JL ?_|refine JM ?_|refine CW.skip (PW.code ?_)|refine RW.nil (PW.code ?_))
  refine RW.eql_nil rfl rfl rfl ?_
  repeat (first|refine Ja ?_|refine Jb ?_|refine Jc ?_|refine Jd ?_|refine Je ?_|refine Jf ?_|refine Jg ?_|refine Jh ?_|refine Ji ?_|refine Jj ?_|refine Jk ?_|refine Jl ?_|refine Jm ?_|refine Jn ?_|refine Jo ?_|refine Jp ?_|refine Jq ?_|refine Jr ?_|refine Js ?_|refine Jt ?_|refine Ju ?_|refine Jv ?_|refine Jw ?_|refine Jx ?_|refine Jy ?_|refine Jz ?_|refine JA ?_|refine JB ?_|refine JC ?_|refine JD ?_|refine JE ?_|refine JF ?_|refine JG ?_|refine JH ?_|refine JI ?_|refine JJ ?_|refine JK ?_|refine JL ?_|refine JM ?_|refine CW.skip (PW.code ?_)|refine RW.nil (PW.code ?_))
  refine CW.cond rfl (fun hn => ?_) (fun hn => ?_)
  · have hA : A = none := by simpa using hn
    have hx0 : xs = [] := by
      cases xs with
      | nil => rfl
      | cons y ys => obtain ⟨_, B, O, he, _⟩ := hx 0 y rfl; rw [hA] at he; cases he
    subst hx0
    repeat (first|refine Ja ?_|refine Jb ?_|refine Jc ?_|refine Jd ?_|refine Je ?_|refine Jf ?_|refine Jg ?_|refine Jh ?_|refine Ji ?_|refine Jj ?_|refine Jk ?_|refine Jl ?_|refine Jm ?_|refine Jn ?_|refine Jo ?_|refine Jp ?_|refine Jq ?_|refine Jr ?_|refine Js ?_|refine Jt ?_|refine Ju ?_|refine Jv ?_|refine Jw ?_|refine Jx ?_|refine Jy ?_|refine Jz ?_|refine JA ?_|refine JB ?_|refine JC ?_|refine JD ?_|refine JE ?_|refine JF ?_|refine JG ?_|refine JH ?_|refine JI ?_|refine JJ ?_|refine JK ?_|refine JL ?_|refine JM ?_|refine CW.skip (PW.code ?_)|refine RW.nil (PW.code ?_))
    refine CW.ret1 rfl Try.results51 rfl rfl fun w hw => ⟨(none, 0), rfl, hw.kp, ?_⟩
    exact ⟨none, 0, rfl, Nat.le_refl _, Nat.zero_le _, Nat.zero_le _, RowAt.nil⟩
  · repeat (first|refine Ja ?_|refine Jb ?_|refine Jc ?_|refine Jd ?_|refine Je ?_|refine Jf ?_|refine Jg ?_|refine Jh ?_|refine Ji ?_|refine Jj ?_|refine Jk ?_|refine Jl ?_|refine Jm ?_|refine Jn ?_|refine Jo ?_|refine Jp ?_|refine Jq ?_|refine Jr ?_|refine Js ?_|refine Jt ?_|refine Ju ?_|refine Jv ?_|refine Jw ?_|refine Jx ?_|refine Jy ?_|refine Jz ?_|refine JA ?_|refine JB ?_|refine JC ?_|refine JD ?_|refine JE ?_|refine JF ?_|refine JG ?_|refine JH ?_|refine JI ?_|refine JJ ?_|refine JK ?_|refine JL ?_|refine JM ?_|refine CW.skip (PW.code ?_)|refine RW.nil (PW.code ?_))
    refine RW.buildOwn (e := 3) (sz := 1) [] rfl (fun w => by kernel_rfl) rfl (by simp) (by decide) rfl fun b => ?_
    repeat (first|refine Ja ?_|refine Jb ?_|refine Jc ?_|refine Jd ?_|refine Je ?_|refine Jf ?_|refine Jg ?_|refine Jh ?_|refine Ji ?_|refine Jj ?_|refine Jk ?_|refine Jl ?_|refine Jm ?_|refine Jn ?_|refine Jo ?_|refine Jp ?_|refine Jq ?_|refine Jr ?_|refine Js ?_|refine Jt ?_|refine Ju ?_|refine Jv ?_|refine Jw ?_|refine Jx ?_|refine Jy ?_|refine Jz ?_|refine JA ?_|refine JB ?_|refine JC ?_|refine JD ?_|refine JE ?_|refine JF ?_|refine JG ?_|refine JH ?_|refine JI ?_|refine JJ ?_|refine JK ?_|refine JL ?_|refine JM ?_|refine CW.skip (PW.code ?_)|refine RW.nil (PW.code ?_))
    refine RW.append [] (e := 3) (sz := 1) (news := xs.map (fun x => [.int .i64 x])) (zc := [.int .i64 0]) rfl rfl rfl rfl (by simp) (by simp) (by simp [Value.oneCell']) (fun w hw hn => ?_) (by unfold reach at h4; simp; omega) (by unfold reach at hl; unfold maxN; simp; omega) rfl fun v' => ?_
    · obtain ⟨B, O, hA, hc⟩ := ints_cells h hn
      refine ⟨B, O, hA, fun i v hv => ?_⟩
      rw [flat_ints] at hv
      exact cell_keeps (hc i v hv).2 hw.kp (fun k => k)
    repeat (first|refine Ja ?_|refine Jb ?_|refine Jc ?_|refine Jd ?_|refine Je ?_|refine Jf ?_|refine Jg ?_|refine Jh ?_|refine Ji ?_|refine Jj ?_|refine Jk ?_|refine Jl ?_|refine Jm ?_|refine Jn ?_|refine Jo ?_|refine Jp ?_|refine Jq ?_|refine Jr ?_|refine Js ?_|refine Jt ?_|refine Ju ?_|refine Jv ?_|refine Jw ?_|refine Jx ?_|refine Jy ?_|refine Jz ?_|refine JA ?_|refine JB ?_|refine JC ?_|refine JD ?_|refine JE ?_|refine JF ?_|refine JG ?_|refine JH ?_|refine JI ?_|refine JJ ?_|refine JK ?_|refine JL ?_|refine JM ?_|refine CW.skip (PW.code ?_)|refine RW.nil (PW.code ?_))
    refine CW.ret1 rfl Try.results51 rfl rfl fun w hw => ?_
    have hform := own_form (pre := []) hw
    have hp := St.newp (pre := []) hw
    have hr : Rd kInts (Mem.none.or (mem w fun b => _ ≤ b ∧ b < w.heap.size)) [v'] xs := rd_of_own (t := kInt) (by_ := 8) hp rfl (Mem.le_right _ _) ⟨by simp, fun i a b ha hb => by
      simp only [List.nil_append, List.getElem?_map, hb, Option.map_some, Option.some.injEq] at ha
      subst ha
      exact ⟨rfl, (hx i b hb).1⟩⟩ (by omega)
    rcases hform with ⟨rfl, he⟩ | ⟨B, c2, rfl, _⟩
    · have : xs = [] := by simpa using he
      subst this
      exact ⟨(none, 0), rfl, hw.kp, hr⟩
    · have hlen : ([] ++ xs.map (fun x => [Value.int .i64 x])).length = xs.length := by simp
      rw [hlen] at hr ⊢
      exact ⟨(some ⟨B, 0, none⟩, c2), rfl, hw.kp, hr⟩
theorem twin_ret {M : Mem} {cs : List Value} {l : LitD} {w : World} (hM : Mem.le M (mem w Any)) (h : Rd kLit M cs (litV l)) : RetF Try.prog 33 [.agg cs.toArray] w (fun cs : List Value => .agg cs.toArray) (fun cs => rdHP Mem.none kLit cs (litV l)) := by
  obtain ⟨A, c, rfl, hargs, hi1, hi2, hi3⟩ := Rd.lit h
  rw [litOf_V] at *
  clear h
  unfold LitD.V
  refine Calls.enter Try.func33 rfl _ rfl rfl (S := No) (H := []) trivial ?_
  refine CW.seqR ?_
  refine RW.box_agg rfl rfl fun b1 _ => ?_
  refine RW.alloc rfl rfl fun b2 _ => ?_
  repeat (first|refine Ja ?_|refine Jb ?_|refine Jc ?_|refine Jd ?_|refine Je ?_|refine Jf ?_|refine Jg ?_|refine Jh ?_|refine Ji ?_|refine Jj ?_|refine Jk ?_|refine Jl ?_|refine Jm ?_|refine Jn ?_|refine Jo ?_|refine Jp ?_|refine Jq ?_|refine Jr ?_|refine Js ?_|refine Jt ?_|refine Ju ?_|refine Jv ?_|refine Jw ?_|refine Jx ?_|refine Jy ?_|refine Jz ?_|refine JA ?_|refine JB ?_|refine JC ?_|refine JD ?_|refine JE ?_|refine JF ?_|refine JG ?_|refine JH ?_|refine JI ?_|refine JJ ?_|refine JK ?_|refine JL ?_|refine JM ?_|refine CW.skip (PW.code ?_)|refine RW.nil (PW.code ?_))
  refine RW.callF Try.call51 rfl (fun w2 hw2 => cloneInts_ret (hargs.mono (Mem.le_trans hM (Mem.le_trans any_ro (ro_le' hw2))))) rfl fun x => ?_
  repeat (first|refine Ja ?_|refine Jb ?_|refine Jc ?_|refine Jd ?_|refine Je ?_|refine Jf ?_|refine Jg ?_|refine Jh ?_|refine Ji ?_|refine Jj ?_|refine Jk ?_|refine Jl ?_|refine Jm ?_|refine Jn ?_|refine Jo ?_|refine Jp ?_|refine Jq ?_|refine Jr ?_|refine Js ?_|refine Jt ?_|refine Ju ?_|refine Jv ?_|refine Jw ?_|refine Jx ?_|refine Jy ?_|refine Jz ?_|refine JA ?_|refine JB ?_|refine JC ?_|refine JD ?_|refine JE ?_|refine JF ?_|refine JG ?_|refine JH ?_|refine JI ?_|refine JJ ?_|refine JK ?_|refine JL ?_|refine JM ?_|refine CW.skip (PW.code ?_)|refine RW.nil (PW.code ?_))
  refine RW.store_blk [_, _] rfl rfl rfl rfl rfl (by simp) ?_
  repeat (first|refine Ja ?_|refine Jb ?_|refine Jc ?_|refine Jd ?_|refine Je ?_|refine Jf ?_|refine Jg ?_|refine Jh ?_|refine Ji ?_|refine Jj ?_|refine Jk ?_|refine Jl ?_|refine Jm ?_|refine Jn ?_|refine Jo ?_|refine Jp ?_|refine Jq ?_|refine Jr ?_|refine Js ?_|refine Jt ?_|refine Ju ?_|refine Jv ?_|refine Jw ?_|refine Jx ?_|refine Jy ?_|refine Jz ?_|refine JA ?_|refine JB ?_|refine JC ?_|refine JD ?_|refine JE ?_|refine JF ?_|refine JG ?_|refine JH ?_|refine JI ?_|refine JJ ?_|refine JK ?_|refine JL ?_|refine JM ?_|refine CW.skip (PW.code ?_)|refine RW.nil (PW.code ?_))
  refine RW.store_whole [_] rfl rfl rfl rfl rfl (by simp [Value.oneCell']) ?_
  repeat (first|refine Ja ?_|refine Jb ?_|refine Jc ?_|refine Jd ?_|refine Je ?_|refine Jf ?_|refine Jg ?_|refine Jh ?_|refine Ji ?_|refine Jj ?_|refine Jk ?_|refine Jl ?_|refine Jm ?_|refine Jn ?_|refine Jo ?_|refine Jp ?_|refine Jq ?_|refine Jr ?_|refine Js ?_|refine Jt ?_|refine Ju ?_|refine Jv ?_|refine Jw ?_|refine Jx ?_|refine Jy ?_|refine Jz ?_|refine JA ?_|refine JB ?_|refine JC ?_|refine JD ?_|refine JE ?_|refine JF ?_|refine JG ?_|refine JH ?_|refine JI ?_|refine JJ ?_|refine JK ?_|refine JL ?_|refine JM ?_|refine CW.skip (PW.code ?_)|refine RW.nil (PW.code ?_))
  refine CW.rets (rs := [.cell 2 27]) (vs := [_]) rfl Try.results33 rfl (ResOK.cell [_] rfl rfl rfl ResOK.nil) fun w hw => ?_
  have hp := St.newp (pre := []) hw
  exact ⟨_, rfl, hw.kp, Rd.lit_mk (l := l) (A := x.1) (c := x.2) hp hi1 hi2 hi3⟩
def compD (l : LitD) : LitD × Int := if ¬ l.guard = 0 then (⟨false, 0, [], 0, 0⟩, 91) else (⟨!l.neg, l.pred, l.args, l.value, l.guard⟩, 0)
theorem complement_ret {M : Mem} {cs : List Value} {l : LitD} {w : World} (hM : Mem.le M (mem w Any)) (h : Rd kLit M cs (litV l)) :
    RetF Try.prog 12 [.agg cs.toArray] w (fun cs : List Value => .tuple #[.agg cs.toArray, .int .i64 (compD l).2]) (fun cs => rdHP Mem.none kLit cs (litV (compD l).1)) := by
  have hl := h
  obtain ⟨A, c, rfl, hargs, hi1, hi2, hi3⟩ := Rd.lit h
  rw [litOf_V] at *
  clear h
  unfold LitD.V
  refine Calls.enter Try.func12 rfl _ rfl rfl (S := No) (H := []) trivial ?_
  refine CW.seqR ?_
  refine RW.box_agg rfl rfl fun b1 _ => ?_
  refine RW.alloc rfl rfl fun b2 _ => ?_
  repeat (first|refine Ja ?_|refine Jb ?_|refine Jc ?_|refine Jd ?_|refine Je ?_|refine Jf ?_|refine Jg ?_|refine Jh ?_|refine Ji ?_|refine Jj ?_|refine Jk ?_|refine Jl ?_|refine Jm ?_|refine Jn ?_|refine Jo ?_|refine Jp ?_|refine Jq ?_|refine Jr ?_|refine Js ?_|refine Jt ?_|refine Ju ?_|refine Jv ?_|refine Jw ?_|refine Jx ?_|refine Jy ?_|refine Jz ?_|refine JA ?_|refine JB ?_|refine JC ?_|refine JD ?_|refine JE ?_|refine JF ?_|refine JG ?_|refine JH ?_|refine JI ?_|refine JJ ?_|refine JK ?_|refine JL ?_|refine JM ?_|refine CW.skip (PW.code ?_)|refine RW.nil (PW.code ?_))
  refine CW.seq ?_
  repeat (first|refine Ja ?_|refine Jb ?_|refine Jc ?_|refine Jd ?_|refine Je ?_|refine Jf ?_|refine Jg ?_|refine Jh ?_|refine Ji ?_|refine Jj ?_|refine Jk ?_|refine Jl ?_|refine Jm ?_|refine Jn ?_|refine Jo ?_|refine Jp ?_|refine Jq ?_|refine Jr ?_|refine Js ?_|refine Jt ?_|refine Ju ?_|refine Jv ?_|refine Jw ?_|refine Jx ?_|refine Jy ?_|refine Jz ?_|refine JA ?_|refine JB ?_|refine JC ?_|refine JD ?_|refine JE ?_|refine JF ?_|refine JG ?_|refine JH ?_|refine JI ?_|refine JJ ?_|refine JK ?_|refine JL ?_|refine JM ?_|refine CW.skip (PW.code ?_)|refine RW.nil (PW.code ?_))
  refine CW.ite rfl (fun hg => ?_) (fun hg => ?_)
  · refine CW.seqR ?_
    refine RW.build (v := .agg #[.bool false, .int .i64 0, .slice none 0 0, .int .i64 0, .int .i64 0]) rfl (fun w => by kernel_rfl) rfl ?_
    refine RW.store_whole [] (vs := [.bool false, .int .i64 0, .slice none 0 0, .int .i64 0, .int .i64 0]) rfl rfl rfl rfl rfl (by simp [Value.oneCell']) ?_
    repeat (first|refine Ja ?_|refine Jb ?_|refine Jc ?_|refine Jd ?_|refine Je ?_|refine Jf ?_|refine Jg ?_|refine Jh ?_|refine Ji ?_|refine Jj ?_|refine Jk ?_|refine Jl ?_|refine Jm ?_|refine Jn ?_|refine Jo ?_|refine Jp ?_|refine Jq ?_|refine Jr ?_|refine Js ?_|refine Jt ?_|refine Ju ?_|refine Jv ?_|refine Jw ?_|refine Jx ?_|refine Jy ?_|refine Jz ?_|refine JA ?_|refine JB ?_|refine JC ?_|refine JD ?_|refine JE ?_|refine JF ?_|refine JG ?_|refine JH ?_|refine JI ?_|refine JJ ?_|refine JK ?_|refine JL ?_|refine JM ?_|refine CW.skip (PW.code ?_)|refine RW.nil (PW.code ?_))
    refine CW.rets (rs := [.cell 2 27, .tmp 3]) (vs := [_, _]) rfl Try.results12 rfl (ResOK.cell [] rfl rfl rfl (ResOK.tmp rfl ResOK.nil)) fun w hw => ?_
    refine ⟨[.bool false, .int .i64 0, .slice none 0 0, .int .i64 0, .int .i64 0], ?_, hw.kp, ?_⟩
    · rw [compD, if_pos hg]; rfl
    · rw [compD, if_pos hg]
      exact Rd.lit_mk (l := ⟨false, 0, [], 0, 0⟩) (A := none) (c := 0) ⟨none, 0, rfl, Nat.le_refl _, Nat.zero_le _, Nat.zero_le _, RowAt.nil⟩ rfl rfl rfl
  · repeat (first|refine Ja ?_|refine Jb ?_|refine Jc ?_|refine Jd ?_|refine Je ?_|refine Jf ?_|refine Jg ?_|refine Jh ?_|refine Ji ?_|refine Jj ?_|refine Jk ?_|refine Jl ?_|refine Jm ?_|refine Jn ?_|refine Jo ?_|refine Jp ?_|refine Jq ?_|refine Jr ?_|refine Js ?_|refine Jt ?_|refine Ju ?_|refine Jv ?_|refine Jw ?_|refine Jx ?_|refine Jy ?_|refine Jz ?_|refine JA ?_|refine JB ?_|refine JC ?_|refine JD ?_|refine JE ?_|refine JF ?_|refine JG ?_|refine JH ?_|refine JI ?_|refine JJ ?_|refine JK ?_|refine JL ?_|refine JM ?_|refine CW.skip (PW.code ?_)|refine RW.nil (PW.code ?_))
    refine RW.callF Try.call33 rfl (fun w2 hw2 => twin_ret (l := l) (Mem.le_trans hM (Mem.le_trans any_ro (ro_le' hw2))) hl) rfl fun cs2 => ?_
    refine RW.have_ (φ := ∃ A2 c2, cs2 = l.V A2 c2) (fun w hw => ?_) (fun ⟨A2, c2, he⟩ => ?_)
    · obtain ⟨F, hp, _⟩ := St.get (pre := []) hw
      obtain ⟨A2, c2, he, _⟩ := Rd.lit hp
      exact ⟨A2, c2, he⟩
    subst he
    unfold LitD.V
    refine RW.store_whole [_, _] rfl rfl rfl rfl rfl (by simp [Value.oneCell']) ?_
    repeat (first|refine Ja ?_|refine Jb ?_|refine Jc ?_|refine Jd ?_|refine Je ?_|refine Jf ?_|refine Jg ?_|refine Jh ?_|refine Ji ?_|refine Jj ?_|refine Jk ?_|refine Jl ?_|refine Jm ?_|refine Jn ?_|refine Jo ?_|refine Jp ?_|refine Jq ?_|refine Jr ?_|refine Js ?_|refine Jt ?_|refine Ju ?_|refine Jv ?_|refine Jw ?_|refine Jx ?_|refine Jy ?_|refine Jz ?_|refine JA ?_|refine JB ?_|refine JC ?_|refine JD ?_|refine JE ?_|refine JF ?_|refine JG ?_|refine JH ?_|refine JI ?_|refine JJ ?_|refine JK ?_|refine JL ?_|refine JM ?_|refine CW.skip (PW.code ?_)|refine RW.nil (PW.code ?_))
    refine RW.store_blk [_, _] rfl rfl rfl rfl rfl (by simp) ?_
    repeat (first|refine Ja ?_|refine Jb ?_|refine Jc ?_|refine Jd ?_|refine Je ?_|refine Jf ?_|refine Jg ?_|refine Jh ?_|refine Ji ?_|refine Jj ?_|refine Jk ?_|refine Jl ?_|refine Jm ?_|refine Jn ?_|refine Jo ?_|refine Jp ?_|refine Jq ?_|refine Jr ?_|refine Js ?_|refine Jt ?_|refine Ju ?_|refine Jv ?_|refine Jw ?_|refine Jx ?_|refine Jy ?_|refine Jz ?_|refine JA ?_|refine JB ?_|refine JC ?_|refine JD ?_|refine JE ?_|refine JF ?_|refine JG ?_|refine JH ?_|refine JI ?_|refine JJ ?_|refine JK ?_|refine JL ?_|refine JM ?_|refine CW.skip (PW.code ?_)|refine RW.nil (PW.code ?_))
    refine RW.store_whole [_] rfl rfl rfl rfl rfl (by simp [Value.oneCell']) ?_
    repeat (first|refine Ja ?_|refine Jb ?_|refine Jc ?_|refine Jd ?_|refine Je ?_|refine Jf ?_|refine Jg ?_|refine Jh ?_|refine Ji ?_|refine Jj ?_|refine Jk ?_|refine Jl ?_|refine Jm ?_|refine Jn ?_|refine Jo ?_|refine Jp ?_|refine Jq ?_|refine Jr ?_|refine Js ?_|refine Jt ?_|refine Ju ?_|refine Jv ?_|refine Jw ?_|refine Jx ?_|refine Jy ?_|refine Jz ?_|refine JA ?_|refine JB ?_|refine JC ?_|refine JD ?_|refine JE ?_|refine JF ?_|refine JG ?_|refine JH ?_|refine JI ?_|refine JJ ?_|refine JK ?_|refine JL ?_|refine JM ?_|refine CW.skip (PW.code ?_)|refine RW.nil (PW.code ?_))
    refine CW.rets (rs := [.cell 2 27, .tmp 3]) (vs := [_, _]) rfl Try.results12 rfl (ResOK.cell [_] rfl rfl rfl (ResOK.tmp rfl ResOK.nil)) fun w hw => ?_
    have hp := St.newp (pre := []) hw
    obtain ⟨A3, c3, he, hr, g1, g2, g3⟩ := Rd.lit hp
    have he' : (Value.slice A2 l.args.length c2) = .slice A3 l.args.length c3 := by
      simp only [LitD.V, List.cons.injEq] at he
      exact he.2.2.1
    refine ⟨[.bool (!l.neg), .int .i64 l.pred, .slice A2 l.args.length c2, .int .i64 l.value, .int .i64 l.guard], ?_, hw.kp, ?_⟩
    · rw [compD, if_neg hg]; rfl
    · rw [compD, if_neg hg, he']
      exact Rd.lit_mk (l := ⟨!l.neg, l.pred, l.args, l.value, l.guard⟩) (A := A3) (c := c3) hr g1 g2 g3
end Go.Proofs.Ytoknohnodlaimaa
