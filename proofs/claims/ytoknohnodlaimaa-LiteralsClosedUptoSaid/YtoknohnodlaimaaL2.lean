/- literals.Compare and what it calls, by the calculus. -/
import Derived.Test.YtoknohnodlaimaaG
import Derived.Test.YtoknohnodlaimaaL1
set_option linter.unusedVariables false
set_option linter.unusedSimpArgs false
set_option maxRecDepth 10000
namespace Go.Proofs.Ytoknohnodlaimaa
open Go Go.RowKit

attribute [local irreducible] RW CW
theorem compareM_ret (a b : Int) (w : World) : Ret Try.prog 26 [.int .i64 a, .int .i64 b] w (.int .i64 (cmpI a b)) := by
  refine Calls.enter Try.func26 rfl _ rfl rfl (S := No) (H := []) trivial ?_
  repeat (first|refine Ja ?_|refine Jb ?_|refine Jc ?_|refine Jd ?_|refine Je ?_|refine Jf ?_|refine Jg ?_|refine Jh ?_|refine Ji ?_|refine Jj ?_|refine Jk ?_|refine Jl ?_|refine Jm ?_|refine Jn ?_|refine Jo ?_|refine Jp ?_|refine Jq ?_|refine Jr ?_|refine Js ?_|refine Jt ?_|refine Ju ?_|refine Jv ?_|refine Jw ?_|refine Jx ?_|refine Jy ?_|refine Jz ?_|refine JA ?_|refine JB ?_|refine JC ?_|refine JD ?_|refine JE ?_|refine JF ?_|refine JG ?_|refine JH ?_|refine JI ?_|refine JJ ?_|refine JK ?_|refine JL ?_|refine JM ?_|refine CW.skip (PW.code ?_)|refine RW.nil (PW.code ?_))
  refine RW.call Try.call42 rfl (fun w _ => isNaNM_ret _ w) rfl ?_
  repeat (first|refine Ja ?_|refine Jb ?_|refine Jc ?_|refine Jd ?_|refine Je ?_|refine Jf ?_|refine Jg ?_|refine Jh ?_|refine Ji ?_|refine Jj ?_|refine Jk ?_|refine Jl ?_|refine Jm ?_|refine Jn ?_|refine Jo ?_|refine Jp ?_|refine Jq ?_|refine Jr ?_|refine Js ?_|refine Jt ?_|refine Ju ?_|refine Jv ?_|refine Jw ?_|refine Jx ?_|refine Jy ?_|refine Jz ?_|refine JA ?_|refine JB ?_|refine JC ?_|refine JD ?_|refine JE ?_|refine JF ?_|refine JG ?_|refine JH ?_|refine JI ?_|refine JJ ?_|refine JK ?_|refine JL ?_|refine JM ?_|refine CW.skip (PW.code ?_)|refine RW.nil (PW.code ?_))
  refine RW.call Try.call42 rfl (fun w _ => isNaNM_ret _ w) rfl ?_
  repeat (first|refine Ja ?_|refine Jb ?_|refine Jc ?_|refine Jd ?_|refine Je ?_|refine Jf ?_|refine Jg ?_|refine Jh ?_|refine Ji ?_|refine Jj ?_|refine Jk ?_|refine Jl ?_|refine Jm ?_|refine Jn ?_|refine Jo ?_|refine Jp ?_|refine Jq ?_|refine Jr ?_|refine Js ?_|refine Jt ?_|refine Ju ?_|refine Jv ?_|refine Jw ?_|refine Jx ?_|refine Jy ?_|refine Jz ?_|refine JA ?_|refine JB ?_|refine JC ?_|refine JD ?_|refine JE ?_|refine JF ?_|refine JG ?_|refine JH ?_|refine JI ?_|refine JJ ?_|refine JK ?_|refine JL ?_|refine JM ?_|refine CW.skip (PW.code ?_)|refine RW.nil (PW.code ?_))
  refine CW.seq ?_
  repeat (first|refine Ja ?_|refine Jb ?_|refine Jc ?_|refine Jd ?_|refine Je ?_|refine Jf ?_|refine Jg ?_|refine Jh ?_|refine Ji ?_|refine Jj ?_|refine Jk ?_|refine Jl ?_|refine Jm ?_|refine Jn ?_|refine Jo ?_|refine Jp ?_|refine Jq ?_|refine Jr ?_|refine Js ?_|refine Jt ?_|refine Ju ?_|refine Jv ?_|refine Jw ?_|refine Jx ?_|refine Jy ?_|refine Jz ?_|refine JA ?_|refine JB ?_|refine JC ?_|refine JD ?_|refine JE ?_|refine JF ?_|refine JG ?_|refine JH ?_|refine JI ?_|refine JJ ?_|refine JK ?_|refine JL ?_|refine JM ?_|refine CW.skip (PW.code ?_)|refine RW.nil (PW.code ?_))
  refine CW.cf rfl ?_
  repeat (first|refine Ja ?_|refine Jb ?_|refine Jc ?_|refine Jd ?_|refine Je ?_|refine Jf ?_|refine Jg ?_|refine Jh ?_|refine Ji ?_|refine Jj ?_|refine Jk ?_|refine Jl ?_|refine Jm ?_|refine Jn ?_|refine Jo ?_|refine Jp ?_|refine Jq ?_|refine Jr ?_|refine Js ?_|refine Jt ?_|refine Ju ?_|refine Jv ?_|refine Jw ?_|refine Jx ?_|refine Jy ?_|refine Jz ?_|refine JA ?_|refine JB ?_|refine JC ?_|refine JD ?_|refine JE ?_|refine JF ?_|refine JG ?_|refine JH ?_|refine JI ?_|refine JJ ?_|refine JK ?_|refine JL ?_|refine JM ?_|refine CW.skip (PW.code ?_)|refine RW.nil (PW.code ?_))
  refine CW.seq ?_
  repeat (first|refine Ja ?_|refine Jb ?_|refine Jc ?_|refine Jd ?_|refine Je ?_|refine Jf ?_|refine Jg ?_|refine Jh ?_|refine Ji ?_|refine Jj ?_|refine Jk ?_|refine Jl ?_|refine Jm ?_|refine Jn ?_|refine Jo ?_|refine Jp ?_|refine Jq ?_|refine Jr ?_|refine Js ?_|refine Jt ?_|refine Ju ?_|refine Jv ?_|refine Jw ?_|refine Jx ?_|refine Jy ?_|refine Jz ?_|refine JA ?_|refine JB ?_|refine JC ?_|refine JD ?_|refine JE ?_|refine JF ?_|refine JG ?_|refine JH ?_|refine JI ?_|refine JJ ?_|refine JK ?_|refine JL ?_|refine JM ?_|refine CW.skip (PW.code ?_)|refine RW.nil (PW.code ?_))
  refine CW.cf rfl ?_
  repeat (first|refine Ja ?_|refine Jb ?_|refine Jc ?_|refine Jd ?_|refine Je ?_|refine Jf ?_|refine Jg ?_|refine Jh ?_|refine Ji ?_|refine Jj ?_|refine Jk ?_|refine Jl ?_|refine Jm ?_|refine Jn ?_|refine Jo ?_|refine Jp ?_|refine Jq ?_|refine Jr ?_|refine Js ?_|refine Jt ?_|refine Ju ?_|refine Jv ?_|refine Jw ?_|refine Jx ?_|refine Jy ?_|refine Jz ?_|refine JA ?_|refine JB ?_|refine JC ?_|refine JD ?_|refine JE ?_|refine JF ?_|refine JG ?_|refine JH ?_|refine JI ?_|refine JJ ?_|refine JK ?_|refine JL ?_|refine JM ?_|refine CW.skip (PW.code ?_)|refine RW.nil (PW.code ?_))
  refine CW.seq ?_
  repeat (first|refine Ja ?_|refine Jb ?_|refine Jc ?_|refine Jd ?_|refine Je ?_|refine Jf ?_|refine Jg ?_|refine Jh ?_|refine Ji ?_|refine Jj ?_|refine Jk ?_|refine Jl ?_|refine Jm ?_|refine Jn ?_|refine Jo ?_|refine Jp ?_|refine Jq ?_|refine Jr ?_|refine Js ?_|refine Jt ?_|refine Ju ?_|refine Jv ?_|refine Jw ?_|refine Jx ?_|refine Jy ?_|refine Jz ?_|refine JA ?_|refine JB ?_|refine JC ?_|refine JD ?_|refine JE ?_|refine JF ?_|refine JG ?_|refine JH ?_|refine JI ?_|refine JJ ?_|refine JK ?_|refine JL ?_|refine JM ?_|refine CW.skip (PW.code ?_)|refine RW.nil (PW.code ?_))
  refine CW.ite rfl (fun h => ?_) (fun h => ?_)
  · repeat (first|refine Ja ?_|refine Jb ?_|refine Jc ?_|refine Jd ?_|refine Je ?_|refine Jf ?_|refine Jg ?_|refine Jh ?_|refine Ji ?_|refine Jj ?_|refine Jk ?_|refine Jl ?_|refine Jm ?_|refine Jn ?_|refine Jo ?_|refine Jp ?_|refine Jq ?_|refine Jr ?_|refine Js ?_|refine Jt ?_|refine Ju ?_|refine Jv ?_|refine Jw ?_|refine Jx ?_|refine Jy ?_|refine Jz ?_|refine JA ?_|refine JB ?_|refine JC ?_|refine JD ?_|refine JE ?_|refine JF ?_|refine JG ?_|refine JH ?_|refine JI ?_|refine JJ ?_|refine JK ?_|refine JL ?_|refine JM ?_|refine CW.skip (PW.code ?_)|refine RW.nil (PW.code ?_))
    refine (CW.ret1 rfl Try.results26 rfl rfl fun w hw => ⟨by rw [cmpI, if_pos h], hw.kp⟩)
  · repeat (first|refine Ja ?_|refine Jb ?_|refine Jc ?_|refine Jd ?_|refine Je ?_|refine Jf ?_|refine Jg ?_|refine Jh ?_|refine Ji ?_|refine Jj ?_|refine Jk ?_|refine Jl ?_|refine Jm ?_|refine Jn ?_|refine Jo ?_|refine Jp ?_|refine Jq ?_|refine Jr ?_|refine Js ?_|refine Jt ?_|refine Ju ?_|refine Jv ?_|refine Jw ?_|refine Jx ?_|refine Jy ?_|refine Jz ?_|refine JA ?_|refine JB ?_|refine JC ?_|refine JD ?_|refine JE ?_|refine JF ?_|refine JG ?_|refine JH ?_|refine JI ?_|refine JJ ?_|refine JK ?_|refine JL ?_|refine JM ?_|refine CW.skip (PW.code ?_)|refine RW.nil (PW.code ?_))
    refine CW.seq ?_
    repeat (first|refine Ja ?_|refine Jb ?_|refine Jc ?_|refine Jd ?_|refine Je ?_|refine Jf ?_|refine Jg ?_|refine Jh ?_|refine Ji ?_|refine Jj ?_|refine Jk ?_|refine Jl ?_|refine Jm ?_|refine Jn ?_|refine Jo ?_|refine Jp ?_|refine Jq ?_|refine Jr ?_|refine Js ?_|refine Jt ?_|refine Ju ?_|refine Jv ?_|refine Jw ?_|refine Jx ?_|refine Jy ?_|refine Jz ?_|refine JA ?_|refine JB ?_|refine JC ?_|refine JD ?_|refine JE ?_|refine JF ?_|refine JG ?_|refine JH ?_|refine JI ?_|refine JJ ?_|refine JK ?_|refine JL ?_|refine JM ?_|refine CW.skip (PW.code ?_)|refine RW.nil (PW.code ?_))
    refine CW.ite rfl (fun h' => ?_) (fun h' => ?_)
    · repeat (first|refine Ja ?_|refine Jb ?_|refine Jc ?_|refine Jd ?_|refine Je ?_|refine Jf ?_|refine Jg ?_|refine Jh ?_|refine Ji ?_|refine Jj ?_|refine Jk ?_|refine Jl ?_|refine Jm ?_|refine Jn ?_|refine Jo ?_|refine Jp ?_|refine Jq ?_|refine Jr ?_|refine Js ?_|refine Jt ?_|refine Ju ?_|refine Jv ?_|refine Jw ?_|refine Jx ?_|refine Jy ?_|refine Jz ?_|refine JA ?_|refine JB ?_|refine JC ?_|refine JD ?_|refine JE ?_|refine JF ?_|refine JG ?_|refine JH ?_|refine JI ?_|refine JJ ?_|refine JK ?_|refine JL ?_|refine JM ?_|refine CW.skip (PW.code ?_)|refine RW.nil (PW.code ?_))
      refine (CW.ret1 rfl Try.results26 rfl rfl fun w hw => ⟨by rw [cmpI, if_neg h, if_pos h'], hw.kp⟩)
    · repeat (first|refine Ja ?_|refine Jb ?_|refine Jc ?_|refine Jd ?_|refine Je ?_|refine Jf ?_|refine Jg ?_|refine Jh ?_|refine Ji ?_|refine Jj ?_|refine Jk ?_|refine Jl ?_|refine Jm ?_|refine Jn ?_|refine Jo ?_|refine Jp ?_|refine Jq ?_|refine Jr ?_|refine Js ?_|refine Jt ?_|refine Ju ?_|refine Jv ?_|refine Jw ?_|refine Jx ?_|refine Jy ?_|refine Jz ?_|refine JA ?_|refine JB ?_|refine JC ?_|refine JD ?_|refine JE ?_|refine JF ?_|refine JG ?_|refine JH ?_|refine JI ?_|refine JJ ?_|refine JK ?_|refine JL ?_|refine JM ?_|refine CW.skip (PW.code ?_)|refine RW.nil (PW.code ?_))
      refine (CW.ret1 rfl Try.results26 rfl rfl fun w hw => ⟨by rw [cmpI, if_neg h, if_neg h'], hw.kp⟩)
def signD (a b : Bool) : Int := if a = b then 0 else if a then 1 else -1
theorem sign_ret (a b : Bool) (w : World) : Ret Try.prog 23 [.bool a, .bool b] w (.int .i64 (signD a b)) := by
  refine Calls.enter Try.func23 rfl _ rfl rfl (S := No) (H := []) trivial ?_
  repeat (first|refine Ja ?_|refine Jb ?_|refine Jc ?_|refine Jd ?_|refine Je ?_|refine Jf ?_|refine Jg ?_|refine Jh ?_|refine Ji ?_|refine Jj ?_|refine Jk ?_|refine Jl ?_|refine Jm ?_|refine Jn ?_|refine Jo ?_|refine Jp ?_|refine Jq ?_|refine Jr ?_|refine Js ?_|refine Jt ?_|refine Ju ?_|refine Jv ?_|refine Jw ?_|refine Jx ?_|refine Jy ?_|refine Jz ?_|refine JA ?_|refine JB ?_|refine JC ?_|refine JD ?_|refine JE ?_|refine JF ?_|refine JG ?_|refine JH ?_|refine JI ?_|refine JJ ?_|refine JK ?_|refine JL ?_|refine JM ?_|refine CW.skip (PW.code ?_)|refine RW.nil (PW.code ?_))
  refine CW.seq ?_
  refine CW.block ?_
  repeat (first|refine Ja ?_|refine Jb ?_|refine Jc ?_|refine Jd ?_|refine Je ?_|refine Jf ?_|refine Jg ?_|refine Jh ?_|refine Ji ?_|refine Jj ?_|refine Jk ?_|refine Jl ?_|refine Jm ?_|refine Jn ?_|refine Jo ?_|refine Jp ?_|refine Jq ?_|refine Jr ?_|refine Js ?_|refine Jt ?_|refine Ju ?_|refine Jv ?_|refine Jw ?_|refine Jx ?_|refine Jy ?_|refine Jz ?_|refine JA ?_|refine JB ?_|refine JC ?_|refine JD ?_|refine JE ?_|refine JF ?_|refine JG ?_|refine JH ?_|refine JI ?_|refine JJ ?_|refine JK ?_|refine JL ?_|refine JM ?_|refine CW.skip (PW.code ?_)|refine RW.nil (PW.code ?_))
  refine CW.ite rfl (fun h => ?_) (fun h => ?_)
  · repeat (first|refine Ja ?_|refine Jb ?_|refine Jc ?_|refine Jd ?_|refine Je ?_|refine Jf ?_|refine Jg ?_|refine Jh ?_|refine Ji ?_|refine Jj ?_|refine Jk ?_|refine Jl ?_|refine Jm ?_|refine Jn ?_|refine Jo ?_|refine Jp ?_|refine Jq ?_|refine Jr ?_|refine Js ?_|refine Jt ?_|refine Ju ?_|refine Jv ?_|refine Jw ?_|refine Jx ?_|refine Jy ?_|refine Jz ?_|refine JA ?_|refine JB ?_|refine JC ?_|refine JD ?_|refine JE ?_|refine JF ?_|refine JG ?_|refine JH ?_|refine JI ?_|refine JJ ?_|refine JK ?_|refine JL ?_|refine JM ?_|refine CW.skip (PW.code ?_)|refine RW.nil (PW.code ?_))
    refine (CW.ret1 rfl Try.results23 rfl rfl fun w hw => ⟨by rw [signD, if_pos h], hw.kp⟩)
  · repeat (first|refine Ja ?_|refine Jb ?_|refine Jc ?_|refine Jd ?_|refine Je ?_|refine Jf ?_|refine Jg ?_|refine Jh ?_|refine Ji ?_|refine Jj ?_|refine Jk ?_|refine Jl ?_|refine Jm ?_|refine Jn ?_|refine Jo ?_|refine Jp ?_|refine Jq ?_|refine Jr ?_|refine Js ?_|refine Jt ?_|refine Ju ?_|refine Jv ?_|refine Jw ?_|refine Jx ?_|refine Jy ?_|refine Jz ?_|refine JA ?_|refine JB ?_|refine JC ?_|refine JD ?_|refine JE ?_|refine JF ?_|refine JG ?_|refine JH ?_|refine JI ?_|refine JJ ?_|refine JK ?_|refine JL ?_|refine JM ?_|refine CW.skip (PW.code ?_)|refine RW.nil (PW.code ?_))
    refine CW.cond rfl (fun h' => ?_) (fun h' => ?_)
    · repeat (first|refine Ja ?_|refine Jb ?_|refine Jc ?_|refine Jd ?_|refine Je ?_|refine Jf ?_|refine Jg ?_|refine Jh ?_|refine Ji ?_|refine Jj ?_|refine Jk ?_|refine Jl ?_|refine Jm ?_|refine Jn ?_|refine Jo ?_|refine Jp ?_|refine Jq ?_|refine Jr ?_|refine Js ?_|refine Jt ?_|refine Ju ?_|refine Jv ?_|refine Jw ?_|refine Jx ?_|refine Jy ?_|refine Jz ?_|refine JA ?_|refine JB ?_|refine JC ?_|refine JD ?_|refine JE ?_|refine JF ?_|refine JG ?_|refine JH ?_|refine JI ?_|refine JJ ?_|refine JK ?_|refine JL ?_|refine JM ?_|refine CW.skip (PW.code ?_)|refine RW.nil (PW.code ?_))
      refine (CW.ret1 rfl Try.results23 rfl rfl fun w hw => ⟨by rw [signD, if_neg h, if_pos h'], hw.kp⟩)
    · repeat (first|refine Ja ?_|refine Jb ?_|refine Jc ?_|refine Jd ?_|refine Je ?_|refine Jf ?_|refine Jg ?_|refine Jh ?_|refine Ji ?_|refine Jj ?_|refine Jk ?_|refine Jl ?_|refine Jm ?_|refine Jn ?_|refine Jo ?_|refine Jp ?_|refine Jq ?_|refine Jr ?_|refine Js ?_|refine Jt ?_|refine Ju ?_|refine Jv ?_|refine Jw ?_|refine Jx ?_|refine Jy ?_|refine Jz ?_|refine JA ?_|refine JB ?_|refine JC ?_|refine JD ?_|refine JE ?_|refine JF ?_|refine JG ?_|refine JH ?_|refine JI ?_|refine JJ ?_|refine JK ?_|refine JL ?_|refine JM ?_|refine CW.skip (PW.code ?_)|refine RW.nil (PW.code ?_))
      refine (CW.ret1 rfl Try.results23 rfl rfl fun w hw => ⟨by rw [signD, if_neg h, if_neg (by simp [h'])], hw.kp⟩)

def cmpL : List Int → List Int → Int
  | [], [] => 0
  | [], _ :: _ => -1
  | _ :: _, [] => 1
  | a :: r, b :: s => if cmpI a b = 0 then cmpL r s else cmpI a b
theorem cmpI_zero {a b : Int} : cmpI a b = 0 ↔ a = b := by
  unfold cmpI
  split
  · constructor <;> intro h <;> omega
  · split
    · constructor <;> intro h <;> omega
    · constructor <;> intro h <;> omega
theorem scompare_ret {A B : Option Addr} {c d : Nat} {xs ys : List Int} {w : World} (h : Rd kInts (mem w Any) [.slice A xs.length c] xs) (h' : Rd kInts (mem w Any) [.slice B ys.length d] ys) :
    Ret Try.prog 25 [.slice A xs.length c, .slice B ys.length d] w (.int .i64 (cmpL xs ys)) := by
  obtain ⟨A', c', he, _, _, h4, hx⟩ := Rd.ints h
  cases he
  obtain ⟨B', d', he, _, _, k4, hy⟩ := Rd.ints h'
  cases he
  clear h h'
  have hl : xs.length ≤ reach := by omega
  have hl' : ys.length ≤ reach := by omega
  unfold reach at hl hl'
  refine Calls.enter Try.func25 rfl _ rfl rfl (S := No) (H := []) trivial ?_
  repeat (first|refine Ja ?_|refine Jb ?_|refine Jc ?_|refine Jd ?_|refine Je ?_|refine Jf ?_|refine Jg ?_|refine Jh ?_|refine Ji ?_|refine Jj ?_|refine Jk ?_|refine Jl ?_|refine Jm ?_|refine Jn ?_|refine Jo ?_|refine Jp ?_|refine Jq ?_|refine Jr ?_|refine Js ?_|refine Jt ?_|refine Ju ?_|refine Jv ?_|refine Jw ?_|refine Jx ?_|refine Jy ?_|refine Jz ?_|refine JA ?_|refine JB ?_|refine JC ?_|refine JD ?_|refine JE ?_|refine JF ?_|refine JG ?_|refine JH ?_|refine JI ?_|refine JJ ?_|refine JK ?_|refine JL ?_|refine JM ?_|refine CW.skip (PW.code ?_)|refine RW.nil (PW.code ?_))
  refine CW.seq ?_
  repeat (first|refine Ja ?_|refine Jb ?_|refine Jc ?_|refine Jd ?_|refine Je ?_|refine Jf ?_|refine Jg ?_|refine Jh ?_|refine Ji ?_|refine Jj ?_|refine Jk ?_|refine Jl ?_|refine Jm ?_|refine Jn ?_|refine Jo ?_|refine Jp ?_|refine Jq ?_|refine Jr ?_|refine Js ?_|refine Jt ?_|refine Ju ?_|refine Jv ?_|refine Jw ?_|refine Jx ?_|refine Jy ?_|refine Jz ?_|refine JA ?_|refine JB ?_|refine JC ?_|refine JD ?_|refine JE ?_|refine JF ?_|refine JG ?_|refine JH ?_|refine JI ?_|refine JJ ?_|refine JK ?_|refine JL ?_|refine JM ?_|refine CW.skip (PW.code ?_)|refine RW.nil (PW.code ?_))
  refine CW.block ?_
  refine CW.loop (ι := { k : Nat // k ≤ xs.length ∧ k ≤ ys.length ∧ cmpL xs ys = cmpL (xs.drop k) (ys.drop k) }) (fun k => [(0, .slice A xs.length c), (1, .slice B ys.length d), (9, .slice A xs.length c), (10, .int .i64 xs.length), (11, .int .i64 k.1)]) (fun _ => []) (fun k => xs.length - k.1) ⟨0, Nat.zero_le _, Nat.zero_le _, rfl⟩ ⟨rfl, rfl, rfl, rfl, rfl, trivial⟩ (fun h => h) ?_
  intro ⟨k, hk, hk', ho⟩
  repeat (first|refine Ja ?_|refine Jb ?_|refine Jc ?_|refine Jd ?_|refine Je ?_|refine Jf ?_|refine Jg ?_|refine Jh ?_|refine Ji ?_|refine Jj ?_|refine Jk ?_|refine Jl ?_|refine Jm ?_|refine Jn ?_|refine Jo ?_|refine Jp ?_|refine Jq ?_|refine Jr ?_|refine Js ?_|refine Jt ?_|refine Ju ?_|refine Jv ?_|refine Jw ?_|refine Jx ?_|refine Jy ?_|refine Jz ?_|refine JA ?_|refine JB ?_|refine JC ?_|refine JD ?_|refine JE ?_|refine JF ?_|refine JG ?_|refine JH ?_|refine JI ?_|refine JJ ?_|refine JK ?_|refine JL ?_|refine JM ?_|refine CW.skip (PW.code ?_)|refine RW.nil (PW.code ?_))
  refine CW.seq ?_
  refine CW.ite rfl (fun hlt => ?_) (fun hge => ?_)
  · have hlt' : k < xs.length := by simpa using hlt
    obtain ⟨hr, B1, O1, rfl, hm⟩ := hx k xs[k] (List.getElem?_eq_getElem hlt')
    repeat (first|refine Ja ?_|refine Jb ?_|refine Jc ?_|refine Jd ?_|refine Je ?_|refine Jf ?_|refine Jg ?_|refine Jh ?_|refine Ji ?_|refine Jj ?_|refine Jk ?_|refine Jl ?_|refine Jm ?_|refine Jn ?_|refine Jo ?_|refine Jp ?_|refine Jq ?_|refine Jr ?_|refine Js ?_|refine Jt ?_|refine Ju ?_|refine Jv ?_|refine Jw ?_|refine Jx ?_|refine Jy ?_|refine Jz ?_|refine JA ?_|refine JB ?_|refine JC ?_|refine JD ?_|refine JE ?_|refine JF ?_|refine JG ?_|refine JH ?_|refine JI ?_|refine JJ ?_|refine JK ?_|refine JL ?_|refine JM ?_|refine CW.skip (PW.code ?_)|refine RW.nil (PW.code ?_))
    refine CW.seq ?_
    refine CW.block ?_
    repeat (first|refine Ja ?_|refine Jb ?_|refine Jc ?_|refine Jd ?_|refine Je ?_|refine Jf ?_|refine Jg ?_|refine Jh ?_|refine Ji ?_|refine Jj ?_|refine Jk ?_|refine Jl ?_|refine Jm ?_|refine Jn ?_|refine Jo ?_|refine Jp ?_|refine Jq ?_|refine Jr ?_|refine Js ?_|refine Jt ?_|refine Ju ?_|refine Jv ?_|refine Jw ?_|refine Jx ?_|refine Jy ?_|refine Jz ?_|refine JA ?_|refine JB ?_|refine JC ?_|refine JD ?_|refine JE ?_|refine JF ?_|refine JG ?_|refine JH ?_|refine JI ?_|refine JJ ?_|refine JK ?_|refine JL ?_|refine JM ?_|refine CW.skip (PW.code ?_)|refine RW.nil (PW.code ?_))
    refine RW.indexAddr rfl rfl (by omega) hlt rfl ?_
    refine RW.load_ro rfl any_ro hm rfl rfl ?_
    repeat (first|refine Ja ?_|refine Jb ?_|refine Jc ?_|refine Jd ?_|refine Je ?_|refine Jf ?_|refine Jg ?_|refine Jh ?_|refine Ji ?_|refine Jj ?_|refine Jk ?_|refine Jl ?_|refine Jm ?_|refine Jn ?_|refine Jo ?_|refine Jp ?_|refine Jq ?_|refine Jr ?_|refine Js ?_|refine Jt ?_|refine Ju ?_|refine Jv ?_|refine Jw ?_|refine Jx ?_|refine Jy ?_|refine Jz ?_|refine JA ?_|refine JB ?_|refine JC ?_|refine JD ?_|refine JE ?_|refine JF ?_|refine JG ?_|refine JH ?_|refine JI ?_|refine JJ ?_|refine JK ?_|refine JL ?_|refine JM ?_|refine CW.skip (PW.code ?_)|refine RW.nil (PW.code ?_))
    refine CW.seq ?_
    repeat (first|refine Ja ?_|refine Jb ?_|refine Jc ?_|refine Jd ?_|refine Je ?_|refine Jf ?_|refine Jg ?_|refine Jh ?_|refine Ji ?_|refine Jj ?_|refine Jk ?_|refine Jl ?_|refine Jm ?_|refine Jn ?_|refine Jo ?_|refine Jp ?_|refine Jq ?_|refine Jr ?_|refine Js ?_|refine Jt ?_|refine Ju ?_|refine Jv ?_|refine Jw ?_|refine Jx ?_|refine Jy ?_|refine Jz ?_|refine JA ?_|refine JB ?_|refine JC ?_|refine JD ?_|refine JE ?_|refine JF ?_|refine JG ?_|refine JH ?_|refine JI ?_|refine JJ ?_|refine JK ?_|refine JL ?_|refine JM ?_|refine CW.skip (PW.code ?_)|refine RW.nil (PW.code ?_))
    refine CW.ite rfl (fun hge => ?_) (fun hlt2 => ?_)
    · replace hge : (ys.length : Int) ≤ (k : Int) := hge
      repeat (first|refine Ja ?_|refine Jb ?_|refine Jc ?_|refine Jd ?_|refine Je ?_|refine Jf ?_|refine Jg ?_|refine Jh ?_|refine Ji ?_|refine Jj ?_|refine Jk ?_|refine Jl ?_|refine Jm ?_|refine Jn ?_|refine Jo ?_|refine Jp ?_|refine Jq ?_|refine Jr ?_|refine Js ?_|refine Jt ?_|refine Ju ?_|refine Jv ?_|refine Jw ?_|refine Jx ?_|refine Jy ?_|refine Jz ?_|refine JA ?_|refine JB ?_|refine JC ?_|refine JD ?_|refine JE ?_|refine JF ?_|refine JG ?_|refine JH ?_|refine JI ?_|refine JJ ?_|refine JK ?_|refine JL ?_|refine JM ?_|refine CW.skip (PW.code ?_)|refine RW.nil (PW.code ?_))
      refine CW.ret1 rfl Try.results25 rfl rfl fun w hw => ⟨?_, hw.kp⟩
      rw [ho, List.drop_eq_getElem_cons hlt', List.drop_of_length_le (show ys.length ≤ k by omega)]
      rfl
    · replace hlt2 : ¬ (ys.length : Int) ≤ (k : Int) := hlt2
      have hlt2' : k < ys.length := by omega
      obtain ⟨hr2, B2, O2, rfl, hm2⟩ := hy k ys[k] (List.getElem?_eq_getElem hlt2')
      repeat (first|refine Ja ?_|refine Jb ?_|refine Jc ?_|refine Jd ?_|refine Je ?_|refine Jf ?_|refine Jg ?_|refine Jh ?_|refine Ji ?_|refine Jj ?_|refine Jk ?_|refine Jl ?_|refine Jm ?_|refine Jn ?_|refine Jo ?_|refine Jp ?_|refine Jq ?_|refine Jr ?_|refine Js ?_|refine Jt ?_|refine Ju ?_|refine Jv ?_|refine Jw ?_|refine Jx ?_|refine Jy ?_|refine Jz ?_|refine JA ?_|refine JB ?_|refine JC ?_|refine JD ?_|refine JE ?_|refine JF ?_|refine JG ?_|refine JH ?_|refine JI ?_|refine JJ ?_|refine JK ?_|refine JL ?_|refine JM ?_|refine CW.skip (PW.code ?_)|refine RW.nil (PW.code ?_))
      refine RW.indexAddr rfl rfl (by omega) (by show (k : Int) < _; omega) rfl ?_
      refine RW.load_ro rfl any_ro hm2 rfl rfl ?_
      repeat (first|refine Ja ?_|refine Jb ?_|refine Jc ?_|refine Jd ?_|refine Je ?_|refine Jf ?_|refine Jg ?_|refine Jh ?_|refine Ji ?_|refine Jj ?_|refine Jk ?_|refine Jl ?_|refine Jm ?_|refine Jn ?_|refine Jo ?_|refine Jp ?_|refine Jq ?_|refine Jr ?_|refine Js ?_|refine Jt ?_|refine Ju ?_|refine Jv ?_|refine Jw ?_|refine Jx ?_|refine Jy ?_|refine Jz ?_|refine JA ?_|refine JB ?_|refine JC ?_|refine JD ?_|refine JE ?_|refine JF ?_|refine JG ?_|refine JH ?_|refine JI ?_|refine JJ ?_|refine JK ?_|refine JL ?_|refine JM ?_|refine CW.skip (PW.code ?_)|refine RW.nil (PW.code ?_))
      refine RW.call Try.call24 rfl (fun w _ => compare_ret _ _ w) rfl ?_
      repeat (first|refine Ja ?_|refine Jb ?_|refine Jc ?_|refine Jd ?_|refine Je ?_|refine Jf ?_|refine Jg ?_|refine Jh ?_|refine Ji ?_|refine Jj ?_|refine Jk ?_|refine Jl ?_|refine Jm ?_|refine Jn ?_|refine Jo ?_|refine Jp ?_|refine Jq ?_|refine Jr ?_|refine Js ?_|refine Jt ?_|refine Ju ?_|refine Jv ?_|refine Jw ?_|refine Jx ?_|refine Jy ?_|refine Jz ?_|refine JA ?_|refine JB ?_|refine JC ?_|refine JD ?_|refine JE ?_|refine JF ?_|refine JG ?_|refine JH ?_|refine JI ?_|refine JJ ?_|refine JK ?_|refine JL ?_|refine JM ?_|refine CW.skip (PW.code ?_)|refine RW.nil (PW.code ?_))
      refine CW.ite rfl (fun hne => ?_) (fun heq => ?_)
      · repeat (first|refine Ja ?_|refine Jb ?_|refine Jc ?_|refine Jd ?_|refine Je ?_|refine Jf ?_|refine Jg ?_|refine Jh ?_|refine Ji ?_|refine Jj ?_|refine Jk ?_|refine Jl ?_|refine Jm ?_|refine Jn ?_|refine Jo ?_|refine Jp ?_|refine Jq ?_|refine Jr ?_|refine Js ?_|refine Jt ?_|refine Ju ?_|refine Jv ?_|refine Jw ?_|refine Jx ?_|refine Jy ?_|refine Jz ?_|refine JA ?_|refine JB ?_|refine JC ?_|refine JD ?_|refine JE ?_|refine JF ?_|refine JG ?_|refine JH ?_|refine JI ?_|refine JJ ?_|refine JK ?_|refine JL ?_|refine JM ?_|refine CW.skip (PW.code ?_)|refine RW.nil (PW.code ?_))
        refine CW.ret1 rfl Try.results25 rfl rfl fun w hw => ⟨?_, hw.kp⟩
        rw [ho, List.drop_eq_getElem_cons hlt', List.drop_eq_getElem_cons hlt2', cmpL, if_neg hne]
      · refine CW.skip ?_
        refine PW.code ?_
        refine CW.region ?_
        refine RW.add rfl rfl (w64 (by omega) (by omega)) rfl ?_
        repeat (first|refine Ja ?_|refine Jb ?_|refine Jc ?_|refine Jd ?_|refine Je ?_|refine Jf ?_|refine Jg ?_|refine Jh ?_|refine Ji ?_|refine Jj ?_|refine Jk ?_|refine Jl ?_|refine Jm ?_|refine Jn ?_|refine Jo ?_|refine Jp ?_|refine Jq ?_|refine Jr ?_|refine Js ?_|refine Jt ?_|refine Ju ?_|refine Jv ?_|refine Jw ?_|refine Jx ?_|refine Jy ?_|refine Jz ?_|refine JA ?_|refine JB ?_|refine JC ?_|refine JD ?_|refine JE ?_|refine JF ?_|refine JG ?_|refine JH ?_|refine JI ?_|refine JJ ?_|refine JK ?_|refine JL ?_|refine JM ?_|refine CW.skip (PW.code ?_)|refine RW.nil (PW.code ?_))
        refine RW.nil ?_
        refine PW.again ⟨k + 1, hlt', hlt2', ?_⟩ ⟨rfl, rfl, rfl, rfl, rfl, trivial⟩ (fun h => h) (by show xs.length - (k + 1) < xs.length - k; omega)
        rw [ho, List.drop_eq_getElem_cons hlt', List.drop_eq_getElem_cons hlt2', cmpL, if_pos (by simpa using heq)]
  · refine CW.exit rfl ?_
    refine PW.code ?_
    refine CW.seq ?_
    repeat (first|refine Ja ?_|refine Jb ?_|refine Jc ?_|refine Jd ?_|refine Je ?_|refine Jf ?_|refine Jg ?_|refine Jh ?_|refine Ji ?_|refine Jj ?_|refine Jk ?_|refine Jl ?_|refine Jm ?_|refine Jn ?_|refine Jo ?_|refine Jp ?_|refine Jq ?_|refine Jr ?_|refine Js ?_|refine Jt ?_|refine Ju ?_|refine Jv ?_|refine Jw ?_|refine Jx ?_|refine Jy ?_|refine Jz ?_|refine JA ?_|refine JB ?_|refine JC ?_|refine JD ?_|refine JE ?_|refine JF ?_|refine JG ?_|refine JH ?_|refine JI ?_|refine JJ ?_|refine JK ?_|refine JL ?_|refine JM ?_|refine CW.skip (PW.code ?_)|refine RW.nil (PW.code ?_))
    have hge' : xs.length ≤ k := by simpa using hge
    refine CW.ite rfl (fun hlt => ?_) (fun hge2 => ?_)
    · repeat (first|refine Ja ?_|refine Jb ?_|refine Jc ?_|refine Jd ?_|refine Je ?_|refine Jf ?_|refine Jg ?_|refine Jh ?_|refine Ji ?_|refine Jj ?_|refine Jk ?_|refine Jl ?_|refine Jm ?_|refine Jn ?_|refine Jo ?_|refine Jp ?_|refine Jq ?_|refine Jr ?_|refine Js ?_|refine Jt ?_|refine Ju ?_|refine Jv ?_|refine Jw ?_|refine Jx ?_|refine Jy ?_|refine Jz ?_|refine JA ?_|refine JB ?_|refine JC ?_|refine JD ?_|refine JE ?_|refine JF ?_|refine JG ?_|refine JH ?_|refine JI ?_|refine JJ ?_|refine JK ?_|refine JL ?_|refine JM ?_|refine CW.skip (PW.code ?_)|refine RW.nil (PW.code ?_))
      refine CW.ret1 rfl Try.results25 rfl rfl fun w hw => ⟨?_, hw.kp⟩
      rw [ho, List.drop_of_length_le hge', List.drop_eq_getElem_cons (show k < ys.length by omega)]
      rfl
    · repeat (first|refine Ja ?_|refine Jb ?_|refine Jc ?_|refine Jd ?_|refine Je ?_|refine Jf ?_|refine Jg ?_|refine Jh ?_|refine Ji ?_|refine Jj ?_|refine Jk ?_|refine Jl ?_|refine Jm ?_|refine Jn ?_|refine Jo ?_|refine Jp ?_|refine Jq ?_|refine Jr ?_|refine Js ?_|refine Jt ?_|refine Ju ?_|refine Jv ?_|refine Jw ?_|refine Jx ?_|refine Jy ?_|refine Jz ?_|refine JA ?_|refine JB ?_|refine JC ?_|refine JD ?_|refine JE ?_|refine JF ?_|refine JG ?_|refine JH ?_|refine JI ?_|refine JJ ?_|refine JK ?_|refine JL ?_|refine JM ?_|refine CW.skip (PW.code ?_)|refine RW.nil (PW.code ?_))
      refine CW.ret1 rfl Try.results25 rfl rfl fun w hw => ⟨?_, hw.kp⟩
      rw [ho, List.drop_of_length_le hge', List.drop_of_length_le (show ys.length ≤ k by omega)]
      rfl

/-! ### literals -/
structure LitD where
  neg : Bool
  pred : Int
  args : List Int
  value : Int
  guard : Int
  deriving DecidableEq
def LitD.V (l : LitD) (A : Option Addr) (c : Nat) : List Value := [.bool l.neg, .int .i64 l.pred, .slice A l.args.length c, .int .i64 l.value, .int .i64 l.guard]
abbrev kAtom : K := .pr kInt (.pr kInts kInt)
abbrev kLit : K := .pr .bool (.pr kAtom kInt)
abbrev litOf (x : kLit.V) : LitD := ⟨x.1, x.2.1.1, x.2.1.2.1, x.2.1.2.2, x.2.2⟩
theorem Rd.lit {M : Mem} {cs : List Value} {x : kLit.V} (h : Rd kLit M cs x) : ∃ A c, cs = (litOf x).V A c ∧ Rd kInts M [.slice A (litOf x).args.length c] (litOf x).args ∧ inR .i64 (litOf x).pred ∧ inR .i64 (litOf x).value ∧ inR .i64 (litOf x).guard := by
  obtain ⟨c1, c2, rfl, h1, c3, c4, rfl, ⟨c5, c6, rfl, ⟨rfl, h5⟩, c7, c8, rfl, h7, rfl, h8⟩, rfl, h4⟩ := h
  replace h1 : c1 = [.bool x.1] := h1
  subst h1
  obtain ⟨A, c, rfl, hr⟩ := h7
  exact ⟨A, c, rfl, ⟨A, c, rfl, hr⟩, h5, h8, h4⟩
theorem Rd.lit_mk {M : Mem} {l : LitD} {A : Option Addr} {c : Nat} (h : Rd kInts M [.slice A l.args.length c] l.args) (h1 : inR .i64 l.pred) (h2 : inR .i64 l.value) (h3 : inR .i64 l.guard) : Rd kLit M (l.V A c) (l.neg, (l.pred, (l.args, l.value)), l.guard) :=
  ⟨[_], _, rfl, rfl, [_, _, _], [_], rfl, ⟨[_], [_, _], rfl, ⟨rfl, h1⟩, [_], [_], rfl, h, rfl, h2⟩, rfl, h3⟩
def cmpLit (a b : LitD) : Int := orI [signD (decide (¬ a.guard = 0)) (decide (¬ b.guard = 0)), cmpI a.guard b.guard, cmpI a.pred b.pred, cmpL a.args b.args, cmpI a.value b.value, signD a.neg b.neg]
theorem cmpI_in (a b : Int) : inR .i64 (cmpI a b) := by
  unfold cmpI
  split
  · rfl
  · split <;> rfl
theorem signD_in (a b : Bool) : inR .i64 (signD a b) := by cases a <;> cases b <;> rfl
theorem cmpL_in : ∀ (a b : List Int), inR .i64 (cmpL a b)
  | [], [] => rfl
  | [], _ :: _ => rfl
  | _ :: _, [] => rfl
  | a :: r, b :: s => by
    unfold cmpL
    split
    · exact cmpL_in r s
    · exact cmpI_in a b
set_option maxHeartbeats 1000000 in
theorem litCompare_ret {M : Mem} {cs ds : List Value} {x y : kLit.V} {w : World} (hM : Mem.le M (mem w Any)) (h : Rd kLit M cs x) (h' : Rd kLit M ds y) : Ret Try.prog 8 [.agg cs.toArray, .agg ds.toArray] w (.int .i64 (cmpLit (litOf x) (litOf y))) := by
  obtain ⟨A, c, rfl, h1, _, _, _⟩ := Rd.lit h
  obtain ⟨B, d, rfl, h2, _, _, _⟩ := Rd.lit h'
  generalize litOf x = a at *
  generalize litOf y = b at *
  clear h h'
  unfold LitD.V
  refine Calls.enter Try.func8 rfl _ rfl rfl (S := No) (H := []) trivial ?_
  repeat (first|refine Ja ?_|refine Jb ?_|refine Jc ?_|refine Jd ?_|refine Je ?_|refine Jf ?_|refine Jg ?_|refine Jh ?_|refine Ji ?_|refine Jj ?_|refine Jk ?_|refine Jl ?_|refine Jm ?_|refine Jn ?_|refine Jo ?_|refine Jp ?_|refine Jq ?_|refine Jr ?_|refine Js ?_|refine Jt ?_|refine Ju ?_|refine Jv ?_|refine Jw ?_|refine Jx ?_|refine Jy ?_|refine Jz ?_|refine JA ?_|refine JB ?_|refine JC ?_|refine JD ?_|refine JE ?_|refine JF ?_|refine JG ?_|refine JH ?_|refine JI ?_|refine JJ ?_|refine JK ?_|refine JL ?_|refine JM ?_|refine CW.skip (PW.code ?_)|refine RW.nil (PW.code ?_))
  refine RW.box_agg rfl rfl fun b1 _ => ?_
  refine RW.box_agg rfl rfl fun b2 _ => ?_
  repeat (first|refine Ja ?_|refine Jb ?_|refine Jc ?_|refine Jd ?_|refine Je ?_|refine Jf ?_|refine Jg ?_|refine Jh ?_|refine Ji ?_|refine Jj ?_|refine Jk ?_|refine Jl ?_|refine Jm ?_|refine Jn ?_|refine Jo ?_|refine Jp ?_|refine Jq ?_|refine Jr ?_|refine Js ?_|refine Jt ?_|refine Ju ?_|refine Jv ?_|refine Jw ?_|refine Jx ?_|refine Jy ?_|refine Jz ?_|refine JA ?_|refine JB ?_|refine JC ?_|refine JD ?_|refine JE ?_|refine JF ?_|refine JG ?_|refine JH ?_|refine JI ?_|refine JJ ?_|refine JK ?_|refine JL ?_|refine JM ?_|refine CW.skip (PW.code ?_)|refine RW.nil (PW.code ?_))
  refine CW.seqA (by kernel_rfl) rfl ?_
  repeat (apply AW.val rfl; · intro Gx X; (first | refine RW.yes rfl ?_ | skip); (first|refine Jc ?_|refine Jd ?_|refine Je ?_|refine Jg ?_|refine Jh ?_|refine Ji ?_|refine Jj ?_|refine Jk ?_|refine Jl ?_|refine Jm ?_|refine Jn ?_|refine Jo ?_|refine Jp ?_|refine Jq ?_|refine Jr ?_|refine Js ?_|refine Jt ?_|refine Ju ?_|refine Jv ?_|refine Jw ?_|refine Jx ?_|refine Jz ?_|refine JA ?_|refine JB ?_|refine JC ?_|refine JD ?_|refine JE ?_|refine JF ?_|refine JG ?_|refine JH ?_|refine JI ?_|refine JJ ?_|refine JK ?_|refine JL ?_); exact RW.done rfl)
  (apply AW.val rfl; · intro Gx X; (first | refine RW.yes rfl ?_ | skip); refine RW.call Try.call23 rfl (fun w _ => sign_ret _ _ w) rfl ?_; exact RW.done rfl)
  repeat (apply AW.val rfl; · intro Gx X; (first | refine RW.yes rfl ?_ | skip); (first|refine Jc ?_|refine Jd ?_|refine Je ?_|refine Jg ?_|refine Jh ?_|refine Ji ?_|refine Jj ?_|refine Jk ?_|refine Jl ?_|refine Jm ?_|refine Jn ?_|refine Jo ?_|refine Jp ?_|refine Jq ?_|refine Jr ?_|refine Js ?_|refine Jt ?_|refine Ju ?_|refine Jv ?_|refine Jw ?_|refine Jx ?_|refine Jz ?_|refine JA ?_|refine JB ?_|refine JC ?_|refine JD ?_|refine JE ?_|refine JF ?_|refine JG ?_|refine JH ?_|refine JI ?_|refine JJ ?_|refine JK ?_|refine JL ?_); exact RW.done rfl)
  (apply AW.val rfl; · intro Gx X; (first | refine RW.yes rfl ?_ | skip); refine RW.call Try.call24 rfl (fun w _ => compare_ret _ _ w) rfl ?_; exact RW.done rfl)
  repeat (apply AW.val rfl; · intro Gx X; (first | refine RW.yes rfl ?_ | skip); (first|refine Jc ?_|refine Jd ?_|refine Je ?_|refine Jg ?_|refine Jh ?_|refine Ji ?_|refine Jj ?_|refine Jk ?_|refine Jl ?_|refine Jm ?_|refine Jn ?_|refine Jo ?_|refine Jp ?_|refine Jq ?_|refine Jr ?_|refine Js ?_|refine Jt ?_|refine Ju ?_|refine Jv ?_|refine Jw ?_|refine Jx ?_|refine Jz ?_|refine JA ?_|refine JB ?_|refine JC ?_|refine JD ?_|refine JE ?_|refine JF ?_|refine JG ?_|refine JH ?_|refine JI ?_|refine JJ ?_|refine JK ?_|refine JL ?_); exact RW.done rfl)
  (apply AW.val rfl; · intro Gx X; (first | refine RW.yes rfl ?_ | skip); refine RW.call Try.call24 rfl (fun w _ => compare_ret _ _ w) rfl ?_; exact RW.done rfl)
  repeat (apply AW.val rfl; · intro Gx X; (first | refine RW.yes rfl ?_ | skip); (first|refine Jc ?_|refine Jd ?_|refine Je ?_|refine Jg ?_|refine Jh ?_|refine Ji ?_|refine Jj ?_|refine Jk ?_|refine Jl ?_|refine Jm ?_|refine Jn ?_|refine Jo ?_|refine Jp ?_|refine Jq ?_|refine Jr ?_|refine Js ?_|refine Jt ?_|refine Ju ?_|refine Jv ?_|refine Jw ?_|refine Jx ?_|refine Jz ?_|refine JA ?_|refine JB ?_|refine JC ?_|refine JD ?_|refine JE ?_|refine JF ?_|refine JG ?_|refine JH ?_|refine JI ?_|refine JJ ?_|refine JK ?_|refine JL ?_); exact RW.done rfl)
  (apply AW.val rfl; · intro Gx X; (first | refine RW.yes rfl ?_ | skip); refine RW.call Try.call25 rfl (fun w hw => scompare_ret (h1.mono (Mem.le_trans hM (Mem.le_trans any_ro (ro_le' hw)))) (h2.mono (Mem.le_trans hM (Mem.le_trans any_ro (ro_le' hw))))) rfl ?_; exact RW.done rfl)
  repeat (apply AW.val rfl; · intro Gx X; (first | refine RW.yes rfl ?_ | skip); (first|refine Jc ?_|refine Jd ?_|refine Je ?_|refine Jg ?_|refine Jh ?_|refine Ji ?_|refine Jj ?_|refine Jk ?_|refine Jl ?_|refine Jm ?_|refine Jn ?_|refine Jo ?_|refine Jp ?_|refine Jq ?_|refine Jr ?_|refine Js ?_|refine Jt ?_|refine Ju ?_|refine Jv ?_|refine Jw ?_|refine Jx ?_|refine Jz ?_|refine JA ?_|refine JB ?_|refine JC ?_|refine JD ?_|refine JE ?_|refine JF ?_|refine JG ?_|refine JH ?_|refine JI ?_|refine JJ ?_|refine JK ?_|refine JL ?_); exact RW.done rfl)
  (apply AW.val rfl; · intro Gx X; (first | refine RW.yes rfl ?_ | skip); refine RW.call Try.call26 rfl (fun w _ => compareM_ret _ _ w) rfl ?_; exact RW.done rfl)
  repeat (apply AW.val rfl; · intro Gx X; (first | refine RW.yes rfl ?_ | skip); (first|refine Jc ?_|refine Jd ?_|refine Je ?_|refine Jg ?_|refine Jh ?_|refine Ji ?_|refine Jj ?_|refine Jk ?_|refine Jl ?_|refine Jm ?_|refine Jn ?_|refine Jo ?_|refine Jp ?_|refine Jq ?_|refine Jr ?_|refine Js ?_|refine Jt ?_|refine Ju ?_|refine Jv ?_|refine Jw ?_|refine Jx ?_|refine Jz ?_|refine JA ?_|refine JB ?_|refine JC ?_|refine JD ?_|refine JE ?_|refine JF ?_|refine JG ?_|refine JH ?_|refine JI ?_|refine JJ ?_|refine JK ?_|refine JL ?_); exact RW.done rfl)
  (apply AW.val rfl; · intro Gx X; (first | refine RW.yes rfl ?_ | skip); refine RW.call Try.call23 rfl (fun w _ => sign_ret _ _ w) rfl ?_; exact RW.done rfl)
  refine AW.stop (by kernel_rfl) (by kernel_rfl) fun bs => ?_
  refine RW.buildOwn (e := 3) (sz := 1) [[.int .i64 (signD (decide (¬ a.guard = 0)) (decide (¬ b.guard = 0)))], [.int .i64 (cmpI a.guard b.guard)], [.int .i64 (cmpI a.pred b.pred)], [.int .i64 (cmpL a.args b.args)], [.int .i64 (cmpI a.value b.value)], [.int .i64 (signD a.neg b.neg)]] rfl (fun w => by kernel_rfl) rfl (by simp) (by decide) rfl fun b3 => ?_
  refine RW.call Try.call22 rfl (fun w hw => or_ret (xs := [signD (decide (¬ a.guard = 0)) (decide (¬ b.guard = 0)), cmpI a.guard b.guard, cmpI a.pred b.pred, cmpL a.args b.args, cmpI a.value b.value, signD a.neg b.neg]) ?_) rfl ?_
  · obtain ⟨F, hF, hp, _⟩ := hw.sep
    refine rd_of_own (t := kInt) hp rfl (mem_up (fun _ _ => trivial)) ⟨rfl, ?_⟩ (by simp [reach])
    have hI := cmpI_in
    have hS := signD_in
    have hL := cmpL_in
    intro i x y hx hy
    match i, hx, hy with
    | 0, hx, hy => cases hx; cases hy; exact ⟨rfl, hS _ _⟩
    | 1, hx, hy => cases hx; cases hy; exact ⟨rfl, hI _ _⟩
    | 2, hx, hy => cases hx; cases hy; exact ⟨rfl, hI _ _⟩
    | 3, hx, hy => cases hx; cases hy; exact ⟨rfl, hL _ _⟩
    | 4, hx, hy => cases hx; cases hy; exact ⟨rfl, hI _ _⟩
    | 5, hx, hy => cases hx; cases hy; exact ⟨rfl, hS _ _⟩
  repeat (first|refine Ja ?_|refine Jb ?_|refine Jc ?_|refine Jd ?_|refine Je ?_|refine Jf ?_|refine Jg ?_|refine Jh ?_|refine Ji ?_|refine Jj ?_|refine Jk ?_|refine Jl ?_|refine Jm ?_|refine Jn ?_|refine Jo ?_|refine Jp ?_|refine Jq ?_|refine Jr ?_|refine Js ?_|refine Jt ?_|refine Ju ?_|refine Jv ?_|refine Jw ?_|refine Jx ?_|refine Jy ?_|refine Jz ?_|refine JA ?_|refine JB ?_|refine JC ?_|refine JD ?_|refine JE ?_|refine JF ?_|refine JG ?_|refine JH ?_|refine JI ?_|refine JJ ?_|refine JK ?_|refine JL ?_|refine JM ?_|refine CW.skip (PW.code ?_)|refine RW.nil (PW.code ?_))
  refine CW.ret1 rfl Try.results8 rfl rfl fun w hw => ⟨rfl, hw.kp⟩
end Go.Proofs.Ytoknohnodlaimaa
