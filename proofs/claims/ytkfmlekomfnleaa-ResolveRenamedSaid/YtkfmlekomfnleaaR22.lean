/- A small statute, as data; what Check and Vars say of it. Conditions: none. -/
import Derived.Test.YtkfmlekomfnleaaR21
set_option linter.unusedVariables false
set_option linter.unusedSimpArgs false
set_option maxRecDepth 10000
namespace Go.Proofs.Ytkfmlekomfnleaa
open Go Go.RowKit Go.MapKept

abbrev nPerson : Str := ⟨#[112, 101, 114, 115, 111, 110]⟩
abbrev nAnn : Str := ⟨#[97, 110, 110]⟩
abbrev nOld : Str := ⟨#[111, 108, 100]⟩
abbrev nAct : Str := ⟨#[97, 99, 116]⟩
abbrev nR : Str := ⟨#[114]⟩
abbrev nX : Str := ⟨#[88]⟩
abbrev nY : Str := ⟨#[89]⟩
abbrev nNo : Str := ByteArray.empty
def litS : kLitT.V := (false, nOld, [nX], false, (0 : Int))
def premS : kPrem.V := ((1 : Int), litS, (([] : List kTerm.V), (0 : Int), ([] : List kTerm.V)), nNo, nNo)
def premU : kPrem.V := ((3 : Int), (false, nNo, ([] : List Str), false, (0 : Int)), (([] : List kTerm.V), (0 : Int), ([] : List kTerm.V)), nX, nY)
def ruleS (body : List kPrem.V) : kRule.V := (nR, nAct, (1 : Int), (0 : Int), body, (1 : Int), litS)
def statS (body : List kPrem.V) : kStat.V := (nNo, [nPerson], [(nAnn, nPerson)], [(nOld, (1 : Int), [nPerson], ([] : List Int))], ([] : List (List Str)), [(nAct, (1 : Int))], [ruleS body], ([] : List kExc.V), ([] : List kTotal.V))
theorem small_check : checkD (statS [premS]) = (0, 5) := by kernel_rfl
theorem small_vars : varsD (statS [premS]) 0 = ([nX], [0], 0) := by kernel_rfl
theorem small_loose : checkD (statS [premS, premU]) = (86, 4) := by kernel_rfl
end Go.Proofs.Ytkfmlekomfnleaa
