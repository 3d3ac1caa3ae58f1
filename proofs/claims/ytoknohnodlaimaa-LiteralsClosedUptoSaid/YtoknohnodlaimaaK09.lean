/- The types of chapter 09 as kinds of data. -/
import Derived.Test.YtoknohnodlaimaaT
import Derived.Test.YtoknohnodlaimaaL5
import Derived.Test.YtoknohnodlaimaaL7
set_option linter.unusedVariables false
set_option linter.unusedSimpArgs false
namespace Go.Proofs.Ytoknohnodlaimaa
open Go Go.RowKit

theorem ty_int : TyK Try.prog 3 kInt := .int Try.underlying3
theorem ty_money : TyK Try.prog 23 kInt := .int Try.underlying23
theorem ty_sort : TyK Try.prog 45 kInt := .int Try.underlying45
theorem ty_bool : TyK Try.prog 4 .bool := .bool Try.underlying4
theorem ty_str : TyK Try.prog 9 .str := .str Try.underlying9
theorem ty_ints : TyK Try.prog 22 kInts := .sl Try.underlying22 (by kernel_rfl) (by kernel_rfl) ty_int
theorem ty_moneys : TyK Try.prog 47 kInts := .sl Try.underlying47 (by kernel_rfl) (by kernel_rfl) ty_money
theorem ty_strs : TyK Try.prog 46 (.sl 16 .str) := .sl Try.underlying46 (by kernel_rfl) (by kernel_rfl) ty_str
theorem ty_atom : TyK Try.prog 25 kAtom := .st Try.underlying25 (by kernel_rfl) (.cons rfl (by kernel_rfl) ty_int (.cons rfl (by kernel_rfl) ty_ints (.one rfl (by kernel_rfl) ty_money)))
theorem ty_lit : TyK Try.prog 27 kLit := .st Try.underlying27 (by kernel_rfl) (.cons rfl (by kernel_rfl) ty_bool (.cons rfl (by kernel_rfl) ty_atom (.one rfl (by kernel_rfl) ty_int)))
theorem ty_pred : TyK Try.prog 49 kPred := .st Try.underlying49 (by kernel_rfl) (.cons rfl (by kernel_rfl) ty_str (.cons rfl (by kernel_rfl) ty_sort (.cons rfl (by kernel_rfl) ty_strs (.one rfl (by kernel_rfl) ty_moneys))))
theorem ty_preds : TyK Try.prog 32 kPreds := .sl Try.underlying32 (by kernel_rfl) (by kernel_rfl) ty_pred
theorem ty_lits : TyK Try.prog 33 kLits := .sl Try.underlying33 (by kernel_rfl) (by kernel_rfl) ty_lit
end Go.Proofs.Ytoknohnodlaimaa
