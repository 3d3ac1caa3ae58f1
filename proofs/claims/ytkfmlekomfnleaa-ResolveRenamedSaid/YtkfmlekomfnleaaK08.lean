/- The types of chapter 08 as kinds of data. -/
import Derived.Test.YtkfmlekomfnleaaT
import Derived.Test.YtkfmlekomfnleaaR2
set_option linter.unusedVariables false
set_option linter.unusedSimpArgs false
namespace Go.Proofs.Ytkfmlekomfnleaa
open Go Go.RowKit

theorem ty_int : TyK Try.prog 3 kI := .int Try.underlying3
theorem ty_int64 : TyK Try.prog 2 kI := .int Try.underlying2
theorem ty_money : TyK Try.prog 52 kI := .int Try.underlying52
theorem ty_sort : TyK Try.prog 68 kI := .int Try.underlying68
theorem ty_bool : TyK Try.prog 4 .bool := .bool Try.underlying4
theorem ty_str : TyK Try.prog 9 .str := .str Try.underlying9
theorem ty_moneys : TyK Try.prog 93 kInts := .sl Try.underlying93 (by kernel_rfl) (by kernel_rfl) ty_money
theorem ty_strs : TyK Try.prog 22 kStrs := .sl Try.underlying22 (by kernel_rfl) (by kernel_rfl) ty_str
theorem ty_member : TyK Try.prog 38 kMember := .st Try.underlying38 (by kernel_rfl) (.cons rfl (by kernel_rfl) ty_str (.one rfl (by kernel_rfl) ty_str))
theorem ty_predT : TyK Try.prog 95 kPredT := .st Try.underlying95 (by kernel_rfl) (.cons rfl (by kernel_rfl) ty_str (.cons rfl (by kernel_rfl) ty_sort (.cons rfl (by kernel_rfl) ty_strs (.one rfl (by kernel_rfl) ty_moneys))))
theorem ty_source : TyK Try.prog 103 kSource := .st Try.underlying103 (by kernel_rfl) (.cons rfl (by kernel_rfl) ty_str (.one rfl (by kernel_rfl) ty_int))
theorem ty_litT : TyK Try.prog 54 kLitT := .st Try.underlying54 (by kernel_rfl) (.cons rfl (by kernel_rfl) ty_bool (.cons rfl (by kernel_rfl) ty_str (.cons rfl (by kernel_rfl) ty_strs (.cons rfl (by kernel_rfl) ty_bool (.one rfl (by kernel_rfl) ty_money)))))
theorem ty_term : TyK Try.prog 86 kTerm := .st Try.underlying86 (by kernel_rfl) (.cons rfl (by kernel_rfl) ty_int64 (.cons rfl (by kernel_rfl) ty_str (.cons rfl (by kernel_rfl) ty_strs (.one rfl (by kernel_rfl) ty_money))))
theorem ty_terms : TyK Try.prog 59 kTerms := .sl Try.underlying59 (by kernel_rfl) (by kernel_rfl) ty_term
theorem ty_op : TyK Try.prog 60 kI := .int Try.underlying60
theorem ty_guard : TyK Try.prog 62 kGuard := .st Try.underlying62 (by kernel_rfl) (.cons rfl (by kernel_rfl) ty_terms (.cons rfl (by kernel_rfl) ty_op (.one rfl (by kernel_rfl) ty_terms)))
theorem ty_premK : TyK Try.prog 58 kI := .int Try.underlying58
theorem ty_prem : TyK Try.prog 64 kPrem := .st Try.underlying64 (by kernel_rfl) (.cons rfl (by kernel_rfl) ty_premK (.cons rfl (by kernel_rfl) ty_litT (.cons rfl (by kernel_rfl) ty_guard (.cons rfl (by kernel_rfl) ty_str (.one rfl (by kernel_rfl) ty_str)))))
theorem ty_prems : TyK Try.prog 50 kPrems := .sl Try.underlying50 (by kernel_rfl) (by kernel_rfl) ty_prem
theorem ty_date : TyK Try.prog 49 kI := .int Try.underlying49
theorem ty_arrow : TyK Try.prog 51 kI := .int Try.underlying51
theorem ty_rule : TyK Try.prog 56 kRule := .st Try.underlying56 (by kernel_rfl) (.cons rfl (by kernel_rfl) ty_str (.cons rfl (by kernel_rfl) ty_str (.cons rfl (by kernel_rfl) ty_date (.cons rfl (by kernel_rfl) ty_date (.cons rfl (by kernel_rfl) ty_prems (.cons rfl (by kernel_rfl) ty_arrow (.one rfl (by kernel_rfl) ty_litT)))))))
theorem ty_exc : TyK Try.prog 138 kExc := .st Try.underlying138 (by kernel_rfl) (.cons rfl (by kernel_rfl) ty_str (.one rfl (by kernel_rfl) ty_str))
theorem ty_total : TyK Try.prog 116 kTotal := .st Try.underlying116 (by kernel_rfl) (.cons rfl (by kernel_rfl) ty_str (.cons rfl (by kernel_rfl) ty_str (.cons rfl (by kernel_rfl) ty_strs (.cons rfl (by kernel_rfl) ty_bool (.one rfl (by kernel_rfl) ty_money)))))
theorem ty_stat : TyK Try.prog 31 kStat := .st Try.underlying31 (by kernel_rfl) (.cons rfl (by kernel_rfl) ty_str (.cons rfl (by kernel_rfl) ty_strs (.cons rfl (by kernel_rfl) (.sl Try.underlying23 (by kernel_rfl) (by kernel_rfl) ty_member) (.cons rfl (by kernel_rfl) (.sl Try.underlying24 (by kernel_rfl) (by kernel_rfl) ty_predT) (.cons rfl (by kernel_rfl) (.sl Try.underlying25 (by kernel_rfl) (by kernel_rfl) ty_strs)
  (.cons rfl (by kernel_rfl) (.sl Try.underlying26 (by kernel_rfl) (by kernel_rfl) ty_source) (.cons rfl (by kernel_rfl) (.sl Try.underlying27 (by kernel_rfl) (by kernel_rfl) ty_rule) (.cons rfl (by kernel_rfl) (.sl Try.underlying28 (by kernel_rfl) (by kernel_rfl) ty_exc) (.one rfl (by kernel_rfl) (.sl Try.underlying29 (by kernel_rfl) (by kernel_rfl) ty_total))))))))))
/-- A statute, its slices named. -/
theorem rd_stat {M : Mem} {cs : List Value} {s : kStat.V} (h : Rd kStat M cs s) : ∃ x : RC, cs = x.stat s ∧ StatOn M s x := by
  obtain ⟨c0, r0, rfl, h0, c1, r1, rfl, h1, c2, r2, rfl, h2, c3, r3, rfl, h3, c4, r4, rfl, h4, c5, r5, rfl, h5, c6, r6, rfl, h6, c7, r7, rfl, h7, h8⟩ := h
  obtain rfl := str_cell h0
  obtain ⟨A1, k1, rfl⟩ := sl_cell h1
  obtain ⟨A2, k2, rfl⟩ := sl_cell h2
  obtain ⟨A3, k3, rfl⟩ := sl_cell h3
  obtain ⟨A4, k4, rfl⟩ := sl_cell h4
  obtain ⟨A5, k5, rfl⟩ := sl_cell h5
  obtain ⟨A6, k6, rfl⟩ := sl_cell h6
  obtain ⟨A7, k7, rfl⟩ := sl_cell h7
  obtain ⟨A8, k8, rfl⟩ := sl_cell h8
  exact ⟨⟨A1, A2, A3, A4, A5, A6, A7, A8, k1, k2, k3, k4, k5, k6, k7, k8, 0, 0, 0, 0, 0, 0⟩, rfl, h1, h2, h3, h4, h5, h6, h7, h8⟩
end Go.Proofs.Ytkfmlekomfnleaa
