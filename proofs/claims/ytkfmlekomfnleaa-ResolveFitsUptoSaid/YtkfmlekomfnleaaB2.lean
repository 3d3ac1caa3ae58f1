/- What the bound of a narrowed row gives: a measure of readings. -/
import Derived.Test.YtkfmlekomfnleaaRows
import Derived.Test.YtkfmlekomfnleaaT2
set_option linter.unusedVariables false
set_option linter.unusedSimpArgs false
namespace Go.Proofs.Ytkfmlekomfnleaa
open Go Go.RowKit

theorem uptoAll_sum {H : Type} : ∀ l : List (DataW H), Rows.uptoBulkAll l = (l.map Rows.uptoBulk).sum := by
  intro l
  induction l with
  | nil => simp [Rows.uptoBulkAll]
  | cons d l ih => rw [Rows.uptoBulkAll, ih, List.map_cons, List.sum_cons]
theorem bulkMu {H : Type} : Mu (Rows.uptoBulk (H := H)) where
  one d := by
    cases d with
    | lit l => cases l <;> simp [Rows.uptoBulk]
    | nil => simp [Rows.uptoBulk]
    | ptr d => simp [Rows.uptoBulk]
    | slice elems spare => simp [Rows.uptoBulk]
    | agg parts => simp [Rows.uptoBulk]
    | iface t d => simp [Rows.uptoBulk]
    | map entries => simp [Rows.uptoBulk]
    | held h => simp [Rows.uptoBulk]
  sl es sp := by rw [Rows.uptoBulk, ← uptoAll_sum]; omega
  ag ps := by rw [Rows.uptoBulk, ← uptoAll_sum]; omega
end Go.Proofs.Ytkfmlekomfnleaa
