/- The given statement of LiteralsClosed: for every input the law returns true and its arguments read as before. Conditions: none beyond the given row's own (bulk at most 1048576). -/
import Derived.Test.YtoknohnodlaimaaRows
import Derived.Test.YtoknohnodlaimaaB2
import Derived.Test.YtoknohnodlaimaaK9e
import Derived.WalkKit
import Derived.ProofKit
import Derived.OpenShut
import Derived.ShutString
import Derived.ChangeOld
import Derived.Below
import Derived.Carry
import Derived.SizedLaws
import Derived.JoinedCond
import Derived.Deep.CondSized
set_option linter.unusedVariables false
set_option linter.unusedSimpArgs false
namespace Go.Proofs.Ytoknohnodlaimaa.literalsClosed
open Go Go.ChangeShapes Go.WideShapes Go.ChangeAt Go.RowKit
theorem own : ownKnob Try.prog.godebug = none := by kernel_rfl
theorem laidOut : laidOutB Try.prog = true := by kernel_rfl
set_option maxRecDepth 100000 in
theorem lifted (os : Os) (started : os.Started) (H : Type) (enc : TypeId × Value → H) (Fi : Stop.Interp) :
    ReturnsInHanded {} Try.checked os 6 .any ((Rows.OpenSpec.upto Rows.literalsClosedSpec).pre6 enc Try.prog Try.f6 Rows.literalsClosedUptoRow.domain false) (((Rows.OpenSpec.upto Rows.literalsClosedSpec).at Fi).post enc Try.prog Try.f6 false true false false) := by
  refine returnsInHanded_of_cond_sized (C := Try.checked) (s := Rows.OpenSpec.upto Rows.literalsClosedSpec) (k := Rows.uptoSmall) rfl own started (by kernel_rfl) Try.func6
    (OpenSpec.witness (enc := enc) (C := Try.checked) (s := Rows.OpenSpec.upto Rows.literalsClosedSpec) (k := Rows.uptoSmall) rfl false ⟨#[], #[.slice none 0 0, .slice none 0 0, .slice none 0 0], []⟩ 8 (by kernel_rfl) (by kernel_rfl) (by kernel_rfl)
      (x := ([.nil, .nil, .nil], [], [])) (by kernel_rfl) rfl (by kernel_rfl)) ?_
  intro W base args ds gs before hval0 hW hcnd hk0 hsz0 _
  have hsz : (DataW.weightsEach Try.prog (Try.f6.params.toList ++ Rows.literalsClosedSpec.plain.varTypes Try.prog) (ds ++ gs)).all (· ≤ reachBytes) = true := hsz0
  have hval : ∀ (j : Nat) t v, Try.f6.params[j]? = some t → args[j]? = some v → Value.okWide Try.prog W .any base t v := hval0
  have hW' := hW
  obtain ⟨p, q, hA0, hV, rfl, hfz, hnd⟩ := hW
  have hA : DataW.TrodAll enc Try.prog W 0 (fun _ => true) true Try.f6.params.toList args.toList ds p := hA0
  rw [Try.params6] at hA hval hsz
  obtain ⟨v0, vs0, d0, ds0, p0, q0, hargs, rfl, rfl, h0, r0⟩ := trodAll_cons hA
  obtain ⟨v1, vs1, d1, ds1, p1, q1, rfl, rfl, rfl, h1, r1⟩ := trodAll_cons r0
  obtain ⟨v2, vs2, d2, ds2, p2, q2, rfl, rfl, rfl, h2, r2⟩ := trodAll_cons r1
  obtain ⟨rfl, rfl, rfl⟩ := trodAll_nil r2
  obtain rfl : args = #[v0, v1, v2] := by cases args; simp_all
  obtain ⟨rfl, rfl⟩ := trodVars_none hV
  have lt0 : ∀ x ∈ p0, x.block < W.heap.size := by obtain ⟨m, hm⟩ := h0; exact DataW.trod_lt m _ _ _ hm
  have g0 : (d0.weights Try.prog 32 ++ _).all (· ≤ reachBytes) = true := hsz
  obtain ⟨x0, y0, z0⟩ : ∃ x : (kPreds).V, Rd (kPreds) (mem W Any) v0.cells.toList x ∧ bk (kPreds) x + 1 ≤ Rows.uptoBulk d0 := by obtain ⟨m, hm⟩ := h0; exact trod_mu bulkMu ty_preds m _ _ _ hm (fun b o hbo => hfz b o (by simp [hbo])) (all_append g0).1
  obtain ⟨a0, n0, c0, rfl⟩ := okWide_slice Try.underlying32 (hval 0 32 v0 rfl rfl)
  have lt1 : ∀ x ∈ p1, x.block < W.heap.size := by obtain ⟨m, hm⟩ := h1; exact DataW.trod_lt m _ _ _ hm
  have g1 : (d1.weights Try.prog 22 ++ _).all (· ≤ reachBytes) = true := (all_append g0).2
  obtain ⟨x1, y1, z1⟩ : ∃ x : (kInts).V, Rd (kInts) (mem W Any) v1.cells.toList x ∧ bk (kInts) x + 1 ≤ Rows.uptoBulk d1 := by obtain ⟨m, hm⟩ := h1; exact trod_mu bulkMu ty_ints m _ _ _ hm (fun b o hbo => hfz b o (by simp [hbo])) (all_append g1).1
  obtain ⟨a1, n1, c1, rfl⟩ := okWide_slice Try.underlying22 (hval 1 22 v1 rfl rfl)
  have lt2 : ∀ x ∈ p2, x.block < W.heap.size := by obtain ⟨m, hm⟩ := h2; exact DataW.trod_lt m _ _ _ hm
  have g2 : (d2.weights Try.prog 33 ++ _).all (· ≤ reachBytes) = true := (all_append g1).2
  obtain ⟨x2, y2, z2⟩ : ∃ x : (kLits).V, Rd (kLits) (mem W Any) v2.cells.toList x ∧ bk (kLits) x + 1 ≤ Rows.uptoBulk d2 := by obtain ⟨m, hm⟩ := h2; exact trod_mu bulkMu ty_lits m _ _ _ hm (fun b o hbo => hfz b o (by simp [hbo])) (all_append g2).1
  obtain ⟨a2, n2, c2, rfl⟩ := okWide_slice Try.underlying33 (hval 2 33 v2 rfl rfl)
  have hk : Rows.uptoBulkAll [d0, d1, d2] ≤ 1048576 := of_decide_eq_true hk0
  simp only [Rows.uptoBulkAll] at hk
  have s0 : bk (kPreds) x0 ≤ 1048576 := by omega
  have s1 : bk (kInts) x1 ≤ 1048576 := by omega
  have s2 : bk (kLits) x2 ≤ 1048576 := by omega
  refine (law_LiteralsClosed W y0 s0 y1 s1 y2 s2).mono fun e W' ⟨he, hk⟩ => ?_
  have bel := hk.below
  subst he
  exact ⟨_, rfl, _, _, _, [], _, [], hW', trodAll_mk1 (shut_bool Try.underlying4 _), (trodAll_cons_mk (Below.trod laidOut (by kernel_rfl) (of_decide_eq_true (by kernel_rfl)) h0 bel lt0) (trodAll_cons_mk (Below.trod laidOut (by kernel_rfl) (of_decide_eq_true (by kernel_rfl)) h1 bel lt1) (trodAll_cons_mk (Below.trod laidOut (by kernel_rfl) (of_decide_eq_true (by kernel_rfl)) h2 bel lt2) trodAll_mk0))), rfl, bel.frame _, fun h => by cases h⟩
theorem over : Rows.literalsClosedUptoRow.holds Try.pinned (Rows.OpenSpec.upto Rows.literalsClosedSpec) :=
  OpenClaim.holds_of_cond 6 Try.f6 rfl rfl rfl rfl rfl rfl rfl ⟨rfl, rfl, rfl, rfl, rfl⟩ rfl rfl rfl rfl rfl (by kernel_rfl) Try.func6 (by kernel_rfl)
    (of_decide_eq_true (by kernel_rfl)) (by unfold Func.isWrapper; first | (rw [if_pos (by decide +kernel)]; kernel_rfl) | (rw [if_neg (by decide +kernel)]; exact ⟨rfl, rfl⟩))
    (fun os started H enc _ Fi => lifted os started H enc Fi)
end Go.Proofs.Ytoknohnodlaimaa.literalsClosed
namespace Go.Proofs.Ytoknohnodlaimaa
theorem literalsClosed_holds : Rows.LiteralsClosedUptoSaid := literalsClosed.over
#print axioms literalsClosed_holds
end Go.Proofs.Ytoknohnodlaimaa

