/- The given statement of ResolveOwn: for every input the law returns true and its arguments read as before. Conditions: none. -/
import Derived.Test.YtkfmlekomfnleaaGreatRows
import Derived.Test.YtkfmlekomfnleaaGreatPo10
import Derived.WalkKit
import Derived.ProofKit
import Derived.OpenShut
import Derived.ShutString
import Derived.ChangeOld
import Derived.Below
import Derived.Carry
import Derived.SizedLaws
set_option linter.unusedVariables false
set_option linter.unusedSimpArgs false
namespace Go.Proofs.YtkfmlekomfnleaaGreat.resolveOwn
open Go Go.ChangeShapes Go.WideShapes Go.ChangeAt Go.RowKit
theorem own : ownKnob Tryz.prog.godebug = none := by kernel_rfl
theorem laidOut : laidOutB Tryz.prog = true := by kernel_rfl
set_option maxRecDepth 100000 in
theorem lifted (os : Os) (started : os.Started) (H : Type) (enc : TypeId × Value → H) :
    ReturnsInHanded {} Tryz.checked os 5 .any (Rows.resolveOwnSpec.pre6 enc Tryz.prog Tryz.f5 Rows.resolveOwnRow.domain false) (Rows.resolveOwnSpec.post enc Tryz.prog Tryz.f5 false true false false) := by
  refine returnsInHanded_of_change_sized (C := Tryz.checked) own started (by kernel_rfl) Tryz.func5
    (ChangeSpec.witness6 (enc := enc) (C := Tryz.checked) false ⟨#[], #[.agg #[.string ByteArray.empty, .slice none 0 0, .slice none 0 0, .slice none 0 0, .slice none 0 0, .slice none 0 0, .slice none 0 0, .slice none 0 0, .slice none 0 0], .int .i64 0, .agg #[.bool false, .string ByteArray.empty, .slice none 0 0, .bool false, .int .i64 0]], []⟩ 8 (by kernel_rfl) (by kernel_rfl) (by kernel_rfl) (by kernel_rfl)) ?_
  intro W base args ds gs before hval0 hW hcnd hsz0 _
  have hsz : (DataW.weightsEach Tryz.prog (Tryz.f5.params.toList ++ Rows.resolveOwnSpec.plain.varTypes Tryz.prog) (ds ++ gs)).all (· ≤ reachBytes) = true := hsz0
  have hval : ∀ (j : Nat) t v, Tryz.f5.params[j]? = some t → args[j]? = some v → Value.okWide Tryz.prog W .any base t v := hval0
  have hW' := hW
  obtain ⟨p, q, hA0, hV, rfl, hfz, hnd⟩ := hW
  have hA : DataW.TrodAll enc Tryz.prog W 0 (fun _ => true) true Tryz.f5.params.toList args.toList ds p := hA0
  rw [Tryz.params5] at hA hval hsz
  obtain ⟨v0, vs0, d0, ds0, p0, q0, hargs, rfl, rfl, h0, r0⟩ := trodAll_cons hA
  obtain ⟨v1, vs1, d1, ds1, p1, q1, rfl, rfl, rfl, h1, r1⟩ := trodAll_cons r0
  obtain ⟨v2, vs2, d2, ds2, p2, q2, rfl, rfl, rfl, h2, r2⟩ := trodAll_cons r1
  obtain ⟨rfl, rfl, rfl⟩ := trodAll_nil r2
  obtain rfl : args = #[v0, v1, v2] := by cases args; simp_all
  obtain ⟨rfl, rfl⟩ := trodVars_none hV
  have lt0 : ∀ x ∈ p0, x.block < W.heap.size := by obtain ⟨m, hm⟩ := h0; exact DataW.trod_lt m _ _ _ hm
  have g0 : (d0.weights Tryz.prog 31 ++ _).all (· ≤ reachBytes) = true := hsz
  obtain ⟨x0, y0⟩ : ∃ x : (kStat).V, Rd (kStat) (mem W Any) v0.cells.toList x := by obtain ⟨m, hm⟩ := h0; exact trod_rd ty_stat m _ _ _ hm (fun b o hbo => hfz b o (by simp [hbo])) (all_append g0).1
  obtain ⟨⟨c0⟩, rfl, _⟩ := okWide_struct Tryz.underlying31 (hval 0 31 v0 rfl rfl)
  have lt1 : ∀ x ∈ p1, x.block < W.heap.size := by obtain ⟨m, hm⟩ := h1; exact DataW.trod_lt m _ _ _ hm
  have g1 : (d1.weights Tryz.prog 3 ++ _).all (· ≤ reachBytes) = true := (all_append g0).2
  obtain ⟨x1, y1⟩ : ∃ x : (kI).V, Rd (kI) (mem W Any) v1.cells.toList x := by obtain ⟨m, hm⟩ := h1; exact trod_rd ty_int m _ _ _ hm (fun b o hbo => hfz b o (by simp [hbo])) (all_append g1).1
  obtain ⟨a1, rfl⟩ := okWide_int Tryz.underlying3 (hval 1 3 v1 rfl rfl)
  have lt2 : ∀ x ∈ p2, x.block < W.heap.size := by obtain ⟨m, hm⟩ := h2; exact DataW.trod_lt m _ _ _ hm
  have g2 : (d2.weights Tryz.prog 51 ++ _).all (· ≤ reachBytes) = true := (all_append g1).2
  obtain ⟨x2, y2⟩ : ∃ x : (kLitT).V, Rd (kLitT) (mem W Any) v2.cells.toList x := by obtain ⟨m, hm⟩ := h2; exact trod_rd ty_litT m _ _ _ hm (fun b o hbo => hfz b o (by simp [hbo])) (all_append g2).1
  obtain ⟨⟨c2⟩, rfl, _⟩ := okWide_struct Tryz.underlying51 (hval 2 51 v2 rfl rfl)
  refine (law_ResolveOwn W y0 y1 y2).mono fun e W' ⟨he, hk⟩ => ?_
  have bel := hk.below
  subst he
  exact ⟨_, rfl, _, _, _, [], _, [], hW', trodAll_mk1 (shut_bool Tryz.underlying4 _), (trodAll_cons_mk (Below.trod laidOut (by kernel_rfl) (of_decide_eq_true (by kernel_rfl)) h0 bel lt0) (trodAll_cons_mk (Below.trod laidOut (by kernel_rfl) (of_decide_eq_true (by kernel_rfl)) h1 bel lt1) (trodAll_cons_mk (Below.trod laidOut (by kernel_rfl) (of_decide_eq_true (by kernel_rfl)) h2 bel lt2) trodAll_mk0))), rfl, bel.frame _, fun h => by cases h⟩
theorem over : Rows.resolveOwnRow.holds Tryz.pinned (OpenSpec.ofChange Rows.resolveOwnSpec) :=
  OpenClaim.holds_of_wide 5 Tryz.f5 rfl rfl rfl rfl rfl rfl rfl ⟨rfl, rfl, rfl, rfl, rfl⟩ rfl rfl rfl rfl rfl (by kernel_rfl) Tryz.func5 (by kernel_rfl)
    (of_decide_eq_true (by kernel_rfl)) (by unfold Func.isWrapper; first | (rw [if_pos (by decide +kernel)]; kernel_rfl) | (rw [if_neg (by decide +kernel)]; exact ⟨rfl, rfl⟩))
    (fun os started H enc _ => lifted os started H enc)
end Go.Proofs.YtkfmlekomfnleaaGreat.resolveOwn
namespace Go.Proofs.YtkfmlekomfnleaaGreat
theorem resolveOwn_holds : Rows.ResolveOwnSaid := resolveOwn.over
#print axioms resolveOwn_holds
end Go.Proofs.YtkfmlekomfnleaaGreat

