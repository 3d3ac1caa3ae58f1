/- The runner for closed calls: all plain operations; those that lay a block; those that turn memory. Conditions: none. -/
import Derived.Test.YtbcdgcodnkgdoaaGreatRu7
set_option linter.unusedVariables false
set_option linter.unusedSimpArgs false
set_option maxRecDepth 10000
namespace Go.Proofs.YtbcdgcodnkgdoaaGreat.Run
open Go Go.RowKit

section
variable {w0 w : World} {σ : Sg} {h : Hp} {N : Nat} {fr : T V} {ρ : Operand → Value} {q : A} {dst : Option Nat} {ty : TypeId} {pos : String} {af : Array Edge} {g : Option (Nat × Bool)}
theorem bound_ok {k : IntKind} {i : Int} {n : Nat} {cd : BoundsCode} (h0 : 0 ≤ i) (h1 : i ≤ n) (w : World) : (Instr.sliceBound (.int k i) n cd).run PG w = .ok i.toNat w := by
  simp [Instr.sliceBound, asIntOf, h0, h1]
theorem room_ok {e sz m off o n : Nat} {r : Nat × Nat} (H : DenG w0 σ h.get w) (hr : roomOk h e sz m off o n = true) (hs : szt e = some sz) (hm : σ m = some r) : o + n ≤ r.2 := by
  unfold roomOk at hr
  split at hr
  · rename_i c e' hg
    simp only [Bool.and_eq_true, Nat.beq_eq, Nat.ble_eq] at hr
    obtain ⟨⟨⟨rfl, rfl⟩, h1⟩, h0⟩ := hr
    have h0 := blt_lt h0
    obtain ⟨q', o', h2, h3, c', rest, fz, sz', h4, h5, rfl, h6, h7, h8⟩ := H.obj _ _ hg
    rw [hm] at h2; obtain rfl := Option.some.inj h2
    rw [hs] at h4; obtain rfl := Option.some.inj h4
    have h9 := denL_len h5
    rw [List.length_append] at h7
    have : (o + n) * sz ≤ r.2 * sz := by rw [Nat.add_mul]; omega
    exact Nat.le_of_mul_le_mul_right this h0
  · rename_i c te hg
    simp only [Bool.and_eq_true, Nat.beq_eq, Nat.ble_eq] at hr
    obtain ⟨⟨rfl, rfl⟩, h1⟩ := hr
    obtain ⟨q', o', h2, h3, c', fz, h5, rfl, h6, h7⟩ := H.obj _ _ hg
    rw [hm] at h2; obtain rfl := Option.some.inj h2
    omega
  · cases hr
theorem sliceV_ok {t : TypeId} {u v : V} {a : Value} {lo hi : Option V} {lo' hi' : Option Value} (H : DenG w0 σ h.get w) (e : sliceV h t u lo hi = .ok v) (hu : den σ u = some a)
    (hlo : ∀ x, lo = some x → ∃ y, lo' = some y ∧ den σ x = some y) (hlo0 : lo = none → lo' = none) (hhi : ∀ x, hi = some x → ∃ y, hi' = some y ∧ den σ x = some y) (hhi0 : hi = none → hi' = none) :
    ∃ x, (Instr.sliceAt t a lo' hi' none).run PG w = .ok x w ∧ den σ v = some x := by
  unfold sliceV at e
  split at e
  · rename_i m off o n
    obtain ⟨r, h1, rfl⟩ := den_l hu
    split at e
    · rename_i el ht
      split at e
      · rename_i sz hs
        split at e
        · rename_i kk b
          obtain ⟨h2, h3⟩ := when_ok e
          simp only [Bool.and_eq_true, decide_eq_true_eq, Nat.ble_eq] at h2
          obtain ⟨⟨h2, h4⟩, h5⟩ := h2
          obtain rfl := R.ok.inj h3
          obtain ⟨y, rfl, hy⟩ := hhi _ rfl
          obtain rfl := den_i hy
          obtain rfl := hlo0 rfl
          have hroom := room_ok H h5 hs h1
          refine ⟨.slice (some ⟨r.1, off, none⟩) b.toNat (r.2 - o), ?_, by simp [den, h1]⟩
          have e1 := bound_ok (k := kk) (cd := .sliceAcap) h2 (show b ≤ ((r.2 - o : Nat) : Int) by omega) w
          simp [Instr.sliceAt, run_underlying ht, Instr.slice, Instr.sliceBounds, e1, run_sz hs, Result.andThen, Addr.add]
        · rename_i kk b
          obtain ⟨h2, h3⟩ := when_ok e
          simp only [Bool.and_eq_true, decide_eq_true_eq] at h2
          obtain ⟨⟨h2, h4⟩, h5⟩ := h2
          have h4 := blt_lt h4
          obtain rfl := R.ok.inj h3
          obtain ⟨y, rfl, hy⟩ := hlo _ rfl
          obtain rfl := den_i hy
          obtain rfl := hhi0 rfl
          have hroom := room_ok H h5 hs h1
          refine ⟨.slice (some ⟨r.1, off + b.toNat * sz, none⟩) (n - b.toNat) (r.2 - (o + b.toNat)), ?_, by simp [den, h1]⟩
          have e1 := bound_ok (k := kk) (cd := .sliceB) (n := n) h2 (by omega) w
          have hne : ¬ (r.2 - o = b.toNat) := by omega
          simp [Instr.sliceAt, run_underlying ht, Instr.slice, Instr.sliceBounds, e1, run_sz hs, Result.andThen, add_at, hne, Nat.sub_sub]
        · cases e
      · cases e
    · cases e
  · obtain rfl := den_l0 hu
    split at e
    · rename_i el ht
      split at e
      · rename_i kk b
        obtain ⟨h2, h3⟩ := when_ok e
        simp only [Bool.and_eq_true, decide_eq_true_eq] at h2
        obtain ⟨rfl, hs⟩ := h2
        obtain rfl := R.ok.inj h3
        obtain ⟨y, rfl, hy⟩ := hhi _ rfl
        obtain rfl := den_i hy
        obtain rfl := hlo0 rfl
        refine ⟨.slice none 0 0, ?_, by simp [den]⟩
        cases hsz : szt el with
        | none => rw [hsz] at hs; cases hs
        | some sz =>
          have e1 := bound_ok (k := kk) (i := 0) (n := 0) (cd := .sliceAcap) (Int.le_refl _) (Int.le_refl _) w
          simp [Instr.sliceAt, run_underlying ht, Instr.slice, Instr.sliceBounds, e1, run_sz hsz, Result.andThen]
      · cases e
    · cases e
  · rename_i m o
    obtain ⟨r, h1, rfl⟩ := den_p hu
    split at e
    · rename_i n el ht
      split at e
      · rename_i sz c te hs hg
        obtain ⟨h2, h3⟩ := when_ok e
        simp only [Bool.and_eq_true, Nat.beq_eq] at h2
        obtain ⟨⟨⟨rfl, rfl⟩, rfl⟩, h4⟩ := h2
        have h4 := blt_lt h4
        obtain rfl := R.ok.inj h3
        obtain rfl := hlo0 rfl
        obtain rfl := hhi0 rfl
        obtain ⟨q', o', k2, k3, c', fz, k5, rfl, k6, k7⟩ := H.obj _ _ hg
        rw [h1] at k2; obtain rfl := Option.some.inj k2
        refine ⟨.slice (some ⟨r.1, 0, none⟩) c.length c.length, ?_, by simp [den, h1, k7]⟩
        have hne : ¬ (c.length = 0) := by omega
        simp [Instr.sliceAt, run_underlying ht, Instr.sureAddr, Instr.sliceBounds, run_sz hs, Result.andThen, Addr.add]
      · cases e
    · cases e
  · cases e
theorem pSlice {t : TypeId} {x : Operand} {lo hi mx : Option Operand} (e : oSlice N fr h t (xe N fr x) lo hi mx = .ok q) (he : EvO σ N fr ρ (#[x] ++ lo.toArray ++ hi.toArray ++ mx.toArray)) (H : DenG w0 σ h.get w) : Says σ w ρ ⟨dst, .slice t x lo hi mx, ty, pos, af, g⟩ q.v := by
  unfold oSlice at e
  split at e
  · rename_i v hx
    obtain ⟨r, h1, rfl⟩ := with_ok e
    obtain ⟨y, h2, h3⟩ := sliceV_ok (lo' := none) (hi' := none) H h1 (he x (by simp) _ hx) (fun _ hh => by cases hh) (fun _ => rfl) (fun _ hh => by cases hh) (fun _ => rfl)
    exact ⟨y, by simp [execOp, h2, Result.andThen], h3⟩
  · rename_i v l hx
    split at e
    · rename_i a ha
      obtain ⟨r, h1, rfl⟩ := with_ok e
      obtain ⟨y, h2, h3⟩ := sliceV_ok (lo' := some (ρ l)) (hi' := none) H h1 (he x (by simp) _ hx) (fun z hz => by cases hz; exact ⟨_, rfl, he l (by simp) _ ha⟩) (fun hh => by cases hh) (fun _ hh => by cases hh) (fun _ => rfl)
      exact ⟨y, by simp [execOp, h2, Result.andThen], h3⟩
    · cases e
  · rename_i v l hx
    split at e
    · rename_i a ha
      obtain ⟨r, h1, rfl⟩ := with_ok e
      obtain ⟨y, h2, h3⟩ := sliceV_ok (lo' := none) (hi' := some (ρ l)) H h1 (he x (by simp) _ hx) (fun _ hh => by cases hh) (fun _ => rfl) (fun z hz => by cases hz; exact ⟨_, rfl, he l (by simp) _ ha⟩) (fun hh => by cases hh)
      exact ⟨y, by simp [execOp, h2, Result.andThen], h3⟩
    · cases e
  · cases e
theorem oLen_ok {t : TypeId} {v : V} {a : Value} {ats : Array TypeId} (e : oLen h t v = .ok q) (hv : den σ v = some a) : ∃ x, (Builtin.len_ (t :: ats.toList).toArray ty #[a]).run PG w = .ok x w ∧ den σ q.v = some x := by
  unfold oLen at e
  split at e
  · rename_i ht
    obtain rfl := R.ok.inj e
    obtain ⟨r, h1, rfl⟩ := den_l hv
    exact ⟨_, by simp [Builtin.len_, run_underlying ht, goInt, Result.andThen], den_iI⟩
  · rename_i ht
    obtain rfl := R.ok.inj e
    obtain rfl := den_l0 hv
    exact ⟨_, by simp [Builtin.len_, run_underlying ht, goInt, Result.andThen], den_iI⟩
  · rename_i s ht
    obtain rfl := R.ok.inj e
    obtain rfl := den_s hv
    exact ⟨_, by simp [Builtin.len_, run_underlying ht, goInt, Result.andThen], den_iI⟩
  · cases e
/-- A plain operation, or one that reads: it answers, and nothing turns. -/
theorem pure_ok {op : Op} (hk : kindOp op = 0 ∨ kindOp op = 1) (e : opL N fr h op = .ok q) (he : EvO σ N fr ρ op.operands) (hc : ∀ c, ρ (.const c) = c) (H : kindOp op = 1 → DenG w0 σ h.get w) : Says σ w ρ ⟨dst, op, ty, pos, af, g⟩ q.v := by
  cases op <;> first
    | (cases e; done)
    | (exact pMove e he)
    | (exact pAssign e he)
    | (exact pPick e he)
    | (exact pLoad e he (H rfl))
    | (exact pNil e he)
    | (exact pBin e he hc)
    | (exact pUn e he)
    | (exact pFieldA e he)
    | (exact pField e he)
    | (exact pIdxA e he)
    | (exact pIdx e he)
    | (exact pLook e he (H rfl))
    | (exact pExt e he)
    | (exact pFunc e he)
    | (exact pSlice e he (H rfl))
    | (exact pBuild e he)
    | (exact pConv (by rcases hk with hk | hk; · exact hk
                       · exfalso; revert hk; simp only [kindOp, kindCv]; split <;> simp) e he)
    | (simp [kindOp] at hk; done)
    | skip
  · rename_i c
    obtain ⟨cl, args, ats⟩ := c
    cases cl with
    | value f => simp [kindOp, kindC] at hk
    | invoke r m => cases e
    | builtin bt =>
      change oBuiltin h bt (xes N fr args.toList) ats.toList = .ok q at e
      unfold oBuiltin at e
      split at e
      · rename_i v t r hl ht
        have hd := EvO.list (fun x hx => he x (by simp [Op.operands, Call.operands]; simpa using hx)) hl
        obtain ⟨a, b, h1, h2, h3⟩ := denL_cons.1 hd
        simp only [denL_nil, Option.some.injEq] at h2
        subst h2
        obtain ⟨x, h4, h5⟩ := oLen_ok (w := w) (ty := ty) (ats := r.toArray) e h1
        have e1 : args.map ρ = #[a] := by rw [← Array.toList_inj]; simpa using h3
        have e2 : ats = (t :: r.toArray.toList).toArray := by rw [← Array.toList_inj]; simpa using ht
        rw [← e2] at h4
        exact ⟨x, by simp [execOp, resolve, invoke, builtin, e1, h4, Result.andThen], h5⟩
      · simp [kindOp, kindC, kindB] at hk
      · rename_i k a k' b hl
        obtain rfl := R.ok.inj e
        have hd := EvO.list (fun x hx => he x (by simp [Op.operands, Call.operands]; simpa using hx)) hl
        obtain ⟨x1, r1, h1, h2, h3⟩ := denL_cons.1 hd
        obtain ⟨x2, r2, h4, h5, rfl⟩ := denL_cons.1 h2
        simp only [denL_nil, Option.some.injEq] at h5
        subst h5
        obtain rfl := den_i h1; obtain rfl := den_i h4
        have e1 : args.map ρ = #[.int k a, .int k' b] := by rw [← Array.toList_inj]; simpa using h3
        refine ⟨.int k (if b < a then b else a), ?_, den_iI⟩
        have h6 : (Builtin.min_ ats ty #[.int k a, .int k' b]).run PG w = .ok (.int k (if b < a then b else a)) w := by
          simp [Builtin.min_, Builtin.min2]
        simp [execOp, resolve, invoke, builtin, e1, h6, Result.andThen]
      · cases e
end
end Go.Proofs.YtbcdgcodnkgdoaaGreat.Run
