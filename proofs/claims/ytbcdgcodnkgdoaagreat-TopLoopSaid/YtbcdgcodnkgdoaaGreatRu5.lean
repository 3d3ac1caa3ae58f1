/- The runner for closed calls: numbers, comparisons, composite values, maps, parts of slices. Conditions: none. -/
import Derived.Test.YtbcdgcodnkgdoaaGreatRu4
set_option linter.unusedVariables false
set_option linter.unusedSimpArgs false
namespace Go.Proofs.YtbcdgcodnkgdoaaGreat.Run
open Go Go.RowKit

section
variable {w0 w : World} {σ : Sg} {h : Hp} {N : Nat} {fr : T V} {ρ : Operand → Value} {q : A} {dst : Option Nat} {ty : TypeId} {pos : String} {af : Array Edge} {g : Option (Nat × Bool)}
theorem den_iI {k : IntKind} {n : Int} : den σ (.i k n) = some (.int k n) := by rw [den]
theorem den_bB {b : Bool} : den σ (.b b) = some (.bool b) := by rw [den]
theorem arith_ok {op : BinOp} {k : IntKind} {a b : Int} {v : V} {t : TypeId} (e : arith op k a b = .ok v) (hs : op ≠ .shl) (hr : op ≠ .shr) : ∃ y, (∀ w, (binOp op t (.int k a) (.int k b)).run PG w = .ok y w) ∧ den σ v = some y := by
  cases op with
  | shl => exact absurd rfl hs
  | shr => exact absurd rfl hr
  | andNot => cases e
  | add => obtain rfl := R.ok.inj e; refine ⟨_, fun w => ?_, den_iI⟩; simp [binOp, Op.intArith]
  | sub => obtain rfl := R.ok.inj e; refine ⟨_, fun w => ?_, den_iI⟩; simp [binOp, Op.intArith]
  | mul => obtain rfl := R.ok.inj e; refine ⟨_, fun w => ?_, den_iI⟩; simp [binOp, Op.intArith]
  | quo =>
    unfold arith at e
    simp only at e
    split at e
    · cases e
    · rename_i hb
      have hb' : ¬ b = 0 := of_decide_eq_false hb
      obtain rfl := R.ok.inj e; refine ⟨_, fun w => ?_, den_iI⟩; simp [binOp, Op.intDiv, hb']
  | rem =>
    unfold arith at e
    simp only at e
    split at e
    · cases e
    · rename_i hb
      have hb' : ¬ b = 0 := of_decide_eq_false hb
      obtain rfl := R.ok.inj e; refine ⟨_, fun w => ?_, den_iI⟩; simp [binOp, Op.intDiv, hb']
  | and => obtain rfl := R.ok.inj e; refine ⟨_, fun w => ?_, den_iI⟩; simp [binOp, Op.intBits]
  | or => obtain rfl := R.ok.inj e; refine ⟨_, fun w => ?_, den_iI⟩; simp [binOp, Op.intBits]
  | xor => obtain rfl := R.ok.inj e; refine ⟨_, fun w => ?_, den_iI⟩; simp [binOp, Op.intBits]
  | eql => obtain rfl := R.ok.inj e; refine ⟨_, fun w => ?_, den_bB⟩; simp [binOp, Op.intCmp, beqI]
  | neq => obtain rfl := R.ok.inj e; refine ⟨_, fun w => ?_, den_bB⟩; simp [binOp, Op.intCmp, beqI, bne]
  | lss => obtain rfl := R.ok.inj e; refine ⟨_, fun w => ?_, den_bB⟩; simp [binOp, Op.intCmp]
  | leq => obtain rfl := R.ok.inj e; refine ⟨_, fun w => ?_, den_bB⟩; simp [binOp, Op.intCmp]
  | gtr => obtain rfl := R.ok.inj e; refine ⟨_, fun w => ?_, den_bB⟩; simp [binOp, Op.intCmp]
  | geq => obtain rfl := R.ok.inj e; refine ⟨_, fun w => ?_, den_bB⟩; simp [binOp, Op.intCmp]
theorem bopN_ok {op : BinOp} {k k' : IntKind} {a b : Int} {v : V} {t : TypeId} (e : bopN op k k' a b = .ok v) : ∃ y, (∀ w, (binOp op t (.int k a) (.int k' b)).run PG w = .ok y w) ∧ den σ v = some y := by
  unfold bopN at e
  split at e
  · unfold shl1 at e
    split at e
    · cases e
    · rename_i hb
      have hb' : ¬ b < 0 := of_decide_eq_false hb
      obtain rfl := R.ok.inj e; refine ⟨_, fun w => ?_, den_iI⟩; simp [binOp, Op.shift, hb']
  · unfold shr1 at e
    split at e
    · cases e
    · rename_i hb
      have hb' : ¬ b < 0 := of_decide_eq_false hb
      obtain rfl := R.ok.inj e; refine ⟨_, fun w => ?_, den_iI⟩; simp [binOp, Op.shift, hb']
  · rename_i h1 h2
    split at e
    · rename_i hk
      obtain rfl := of_decide_eq_true hk
      exact arith_ok e (fun h => h1 h) (fun h => h2 h)
    · cases e
theorem equal_ok {t : TypeId} {u v : V} {c : Bool} {a b : Value} (e : eqV t u v = some c) (h1 : den σ u = some a) (h2 : den σ v = some b) :
    (∀ w, (Op.equal t a b).run PG w = .ok c w) ∧ (∀ (op : BinOp) (x y : Operand) w, (eqGuard op t x y a b).run PG w = .ok () w) ∧ binOp .eql t a b = (do pure (.bool (← Op.equal t a b)) : Sem Value) ∧ binOp .neq t a b = (do pure (.bool (!(← Op.equal t a b))) : Sem Value) := by
  have plain : ∀ {d : TypeDesc}, PG.underlying t = some d → ∀ {c : Bool}, (∀ (n : Nat) (w : World), (Op.equalIn (n + 1) t a b).run PG w = .ok c w) → (∀ w, (Op.equal t a b).run PG w = .ok c w) := fun _ _ hh w => hh 9999 w
  unfold eqV at e
  split at e
  · rename_i x y ht
    obtain rfl := Option.some.inj e
    obtain rfl := den_b h1; obtain rfl := den_b h2
    exact ⟨plain ht (fun n w => by simp [Op.equalIn, run_underlying ht, Result.andThen]), fun op x y w => by unfold eqGuard; split <;> rfl, rfl, rfl⟩
  · rename_i ht
    obtain rfl := Option.some.inj e
    rw [den] at h1 h2
    obtain rfl := Option.some.inj h1; obtain rfl := Option.some.inj h2
    exact ⟨plain ht (fun n w => by simp [Op.equalIn, run_underlying ht, Result.andThen]), fun op x y w => by unfold eqGuard; split <;> rfl, rfl, rfl⟩
  · rename_i ht
    obtain rfl := Option.some.inj e
    obtain ⟨r, _, rfl⟩ := den_p h2
    rw [den] at h1
    obtain rfl := Option.some.inj h1
    exact ⟨plain ht (fun n w => by simp [Op.equalIn, run_underlying ht, Result.andThen]), fun op x y w => by unfold eqGuard; split <;> rfl, rfl, rfl⟩
  · rename_i ht
    obtain rfl := Option.some.inj e
    obtain ⟨r, _, rfl⟩ := den_p h1
    rw [den] at h2
    obtain rfl := Option.some.inj h2
    exact ⟨plain ht (fun n w => by simp [Op.equalIn, run_underlying ht, Result.andThen]), fun op x y w => by unfold eqGuard; split <;> rfl, rfl, rfl⟩
  · rename_i ht
    obtain rfl := Option.some.inj e
    obtain rfl := den_l0 h1; obtain rfl := den_l0 h2
    exact ⟨plain ht (fun n w => by simp [Op.equalIn, run_underlying ht, Result.andThen]), fun op x y w => by unfold eqGuard; split <;> rfl, rfl, rfl⟩
  · rename_i ht
    obtain rfl := Option.some.inj e
    obtain rfl := den_l0 h1; obtain ⟨r, _, rfl⟩ := den_l h2
    exact ⟨plain ht (fun n w => by simp [Op.equalIn, run_underlying ht, Result.andThen]), fun op x y w => by unfold eqGuard; split <;> rfl, rfl, rfl⟩
  · rename_i ht
    obtain rfl := Option.some.inj e
    obtain ⟨r, _, rfl⟩ := den_l h1; obtain rfl := den_l0 h2
    exact ⟨plain ht (fun n w => by simp [Op.equalIn, run_underlying ht, Result.andThen]), fun op x y w => by unfold eqGuard; split <;> rfl, rfl, rfl⟩
  · rename_i ht
    obtain rfl := Option.some.inj e
    rw [den] at h1 h2
    obtain rfl := Option.some.inj h1; obtain rfl := Option.some.inj h2
    exact ⟨plain ht (fun n w => by simp [Op.equalIn, run_underlying ht, Result.andThen]), fun op x y w => by unfold eqGuard; split <;> rfl, rfl, rfl⟩
  · rename_i ht
    obtain rfl := Option.some.inj e
    rw [den] at h1
    obtain rfl := Option.some.inj h1; obtain ⟨r, _, rfl⟩ := den_m h2
    exact ⟨plain ht (fun n w => by simp [Op.equalIn, run_underlying ht, Result.andThen]), fun op x y w => by unfold eqGuard; split <;> rfl, rfl, rfl⟩
  · rename_i ht
    obtain rfl := Option.some.inj e
    rw [den] at h2
    obtain rfl := Option.some.inj h2; obtain ⟨r, _, rfl⟩ := den_m h1
    exact ⟨plain ht (fun n w => by simp [Op.equalIn, run_underlying ht, Result.andThen]), fun op x y w => by unfold eqGuard; split <;> rfl, rfl, rfl⟩
  · rename_i ht
    obtain rfl := Option.some.inj e
    rw [den] at h1 h2
    obtain rfl := Option.some.inj h1; obtain rfl := Option.some.inj h2
    exact ⟨plain ht (fun n w => by simp [Op.equalIn, run_underlying ht, Result.andThen]), fun op x y w => by unfold eqGuard; split <;> rfl, rfl, rfl⟩
  · rename_i ht
    obtain rfl := Option.some.inj e
    rw [den] at h1
    obtain rfl := Option.some.inj h1; obtain ⟨a, b, _, _, rfl⟩ := den_f h2
    exact ⟨plain ht (fun n w => by simp [Op.equalIn, run_underlying ht, Result.andThen]), fun op x y w => by unfold eqGuard; split <;> rfl, rfl, rfl⟩
  · rename_i ht
    obtain rfl := Option.some.inj e
    rw [den] at h2
    obtain rfl := Option.some.inj h2; obtain ⟨a, b, _, _, rfl⟩ := den_f h1
    exact ⟨plain ht (fun n w => by simp [Op.equalIn, run_underlying ht, Result.andThen]), fun op x y w => by unfold eqGuard; split <;> rfl, rfl, rfl⟩
  · obtain ⟨xs, h3, rfl⟩ := den_a h1
    obtain ⟨ys, h4, rfl⟩ := den_a h2
    obtain ⟨h5, h6⟩ := eqA_ok e h3 h4
    exact ⟨h6, fun op x y w => run_eqGuard_agg w op t x y _ _ h5, rfl, rfl⟩
  · cases e
theorem bopE_ok {op : BinOp} {t : TypeId} {x y : Operand} {u v r : V} (e : bopE op t y u v = .ok r) (h1 : den σ u = some (ρ x)) (h2 : den σ v = some (ρ y)) (hy : ∀ c, y = .const c → ρ y = c) :
    ∃ z, (∀ w, ((do eqGuard op t x y (ρ x) (ρ y); binOp op t (ρ x) (ρ y)) : Sem Value).run PG w = .ok z w) ∧ den σ r = some z := by
  unfold bopE at e
  split at e
  · have ha : ρ x = .nilIface := by rw [den] at h1; exact (Option.some.inj h1).symm
    have hb : ρ y = .nilIface := by rw [den] at h2; exact (Option.some.inj h2).symm
    have key : ∀ {b : Bool}, (isConst0 y && isIf t) = b → b = true → y = .const .nilIface ∧ ∃ ms, PG.underlying t = some (.interface ms) := by
      intro b hb ht
      subst ht
      simp only [Bool.and_eq_true] at hb
      constructor
      · have := hb.1
        unfold isConst0 at this
        split at this
        · rfl
        · cases this
      · have := hb.2
        unfold isIf at this
        split at this
        · rename_i ms hm; exact ⟨ms, hm⟩
        · cases this
    split at e
    · rename_i hc
      obtain ⟨rfl, ms, hm⟩ := key hc rfl
      obtain rfl := R.ok.inj e
      have h3 : ∀ (n : Nat) w, (Op.equalIn (n + 1) t .nilIface .nilIface).run PG w = .ok true w := fun n w => by simp [Op.equalIn, run_underlying hm, Result.andThen]
      refine ⟨.bool true, fun w => ?_, by rw [den]⟩
      rw [ha, hb]
      have h4 : (eqGuard .eql t x (.const .nilIface) .nilIface .nilIface).run PG w = .ok () w := by simp [eqGuard]
      have h5 : (Op.equal t .nilIface .nilIface).run PG w = .ok true w := h3 9999 w
      simp only [Sem.run_bind, h4, Result.andThen, binOp, h5, Sem.run_pure]
    · rename_i hc
      obtain ⟨rfl, ms, hm⟩ := key hc rfl
      obtain rfl := R.ok.inj e
      have h3 : ∀ (n : Nat) w, (Op.equalIn (n + 1) t .nilIface .nilIface).run PG w = .ok true w := fun n w => by simp [Op.equalIn, run_underlying hm, Result.andThen]
      refine ⟨.bool false, fun w => ?_, by rw [den]⟩
      rw [ha, hb]
      have h4 : (eqGuard .neq t x (.const .nilIface) .nilIface .nilIface).run PG w = .ok () w := by simp [eqGuard]
      have h5 : (Op.equal t .nilIface .nilIface).run PG w = .ok true w := h3 9999 w
      simp only [Sem.run_bind, h4, Result.andThen, binOp, h5, Sem.run_pure, Bool.not_true]
    · cases e
  · split at e
    · split at e
      · rename_i c hc
        obtain rfl := R.ok.inj e
        obtain ⟨h3, h4, h5, h6⟩ := equal_ok hc h1 h2
        refine ⟨.bool c, fun w => ?_, by rw [den]⟩
        have h7 : (binOp .eql t (ρ x) (ρ y)).run PG w = .ok (.bool c) w := by
          rw [h5]
          simp [h3, Result.andThen]
        simp [h4, h7, Result.andThen]
      · cases e
    · split at e
      · rename_i c hc
        obtain rfl := R.ok.inj e
        obtain ⟨h3, h4, h5, h6⟩ := equal_ok hc h1 h2
        refine ⟨.bool (!c), fun w => ?_, by rw [den]⟩
        have h7 : (binOp .neq t (ρ x) (ρ y)).run PG w = .ok (.bool (!c)) w := by
          rw [h6]
          simp [h3, Result.andThen]
        simp [h4, h7, Result.andThen]
      · cases e
    · cases e
end
end Go.Proofs.YtbcdgcodnkgdoaaGreat.Run
