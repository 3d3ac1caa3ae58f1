/- The runner for closed calls: plain operations and those that read: each answers as the model. Conditions: none. -/
import Derived.Test.YtbcdgcodnkgdoaaGreatRu3
set_option linter.unusedVariables false
set_option linter.unusedSimpArgs false
namespace Go.Proofs.YtbcdgcodnkgdoaaGreat.Run
open Go Go.RowKit

/-- What a frame's table says of the operands that are looked at. -/
def EvO (σ : Sg) (N : Nat) (fr : T V) (ρ : Operand → Value) (l : Array Operand) : Prop := ∀ x ∈ l, ∀ v, xe N fr x = some v → den σ v = some (ρ x)
theorem EvO.mono {σ τ : Sg} {N : Nat} {fr : T V} {ρ : Operand → Value} {l : Array Operand} (h : EvO σ N fr ρ l) (le : σ.le τ) : EvO τ N fr ρ l := fun x hx v hv => den_mono le _ _ (h x hx v hv)
theorem xes_cons {N : Nat} {fr : T V} {x : Operand} {r : List Operand} {c : List V} (h : xes N fr (x :: r) = some c) : ∃ v vs, xe N fr x = some v ∧ xes N fr r = some vs ∧ c = v :: vs := by
  have e : xes N fr (x :: r) = Option.rec (motive := fun _ => Option (List V)) none (fun v => Option.rec (motive := fun _ => Option (List V)) none (fun vs => some (v :: vs)) (xes N fr r)) (xe N fr x) := rfl
  rw [e] at h
  cases hx : xe N fr x with
  | none => rw [hx] at h; cases h
  | some v =>
    rw [hx] at h
    cases hr : xes N fr r with
    | none => rw [hr] at h; cases h
    | some vs => rw [hr] at h; exact ⟨v, vs, rfl, rfl, (Option.some.inj h).symm⟩
theorem EvO.list {σ : Sg} {N : Nat} {fr : T V} {ρ : Operand → Value} : ∀ {l : List Operand} {c : List V}, (∀ x ∈ l, ∀ v, xe N fr x = some v → den σ v = some (ρ x)) → xes N fr l = some c → denL σ c = some (l.map ρ) := by
  intro l
  induction l with
  | nil => intro c _ h; obtain rfl := Option.some.inj (show some [] = some c from h); simp
  | cons x r ih =>
    intro c he h
    obtain ⟨v, vs, h1, h2, rfl⟩ := xes_cons h
    exact denL_cons.2 ⟨ρ x, r.map ρ, he x (by simp) v h1, ih (fun y hy => he y (by simp [hy])) h2, rfl⟩
theorem den_inj {σ : Sg} {v : V} {x y : Value} (h : den σ v = some x) (k : den σ v = some y) : x = y := Option.some.inj (h.symm.trans k)
theorem den_b {σ : Sg} {b : Bool} {x : Value} (h : den σ (.b b) = some x) : x = .bool b := by rw [den] at h; exact (Option.some.inj h).symm
theorem den_i {σ : Sg} {k : IntKind} {n : Int} {x : Value} (h : den σ (.i k n) = some x) : x = .int k n := by rw [den] at h; exact (Option.some.inj h).symm
theorem den_s {σ : Sg} {s : ByteArray} {x : Value} (h : den σ (.s s) = some x) : x = .string s := by rw [den] at h; exact (Option.some.inj h).symm
theorem den_p {σ : Sg} {m o : Nat} {x : Value} (h : den σ (.p m o) = some x) : ∃ q, σ m = some q ∧ x = .pointer (some ⟨q.1, o, none⟩) := by
  rw [den] at h
  cases hm : σ m with
  | none => rw [hm] at h; cases h
  | some q => rw [hm] at h; exact ⟨q, rfl, (Option.some.inj h).symm⟩
theorem den_l {σ : Sg} {m off o n : Nat} {x : Value} (h : den σ (.l m off o n) = some x) : ∃ q, σ m = some q ∧ x = .slice (some ⟨q.1, off, none⟩) n (q.2 - o) := by
  rw [den] at h
  cases hm : σ m with
  | none => rw [hm] at h; cases h
  | some q => rw [hm] at h; exact ⟨q, rfl, (Option.some.inj h).symm⟩
theorem den_l0 {σ : Sg} {x : Value} (h : den σ .l0 = some x) : x = .slice none 0 0 := by rw [den] at h; exact (Option.some.inj h).symm
theorem den_m {σ : Sg} {m : Nat} {x : Value} (h : den σ (.m m) = some x) : ∃ q, σ m = some q ∧ x = .map (some q.1) := by
  rw [den] at h
  cases hm : σ m with
  | none => rw [hm] at h; cases h
  | some q => rw [hm] at h; exact ⟨q, rfl, (Option.some.inj h).symm⟩
theorem den_f {σ : Sg} {g : FuncId} {p c : List V} {x : Value} (h : den σ (.f g p c) = some x) : ∃ a b, denL σ p = some a ∧ denL σ c = some b ∧ x = .func (.func g) a.toArray b.toArray := by
  rw [den] at h
  cases h1 : denL σ p with
  | none => rw [h1] at h; cases h
  | some a =>
    rw [h1] at h
    cases h2 : denL σ c with
    | none => rw [h2] at h; cases h
    | some b => rw [h2] at h; exact ⟨a, b, rfl, rfl, (Option.some.inj h).symm⟩
theorem den_a {σ : Sg} {l : List V} {x : Value} (h : den σ (.a l) = some x) : ∃ a, denL σ l = some a ∧ x = .agg a.toArray := by
  rw [den] at h
  cases h1 : denL σ l with
  | none => rw [h1] at h; cases h
  | some a => rw [h1] at h; exact ⟨a, rfl, (Option.some.inj h).symm⟩
theorem den_t {σ : Sg} {l : List V} {x : Value} (h : den σ (.t l) = some x) : ∃ a, denL σ l = some a ∧ x = .tuple a.toArray := by
  rw [den] at h
  cases h1 : denL σ l with
  | none => rw [h1] at h; cases h
  | some a => rw [h1] at h; exact ⟨a, rfl, (Option.some.inj h).symm⟩

section
variable {w0 w : World} {σ : Sg} {h : Hp} {N : Nat} {fr : T V} {ρ : Operand → Value} {q : A} {dst : Option Nat} {ty : TypeId} {pos : String} {af : Array Edge} {g : Option (Nat × Bool)}
/-- An operation that hands back a value and leaves the world alone. -/
def Says (σ : Sg) (w : World) (ρ : Operand → Value) (o : Oper) (v : V) : Prop := ∃ x, (execOp ρ o).run PG w = .ok (.value x) w ∧ den σ v = some x
theorem pMove {x : Operand} (e : o1 h 80 (xe N fr x) = .ok q) (he : EvO σ N fr ρ #[x]) : Says σ w ρ ⟨dst, .move x, ty, pos, af, g⟩ q.v := by
  obtain ⟨v, h1, rfl⟩ := o1_ok e
  exact ⟨ρ x, by simp [execOp], he x (by simp) v h1⟩
theorem pAssign {x : Operand} (e : o1 h 81 (xe N fr x) = .ok q) (he : EvO σ N fr ρ #[x]) : Says σ w ρ ⟨dst, .assign x, ty, pos, af, g⟩ q.v := by
  obtain ⟨v, h1, rfl⟩ := o1_ok e
  exact ⟨ρ x, by simp [execOp], he x (by simp) v h1⟩
theorem pPick {c x y : Operand} (e : oPick N fr h c x y = .ok q) (he : EvO σ N fr ρ #[c, x, y]) : Says σ w ρ ⟨dst, .pick c x y, ty, pos, af, g⟩ q.v := by
  unfold oPick at e
  split at e
  · rename_i hc
    obtain ⟨v, h1, rfl⟩ := o1_ok e
    have := den_b (he c (by simp) _ hc)
    exact ⟨ρ x, by simp [execOp, this, asBool, Result.andThen], he x (by simp) v h1⟩
  · rename_i hc
    obtain ⟨v, h1, rfl⟩ := o1_ok e
    have := den_b (he c (by simp) _ hc)
    exact ⟨ρ y, by simp [execOp, this, asBool, Result.andThen], he y (by simp) v h1⟩
  · cases e
theorem pLoad {t : TypeId} {x : Operand} (e : oLoad h t (xe N fr x) = .ok q) (he : EvO σ N fr ρ #[x]) (H : DenG w0 σ h.get w) : Says σ w ρ ⟨dst, .load t x, ty, pos, af, g⟩ q.v := by
  cases hx : xe N fr x with
  | none => rw [hx] at e; cases e
  | some u =>
    rw [hx] at e
    obtain ⟨v, h1, rfl⟩ := with_ok e
    obtain ⟨A, y, h2, h3, h4⟩ := rd_ok H h1 (he x (by simp) u hx)
    exact ⟨y, by simp [execOp, Instr.loadAt, Instr.sureAddr, h2, h4, Result.andThen], h3⟩
theorem pNil {x : Operand} (e : oNil h (xe N fr x) = .ok q) (he : EvO σ N fr ρ #[x]) : Says σ w ρ ⟨dst, .nilCheck x, ty, pos, af, g⟩ q.v := by
  unfold oNil at e
  split at e
  · rename_i m o hx
    obtain rfl := R.ok.inj e
    have hd := he x (by simp) _ hx
    obtain ⟨r, h1, h2⟩ := den_p hd
    exact ⟨ρ x, by simp [execOp, h2], hd⟩
  · rename_i f p c hx
    obtain rfl := R.ok.inj e
    have hd := he x (by simp) _ hx
    obtain ⟨a, b, h1, h2, h3⟩ := den_f hd
    exact ⟨ρ x, by simp [execOp, h3], hd⟩
  · cases e
theorem fieldOff_ok {s : TypeId} {i off : Nat} (h : fieldOff s i = some off) : ∃ fs f n, PG.underlying s = some (.struct fs) ∧ fs[i]? = some f ∧ f.offset = off ∧ szt f.type = some (n + 1) := by
  unfold fieldOff at h
  split at h
  · rename_i fs hs
    split at h
    · rename_i off' n hp
      obtain rfl := Option.some.inj h
      unfold placeS at hp
      split at hp
      · rename_i f hf
        split at hp
        · rename_i sz hsz
          simp only [Option.some.injEq, Prod.mk.injEq] at hp
          exact ⟨fs, f, n, hs, hf, hp.1, by rw [hsz, hp.2]⟩
        · cases hp
      · cases hp
    · cases h
  · cases h
theorem pFieldA {s : TypeId} {x : Operand} {i : Nat} (e : oFieldA h (fieldOff s i) (xe N fr x) = .ok q) (he : EvO σ N fr ρ #[x]) : Says σ w ρ ⟨dst, .fieldAddr s x i, ty, pos, af, g⟩ q.v := by
  unfold oFieldA at e
  split at e
  · rename_i off m o hq hx
    obtain rfl := R.ok.inj e
    obtain ⟨fs, f, n, h1, h2, h3, h4⟩ := fieldOff_ok hq
    obtain ⟨r, h5, h6⟩ := den_p (he x (by simp) _ hx)
    refine ⟨.pointer (some ⟨r.1, o + off, none⟩), ?_, by simp [den, h5]⟩
    simp [execOp, h6, Instr.fieldAt, run_underlying h1, h2, Instr.sureAddr, fieldPlace, run_sz h4, Result.andThen, add_at, h3]
  · cases e
theorem pField {s : TypeId} {x : Operand} {i : Nat} (e : oField h s i (xe N fr x) = .ok q) (he : EvO σ N fr ρ #[x]) : Says σ w ρ ⟨dst, .field s x i, ty, pos, af, g⟩ q.v := by
  unfold oField at e
  split at e
  · rename_i fs c hs hx
    split at e
    · rename_i f hf
      obtain ⟨v, h1, rfl⟩ := with_ok e
      obtain ⟨a, h2, h3⟩ := den_a (he x (by simp) _ hx)
      obtain ⟨y, h4, h5⟩ := part_ok h1 h2
      exact ⟨y, by simp [execOp, h3, Instr.field, run_underlying hs, hf, asAgg, h5, Result.andThen], h4⟩
    · cases e
  · cases e
theorem pIdxA2 {e' : TypeId} {m off n : Nat} {a : Int} (e : oIdxA2 h e' m off n a = .ok q) : ∃ sz, szt e' = some sz ∧ 0 ≤ a ∧ a < n ∧ q = ⟨.p m (off + a.toNat * sz), h⟩ := by
  unfold oIdxA2 at e
  split at e
  · rename_i sz hs
    obtain ⟨h1, h2⟩ := when_ok e
    simp only [Bool.and_eq_true, decide_eq_true_eq] at h1
    have := blt_lt h1.2
    exact ⟨sz, hs, h1.1, by omega, (R.ok.inj h2).symm⟩
  · cases e
theorem pIdxA {t : TypeId} {x y : Operand} (e : oIdxA h (PG.underlying t) (xe N fr x) (xe N fr y) = .ok q) (he : EvO σ N fr ρ #[x, y]) : Says σ w ρ ⟨dst, .indexAddr t x y, ty, pos, af, g⟩ q.v := by
  unfold oIdxA at e
  split at e
  · rename_i e' m off o n k a ht hx hy
    obtain ⟨sz, h1, h2, h3, rfl⟩ := pIdxA2 e
    obtain ⟨r, h4, h5⟩ := den_l (he x (by simp) _ hx)
    have h6 := den_i (he y (by simp) _ hy)
    exact ⟨.pointer (some ⟨r.1, off + a.toNat * sz, none⟩), by simp [execOp, h5, h6, Instr.indexAt, asIntOf, run_underlying ht, h2, h3, run_sz h1, add_at, Result.andThen], by simp [den, h4]⟩
  · rename_i n e' m o k a ht hx hy
    obtain ⟨sz, h1, h2, h3, rfl⟩ := pIdxA2 e
    obtain ⟨r, h4, h5⟩ := den_p (he x (by simp) _ hx)
    have h6 := den_i (he y (by simp) _ hy)
    exact ⟨.pointer (some ⟨r.1, o + a.toNat * sz, none⟩), by simp [execOp, h5, h6, Instr.indexAt, asIntOf, run_underlying ht, h2, h3, run_sz h1, add_at, Result.andThen, Instr.sureAddr], by simp [den, h4]⟩
  · cases e
theorem pIdx {t : TypeId} {x y : Operand} (e : oIdx h t (xe N fr x) (xe N fr y) = .ok q) (he : EvO σ N fr ρ #[x, y]) : Says σ w ρ ⟨dst, .index t x y, ty, pos, af, g⟩ q.v := by
  unfold oIdx at e
  split at e
  · rename_i s k a ht hx hy
    obtain ⟨h1, h2⟩ := when_ok e
    simp only [decide_eq_true_eq] at h1
    split at h2
    · rename_i c hc
      obtain rfl := R.ok.inj h2
      have h5 := den_s (he x (by simp) _ hx)
      have h6 := den_i (he y (by simp) _ hy)
      have hc' : s[a.toNat]? = some c := by
        obtain ⟨hlt, hg⟩ := List.getElem?_eq_some_iff.1 hc
        have hlt' : a.toNat < s.size := by rw [Array.length_toList] at hlt; exact hlt
        rw [getElem?_pos s a.toNat hlt', ← hg]
        rfl
      exact ⟨.int .u8 c.toNat, by simp [execOp, h5, h6, Instr.index, asIntOf, run_underlying ht, h1, hc', Result.andThen], by simp [den]⟩
    · cases h2
  · rename_i n e' c k a ht hx hy
    split at e
    · rename_i sz hs
      obtain ⟨h1, h2⟩ := when_ok e
      simp only [Bool.and_eq_true, decide_eq_true_eq] at h1
      have hlt := blt_lt h1.2
      obtain ⟨v, h3, rfl⟩ := with_ok h2
      obtain ⟨l, h4, h5⟩ := den_a (he x (by simp) _ hx)
      have h6 := den_i (he y (by simp) _ hy)
      obtain ⟨u, h7, h8⟩ := part_ok h3 h4
      exact ⟨u, by simp [execOp, h5, h6, Instr.index, asIntOf, run_underlying ht, h1.1, show a < n by omega, run_sz hs, h8, Result.andThen], h7⟩
    · cases e
  · cases e
theorem pExt {x : Operand} {i : Nat} (e : oExt h i (xe N fr x) = .ok q) (he : EvO σ N fr ρ #[x]) : Says σ w ρ ⟨dst, .extract x i, ty, pos, af, g⟩ q.v := by
  unfold oExt at e
  split at e
  · rename_i l hx
    obtain ⟨v, h1, rfl⟩ := o1_ok e
    obtain ⟨a, h2, h3⟩ := den_t (he x (by simp) _ hx)
    obtain ⟨y, h4, h5⟩ := denL_at h2 h1
    exact ⟨y, by simp [execOp, h3, Instr.extract, h4, Result.andThen], h5⟩
  · cases e
theorem pFunc {f : Fn} {p c : Array Operand} (e : oFunc h f (xes N fr p.toList) (xes N fr c.toList) = .ok q) (he : EvO σ N fr ρ (p ++ c)) : Says σ w ρ ⟨dst, .makeFunc f p c, ty, pos, af, g⟩ q.v := by
  unfold oFunc at e
  split at e
  · rename_i k a b hp hc
    obtain rfl := R.ok.inj e
    have h1 := EvO.list (fun x hx => he x (by simp at hx ⊢; exact .inl hx)) hp
    have h2 := EvO.list (fun x hx => he x (by simp at hx ⊢; exact .inr hx)) hc
    refine ⟨.func (.func k) (p.map ρ) (c.map ρ), by simp [execOp, Instr.makeFunc, Result.andThen], ?_⟩
    simp only [den, h1, h2]
    congr 2
    · rw [← Array.toList_inj]; simp
    · rw [← Array.toList_inj]; simp
  · cases e
theorem pUn {op : UnOp} {t : TypeId} {x : Operand} (e : oUn h op (xe N fr x) = .ok q) (he : EvO σ N fr ρ #[x]) : Says σ w ρ ⟨dst, .unOp op t x, ty, pos, af, g⟩ q.v := by
  unfold oUn at e
  split at e
  · rename_i c hx
    obtain rfl := R.ok.inj e
    have h1 := den_b (he x (by simp) _ hx)
    exact ⟨.bool (!c), by simp [execOp, h1, Op.unary, Result.andThen], by simp [den]⟩
  · rename_i k a hx
    obtain rfl := R.ok.inj e
    have h1 := den_i (he x (by simp) _ hx)
    exact ⟨.int k (k.wrap (0 - a)), by simp only [execOp, h1, Op.unary, Op.intArith]; rfl, by simp [den]⟩
  · rename_i k a hx
    obtain ⟨v, h2, rfl⟩ := with_ok e
    have h1 := den_i (he x (by simp) _ hx)
    obtain rfl := R.ok.inj h2
    exact ⟨_, by simp only [execOp, h1, Op.unary, Op.intBits]; rfl, by simp [den]⟩
  · cases e
theorem pConv {src dst' : TypeId} {x : Operand} (hk : kindCv (PG.underlying src) = 0) (e : oConv h src dst' (xe N fr x) = .ok q) (he : EvO σ N fr ρ #[x]) : Says σ w ρ ⟨dst, .convert src dst' x, ty, pos, af, g⟩ q.v := by
  unfold oConv at e
  split at e
  · rename_i d k k' a h1 h2 hx
    obtain rfl := R.ok.inj e
    have h3 := den_i (he x (by simp) _ hx)
    exact ⟨.int k (k.wrap a), by simp [execOp, h3, convert, run_underlying h1, run_underlying h2, Conv.intToInt, Result.andThen], by simp [den]⟩
  · rename_i h1 h2 hx
    rw [h1] at hk
    simp [kindCv] at hk
  · cases e
end
end Go.Proofs.YtbcdgcodnkgdoaaGreat.Run
