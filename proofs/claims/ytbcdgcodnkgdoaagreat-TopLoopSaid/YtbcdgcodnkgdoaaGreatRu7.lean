/- The runner for closed calls: maps, slices of slices; all plain operations together. Conditions: none. -/
import Derived.Test.YtbcdgcodnkgdoaaGreatRu6
set_option linter.unusedVariables false
set_option linter.unusedSimpArgs false
namespace Go.Proofs.YtbcdgcodnkgdoaaGreat.Run
open Go Go.RowKit

/-! ### keys -/
theorem eqK_ok {σ : Sg} {kt : TypeId} {d : TypeDesc} {u v : V} {a b : Value} {c : Bool} (hd : PG.underlying kt = some d) (e : eqK kt d u v = some c) (h1 : den σ u = some a) (h2 : den σ v = some b) :
    (Instr.sameNow d a b = some c ∨ Instr.sameNow d a b = none) ∧ (∀ w, (Op.equal kt a b).run PG w = .ok c w) ∧ (c = true → a = b ∧ Instr.sameBits 10000 a a = true) := by
  unfold eqK at e
  split at e
  · rename_i k a' k' b'
    obtain rfl := den_i h1; obtain rfl := den_i h2
    split at e
    · rename_i kk hk
      obtain rfl := of_decide_eq_true hk
      obtain rfl := Option.some.inj e
      refine ⟨.inl ?_, fun w => ?_, fun h => ?_⟩
      · simp [Instr.sameNow, beqI]
      · have := run_equalIn_int (P := PG) w 9999 kt k kk a' b' hd
        rw [beqI] at this
        exact this
      · obtain rfl := of_decide_eq_true h; exact ⟨rfl, by simp [Instr.sameBits]⟩
    · cases e
  · split at e
    · obtain ⟨xs, h3, rfl⟩ := den_a h1
      obtain ⟨ys, h4, rfl⟩ := den_a h2
      obtain ⟨h5, h6⟩ := eqA_ok e h3 h4
      refine ⟨.inr rfl, h6, fun h => ?_⟩
      subst h
      unfold eqA at e
      split at e
      · split at e
        · have key : ∀ (x y : List V) (xs ys : List Value), eqInts x y = some true → denL σ x = some xs → denL σ y = some ys → xs = ys ∧ ∀ u ∈ xs, ∃ k n, u = .int k n := by
            intro x
            induction x with
            | nil =>
              intro y xs ys he hx hy
              cases y with
              | nil => simp at hx hy; subst hx; subst hy; exact ⟨rfl, by simp⟩
              | cons v r => cases he
            | cons u r ih =>
              intro y xs ys he hx hy
              cases y with
              | nil => simp [eqInts] at he
              | cons v q =>
                obtain ⟨k, a, b, c', rfl, rfl, h7, h8⟩ := eqInts_cons he
                obtain ⟨x1, r1, e1, hx1, rfl⟩ := denL_cons.1 hx
                obtain ⟨y1, s1, f1, hy1, rfl⟩ := denL_cons.1 hy
                obtain rfl := den_i e1; obtain rfl := den_i f1
                have h9 : decide (a = b) = true ∧ c' = true := by simpa using h8.symm
                obtain rfl := of_decide_eq_true h9.1
                obtain ⟨rfl, h10⟩ := ih q r1 s1 (h9.2 ▸ h7) hx1 hy1
                exact ⟨rfl, fun u hu => (List.mem_cons.1 hu).elim (fun h => ⟨k, a, h⟩) (h10 u)⟩
          obtain ⟨rfl, h7⟩ := key _ _ xs ys e h3 h4
          have h8 : ∀ l : List Value, (∀ u ∈ l, ∃ k n, u = .int k n) → ((l.zip l).all fun p => Instr.sameBits 9999 p.1 p.2) = true := by
            intro l
            induction l with
            | nil => intro _; rfl
            | cons u r ih =>
              intro hl
              obtain ⟨k, n, rfl⟩ := hl u (by simp)
              rw [List.zip_cons_cons, List.all_cons, ih (fun v hv => hl v (by simp [hv]))]
              simp [Instr.sameBits]
          refine ⟨rfl, ?_⟩
          show (_ == _ && _) = true
          simp only [beq_self_eq_true, Bool.true_and]
          exact h8 xs h7
        · cases e
      · cases e
    · cases e
  · cases e
theorem findK_ok {σ : Sg} {kt : TypeId} {d : TypeDesc} {k : V} {a : Value} (hd : PG.underlying kt = some d) (hk : den σ k = some a) : ∀ {es : List (V × V)} {ms : List MapEntry} {r : Option V}, findK kt d k es = some r → ents σ es ms → ∀ i,
    (Instr.findNow d a ms i = none ∨ (∃ x, Instr.findNow d a ms i = some x ∧ ((r = none ∧ x = none) ∨ ∃ v j y, r = some v ∧ den σ v = some y ∧ x = some (j, y)))) ∧
    (∀ w, ∃ x, (Instr.findAsking kt a ms i).run PG w = .ok x w ∧ ((r = none ∧ x = none) ∨ ∃ v j y, r = some v ∧ den σ v = some y ∧ x = some (j, y))) := by
  intro es
  induction es with
  | nil =>
    intro ms r e he i
    cases ms with
    | nil => obtain rfl := Option.some.inj e; exact ⟨.inr ⟨none, rfl, .inl ⟨rfl, rfl⟩⟩, fun w => ⟨none, by simp [Instr.findAsking], .inl ⟨rfl, rfl⟩⟩⟩
    | cons m q => exact he.elim
  | cons p es ih =>
    intro ms r e he i
    cases ms with
    | nil => exact he.elim
    | cons m q =>
      obtain ⟨h1, h2, h3⟩ := he
      unfold findK at e
      split at e
      · rename_i hq
        obtain rfl := Option.some.inj e
        obtain ⟨h4, h5, _⟩ := eqK_ok hd hq hk h1
        refine ⟨?_, fun w => ⟨some (i, m.val), by simp [Instr.findAsking, h5, Result.andThen], .inr ⟨_, i, m.val, rfl, h2, rfl⟩⟩⟩
        rcases h4 with h4 | h4
        · exact .inr ⟨some (i, m.val), by simp [Instr.findNow, h4], .inr ⟨_, i, m.val, rfl, h2, rfl⟩⟩
        · exact .inl (by simp [Instr.findNow, h4])
      · rename_i hq
        obtain ⟨h4, h5, _⟩ := eqK_ok hd hq hk h1
        obtain ⟨h6, h7⟩ := ih e h3 (i + 1)
        refine ⟨?_, fun w => ?_⟩
        · rcases h4 with h4 | h4
          · simpa [Instr.findNow, h4] using h6
          · exact .inl (by simp [Instr.findNow, h4])
        · obtain ⟨x, h8, h9⟩ := h7 w
          exact ⟨x, by simp [Instr.findAsking, h5, h8, Result.andThen], h9⟩
      · cases e
theorem findKey_ok {σ : Sg} {kt : TypeId} {d : TypeDesc} {k : V} {a : Value} {es : List (V × V)} {ms : List MapEntry} {r : Option V} (hd : PG.underlying kt = some d) (hk : den σ k = some a) (e : findK kt d k es = some r) (he : ents σ es ms) (w : World) :
    ∃ x, (Instr.findKey kt a ms).run PG w = .ok x w ∧ ((r = none ∧ x = none) ∨ ∃ v j y, r = some v ∧ den σ v = some y ∧ x = some (j, y)) := by
  obtain ⟨h1, h2⟩ := findK_ok hd hk e he 0
  rcases h1 with h1 | ⟨x, h1, h3⟩
  · obtain ⟨x, h4, h5⟩ := h2 w
    exact ⟨x, by simp [Instr.findKey, run_underlying hd, h1, h4, Result.andThen], h5⟩
  · exact ⟨x, by simp [Instr.findKey, run_underlying hd, h1, Result.andThen], h3⟩
theorem check_pair (w : World) (e : Bool) (k k2 : IntKind) (a b : Int) : (Instr.checkKey e 10000 111 (.agg #[.int k a, .int k2 b])).run PG w = .ok () w := by
  have hu : PG.underlying 111 = _ := Tryz.underlying111
  have h3 : PG.underlying 3 = some (.int .i64) := Tryz.underlying3
  have p1 : (part 3 #[.int k a, .int k2 b] 0).run PG w = .ok (.int k a) w := by simp [part, run_agg h3, isAggD, Result.andThen]
  have p2 : (part 3 #[.int k a, .int k2 b] 1).run PG w = .ok (.int k2 b) w := by simp [part, run_agg h3, isAggD, Result.andThen]
  have hc : ∀ (n : Nat) (k : IntKind) (a : Int), (Instr.checkKey e (n + 1) 3 (.int k a)).run PG w = .ok () w := fun n k a => by simp [Instr.checkKey, run_underlying h3, Result.andThen]
  have hc' := hc 9998
  show (Instr.checkKey e (9998 + 1 + 1) 111 _).run PG w = _
  rw [Instr.checkKey]
  simp [run_underlying hu, p1, p2, hc', Result.andThen]
theorem keyOk_ok {σ : Sg} {kt : TypeId} {d : TypeDesc} {k : V} {a : Value} (hd : PG.underlying kt = some d) (h : keyOk kt d k = true) (hk : den σ k = some a) (w : World) (em : Bool) : (Instr.checkKey em 10000 kt a).run PG w = .ok () w := by
  unfold keyOk at h
  split at h
  · rename_i e
    unfold eqK at e
    split at e
    · rename_i k1 a1 k2 b1
      obtain rfl := den_i hk
      split at e
      · rename_i kk hkk
        show (Instr.checkKey em (9999 + 1) kt _).run PG w = _
        rw [Instr.checkKey]
        simp [run_underlying hd, Result.andThen]
      · cases e
    · split at e
      · rename_i x y fs
        obtain ⟨xs, h3, rfl⟩ := den_a hk
        unfold eqA at e
        split at e
        · rename_i sz het hsz
          split at e
          · rename_i hl
            simp only [Bool.and_eq_true, Nat.beq_eq] at hl
            have ht : kt = 111 ∨ kt = 95 := by
              unfold et at het
              simpa using het
            rcases ht with rfl | rfl
            · have : sz = 2 := by rw [show szt 111 = some 2 from by kernel_rfl] at hsz; exact (Option.some.inj hsz).symm
              subst this
              match x, hl, e with
              | [u1, u2], _, e =>
                obtain ⟨k, a, b, c1, rfl, _, h1, _⟩ := eqInts_cons e
                obtain ⟨k2, a2, b2, c2, rfl, _, h2, _⟩ := eqInts_cons h1
                obtain ⟨x1, r1, e1, hx1, rfl⟩ := denL_cons.1 h3
                obtain ⟨x2, r2, e2, hx2, rfl⟩ := denL_cons.1 hx1
                simp only [denL_nil, Option.some.injEq] at hx2
                subst hx2
                obtain rfl := den_i e1; obtain rfl := den_i e2
                exact check_pair w em _ _ _ _
            · rw [show PG.underlying 95 = some (.array 4 5) from Tryz.underlying95] at hd
              cases hd
          · cases e
        · cases e
      · cases e
    · cases e
  · cases h
theorem mapEs_ok {w0 w : World} {σ : Sg} {h : Hp} {u : V} {x : Value} {es : List (V × V)} (H : DenG w0 σ h.get w) (e : mapEs h u = some es) (hu : den σ u = some x) :
    ∃ ms, ents σ es ms ∧ ((x = .map none ∧ ms = []) ∨ ∃ r c, x = .map (some r) ∧ w.heap[r]? = some (.map ms.toArray c)) := by
  unfold mapEs at e
  split at e
  · obtain rfl := Option.some.inj e
    rw [den] at hu
    exact ⟨[], trivial, .inl ⟨(Option.some.inj hu).symm, rfl⟩⟩
  · rename_i m
    split at e
    · rename_i es' hg
      obtain rfl := Option.some.inj e
      obtain ⟨q, o, h1, h2, ms, c, h3, rfl⟩ := H.obj _ _ hg
      obtain ⟨q', h4, rfl⟩ := den_m hu
      rw [h1] at h4
      obtain rfl := Option.some.inj h4
      exact ⟨ms, h3, .inr ⟨q.1, c, rfl, h2⟩⟩
    · cases e
  · cases e

section
variable {w0 w : World} {σ : Sg} {h : Hp} {N : Nat} {fr : T V} {ρ : Operand → Value} {q : A} {dst : Option Nat} {ty : TypeId} {pos : String} {af : Array Edge} {g : Option (Nat × Bool)}
theorem zvt_run {t : TypeId} {z : V} (hz : zvt t = some z) : ∃ zv, den σ z = some zv ∧ ∀ w, (zeroValue t).run PG w = .ok zv w := by
  unfold zvt at hz
  cases hi : PG.info? t with
  | none => rw [hi] at hz; cases hz
  | some i =>
    rw [hi] at hz
    simp only at hz
    cases hzv : i.zero with
    | none => rw [hzv] at hz; cases hz
    | some zv => rw [hzv] at hz; exact ⟨zv, ofV_den hz, fun w => by simp [zeroValue, typeInfo, hi, hzv]⟩
theorem pLook {t : TypeId} {x k : Operand} {ok : Bool} (e : oLook h t (xe N fr x) (xe N fr k) ok = .ok q) (he : EvO σ N fr ρ #[x, k]) (H : DenG w0 σ h.get w) : Says σ w ρ ⟨dst, .lookup t x k ok, ty, pos, af, g⟩ q.v := by
  unfold oLook at e
  split at e
  · rename_i m kv hm hk
    obtain ⟨v, h1, rfl⟩ := with_ok e
    unfold lookupV at h1
    split at h1
    · rename_i kt el ht
      split at h1
      · rename_i d z es hd hz hes
        obtain ⟨h2, h3⟩ := when_ok h1
        have dm := he x (by simp) m hm
        have dk := he k (by simp) kv hk
        obtain ⟨ms, h4, h5⟩ := mapEs_ok H hes dm
        have h6 := keyOk_ok hd h2 dk w
        obtain ⟨zv, hzd, hrz⟩ := zvt_run (σ := σ) hz
        have hrz := hrz w
        cases hf : findK kt d kv es with
        | none => rw [hf] at h3; cases h3
        | some r =>
          rw [hf] at h3
          obtain ⟨y, h7, h8⟩ := findKey_ok hd dk hf h4 w
          rcases h8 with ⟨rfl, rfl⟩ | ⟨v', j, y', rfl, hv', rfl⟩
          · obtain rfl := R.ok.inj h3
            refine ⟨if ok then .tuple #[zv, .bool false] else zv, ?_, ?_⟩
            · rcases h5 with ⟨h5, rfl⟩ | ⟨r', c, h5, h9⟩
              · cases ok <;> simp [execOp, Instr.lookup, run_underlying ht, h5, h6, h7, hrz, Result.andThen]
              · cases ok <;> simp [execOp, Instr.lookup, run_underlying ht, h5, Go.MapKept.run_getObj_map h9, h6, h7, hrz, Result.andThen]
            · cases ok
              · exact hzd
              · simp [den, denL_eq, hzd]
          · obtain rfl := R.ok.inj h3
            refine ⟨if ok then .tuple #[y', .bool true] else y', ?_, ?_⟩
            · rcases h5 with ⟨h5, rfl⟩ | ⟨r', c, h5, h9⟩
              · cases ok <;> simp [execOp, Instr.lookup, run_underlying ht, h5, h6, h7, Result.andThen]
              · cases ok <;> simp [execOp, Instr.lookup, run_underlying ht, h5, Go.MapKept.run_getObj_map h9, h6, h7, Result.andThen]
            · cases ok
              · exact hv'
              · simp [den, denL_eq, hv']
      · cases h1
    · cases h1
  · cases e
end
end Go.Proofs.YtbcdgcodnkgdoaaGreat.Run
