/- The runner for closed calls: operations that turn memory. Conditions: none. -/
import Derived.Test.YtbcdgcodnkgdoaaGreatRu9
set_option linter.unusedVariables false
set_option linter.unusedSimpArgs false
set_option maxRecDepth 10000
namespace Go.Proofs.YtbcdgcodnkgdoaaGreat.Run
open Go Go.RowKit

/-- A block goes over to another name. -/
theorem DenG.move {w0 w w' : World} {σ : Sg} {g g' : Nat → Option B} {m n : Nat} {b b' : B} {r : Nat × Nat} {o : Obj} (H : DenG w0 σ g w) (hm : g m = some b) (hr : σ m = some r) (hn : σ n = none) (ht : Turns w w' r.1 o) (ho : Run.obj (σ.add n r) b' r o)
    (hg : ∀ j c, g' j = some c → (j = n ∧ c = b') ∨ (j ≠ n ∧ j ≠ m ∧ g j = some c)) : DenG w0 (σ.add n r) g' w' := by
  have hlow := H.low m r hr
  have le := Sg.le_add (q := r) hn
  refine ⟨⟨ht.os.trans H.kp.os, ht.tape.trans H.kp.tape, ht.output.trans H.kp.output, by rw [ht.size]; exact H.kp.size, fun i hi hnn => by rw [ht.block i (by omega)]; exact H.kp.block i hi hnn⟩, fun j q hq => ?_, fun j c hj => ?_, fun i j a c p q hi hj hp hq e => ?_⟩
  · rw [ht.size]
    unfold Sg.add at hq
    split at hq
    · obtain rfl := Option.some.inj hq; exact hlow
    · exact H.low j q hq
  · rcases hg j c hj with ⟨rfl, rfl⟩ | ⟨hne, hnm, hj⟩
    · exact ⟨r, o, Sg.add_self _ _ _, ht.at_, ho⟩
    · obtain ⟨q, o', h1, h2, h3⟩ := H.obj j c hj
      refine ⟨q, o', le _ _ h1, ?_, h3.mono le⟩
      rw [ht.block q.1 (fun e => hnm (H.inj j m c b q r hj hm h1 hr e))]
      exact h2
  · have key : ∀ i a q, g' i = some a → (σ.add n r) i = some q → (i = n ∧ q = r) ∨ (i ≠ n ∧ i ≠ m ∧ g i = some a ∧ σ i = some q) := fun i a q hi hq => by
      rcases hg i a hi with ⟨rfl, rfl⟩ | ⟨hne, hnm, hi⟩
      · rw [Sg.add_self] at hq
        exact .inl ⟨rfl, (Option.some.inj hq).symm⟩
      · unfold Sg.add at hq
        rw [if_neg hne] at hq
        exact .inr ⟨hne, hnm, hi, hq⟩
    rcases key i a p hi hp with ⟨h1, h2⟩ | ⟨h1, h2, h3, h4⟩ <;> rcases key j c q hj hq with ⟨k1, k2⟩ | ⟨k1, k2, k3, k4⟩
    · rw [h1, k1]
    · subst h2; exact absurd (H.inj j m c b q _ k3 hm k4 hr e.symm) k2
    · subst k2; exact absurd (H.inj i m a b p _ h3 hm h4 hr e) h2
    · exact H.inj i j a c p q h3 k3 h4 k4 e
/-- What an operation that turns memory does. -/
inductive Yl (r : Result Next) (x : Value) (w' : World) : Prop where
  | val (h : r = .ok (.value x) w')
  | skip (h : r = .ok .skip w') (hx : x = undef)
def Touches (w0 : World) (N : Nat) (fr : T V) (h : Hp) (op : Op) (q : A) : Prop := ∀ {σ : Sg} {ρ : Operand → Value} {w : World} {dst : Option Nat} {ty : TypeId} {pos : String} {af : Array Edge} {g : Option (Nat × Bool)}, EvO σ N fr ρ op.operands → Den w0 σ h w →
  ∃ σ' x w', σ.le σ' ∧ Yl ((execOp ρ ⟨dst, op, ty, pos, af, g⟩).run PG w) x w' ∧ den σ' q.v = some x ∧ Den w0 σ' q.h w'
theorem den_undef {σ : Sg} : den σ (.t []) = some undef := by simp [den, undef]
section
variable {w0 : World} {h : Hp} {N : Nat} {fr : T V} {q : A}
theorem tStore {t : TypeId} {x y : Operand} (e : oStore h t (xe N fr x) (xe N fr y) = .ok q) : Touches w0 N fr h (.store t x y) q := by
  unfold oStore at e
  split at e
  · rename_i a v hx hy
    obtain ⟨h', e1, e2⟩ := bind_ok e
    obtain rfl := R.ok.inj e2
    unfold wr at e1
    split at e1
    · rename_i m o
      split at e1
      · rename_i c sz hr hs
        unfold wr2 at e1
        obtain ⟨h1, h2⟩ := when_ok e1
        simp only [Bool.and_eq_true, Nat.beq_eq, Nat.ble_eq] at h1
        obtain ⟨⟨rfl, h3⟩, h4⟩ := h1
        obtain rfl := R.ok.inj h2
        intro σ ρ w dst ty pos af g he H
        obtain ⟨r, h5, h6⟩ := den_p (he x (by simp [Op.operands]) _ hx)
        have h7 := flat_den' (he y (by simp [Op.operands]) v hy)
        have h8 := denL_len h7
        have h9 := H.stores (o := o) hr h5 (vs' := (ρ y).cells.toList) (by omega) (ones_den h7 h4)
        refine ⟨σ, undef, w.setCells r.1 o (ρ y).cells.toList, Sg.le.refl σ, .skip ?_ rfl, den_undef, H.write hr h5 h7 h3⟩
        have hsz : (ρ y).cells.size = v.flat.length := by simpa using h8
        simp [execOp, Instr.storeAt, Instr.sureAddr, h6, storeVar, run_sz hs, hsz, h9, Result.andThen]
      · cases e1
    · cases e1
  · cases e
theorem cells_of {w : World} {σ : Sg} {el : TypeId} {y : V} {c : List V} {n : Nat} {b : Value} (H : DenG w0 σ h.get w) (e : sliceCells h el y = .ok (c, n)) (hb : den σ y = some b) :
    ∃ sz news A cp, b = .slice A n cp ∧ denL σ c = some news ∧ (n = 0 ∨ ∃ B O, A = some ⟨B, O, none⟩ ∧ szt el = some sz ∧ news.length = n * sz ∧ CellsAt w B O news) := by
  unfold sliceCells at e
  split at e
  · obtain ⟨rfl, rfl⟩ := Prod.mk.inj (R.ok.inj e)
    obtain rfl := den_l0 hb
    exact ⟨0, [], none, 0, rfl, by simp, .inl rfl⟩
  · rename_i m off o k
    split at e
    · rename_i sz c' hs hr
      obtain ⟨h1, h2⟩ := when_ok e
      simp only [Nat.ble_eq] at h1
      obtain ⟨rfl, rfl⟩ := Prod.mk.inj (R.ok.inj h2)
      obtain ⟨r, h3, rfl⟩ := den_l hb
      obtain ⟨q', c'', rest, t, fz, k1, k2, k3, k4⟩ := H.row hr
      rw [h3] at k1; obtain rfl := Option.some.inj k1
      have hl := denL_len k2
      refine ⟨sz, (c''.drop off).take (k * sz), _, _, rfl, denL_take _ (denL_drop _ k2), .inr ⟨r.1, off, rfl, hs, by simp; omega, fun i v hv => cells_row k3 off i v (by
        rw [List.getElem?_take] at hv
        split at hv
        · exact hv
        · cases hv)⟩⟩
    · cases e
  · cases e
theorem tAppend {t t2 : TypeId} {u v : V} {args : Array Operand} {ats : Array TypeId} {r : List TypeId} (e : appendV h t t2 u v = .ok q) (ha : xes N fr args.toList = some [u, v]) (ht : ats.toList = t :: t2 :: r) (hr : r = []) : Touches w0 N fr h (.call ⟨.builtin .append, args, ats⟩) q := by
  intro σ ρ w dst ty pos af g he H
  subst hr
  have hd := EvO.list (fun x hx => he x (by simp [Op.operands, Call.operands]; simpa using hx)) ha
  obtain ⟨a, l1, h1, hd2, h3⟩ := denL_cons.1 hd
  obtain ⟨b, l2, h2, hd3, rfl⟩ := denL_cons.1 hd2
  simp only [denL_nil, Option.some.injEq] at hd3
  subst hd3
  unfold appendV at e
  split at e
  · rename_i el hu ht2
    obtain rfl := Nat.eq_of_beq_eq_true ht2
    have e1 : args.map ρ = #[a, b] := by rw [← Array.toList_inj]; simpa using h3
    have e2 : ats = #[t, t] := by rw [← Array.toList_inj]; simpa using ht
    have run : ∀ x w', (Builtin.append_ #[t, t] ty #[a, b]).run PG w = .ok x w' → (execOp ρ ⟨dst, .call ⟨.builtin .append, args, ats⟩, ty, pos, af, g⟩).run PG w = .ok (.value x) w' := fun x w' hw => by
      simp [execOp, resolve, invoke, builtin, e1, e2, hw, Result.andThen]
    obtain ⟨⟨c, n⟩, e3, e4⟩ := bind_ok e
    obtain ⟨sz1, news, Aa, cp, rfl, hnews, hsrc⟩ := cells_of H.g e3 h2
    simp only at e4
    split at e4
    · rename_i sz by_ z hs hby hz
      obtain ⟨i, zv, k1, k2, k3⟩ := zcs_info hz
      obtain ⟨i', z', k1', k2', k4⟩ := szt_info hs
      rw [k1] at k1'; obtain rfl := Option.some.inj k1'
      have k5 : i.bytes = by_ := by unfold byt at hby; rw [k1] at hby; exact Option.some.inj hby
      have hzd := ofVs_den (σ := σ) k3
      have hzl : zv.cells.size = z.length := by have := denL_len hzd; simpa using this
      have hrs : ∀ w, (sizeOf el).run PG w = .ok sz w := run_sz hs
      cases n with
      | zero =>
        have h0 : (Builtin.firstCells sz 0 (.slice Aa 0 cp)).run PG w = .ok #[] w := by
          cases Aa with
          | none => rfl
          | some a => simp [Builtin.firstCells, loadCells, loadCellsFrom]
        have h00 : (Builtin.lenOf (.slice Aa 0 cp)).run PG w = .ok 0 w := rfl
        simp only at e4
        split at e4
        · obtain rfl := R.ok.inj e4
          obtain rfl := den_l0 h1
          refine ⟨σ, _, w, Sg.le.refl σ, .val (run (.slice none 0 0) w ?_), by simp [den], H⟩
          simp [Builtin.append_, run_underlying hu, hrs, h0, h00, Result.andThen]
        · rename_i m off o n'
          obtain ⟨h5, h6⟩ := when_ok e4
          obtain rfl := R.ok.inj h6
          obtain ⟨r, h7, rfl⟩ := den_l h1
          have hroom := room_ok H.g h5 hs h7
          refine ⟨σ, _, w, Sg.le.refl σ, .val (run (.slice (some ⟨r.1, off, none⟩) n' (r.2 - o)) w ?_), by simp [den, h7], H⟩
          have hle : n' ≤ r.2 - o := by omega
          simp [Builtin.append_, run_underlying hu, hrs, h0, h00, hle, storeCells, Result.andThen]
        · cases e4
      | succ n =>
        rcases hsrc with hsrc | ⟨Bs, Os, rfl, hs1, hnl, hcs⟩
        · omega
        rw [hs] at hs1; obtain rfl := Option.some.inj hs1
        have hcs' := cellsAdd hcs
        simp only at e4
        have zflat := zeroCells_flat (z := zv) (zc := zv.cells.toList) (by simp)
        split at e4
        · obtain ⟨h5, h6⟩ := when_ok e4
          simp only [Bool.and_eq_true, Nat.beq_eq, Nat.ble_eq] at h5
          obtain ⟨⟨⟨h5, h7⟩, h8⟩, hone0⟩ := h5
          obtain rfl := R.ok.inj h6
          obtain rfl := den_l0 h1
          have hb2 : (n + 1) * i.bytes ≤ 281474976710656 := by
            rw [k5]
            have : (n + 1) * by_ ≤ 100000 * 1000 := Nat.mul_le_mul h8 h5
            omega
          have hr := run_append_nil (P := PG) w t ty el i zv hu k1 k2 ⟨Bs, Os, none⟩ (n + 1) cp news (by rw [k4]; exact hnl) hcs' (by omega) (by omega) hb2
          obtain ⟨tl, htl, htll⟩ := zflat (grownCap w (n + 1) 0 el - (n + 1))
          have hg := grownCap_ge w (n + 1) 0 el
          have hg2 := grownCap_le_maxLen w (n + 1) 0 el (by unfold maxLen; omega)
          have e5 : news.toArray ++ tl.toArray = (news ++ tl).toArray := by simp
          rw [htl, e5] at hr
          have hlen : (news ++ tl).length = grownCap w (n + 1) 0 el * sz := by
            rw [List.length_append, hnl, htll]
            have : zv.cells.toList.length = sz := by rw [Array.length_toList, hzl, h7]
            rw [this, ← Nat.add_mul]; congr 1; omega
          have hden := H.drew.new (b := .buf c el) (o := .cells (news ++ tl).toArray el) (cap := grownCap w (n + 1) 0 el)
            ⟨news, tl, (0, 0), sz, hs, denL_mono (Sg.le_add (H.up _ (Nat.le_refl _))) _ _ hnews, rfl, fz0 _, hlen, by unfold maxN; unfold maxLen at hg2; exact hg2⟩
          exact ⟨_, _, _, hden.1, .val (run _ _ hr), by simp [den, Sg.add_self], hden.2⟩
        · rename_i m off o n'
          split at e4
          · rename_i c0 el' hg
            obtain ⟨h5, h6⟩ := when_ok e4
            simp only [Bool.and_eq_true, Nat.beq_eq, Nat.ble_eq] at h5
            obtain ⟨⟨⟨⟨⟨⟨⟨rfl, rfl⟩, hc0⟩, rfl⟩, h5⟩, h7⟩, h8⟩, hone0⟩ := h5
            obtain rfl := R.ok.inj h6
            obtain ⟨r, hm, rfl⟩ := den_l h1
            obtain ⟨q', o', g1, g2, c', rest, fz, sz', g3, g4, rfl, g5, g6, g7⟩ := H.g.obj _ _ hg
            rw [hm] at g1; obtain rfl := Option.some.inj g1
            rw [hs] at g3; obtain rfl := Option.some.inj g3
            have hcl := denL_len g4
            rw [List.length_append] at g6
            simp only [Nat.sub_zero] at *
            by_cases hroom : n' + (n + 1) ≤ r.2
            · have hfit : n' * sz + news.length ≤ (c' ++ rest).length := by
                rw [hnl, List.length_append, g6, ← Nat.add_mul]; exact Nat.mul_le_mul_right _ hroom
              have hone : ∀ u ∈ news, u.oneCell' = true := ones_den hnews hone0
              have hr := run_append_room_cells (P := PG) w t ty el i hu k1 r.1 0 n' r.2 ⟨Bs, Os, none⟩ (n + 1) cp news (by rw [k4]; exact hnl) hcs' hone hroom
                (fun j hj => by rw [cell_row g2]; simp; rw [k4]; rw [List.length_append] at hfit; omega) (fun j hj => unfrozen_row g2 g5 _ (by rw [k4]; omega))
              rw [Nat.zero_add, k4] at hr
              have ht := turns_setCells (o := n' * sz) (vs := news) g2 hfit
              have e6 : (c' ++ rest).take (n' * sz) ++ news ++ (c' ++ rest).drop (n' * sz + news.length) = (c' ++ news) ++ rest.drop news.length := by
                rw [hc0, ← hcl, List.take_left, List.drop_append, List.drop_of_length_le (by omega), List.nil_append, Nat.add_sub_cancel_left]
              rw [e6] at ht
              have hn0 := H.up h.n (Nat.le_refl _)
              have le := Sg.le_add (q := r) hn0
              refine ⟨σ.add h.n r, _, _, le, .val (run _ _ hr), by simp [den, Sg.add_self], ⟨H.g.move (b' := .buf (c0 ++ c) el) hg hm hn0 ht ⟨c' ++ news, rest.drop news.length, fz, sz, hs, denL_append (denL_mono le _ _ g4) (denL_mono le _ _ hnews), rfl, ?_, ?_, g7⟩ (fun j d hj => ?_), fun k hk => ?_⟩⟩
              · have : (c' ++ news ++ rest.drop news.length).length = (c' ++ rest).length := by simp at hfit ⊢; omega
                rw [this]; exact g5
              · simp at hfit ⊢; omega
              · rcases Hp.get_new hj with ⟨h9, h10⟩ | ⟨h9, h10⟩
                · exact .inl ⟨h9, h10⟩
                · exact .inr ⟨h9, Hp.get_del h10⟩
              · simp at hk
                unfold Sg.add
                rw [if_neg (by omega)]
                exact H.up k (by omega)
            · have hb2 : (n' + (n + 1)) * i.bytes ≤ 140737488355328 := by
                rw [k5]
                have : (n' + (n + 1)) * by_ ≤ 100000 * 1000 := Nat.mul_le_mul h8 h5
                omega
              have hold : CellsAt w r.1 0 c' := by simpa using cells_row g2 0
              have hr := run_append_grow (P := PG) w t ty el i zv hu k1 k2 ⟨r.1, 0, none⟩ n' r.2 c' (by rw [k4, hcl, hc0]) (cellsAdd hold) ⟨Bs, Os, none⟩ (n + 1) cp news (by rw [k4]; exact hnl) hcs' (by omega) (by omega) (growslice_fits (by omega) hb2)
              obtain ⟨tl, htl, htll⟩ := zflat (grownCap w (n' + (n + 1)) r.2 el - (n' + (n + 1)))
              have hg3 := grownCap_ge w (n' + (n + 1)) r.2 el
              have hg2 := grownCap_le_maxLen w (n' + (n + 1)) r.2 el (by unfold maxLen; omega)
              have e5 : c'.toArray ++ news.toArray ++ tl.toArray = (c' ++ news ++ tl).toArray := by simp
              rw [htl, e5] at hr
              have hlen : (c' ++ news ++ tl).length = grownCap w (n' + (n + 1)) r.2 el * sz := by
                rw [List.length_append, List.length_append, hnl, htll, hcl, ← hc0]
                have : zv.cells.toList.length = sz := by rw [Array.length_toList, hzl, h7]
                rw [this, ← Nat.add_mul, ← Nat.add_mul]; congr 1; omega
              have hden := (H.del m).drew.new (b := .buf (c0 ++ c) el) (o := .cells (c' ++ news ++ tl).toArray el) (cap := grownCap w (n' + (n + 1)) r.2 el)
                ⟨c' ++ news, tl, (0, 0), sz, hs, denL_mono (Sg.le_add (H.up _ (Nat.le_refl _))) _ _ (denL_append g4 hnews), rfl, fz0 _, hlen, by unfold maxN; unfold maxLen at hg2; exact hg2⟩
              exact ⟨_, _, _, hden.1, .val (run _ _ hr), by simp [den, Sg.add_self], hden.2⟩
          · cases e4
        · cases e4
    · cases e4
  · cases e
end
end Go.Proofs.YtbcdgcodnkgdoaaGreat.Run
