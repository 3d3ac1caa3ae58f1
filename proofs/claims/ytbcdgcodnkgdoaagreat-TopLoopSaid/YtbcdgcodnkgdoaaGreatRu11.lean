/- The runner for closed calls: maps that are written to; all operations that turn memory. Conditions: none. -/
import Derived.Test.YtbcdgcodnkgdoaaGreatRu10
set_option linter.unusedVariables false
set_option linter.unusedSimpArgs false
set_option maxRecDepth 10000
namespace Go.Proofs.YtbcdgcodnkgdoaaGreat.Run
open Go Go.RowKit

theorem turns_setObj {w : World} {b : Nat} {o : Obj} (h : b < w.heap.size) : Turns w { w with heap := w.heap.setIfInBounds b o } b o :=
  ⟨rfl, rfl, rfl, by simp, by simp [h], fun i hi => by simp [Array.getElem?_setIfInBounds_ne (Ne.symm hi)]⟩
theorem ents_push {σ : Sg} {k v : V} {a x : Value} {c : Nat} (hk : den σ k = some a) (hv : den σ v = some x) : ∀ {es : List (V × V)} {ms : List MapEntry}, ents σ es ms → ents σ (es ++ [(k, v)]) (ms ++ [⟨a, x, c⟩]) := by
  intro es
  induction es with
  | nil => intro ms h; cases ms with
    | nil => exact ⟨hk, hv, trivial⟩
    | cons m q => exact h.elim
  | cons e r ih => intro ms h; cases ms with
    | nil => exact h.elim
    | cons m q => exact ⟨h.1, h.2.1, ih h.2.2⟩
/-- What an update finds, and what it leaves. -/
theorem setK_ok {σ : Sg} {kt : TypeId} {d : TypeDesc} {k v : V} {a x : Value} (hd : PG.underlying kt = some d) (hk : den σ k = some a) (hv : den σ v = some x) : ∀ {es es' : List (V × V)} {ms : List MapEntry}, setK kt d k v es = some es' → ents σ es ms →
    (findK kt d k es = some none ∧ es' = es ++ [(k, v)]) ∨ (∃ u, findK kt d k es = some (some u) ∧ ∀ i, ∃ j m, ms[j]? = some m ∧ (a = m.key ∧ Instr.sameBits 10000 a a = true) ∧ (∀ y, (Instr.findNow d a ms i = some (some y) → y.1 = i + j)) ∧ (∀ w y, (Instr.findAsking kt a ms i).run PG w = .ok (some y) w → y.1 = i + j) ∧
      ents σ es' (ms.set j (⟨a, x, m.born⟩ : MapEntry))) := by
  intro es
  induction es with
  | nil => intro es' ms h he; obtain rfl := Option.some.inj h; exact .inl ⟨rfl, rfl⟩
  | cons e r ih =>
    intro es' ms h he
    cases ms with
    | nil => exact he.elim
    | cons m q =>
      obtain ⟨h1, h2, h3⟩ := he
      unfold setK at h
      split at h
      · rename_i hq
        obtain rfl := Option.some.inj h
        obtain ⟨h4, h5, h6⟩ := eqK_ok hd hq hk h1
        refine .inr ⟨e.2, by simp [findK, hq], fun i => ⟨0, m, rfl, h6 rfl, fun y hy => ?_, fun w y hy => ?_, ⟨hk, hv, h3⟩⟩⟩
        · rcases h4 with h4 | h4
          · simp [Instr.findNow, h4] at hy; rw [← hy]; rfl
          · simp [Instr.findNow, h4] at hy
        · simp [Instr.findAsking, h5, Result.andThen] at hy; rw [← hy]; rfl
      · rename_i hq
        obtain ⟨h4, h5, h6⟩ := eqK_ok hd hq hk h1
        split at h
        · rename_i l hl
          obtain rfl := Option.some.inj h
          rcases ih hl h3 with ⟨h7, rfl⟩ | ⟨u, h7, h8⟩
          · exact .inl ⟨by simp [findK, hq, h7], rfl⟩
          · refine .inr ⟨u, by simp [findK, hq, h7], fun i => ?_⟩
            obtain ⟨j, m', g1, g2, g3, g4, g5⟩ := h8 (i + 1)
            refine ⟨j + 1, m', by simpa using g1, g2, fun y hy => ?_, fun w y hy => ?_, ⟨h1, h2, g5⟩⟩
            · rcases h4 with h4 | h4
              · simp [Instr.findNow, h4] at hy
                have := g3 y hy
                omega
              · simp [Instr.findNow, h4] at hy
            · simp [Instr.findAsking, h5, Result.andThen] at hy
              have := g4 w y hy
              omega
        · cases h
      · cases h
section
variable {w0 : World} {h : Hp} {N : Nat} {fr : T V} {q : A}
theorem tUpdate {t : TypeId} {x k y : Operand} (e : oUpd h t (xe N fr x) (xe N fr k) (xe N fr y) = .ok q) : Touches w0 N fr h (.mapUpdate t x k y) q := by
  unfold oUpd at e
  split at e
  · rename_i mv kv vv hx hk hy
    obtain ⟨h1, e1⟩ := when_ok e
    intro σ ρ w dst ty pos af g he H
    unfold updateV at e1
    split at e1
    · rename_i kt el m hu
      split at e1
      · rename_i d es hd hg
        obtain ⟨h2, e2⟩ := when_ok e1
        split at e2
        · rename_i es' hs
          obtain rfl := R.ok.inj e2
          have dk := he k (by simp [Op.operands]) _ hk
          have dv := he y (by simp [Op.operands]) _ hy
          obtain ⟨r, hm, hmx⟩ := den_m (he x (by simp [Op.operands]) _ hx)
          obtain ⟨q', o, g1, g2, ms, clock, g3, rfl⟩ := H.g.obj _ _ hg
          rw [hm] at g1; obtain rfl := Option.some.inj g1
          have hlow := H.g.low _ _ hm
          have h6 := keyOk_ok hd h2 dk
          rcases setK_ok (ms := ms) hd dk dv hs g3 with ⟨h7, rfl⟩ | ⟨u, h7, h8⟩
          · obtain ⟨z, h9, h10⟩ := findKey_ok hd dk h7 g3 w
            have hz : z = none := by
              rcases h10 with ⟨_, h⟩ | ⟨v, j, y', h, _⟩
              · exact h
              · cases h
            subst hz
            refine ⟨σ, undef, { w with heap := w.heap.setIfInBounds r.1 (.map (ms ++ [(⟨ρ k, ρ y, clock⟩ : MapEntry)]).toArray (clock + 1)) }, Sg.le.refl σ, .skip ?_ rfl, den_undef, H.turn (b' := .map (es ++ [(kv, vv)])) hg hm (turns_setObj hlow.2) (show Run.obj σ (.map (es ++ [(kv, vv)])) r (.map (ms ++ [(⟨ρ k, ρ y, clock⟩ : MapEntry)]).toArray (clock + 1)) from ⟨ms ++ [(⟨ρ k, ρ y, clock⟩ : MapEntry)], clock + 1, ents_push dk dv g3, rfl⟩)⟩
            simp [execOp, hmx, Instr.mapUpdate, run_underlying hu, Go.MapKept.run_getObj_map g2, h6, h9, Go.MapKept.run_setObj_map _ g2, Result.andThen]
          · obtain ⟨j, m', k1, k2, k3, k4, k5⟩ := h8 0
            obtain ⟨f1, f2⟩ := findK_ok hd dk h7 g3 0
            have hfind : ∃ yv, (Instr.findKey kt (ρ k) ms).run PG w = .ok (some (j, yv)) w := by
              rcases f1 with f1 | ⟨z, f1, f3⟩
              · obtain ⟨z, f4, f5⟩ := f2 w
                rcases f5 with ⟨f5, _⟩ | ⟨v', j', y', _, _, rfl⟩
                · cases f5
                · have := k4 w _ f4
                  simp at this
                  subst this
                  exact ⟨y', by simp [Instr.findKey, run_underlying hd, f1, f4, Result.andThen]⟩
              · rcases f3 with ⟨f3, _⟩ | ⟨v', j', y', _, _, rfl⟩
                · cases f3
                · have := k3 _ f1
                  simp at this
                  subst this
                  exact ⟨y', by simp [Instr.findKey, run_underlying hd, f1, Result.andThen]⟩
            obtain ⟨yv, hfind⟩ := hfind
            have hstay : ∀ w, (Instr.keyThatStays m'.key (ρ k)).run PG w = .ok (ρ k) w := fun w => by
              have : Instr.sameBits 10000 m'.key (ρ k) = true := by rw [← k2.1]; exact k2.2
              simp [Instr.keyThatStays, this]
            have hmod : ms.toArray.modify j (fun e => { e with key := ρ k, val := ρ y }) = (ms.set j (⟨ρ k, ρ y, m'.born⟩ : MapEntry)).toArray := by
              rw [← Array.toList_inj]
              simp [List.modify_eq_set, k1]
            refine ⟨σ, undef, { w with heap := w.heap.setIfInBounds r.1 (.map (ms.set j (⟨ρ k, ρ y, m'.born⟩ : MapEntry)).toArray clock) }, Sg.le.refl σ, .skip ?_ rfl, den_undef, H.turn (b' := .map es') hg hm (turns_setObj hlow.2) ⟨_, clock, k5, rfl⟩⟩
            have hkey : ((ms.toArray[j]?).map (·.key)).getD (ρ k) = m'.key := by simp [k1]
            simp only [execOp, hmx, Instr.mapUpdate, Sem.run_bind, run_underlying hu, Go.MapKept.run_getObj_map g2, h6, hfind, hkey, hstay, hmod, Go.MapKept.run_setObj_map _ g2, Result.andThen, Sem.run_pure]
        · cases e2
      · cases e1
    · cases e1
  · cases e
theorem tConv {src dst' : TypeId} {x : Operand} (hk : kindOp (.convert src dst' x) = 3) (e : oConv h src dst' (xe N fr x) = .ok q) : Touches w0 N fr h (.convert src dst' x) q := by
  unfold oConv at e
  split at e
  · rename_i d k k' a h1 h2 hx
    obtain rfl := R.ok.inj e
    intro σ ρ w dst ty pos af g he H
    have h3 := den_i (he x (by simp [Op.operands]) _ hx)
    exact ⟨σ, .int k (k.wrap a), w, Sg.le.refl σ, .val (by simp [execOp, h3, convert, run_underlying h1, run_underlying h2, Conv.intToInt, Result.andThen]), by simp [den], H⟩
  · rename_i e1 el m off o n h1 h2 hx
    split at e
    · rename_i hsd hel
      obtain rfl := Nat.eq_of_beq_eq_true hsd
      obtain ⟨h3, h4⟩ := when_ok e
      obtain rfl := R.ok.inj h4
      obtain rfl : e1 = el := by rw [h1] at h2; simpa using h2
      intro σ ρ w dst ty pos af g he H
      obtain ⟨r, hm, hx'⟩ := den_l (he x (by simp [Op.operands]) _ hx)
      cases hr : h.row m with
      | none => rw [hr] at h3; cases h3
      | some c =>
        obtain ⟨q', c', rest, te, fz, g1, g2, g3, g4⟩ := H.g.row hr
        rw [hm] at g1; obtain rfl := Option.some.inj g1
        have hlow := H.g.low _ _ hm
        obtain ⟨te', hg⟩ := row_of hr
        have hsh : w.shape? r.1 = some (te, (c' ++ rest).length) := by simp [World.shape?, g3]
        let fz' : Nat × Nat := if fz.1 == fz.2 then ((c' ++ rest).length, (c' ++ rest).length + 1) else (min fz.1 (c' ++ rest).length, max fz.2 ((c' ++ rest).length + 1))
        have hfz : fzOk fz' (c' ++ rest).length := by
          show fz'.1 = fz'.2 ∨ _
          rcases g4 with g4 | g4
          · right
            have : fz' = ((c' ++ rest).length, (c' ++ rest).length + 1) := by show (if _ then _ else _) = _; rw [if_pos (by simpa using g4)]
            rw [this]; exact Nat.le_refl _
          · right
            show _ ≤ (if fz.1 == fz.2 then ((c' ++ rest).length, (c' ++ rest).length + 1) else (min fz.1 (c' ++ rest).length, max fz.2 ((c' ++ rest).length + 1))).1
            split
            · exact Nat.le_refl _
            · show _ ≤ min _ _; omega
        have ht : Turns w (w.freeze ⟨r.1, (c' ++ rest).length, none⟩ 1) r.1 (.cells (c' ++ rest).toArray te fz') := by
          refine ⟨rfl, rfl, rfl, by simp [World.freeze], ?_, fun i hi => by simp [World.freeze, Array.getElem?_modify, Ne.symm hi]⟩
          simp [World.freeze, Array.getElem?_modify, g3, fz']
        refine ⟨σ, ρ x, w.freeze ⟨r.1, (c' ++ rest).length, none⟩ 1, Sg.le.refl σ, .val ?_, he x (by simp [Op.operands]) _ hx, ⟨?_, H.up⟩⟩
        · simp [execOp, hx', convert, run_underlying h1, run_underlying hel, markStringish, hsh, Result.andThen]
        · rcases hg with hg | hg
          · obtain ⟨q', o', k1, k2, c2, fz2, k3, rfl, k4, k5⟩ := H.g.obj _ _ hg
            rw [hm] at k1; obtain rfl := Option.some.inj k1
            rw [g3] at k2
            simp only [Option.some.injEq, Obj.cells.injEq] at k2
            obtain ⟨k6, rfl, rfl⟩ := k2
            have k7 : c' ++ rest = c2 := by simpa using congrArg Array.toList k6
            exact H.g.turn (b' := .cells c te) hg hm ht ⟨c2, fz', k3, by rw [k7], by rw [← k7]; exact hfz, k5⟩ (fun j d hj => by
              by_cases hjm : j = m
              · subst hjm; rw [hg] at hj; exact .inl ⟨rfl, (Option.some.inj hj).symm⟩
              · exact .inr ⟨hjm, hj⟩)
          · obtain ⟨q', o', k1, k2, c2, rest2, fz2, sz, k0, k3, rfl, k4, k5, k8⟩ := H.g.obj _ _ hg
            rw [hm] at k1; obtain rfl := Option.some.inj k1
            rw [g3] at k2
            simp only [Option.some.injEq, Obj.cells.injEq] at k2
            obtain ⟨k6, rfl, rfl⟩ := k2
            have k7 : c' ++ rest = c2 ++ rest2 := by simpa using congrArg Array.toList k6
            exact H.g.turn (b' := .buf c te) hg hm ht ⟨c2, rest2, fz', sz, k0, k3, by rw [k7], by rw [← k7]; exact hfz, k5, k8⟩ (fun j d hj => by
              by_cases hjm : j = m
              · subst hjm; rw [hg] at hj; exact .inl ⟨rfl, (Option.some.inj hj).symm⟩
              · exact .inr ⟨hjm, hj⟩)
    · cases e
  · cases e
/-- An operation that turns memory. -/
theorem touch_ok {op : Op} (hk : kindOp op = 3) (e : opL N fr h op = .ok q) : Touches w0 N fr h op q := by
  cases op <;> first
    | (cases e; done)
    | (exact tStore e)
    | (exact tUpdate e)
    | (exact tConv hk e)
    | (simp [kindOp] at hk; done)
    | skip
  · rename_i c
    obtain ⟨cl, args, ats⟩ := c
    cases cl with
    | value f => simp [kindOp, kindC] at hk
    | invoke r m => cases e
    | builtin bt =>
      change oBuiltin h bt (xes N fr args.toList) ats.toList = .ok q at e
      unfold oBuiltin at e
      split at e
      · simp [kindOp, kindC, kindB] at hk
      · rename_i x y t t2 hl ht
        exact tAppend e hl ht rfl
      · simp [kindOp, kindC, kindB] at hk
      · cases e
end
end Go.Proofs.YtbcdgcodnkgdoaaGreat.Run
