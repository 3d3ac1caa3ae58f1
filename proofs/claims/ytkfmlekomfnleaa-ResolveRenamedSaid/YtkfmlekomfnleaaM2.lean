/- The calculus, fourteenth part: maps of one's own, keys of any kind that compares. Conditions: none; everything holds over any program. -/
import Derived.Test.YtkfmlekomfnleaaM
import Derived.Laws.StructEq
set_option linter.unusedVariables false
set_option linter.unusedSimpArgs false
namespace Go.Proofs.Ytkfmlekomfnleaa
open Go Go.RowKit Go.MapKept

/-- Keys of a type. -/
class KeyR (P : Program) {κ : Type} (ι : κ → Value) (kt : TypeId) : Prop where
  inj : ∀ a b, ι a = ι b → a = b
  check : ∀ (w : World) (e : Bool) (k : κ), (Instr.checkKey e 10000 kt (ι k)).run P w = .ok () w
  find : ∀ (k : κ) (l : List MapEntry), (∀ e ∈ l, ∃ k', e.key = ι k') →
    ((∀ w : World, (Instr.findKey kt (ι k) l).run P w = .ok none w) ∧ ∀ e ∈ l, e.key ≠ ι k) ∨ ∃ j e, (∀ w : World, (Instr.findKey kt (ι k) l).run P w = .ok (some (j, e.val)) w) ∧ l[j]? = some e ∧ e.key = ι k
  stays : ∀ (w : World) (k : κ), (Instr.keyThatStays (ι k) (ι k)).run P w = .ok (ι k) w
/-- Keys that are compared one by one. -/
theorem find_asking {P : Program} {κ : Type} {ι : κ → Value} {kt : TypeId} {d : TypeDesc} (inj : ∀ a b, ι a = ι b → a = b) (hu : P.underlying kt = some d) (hnow : ∀ a b, Instr.sameNow d (ι a) (ι b) = none)
    (heq : ∀ (w : World) (a b : κ), ∃ r : Bool, (Op.equal kt (ι a) (ι b)).run P w = .ok r w ∧ (r = true ↔ a = b)) (k : κ) (l : List MapEntry) (hl : ∀ e ∈ l, ∃ k', e.key = ι k') :
    ((∀ w : World, (Instr.findKey kt (ι k) l).run P w = .ok none w) ∧ ∀ e ∈ l, e.key ≠ ι k) ∨ ∃ j e, (∀ w : World, (Instr.findKey kt (ι k) l).run P w = .ok (some (j, e.val)) w) ∧ l[j]? = some e ∧ e.key = ι k := by
  have ask : ∀ (l : List MapEntry) (i : Nat), (∀ e ∈ l, ∃ k', e.key = ι k') → ((∀ w : World, (Instr.findAsking kt (ι k) l i).run P w = .ok none w) ∧ ∀ e ∈ l, e.key ≠ ι k) ∨ ∃ j e, (∀ w : World, (Instr.findAsking kt (ι k) l i).run P w = .ok (some (i + j, e.val)) w) ∧ l[j]? = some e ∧ e.key = ι k := by
    intro l
    induction l with
    | nil => intro i _; exact .inl ⟨fun w => by simp [Instr.findAsking], by simp⟩
    | cons e l ih =>
      intro i hl
      obtain ⟨k', hk'⟩ := hl e (by simp)
      by_cases hkk : k = k'
      · subst hkk
        refine .inr ⟨0, e, fun w => ?_, rfl, hk'⟩
        obtain ⟨r, hr, hiff⟩ := heq w k k
        rw [hiff.2 rfl] at hr
        simp [Instr.findAsking, hk', hr, Result.andThen]
      · have hrun : ∀ w : World, (Instr.findAsking kt (ι k) (e :: l) i).run P w = (Instr.findAsking kt (ι k) l (i + 1)).run P w := fun w => by
          obtain ⟨r, hr, hiff⟩ := heq w k k'
          have : r = false := by cases r with | false => rfl | true => exact absurd (hiff.1 rfl) hkk
          rw [this] at hr
          simp [Instr.findAsking, hk', hr, Result.andThen]
        rcases ih (i + 1) (fun e he => hl e (by simp [he])) with ⟨h1, h2⟩ | ⟨j, e2, h1, h2, h3⟩
        · refine .inl ⟨fun w => (hrun w).trans (h1 w), fun e' he' => ?_⟩
          rcases List.mem_cons.1 he' with rfl | he'
          · rw [hk']; exact fun h => hkk (inj _ _ h).symm
          · exact h2 e' he'
        · exact .inr ⟨j + 1, e2, fun w => by rw [hrun, h1, show i + 1 + j = i + (j + 1) by omega], by simpa using h2, h3⟩
  cases l with
  | nil => exact .inl ⟨fun w => by simp [Instr.findKey, run_underlying hu, Instr.findNow, Result.andThen], by simp⟩
  | cons e l =>
    obtain ⟨k', hk'⟩ := hl e (by simp)
    have hn : Instr.findNow d (ι k) (e :: l) 0 = none := by simp [Instr.findNow, hk', hnow]
    have hrun : ∀ w : World, (Instr.findKey kt (ι k) (e :: l)).run P w = (Instr.findAsking kt (ι k) (e :: l) 0).run P w := fun w => by simp [Instr.findKey, run_underlying hu, hn, Result.andThen]
    rcases ask (e :: l) 0 hl with ⟨h1, h2⟩ | ⟨j, e2, h1, h2, h3⟩
    · exact .inl ⟨fun w => (hrun w).trans (h1 w), h2⟩
    · exact .inr ⟨j, e2, fun w => by rw [hrun, h1, Nat.zero_add], h2, h3⟩
/-- Two strings. -/
abbrev strs2 (x : ByteArray × ByteArray) : Value := .agg #[.string x.1, .string x.2]
theorem keyR_strs2 {P : Program} {kt t1 : TypeId} {f1 f2 : Field} {z z1 : Value} {by_ sz1 by1 : Nat} [T : Ty P kt (.struct #[f1, f2]) z 2 by_] [T1 : Ty P t1 .string z1 sz1 by1] (h1 : f1.type = t1) (h2 : f2.type = t1) (o1 : f1.offset = 0) (o2 : f2.offset = 1) (n1 : (f1.name = "_") = False) (n2 : (f2.name = "_") = False) (hp : P.stoodInHeld kt = false) : KeyR P strs2 kt := by
  have hu := T.und
  have hfs : P.fieldsOf kt = #[f1, f2] := by simp [Program.fieldsOf, hu]
  have part1 : ∀ (w : World) (a b : ByteArray), (part t1 #[.string a, .string b] 0).run P w = .ok (.string a) w := fun w a b => by
    simp [part, T1.runAgg, isAggD, Result.andThen]
  have part2 : ∀ (w : World) (a b : ByteArray), (part t1 #[.string a, .string b] 1).run P w = .ok (.string b) w := fun w a b => by
    simp [part, T1.runAgg, isAggD, Result.andThen]
  have ck : ∀ (w : World) (e : Bool) (n : Nat) (x : ByteArray), (Instr.checkKey e (n + 1) t1 (.string x)).run P w = .ok () w := fun w e n x => by
    simp [Instr.checkKey, T1.runUnd, Result.andThen]
  have inj : ∀ a b, strs2 a = strs2 b → a = b := fun a b h => by
    injection h with h
    have := congrArg Array.toList h
    simp only [List.cons.injEq, Value.string.injEq, and_true] at this
    exact Prod.ext this.1 this.2
  have heq : ∀ (w : World) (a b : ByteArray × ByteArray), ∃ r : Bool, (Op.equal kt (strs2 a) (strs2 b)).run P w = .ok r w ∧ (r = true ↔ a = b) := fun w a b => by
    refine ⟨(a.1.toList == b.1.toList) && (a.2.toList == b.2.toList), ?_, ?_⟩
    · show (Op.equalIn (9999 + 1) kt _ _).run P w = _
      rw [run_equalIn_agg w 9999 kt _ _ (by rw [hfs]; exact hu) hp, hfs]
      have e1 : ∀ (x y : ByteArray), (Op.equalIn (9998 + 1) t1 (.string x) (.string y)).run P w = .ok (x.toList == y.toList) w := fun x y => run_equalIn_string w 9998 t1 x y T1.und
      simp only [Op.eqFields, ne_eq, n1, n2, not_false_eq_true, if_true, Sem.run_bind, h1, h2, o1, o2, part1, part2, Result.andThen_ok, show (9999 : Nat) = 9998 + 1 from rfl, e1]
      generalize hA : (a.1.toList == b.1.toList) = A
      generalize hB : (a.2.toList == b.2.toList) = B
      cases A <;> cases B <;> simp [Sem.run_bind, part1, part2, e1, Result.andThen, hA, hB, -beq_eq_false_iff_ne, -beq_iff_eq]
    · rw [← beq_toListBytes, ← beq_toListBytes, Bool.and_eq_true, bytes_beq, bytes_beq]
      exact ⟨fun h => Prod.ext h.1 h.2, fun h => by subst h; exact ⟨rfl, rfl⟩⟩
  refine ⟨inj, fun w e k => ?_, fun k l hl => find_asking inj hu (fun a b => rfl) heq k l hl, fun w k => ?_⟩
  · show (Instr.checkKey e (9998 + 1 + 1) kt (strs2 k)).run P w = _
    rw [Instr.checkKey]
    simp only [Sem.run_bind, T.runUnd, Result.andThen_ok, strs2]
    rw [← Array.forIn_toList]
    simp [n1, n2, h1, h2, o1, o2, part1, part2, ck , show (9999 : Nat) = 9998 + 1 from rfl, Result.andThen]
  · have hb : ∀ (n : Nat) (x : ByteArray), Instr.sameBits (n + 1) (.string x) (.string x) = true := fun n x => by simp [Instr.sameBits, bytes_beq]
    have : Instr.sameBits (9998 + 1 + 1) (strs2 k) (strs2 k) = true := by
      rw [Instr.sameBits]
      simp [hb]
    show (Instr.keyThatStays (strs2 k) (strs2 k)).run P w = _
    simp only [Instr.keyThatStays]
    rw [show (10000 : Nat) = 9998 + 1 + 1 from rfl, this]
    simp
section
variable {P : Program} {E : Env} {ops : Array Oper} {Q : Pst} {rest : List Oper} {G : List (Nat × Value)} {H : List HP}
variable {dst : Nat} {ty : TypeId} {pos : String} {af : Array Edge} {t kt et : TypeId} {d kd ed : TypeDesc} {z kz ez v : Value} {sz by_ ksz kby esz eby : Nat} {x y u : Operand}
variable {κ α : Type} {ι : κ → Value} {υ : α → Value} {D : List (κ × α)} {b : Nat} {k : κ} {es : Array MapEntry} {clock : Nat}
theorem map_findR [DecidableEq κ] [KR : KeyR P ι kt] (h : es.toList.map (fun e => (e.key, e.val)) = D.map (fun x => (ι x.1, υ x.2))) (hs : Stamped es clock) (k : κ) :
    ((∀ w : World, (Instr.findKey kt (ι k) es.toList).run P w = .ok none w) ∧ getM D k = none ∧ (∀ x ∈ es.toList, x.key ≠ ι k) ∧ ∀ v, putM D k v = D ++ [(k, v)]) ∨
    ∃ j e u, (∀ w : World, (Instr.findKey kt (ι k) es.toList).run P w = .ok (some (j, υ u)) w) ∧ es[j]? = some e ∧ e.key = ι k ∧ e.val = υ u ∧ getM D k = some u ∧ ∀ v, putM D k v = D.set j (k, v) := by
  rcases KR.find k es.toList (fun e he => by
    have : (e.key, e.val) ∈ D.map (fun x => (ι x.1, υ x.2)) := by rw [← h]; exact List.mem_map.2 ⟨e, he, rfl⟩
    obtain ⟨y, _, hy⟩ := List.mem_map.1 this
    injection hy with h1 h2
    exact ⟨y.1, h1.symm⟩) with ⟨h1, h2⟩ | ⟨j, e, h1, h2, h3⟩
  · have hn : ∀ x ∈ D, x.1 ≠ k := fun x hx he => by
      have : (ι x.1, υ x.2) ∈ es.toList.map (fun e => (e.key, e.val)) := by rw [h]; exact List.mem_map.2 ⟨x, hx, rfl⟩
      obtain ⟨y, hy, he'⟩ := List.mem_map.1 this
      injection he' with h4 h5
      exact h2 y hy (by rw [h4, he])
    exact .inl ⟨h1, getM_none hn, h2, fun v => putM_none hn v⟩
  · have hj : (D.map (fun x => (ι x.1, υ x.2)))[j]? = some (e.key, e.val) := by rw [← h, List.getElem?_map, h2]; rfl
    rw [List.getElem?_map] at hj
    cases hd : D[j]? with
    | none => rw [hd] at hj; cases hj
    | some x =>
      rw [hd] at hj
      simp only [Option.map_some, Option.some.injEq, Prod.mk.injEq] at hj
      have hk : x.1 = k := KR.inj _ _ (hj.1.trans h3)
      obtain ⟨x1, x2⟩ := x
      simp only at hk hj
      subst hk
      obtain ⟨g1, g2⟩ := getM_at (map_nodup h hs) hd
      rw [← hj.2] at h1
      exact .inr ⟨j, e, x2, h1, by rw [← Array.getElem?_toList]; exact h2, h3, hj.2.symm, g1, g2⟩
theorem map_setR {j : Nat} {e : MapEntry} {a : α} (hm : es.toList.map (fun e => (e.key, e.val)) = D.map (fun x => (ι x.1, υ x.2))) (hs : Stamped es clock) (hj : es[j]? = some e) (hk : e.key = ι k) :
    Stamped (es.modify j fun e => { e with key := ι k, val := υ a }) clock ∧ (es.modify j fun e => { e with key := ι k, val := υ a }).toList.map (fun e => (e.key, e.val)) = (D.set j (k, a)).map (fun x => (ι x.1, υ x.2)) := by
  refine ⟨stamped_modify hs _ _ (fun _ _ => rfl) (fun e' _ he' => by rw [hj] at he'; cases he'; exact hk.symm), ?_⟩
  rw [List.map_set, ← hm]
  apply List.ext_getElem?
  intro i
  simp only [List.getElem?_map, Array.getElem?_toList, Array.getElem?_modify, List.getElem?_set, List.length_map, Array.length_toList]
  by_cases hij : j = i
  · subst hij
    have hlt := (Array.getElem?_eq_some_iff.1 hj).1
    simp [hlt]
  · simp [hij]
theorem run_lookup_R [DecidableEq κ] [T : Ty P t (.map kt et) z sz by_] [TE : Ty P et ed ez esz eby] [KR : KeyR P ι kt] {w : World} {a0 : α} (hz : ez = υ a0) (h : MapAt w ι υ b D) (k : κ) (ok : Bool) :
    (Instr.lookup t (.map (some b)) (ι k) ok).run P w = .ok (if ok then .tuple #[υ ((getM D k).getD a0), .bool (getM D k).isSome] else υ ((getM D k).getD a0)) w := by
  obtain ⟨es, clock, hb, hs, hm⟩ := h
  rcases map_findR (P := P) (kt := kt) hm hs k with ⟨h1, h2, _, _⟩ | ⟨j, e, a, h1, _, _, _, h2, _⟩
  · cases ok <;> simp [Instr.lookup, T.runUnd, Go.MapKept.run_getObj_map hb, KR.check, h1, TE.runZero, Result.andThen, h2, hz]
  · cases ok <;> simp [Instr.lookup, T.runUnd, Go.MapKept.run_getObj_map hb, KR.check, h1, Result.andThen, h2]
theorem RW.lookupR [DecidableEq κ] [T : Ty P t (.map kt et) z sz by_] [TE : Ty P et ed ez esz eby] [KR : KeyR P ι kt] (pre : List HP) {r : List HP} {a0 : α} (hz : ez = υ a0) (hx : ev G x = some (.map (some b))) (hy : ev G y = some (ι k)) (hN : Nat.blt dst E.N = true)
    (kk : RW P E ops Q rest ((dst, υ ((getM D k).getD a0)) :: G) (pre ++ mapHP ι υ kd b D :: r)) : RW P E ops Q (⟨some dst, .lookup t x y false, ty, pos, af, none⟩ :: rest) G (pre ++ mapHP ι υ kd b D :: r) :=
  RW.val hN (fun a w hf hw => by
    obtain ⟨F, hp, _⟩ := hw.get
    simp [execOp, hf.eval hx, hf.eval hy, run_lookup_R hz hp.2 k false, Result.andThen]) kk
theorem RW.lookupOkR [DecidableEq κ] [T : Ty P t (.map kt et) z sz by_] [TE : Ty P et ed ez esz eby] [KR : KeyR P ι kt] (pre : List HP) {r : List HP} {a0 : α} (hz : ez = υ a0) (hx : ev G x = some (.map (some b))) (hy : ev G y = some (ι k)) (hN : Nat.blt dst E.N = true)
    (kk : RW P E ops Q rest ((dst, .tuple #[υ ((getM D k).getD a0), .bool (getM D k).isSome]) :: G) (pre ++ mapHP ι υ kd b D :: r)) : RW P E ops Q (⟨some dst, .lookup t x y true, ty, pos, af, none⟩ :: rest) G (pre ++ mapHP ι υ kd b D :: r) :=
  RW.val hN (fun a w hf hw => by
    obtain ⟨F, hp, _⟩ := hw.get
    simp [execOp, hf.eval hx, hf.eval hy, run_lookup_R hz hp.2 k true, Result.andThen]) kk
/-- A look into a map that one may read for good. -/
theorem RW.mapUpdateR [DecidableEq κ] [T : Ty P t (.map kt et) z sz by_] [KR : KeyR P ι kt] (pre : List HP) {r : List HP} {a : α} {dst : Option Nat} (hdst : dst = none) (hx : ev G x = some (.map (some b))) (hy : ev G y = some (ι k)) (hu : ev G u = some (υ a))
    (kk : RW P E ops Q rest G (pre ++ mapHP ι υ kd b (putM D k a) :: r)) : RW P E ops Q (⟨dst, .mapUpdate t x y u, ty, pos, af, none⟩ :: rest) G (pre ++ mapHP ι υ kd b D :: r) := by
  subst hdst
  exact RW.step rfl (fun f w hf hw => by
    obtain ⟨F, ⟨_, es, clock, hb, hs, hm⟩, _⟩ := hw.get
    rcases map_findR (P := P) (kt := kt) hm hs k with ⟨h1, _, h2, h3⟩ | ⟨j, e, u0, h1, hj, hk, _, _, h3⟩
    · have hrun : (execOp f.eval ⟨none, .mapUpdate t x y u, ty, pos, af, none⟩).run P w = .ok .skip { w with heap := w.heap.setIfInBounds b (.map (es.push { key := ι k, val := υ a, born := clock }) (clock + 1)) } := by
        simp [execOp, hf.eval hx, hf.eval hy, hf.eval hu, Instr.mapUpdate, T.runUnd, Go.MapKept.run_getObj_map hb, KR.check, h1, Go.MapKept.run_setObj_map _ hb, Result.andThen]
      rw [hrun]
      refine kk _ _ (hf.skip _) (hw.setobj (fun F hp => hp.1) (fun F hp => ⟨hp.1, _, _, (heap_set hb).1, stamped_push hs h2, ?_⟩))
      rw [h3, Array.toList_push, List.map_append, List.map_append, hm]; rfl
    · have hrun : (execOp f.eval ⟨none, .mapUpdate t x y u, ty, pos, af, none⟩).run P w = .ok .skip { w with heap := w.heap.setIfInBounds b (.map (es.modify j fun e => { e with key := ι k, val := υ a }) clock) } := by
        simp [execOp, hf.eval hx, hf.eval hy, hf.eval hu, Instr.mapUpdate, T.runUnd, Go.MapKept.run_getObj_map hb, KR.check, h1, hj, hk, KR.stays, Go.MapKept.run_setObj_map _ hb, Result.andThen]
      rw [hrun]
      obtain ⟨g1, g2⟩ := map_setR (a := a) hm hs hj hk
      exact kk _ _ (hf.skip _) (hw.setobj (fun F hp => hp.1) (fun F hp => ⟨hp.1, _, _, (heap_set hb).1, g1, by rw [h3]; exact g2⟩)))
theorem RW.mapEntryR [DecidableEq κ] [T : Ty P t (.map kt et) z sz by_] [TE : Ty P et ed ez esz eby] [KR : KeyR P ι kt] (pre : List HP) {r : List HP} {a0 : α} (hz : ez = υ a0) (hx : ev G x = some (.map (some b))) (hy : ev G y = some (ι k)) (hN : Nat.blt dst E.N = true)
    (kk : ∀ s, RW P E ops Q rest ((dst, .tuple #[υ ((getM D k).getD a0), .int .i64 s]) :: G) (pre ++ mapEnt ι υ kd b (putM D k ((getM D k).getD a0)) k s :: r)) : RW P E ops Q (⟨some dst, .mapEntry t x y, ty, pos, af, none⟩ :: rest) G (pre ++ mapHP ι υ kd b D :: r) :=
  RW.step rfl (fun f w hf hw => by
    obtain ⟨F, ⟨_, es, clock, hb, hs, hm⟩, _⟩ := hw.get
    rcases map_findR (P := P) (kt := kt) hm hs k with ⟨h1, h4, h2, h3⟩ | ⟨j, e, u0, h1, hj, hk, hv, h4, h3⟩
    · have hrun : (execOp f.eval ⟨some dst, .mapEntry t x y, ty, pos, af, none⟩).run P w = .ok (.value (.tuple #[υ ((getM D k).getD a0), .int .i64 clock])) { w with heap := w.heap.setIfInBounds b (.map (es.push { key := ι k, val := υ a0, born := clock }) (clock + 1)) } := by
        simp [execOp, hf.eval hx, hf.eval hy, Instr.mapEntry, T.runUnd, Go.MapKept.run_getObj_map hb, KR.check, h1, Go.MapKept.run_setObj_map _ hb, Result.andThen, TE.runZero, hz, h4, goInt]
      rw [hrun]
      refine kk _ _ _ (hf.put hN _) (hw.setobj (fun F hp => hp.1) (fun F hp => ⟨hp.1, _, _, es.size, { key := ι k, val := υ a0, born := clock }, (heap_set hb).1, stamped_push hs h2, ?_, by simp, rfl, rfl⟩))
      rw [h3, h4, Array.toList_push, List.map_append, List.map_append, hm]; rfl
    · have hrun : (execOp f.eval ⟨some dst, .mapEntry t x y, ty, pos, af, none⟩).run P w = .ok (.value (.tuple #[υ ((getM D k).getD a0), .int .i64 e.born])) { w with heap := w.heap.setIfInBounds b (.map (es.modify j fun e => { e with key := ι k }) clock) } := by
        simp [execOp, hf.eval hx, hf.eval hy, Instr.mapEntry, T.runUnd, Go.MapKept.run_getObj_map hb, KR.check, h1, hj, hk, KR.stays, Go.MapKept.run_setObj_map _ hb, Result.andThen, h4, goInt]
      rw [hrun]
      have hself : (es.modify j fun e => { e with key := ι k }) = es := by
        apply Array.ext_getElem?
        intro i
        rw [Array.getElem?_modify]
        by_cases hij : j = i
        · subst hij
          rw [if_pos rfl, hj]
          simp [← hk]
        · rw [if_neg hij]
      rw [hself]
      refine kk _ _ _ (hf.put hN _) (hw.setobj (fun F hp => hp.1) (fun F hp => ⟨hp.1, es, clock, j, e, (heap_set hb).1, hs, ?_, hj, hk, rfl⟩))
      obtain ⟨_, g2⟩ := map_setR (a := u0) hm hs hj hk
      rw [h4]
      show _ = (putM D k u0).map _
      rw [h3, ← g2]
      congr 1
      apply List.ext_getElem?
      intro i
      rw [Array.getElem?_toList, Array.getElem?_toList, Array.getElem?_modify]
      by_cases hij : j = i
      · subst hij
        rw [if_pos rfl, hj]
        simp [← hk, ← hv]
      · rw [if_neg hij])
theorem RW.entryStoreR [DecidableEq κ] [T : Ty P t (.map kt et) z sz by_] [KR : KeyR P ι kt] (pre : List HP) {r : List HP} {a : α} {s : Int} {dst : Option Nat} (hdst : dst = none) (hx : ev G x = some (.map (some b))) (hy : ev G y = some (.int .i64 s)) (hu : ev G u = some (υ a))
    (kk : RW P E ops Q rest G (pre ++ mapHP ι υ kd b (putM D k a) :: r)) : RW P E ops Q (⟨dst, .entryStore t x y u, ty, pos, af, none⟩ :: rest) G (pre ++ mapEnt ι υ kd b D k s :: r) := by
  subst hdst
  exact RW.step rfl (fun f w hf hw => by
    obtain ⟨F, ⟨_, es, clock, j, e, hb, hs, hm, hj, hk, hborn⟩, _⟩ := hw.get
    have hidx : es.findIdx? (fun e => (e.born : Int) == s) = some j := by
      rw [Array.findIdx?_eq_some_iff_getElem]
      obtain ⟨hlt, he⟩ := Array.getElem?_eq_some_iff.1 hj
      refine ⟨hlt, by rw [he]; simpa using hborn, fun i hi => ?_⟩
      have h2 := hs.2.1
      rw [List.nodup_iff_pairwise_ne, List.pairwise_iff_getElem] at h2
      have h3 := h2 i j (by simp; omega) (by simpa using hlt) hi
      simp only [List.getElem_map, Array.getElem_toList] at h3
      rw [he] at h3
      simp only [beq_iff_eq, ← hborn]
      intro h4
      exact h3 (by omega)
    have hrun : (execOp f.eval ⟨none, .entryStore t x y u, ty, pos, af, none⟩).run P w = .ok .skip { w with heap := w.heap.setIfInBounds b (.map (es.modify j fun e => { e with val := υ a }) clock) } := by
      simp [execOp, hf.eval hx, hf.eval hy, hf.eval hu, Instr.entryStore, Go.MapKept.run_getObj_map hb, asInt, asIntOf, hidx, Go.MapKept.run_setObj_map _ hb, Result.andThen]
    rw [hrun]
    have hself : (es.modify j fun e => { e with val := υ a }) = (es.modify j fun e => { e with key := ι k, val := υ a }) := by
      apply Array.ext_getElem?
      intro i
      rw [Array.getElem?_modify, Array.getElem?_modify]
      by_cases hij : j = i
      · subst hij
        rw [if_pos rfl, if_pos rfl, hj]
        simp [← hk]
      · rw [if_neg hij, if_neg hij]
    rw [hself]
    obtain ⟨g1, g2⟩ := map_setR (a := a) hm hs hj hk
    have hput : putM D k a = D.set j (k, a) := by
      rcases map_findR (P := P) (kt := kt) hm hs k with ⟨_, _, h2, _⟩ | ⟨j', e', u0, _, hj', hk', _, _, h3⟩
      · exact absurd hk (h2 e (by rw [← Array.getElem?_toList] at hj; exact List.mem_of_getElem? hj))
      · have : j' = j := by
          have h2 := hs.2.2
          rw [List.nodup_iff_pairwise_ne, List.pairwise_iff_getElem] at h2
          obtain ⟨l1, e1⟩ := Array.getElem?_eq_some_iff.1 hj
          obtain ⟨l2, e2⟩ := Array.getElem?_eq_some_iff.1 hj'
          rcases Nat.lt_trichotomy j j' with h | h | h
          · have := h2 j j' (by simpa using l1) (by simpa using l2) h
            simp only [List.getElem_map, Array.getElem_toList] at this
            rw [e1, e2] at this
            exact absurd (hk.trans hk'.symm) this
          · exact h.symm
          · have := h2 j' j (by simpa using l2) (by simpa using l1) h
            simp only [List.getElem_map, Array.getElem_toList] at this
            rw [e1, e2] at this
            exact absurd (hk'.trans hk.symm) this
        subst this
        exact h3 a
    exact kk _ _ (hf.skip _) (hw.setobj (fun F hp => hp.1) (fun F hp => ⟨hp.1, _, _, (heap_set hb).1, g1, by rw [hput]; exact g2⟩)))
/-- A map, all of it known. -/
def mapFix (b : Nat) (es : Array MapEntry) (clock : Nat) : HP where
  p w F := F b ∧ w.heap[b]? = some (.map es clock)
  st := fun h _ ⟨hb, h1⟩ => ⟨hb, (h b hb (Array.getElem?_eq_some_iff.1 h1).1).trans h1⟩
  up := fun h ⟨hb, k⟩ => ⟨h b hb, k⟩
theorem RW.lookupFix [DecidableEq κ] [T : Ty P t (.map kt et) z sz by_] [TE : Ty P et ed ez esz eby] [KR : KeyR P ι kt] (pre : List HP) {r : List HP} {a0 : α} (hm : es.toList.map (fun e => (e.key, e.val)) = D.map (fun x => (ι x.1, υ x.2))) (hs : Stamped es clock) (hz : ez = υ a0) (hx : ev G x = some (.map (some b))) (hy : ev G y = some (ι k)) (hN : Nat.blt dst E.N = true)
    (kk : RW P E ops Q rest ((dst, υ ((getM D k).getD a0)) :: G) (pre ++ mapFix b es clock :: r)) : RW P E ops Q (⟨some dst, .lookup t x y false, ty, pos, af, none⟩ :: rest) G (pre ++ mapFix b es clock :: r) :=
  RW.val hN (fun a w hf hw => by
    obtain ⟨F, hp, _⟩ := hw.get
    simp [execOp, hf.eval hx, hf.eval hy, run_lookup_R hz ⟨es, clock, hp.2, hs, hm⟩ k false, Result.andThen]) kk
theorem RW.lookupEnt [DecidableEq κ] [T : Ty P t (.map kt et) z sz by_] [TE : Ty P et ed ez esz eby] [KR : KeyR P ι kt] (pre : List HP) {r : List HP} {a0 : α} {k' : κ} {s : Int} (hz : ez = υ a0) (hx : ev G x = some (.map (some b))) (hy : ev G y = some (ι k)) (hN : Nat.blt dst E.N = true)
    (kk : RW P E ops Q rest ((dst, υ ((getM D k).getD a0)) :: G) (pre ++ mapEnt ι υ kd b D k' s :: r)) : RW P E ops Q (⟨some dst, .lookup t x y false, ty, pos, af, none⟩ :: rest) G (pre ++ mapEnt ι υ kd b D k' s :: r) :=
  RW.val hN (fun a w hf hw => by
    obtain ⟨F, ⟨_, es, clock, _, _, h1, h2, h3, _⟩, _⟩ := hw.get
    simp [execOp, hf.eval hx, hf.eval hy, run_lookup_R hz ⟨es, clock, h1, h2, h3⟩ k false, Result.andThen]) kk
/-- The entry's stamp is told by the map alone. -/
theorem entry_fix [DecidableEq κ] [T : Ty P t (.map kt et) z sz by_] [TE : Ty P et ed ez esz eby] [KR : KeyR P ι kt] {a0 : α} (hm : es.toList.map (fun e => (e.key, e.val)) = D.map (fun x => (ι x.1, υ x.2))) (hs : Stamped es clock) (hz : ez = υ a0) (b : Nat) (k : κ) :
    ∃ st : Int, ∀ w : World, w.heap[b]? = some (.map es clock) → ∃ (es' : Array MapEntry) (clock' j : Nat) (e : MapEntry), (Instr.mapEntry t (.map (some b)) (ι k)).run P w = .ok (.tuple #[υ ((getM D k).getD a0), .int .i64 st]) { w with heap := w.heap.setIfInBounds b (.map es' clock') } ∧
      Stamped es' clock' ∧ es'.toList.map (fun e => (e.key, e.val)) = (putM D k ((getM D k).getD a0)).map (fun x => (ι x.1, υ x.2)) ∧ es'[j]? = some e ∧ e.key = ι k ∧ (e.born : Int) = st := by
  rcases map_findR (P := P) (kt := kt) hm hs k with ⟨h1, h4, h2, h3⟩ | ⟨j, e, u0, h1, hj, hk, hv, h4, h3⟩
  · refine ⟨clock, fun w hb => ⟨es.push { key := ι k, val := υ a0, born := clock }, clock + 1, es.size, { key := ι k, val := υ a0, born := clock }, ?_, stamped_push hs h2, ?_, by simp, rfl, rfl⟩⟩
    · simp [Instr.mapEntry, T.runUnd, Go.MapKept.run_getObj_map hb, KR.check, h1, Go.MapKept.run_setObj_map _ hb, Result.andThen, TE.runZero, hz, h4, goInt]
    · rw [h3, h4, Array.toList_push, List.map_append, List.map_append, hm]; rfl
  · refine ⟨e.born, fun w hb => ⟨es, clock, j, e, ?_, hs, ?_, hj, hk, rfl⟩⟩
    · have hrun : (Instr.mapEntry t (.map (some b)) (ι k)).run P w = .ok (.tuple #[υ ((getM D k).getD a0), .int .i64 e.born]) { w with heap := w.heap.setIfInBounds b (.map (es.modify j fun e => { e with key := ι k }) clock) } := by
        simp [Instr.mapEntry, T.runUnd, Go.MapKept.run_getObj_map hb, KR.check, h1, hj, hk, KR.stays, Go.MapKept.run_setObj_map _ hb, Result.andThen, h4, goInt]
      have hself : (es.modify j fun e => { e with key := ι k }) = es := by
        apply Array.ext_getElem?
        intro i
        rw [Array.getElem?_modify]
        by_cases hij : j = i
        · subst hij
          rw [if_pos rfl, hj]
          simp [← hk]
        · rw [if_neg hij]
      rw [hrun, hself]
    · obtain ⟨_, g2⟩ := map_setR (a := u0) hm hs hj hk
      rw [h4]
      show _ = (putM D k u0).map _
      rw [h3, ← g2]
      congr 1
      apply List.ext_getElem?
      intro i
      rw [Array.getElem?_toList, Array.getElem?_toList, Array.getElem?_modify]
      by_cases hij : j = i
      · subst hij
        rw [if_pos rfl, hj]
        simp [← hk, ← hv]
      · rw [if_neg hij]
theorem RW.mapEntryFix [DecidableEq κ] [T : Ty P t (.map kt et) z sz by_] [TE : Ty P et ed ez esz eby] [KR : KeyR P ι kt] (pre : List HP) {r : List HP} {a0 : α} {st : Int}
    (hst : ∀ w : World, w.heap[b]? = some (.map es clock) → ∃ (es' : Array MapEntry) (clock' j : Nat) (e : MapEntry), (Instr.mapEntry t (.map (some b)) (ι k)).run P w = .ok (.tuple #[υ ((getM D k).getD a0), .int .i64 st]) { w with heap := w.heap.setIfInBounds b (.map es' clock') } ∧
      Stamped es' clock' ∧ es'.toList.map (fun e => (e.key, e.val)) = (putM D k ((getM D k).getD a0)).map (fun x => (ι x.1, υ x.2)) ∧ es'[j]? = some e ∧ e.key = ι k ∧ (e.born : Int) = st)
    (hx : ev G x = some (.map (some b))) (hy : ev G y = some (ι k)) (hN : Nat.blt dst E.N = true)
    (kk : RW P E ops Q rest ((dst, .tuple #[υ ((getM D k).getD a0), .int .i64 st]) :: G) (pre ++ mapEnt ι υ kd b (putM D k ((getM D k).getD a0)) k st :: r)) : RW P E ops Q (⟨some dst, .mapEntry t x y, ty, pos, af, none⟩ :: rest) G (pre ++ mapFix b es clock :: r) :=
  RW.step rfl (fun f w hf hw => by
    obtain ⟨F, ⟨_, hb⟩, _⟩ := hw.get
    obtain ⟨es', clock', j, e, hr, h1, h2, h3, h4, h5⟩ := hst w hb
    have hrun : (execOp f.eval ⟨some dst, .mapEntry t x y, ty, pos, af, none⟩).run P w = .ok (.value (.tuple #[υ ((getM D k).getD a0), .int .i64 st])) { w with heap := w.heap.setIfInBounds b (.map es' clock') } := by
      simp [execOp, hf.eval hx, hf.eval hy, hr, Result.andThen]
    rw [hrun]
    exact kk _ _ (hf.put hN _) (hw.setobj (fun F hp => hp.1) (fun F hp => ⟨hp.1, es', clock', j, e, (heap_set hb).1, h1, h2, h3, h4, h5⟩)))
end
end Go.Proofs.Ytkfmlekomfnleaa
