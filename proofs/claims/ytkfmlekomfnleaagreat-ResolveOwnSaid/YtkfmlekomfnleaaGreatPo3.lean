/- Parts of the proof: The calculus, eleventh part: maps of one's own. · The calculus, thirteenth part: calls that unwind with an error, chained. · The calculus: the plain rules under short names, their side conditions filled in. · lemmas · Names and variables: symbols.IsName, symbols.IsVar, by the calculus. Conditions: none. -/
import Derived.MapKept
import Derived.Test.YtkfmlekomfnleaaGreatProg
import Derived.KernelRfl
import Derived.Laws.RangeString
import Derived.Test.YtkfmlekomfnleaaGreatPo2
/- The calculus, eleventh part: maps of one's own. Conditions: none; everything holds over any program. -/
set_option linter.unusedVariables false
set_option linter.unusedSimpArgs false
namespace Go.Proofs.YtkfmlekomfnleaaGreat
open Go Go.RowKit Go.MapKept

/-- Keys of a kind, as values. -/
class KeyOK {κ : Type} (ι : κ → Value) (d : TypeDesc) : Prop where
  inj : ∀ a b, ι a = ι b → a = b
  isKey : ∀ a, IsKey d (ι a)
instance key_string : KeyOK Value.string .string := ⟨fun a b h => by injection h, fun a => trivial⟩
instance key_int (k : IntKind) : KeyOK (Value.int k) (.int k) := ⟨fun a b h => by injection h, fun a => rfl⟩
section
variable {κ α : Type} [DecidableEq κ]
def getM : List (κ × α) → κ → Option α
  | [], _ => none
  | (k', v) :: r, k => if k' = k then some v else getM r k
def putM : List (κ × α) → κ → α → List (κ × α)
  | [], k, v => [(k, v)]
  | (k', v') :: r, k, v => if k' = k then (k, v) :: r else (k', v') :: putM r k v
theorem getM_none {D : List (κ × α)} {k : κ} (h : ∀ x ∈ D, x.1 ≠ k) : getM D k = none := by
  induction D with
  | nil => rfl
  | cons x D ih =>
    rw [getM, if_neg (h x (by simp))]
    exact ih fun y hy => h y (by simp [hy])
theorem putM_none {D : List (κ × α)} {k : κ} (h : ∀ x ∈ D, x.1 ≠ k) (v : α) : putM D k v = D ++ [(k, v)] := by
  induction D with
  | nil => rfl
  | cons x D ih =>
    rw [putM, if_neg (h x (by simp)), ih fun y hy => h y (by simp [hy])]
    rfl
theorem getM_at {D : List (κ × α)} {k : κ} {u : α} : ∀ {j : Nat}, (D.map (·.1)).Nodup → D[j]? = some (k, u) → getM D k = some u ∧ ∀ v, putM D k v = D.set j (k, v) := by
  induction D with
  | nil => intro j _ h; simp at h
  | cons x D ih =>
    intro j hn hj
    rw [List.map_cons, List.nodup_cons] at hn
    cases j with
    | zero =>
      simp only [List.getElem?_cons_zero, Option.some.injEq] at hj
      subst hj
      exact ⟨by rw [getM, if_pos rfl], fun v => by rw [putM, if_pos rfl]; rfl⟩
    | succ j =>
      simp only [List.getElem?_cons_succ] at hj
      have hne : ¬ x.1 = k := fun he => hn.1 (List.mem_map.2 ⟨_, List.mem_of_getElem? hj, he.symm⟩)
      obtain ⟨h1, h2⟩ := ih hn.2 hj
      exact ⟨by rw [getM, if_neg hne, h1], fun v => by rw [putM, if_neg hne, h2]; rfl⟩
theorem getM_put (D : List (κ × α)) (k k' : κ) (v : α) : getM (putM D k v) k' = if k = k' then some v else getM D k' := by
  induction D with
  | nil => rw [putM, getM]; rfl
  | cons x D ih =>
    rw [putM]
    by_cases h : x.1 = k
    · rw [if_pos h, getM, getM]
      by_cases h2 : k = k'
      · rw [if_pos h2, if_pos h2]
      · rw [if_neg h2, if_neg h2, if_neg (fun e => h2 (h.symm.trans e))]
    · rw [if_neg h, getM, getM, ih]
      by_cases h3 : x.1 = k'
      · rw [if_pos h3, if_pos h3, if_neg (fun e => h (h3.trans e.symm))]
      · rw [if_neg h3, if_neg h3]
end
/-- A map that holds D. -/
def MapAt {κ α : Type} (w : World) (ι : κ → Value) (υ : α → Value) (b : Nat) (D : List (κ × α)) : Prop := ∃ es clock, w.heap[b]? = some (.map es clock) ∧ Stamped es clock ∧ es.toList.map (fun e => (e.key, e.val)) = D.map (fun x => (ι x.1, υ x.2))
theorem MapAt.keeps {κ α : Type} {w w' : World} {ι : κ → Value} {υ : α → Value} {b : Nat} {D : List (κ × α)} {S : Nat → Prop} (h : MapAt w ι υ b D) (k : Keeps S w w') (hS : ¬ S b) : MapAt w' ι υ b D := by
  obtain ⟨es, clock, h1, h2⟩ := h
  exact ⟨es, clock, (k.block b (Array.getElem?_eq_some_iff.1 h1).1 hS).trans h1, h2⟩
/-- A map of one's own that holds D. -/
def mapHP {κ α : Type} (ι : κ → Value) (υ : α → Value) (d : TypeDesc) (b : Nat) (D : List (κ × α)) : HP where
  p w F := F b ∧ MapAt w ι υ b D
  st := fun h _ ⟨hb, es, clock, h1, h2⟩ => ⟨hb, es, clock, (h b hb (Array.getElem?_eq_some_iff.1 h1).1).trans h1, h2⟩
  up := fun h ⟨hb, k⟩ => ⟨h b hb, k⟩
section
variable {κ α : Type} {ι : κ → Value} {υ : α → Value} {d : TypeDesc} {D : List (κ × α)} {es : Array MapEntry} {clock : Nat}
theorem map_keys [KO : KeyOK ι d] (h : es.toList.map (fun e => (e.key, e.val)) = D.map (fun x => (ι x.1, υ x.2))) : ∀ x ∈ es.toList, IsKey d x.key := by
  intro x hx
  have : (x.key, x.val) ∈ D.map (fun x => (ι x.1, υ x.2)) := by rw [← h]; exact List.mem_map.2 ⟨x, hx, rfl⟩
  obtain ⟨y, _, he⟩ := List.mem_map.1 this
  injection he with h1 h2
  rw [← h1]; exact KO.isKey _
theorem map_nodup (h : es.toList.map (fun e => (e.key, e.val)) = D.map (fun x => (ι x.1, υ x.2))) (hs : Stamped es clock) : (D.map (·.1)).Nodup := by
  have h1 : es.toList.map (·.key) = D.map fun x => ι x.1 := by
    have := congrArg (List.map Prod.fst) h
    rw [List.map_map, List.map_map] at this
    exact this
  have h2 := hs.2.2
  rw [h1, show (D.map fun x => ι x.1) = (D.map (·.1)).map ι from (List.map_map ..).symm] at h2
  exact List.Pairwise.of_map ι (fun a b hab he => hab (by rw [he])) h2
/-- What a look for a key comes to. -/
theorem map_find [DecidableEq κ] [KO : KeyOK ι d] (h : es.toList.map (fun e => (e.key, e.val)) = D.map (fun x => (ι x.1, υ x.2))) (hs : Stamped es clock) (k : κ) :
    (Instr.findNow d (ι k) es.toList 0 = some none ∧ getM D k = none ∧ (∀ x ∈ es.toList, x.key ≠ ι k) ∧ ∀ v, putM D k v = D ++ [(k, v)]) ∨
    ∃ j e u, Instr.findNow d (ι k) es.toList 0 = some (some (j, υ u)) ∧ es[j]? = some e ∧ e.key = ι k ∧ e.val = υ u ∧ getM D k = some u ∧ ∀ v, putM D k v = D.set j (k, v) := by
  rcases findNow_spec (KO.isKey k) es.toList 0 (map_keys h) with ⟨h1, h2⟩ | ⟨j, e, h1, h2, h3⟩
  · have hn : ∀ x ∈ D, x.1 ≠ k := fun x hx he => by
      have : (ι x.1, υ x.2) ∈ es.toList.map (fun e => (e.key, e.val)) := by rw [h]; exact List.mem_map.2 ⟨x, hx, rfl⟩
      obtain ⟨y, hy, he'⟩ := List.mem_map.1 this
      injection he' with h4 h5
      exact h2 y hy (by rw [h4, he])
    exact .inl ⟨h1, getM_none hn, h2, fun v => putM_none hn v⟩
  · have hj : (D.map (fun x => (ι x.1, υ x.2)))[j]? = some (e.key, e.val) := by rw [← h, List.getElem?_map, h2]; rfl
    rw [List.getElem?_map] at hj
    cases hd : D[j]? with
    | none => rw [hd] at hj; cases hj
    | some x =>
      rw [hd] at hj
      simp only [Option.map_some, Option.some.injEq, Prod.mk.injEq] at hj
      have hk : x.1 = k := KO.inj _ _ (hj.1.trans h3)
      obtain ⟨x1, x2⟩ := x
      simp only at hk hj
      subst hk
      obtain ⟨g1, g2⟩ := getM_at (map_nodup h hs) hd
      rw [Nat.zero_add, ← hj.2] at h1
      exact .inr ⟨j, e, x2, h1, by rw [← Array.getElem?_toList]; exact h2, h3, hj.2.symm, g1, g2⟩
end
section
variable {P : Program} {E : Env} {ops : Array Oper} {Q : Pst} {rest : List Oper} {G : List (Nat × Value)} {H : List HP}
variable {dst : Nat} {ty : TypeId} {pos : String} {af : Array Edge} {t kt et : TypeId} {kd ed : TypeDesc} {z kz ez v : Value} {sz by_ ksz kby esz eby : Nat} {x y u : Operand}
variable {κ α : Type} {ι : κ → Value} {υ : α → Value} {D : List (κ × α)} {b : Nat} {k : κ}
theorem run_lookup_own [DecidableEq κ] [T : Ty P t (.map kt et) z sz by_] [TK : Ty P kt kd kz ksz kby] [TE : Ty P et ed ez esz eby] [KO : KeyOK ι kd] {w : World} {a0 : α} (hz : ez = υ a0) (h : MapAt w ι υ b D) (k : κ) (ok : Bool) :
    (Instr.lookup t (.map (some b)) (ι k) ok).run P w = .ok (if ok then .tuple #[υ ((getM D k).getD a0), .bool (getM D k).isSome] else υ ((getM D k).getD a0)) w := by
  obtain ⟨es, clock, hb, hs, hm⟩ := h
  rcases map_find (KO := KO) hm hs k with ⟨h1, h2, _, _⟩ | ⟨j, e, a, h1, _, _, _, h2, _⟩
  · cases ok <;> simp [Instr.lookup, T.runUnd, Go.MapKept.run_getObj_map hb, Go.MapKept.run_checkKey TK.und (KO.isKey k), Go.MapKept.run_findKey TK.und h1, TE.runZero, Result.andThen, h2, hz]
  · cases ok <;> simp [Instr.lookup, T.runUnd, Go.MapKept.run_getObj_map hb, Go.MapKept.run_checkKey TK.und (KO.isKey k), Go.MapKept.run_findKey TK.und h1, Result.andThen, h2]
theorem RW.lookup [DecidableEq κ] [T : Ty P t (.map kt et) z sz by_] [TK : Ty P kt kd kz ksz kby] [TE : Ty P et ed ez esz eby] [KO : KeyOK ι kd] (pre : List HP) {r : List HP} {a0 : α} (hz : ez = υ a0) (hx : ev G x = some (.map (some b))) (hy : ev G y = some (ι k)) (hN : Nat.blt dst E.N = true)
    (kk : RW P E ops Q rest ((dst, υ ((getM D k).getD a0)) :: G) (pre ++ mapHP ι υ kd b D :: r)) : RW P E ops Q (⟨some dst, .lookup t x y false, ty, pos, af, none⟩ :: rest) G (pre ++ mapHP ι υ kd b D :: r) :=
  RW.val hN (fun a w hf hw => by
    obtain ⟨F, hp, _⟩ := hw.get
    simp [execOp, hf.eval hx, hf.eval hy, run_lookup_own hz hp.2 k false, Result.andThen]) kk
theorem RW.lookupOk [DecidableEq κ] [T : Ty P t (.map kt et) z sz by_] [TK : Ty P kt kd kz ksz kby] [TE : Ty P et ed ez esz eby] [KO : KeyOK ι kd] (pre : List HP) {r : List HP} {a0 : α} (hz : ez = υ a0) (hx : ev G x = some (.map (some b))) (hy : ev G y = some (ι k)) (hN : Nat.blt dst E.N = true)
    (kk : RW P E ops Q rest ((dst, .tuple #[υ ((getM D k).getD a0), .bool (getM D k).isSome]) :: G) (pre ++ mapHP ι υ kd b D :: r)) : RW P E ops Q (⟨some dst, .lookup t x y true, ty, pos, af, none⟩ :: rest) G (pre ++ mapHP ι υ kd b D :: r) :=
  RW.val hN (fun a w hf hw => by
    obtain ⟨F, hp, _⟩ := hw.get
    simp [execOp, hf.eval hx, hf.eval hy, run_lookup_own hz hp.2 k true, Result.andThen]) kk
/-- A look into a map that one may read for good. -/
theorem RW.lookup_ro [DecidableEq κ] [T : Ty P t (.map kt et) z sz by_] [TK : Ty P kt kd kz ksz kby] [TE : Ty P et ed ez esz eby] [KO : KeyOK ι kd] {a0 : α} (hz : ez = υ a0) (hm : MapAt E.w0 ι υ b D) (hS : ¬ E.S b) (hx : ev G x = some (.map (some b))) (hy : ev G y = some (ι k)) (hN : Nat.blt dst E.N = true)
    (kk : RW P E ops Q rest ((dst, υ ((getM D k).getD a0)) :: G) H) : RW P E ops Q (⟨some dst, .lookup t x y false, ty, pos, af, none⟩ :: rest) G H :=
  RW.val hN (fun a w hf hw => by
    simp [execOp, hf.eval hx, hf.eval hy, run_lookup_own hz (hm.keeps hw.kp hS) k false, Result.andThen]) kk
theorem RW.lookupOk_ro [DecidableEq κ] [T : Ty P t (.map kt et) z sz by_] [TK : Ty P kt kd kz ksz kby] [TE : Ty P et ed ez esz eby] [KO : KeyOK ι kd] {a0 : α} (hz : ez = υ a0) (hm : MapAt E.w0 ι υ b D) (hS : ¬ E.S b) (hx : ev G x = some (.map (some b))) (hy : ev G y = some (ι k)) (hN : Nat.blt dst E.N = true)
    (kk : RW P E ops Q rest ((dst, .tuple #[υ ((getM D k).getD a0), .bool (getM D k).isSome]) :: G) H) : RW P E ops Q (⟨some dst, .lookup t x y true, ty, pos, af, none⟩ :: rest) G H :=
  RW.val hN (fun a w hf hw => by
    simp [execOp, hf.eval hx, hf.eval hy, run_lookup_own hz (hm.keeps hw.kp hS) k true, Result.andThen]) kk
/-- One object exchanged, of a chunk's own. -/
theorem St.setobj {w0 w : World} {S : Nat → Prop} {pre r : List HP} {c d : HP} (h : St w0 S (pre ++ c :: r) w) {B : Nat} {o : Obj} (hB : ∀ F, c.p w F → F B) (hd : ∀ F, c.p w F → d.p { w with heap := w.heap.setIfInBounds B o } F) : St w0 S (pre ++ d :: r) { w with heap := w.heap.setIfInBounds B o } := by
  obtain ⟨F, hF, hc, hr⟩ := Sep.pull h.sep
  have hs : (w.heap.setIfInBounds B o).size = w.heap.size := by simp
  have hne : ∀ i, i ≠ B → (w.heap.setIfInBounds B o)[i]? = w.heap[i]? := fun i hi => by simp [Ne.symm hi]
  refine ⟨h.kp.trans (S2 := fun i => i = B) ⟨rfl, rfl, rfl, by show _ ≤ (w.heap.setIfInBounds B o).size; rw [hs]; exact Nat.le_refl _, fun i _ hn => hne i hn⟩ (fun i hi => hi ▸ (hF B (hB F hc)).1), Sep.push ⟨F, fun b hb => ⟨(hF b hb).1, by show _ < (w.heap.setIfInBounds B o).size; rw [hs]; exact (hF b hb).2⟩, hd F hc, ?_⟩⟩
  exact Sep.keep (fun i hi _ => hne i (fun e => hi.2 (e ▸ hB F hc))) (by show _ ≤ (w.heap.setIfInBounds B o).size; rw [hs]; exact Nat.le_refl _) hr
theorem RW.makeMap [T : Ty P t (.map kt et) z sz by_] (ι : κ → Value) (υ : α → Value) (kd : TypeDesc) {res : Option Operand} (hres : ∀ o, res = some o → ∃ n : Int, ev G o = some (.int .i64 n)) (hN : Nat.blt dst E.N = true)
    (kk : ∀ b, RW P E ops Q rest ((dst, .map (some b)) :: G) (mapHP ι υ kd b ([] : List (κ × α)) :: H)) : RW P E ops Q (⟨some dst, .makeMap t res, ty, pos, af, none⟩ :: rest) G H :=
  RW.step rfl (fun a w hf hw => by
    have hrun : (execOp a.eval ⟨some dst, .makeMap t res, ty, pos, af, none⟩).run P w = .ok (.value (.map (some w.heap.size))) (w.alloc (.map #[] 0)) := by
      cases res with
      | none => simp [execOp, Instr.makeMap, newObj, Result.andThen]; rfl
      | some o =>
        obtain ⟨n, hn⟩ := hres o rfl
        simp [execOp, Instr.makeMap, newObj, hf.eval hn, T.runUnd, asInt, asIntOf, Result.andThen]; rfl
    rw [hrun]
    refine kk w.heap.size _ _ (hf.put hN _) (hw.fresh (Keeps.alloc _ _ _) ⟨⟨Nat.le_refl _, ?_⟩, #[], 0, ?_, stamped_empty 0, rfl⟩)
    · show _ < (w.heap.push _).size; simp
    · exact (heap_alloc w _).1)
theorem map_set {es : Array MapEntry} {j : Nat} {e : MapEntry} {clock : Nat} {kd : TypeDesc} [KO : KeyOK ι kd] {a : α} (hm : es.toList.map (fun e => (e.key, e.val)) = D.map (fun x => (ι x.1, υ x.2))) (hs : Stamped es clock) (hj : es[j]? = some e) (hk : e.key = ι k) :
    Stamped (es.modify j fun e => { e with key := ι k, val := υ a }) clock ∧ (es.modify j fun e => { e with key := ι k, val := υ a }).toList.map (fun e => (e.key, e.val)) = (D.set j (k, a)).map (fun x => (ι x.1, υ x.2)) := by
  refine ⟨stamped_modify hs _ _ (fun _ _ => rfl) (fun e' _ he' => by rw [hj] at he'; cases he'; exact hk.symm), ?_⟩
  rw [List.map_set, ← hm]
  apply List.ext_getElem?
  intro i
  simp only [List.getElem?_map, Array.getElem?_toList, Array.getElem?_modify, List.getElem?_set, List.length_map, Array.length_toList]
  by_cases hij : j = i
  · subst hij
    have hlt := (Array.getElem?_eq_some_iff.1 hj).1
    simp [hlt]
  · simp [hij]
theorem RW.mapUpdate [DecidableEq κ] [T : Ty P t (.map kt et) z sz by_] [TK : Ty P kt kd kz ksz kby] [KO : KeyOK ι kd] (pre : List HP) {r : List HP} {a : α} {dst : Option Nat} (hdst : dst = none) (hx : ev G x = some (.map (some b))) (hy : ev G y = some (ι k)) (hu : ev G u = some (υ a))
    (kk : RW P E ops Q rest G (pre ++ mapHP ι υ kd b (putM D k a) :: r)) : RW P E ops Q (⟨dst, .mapUpdate t x y u, ty, pos, af, none⟩ :: rest) G (pre ++ mapHP ι υ kd b D :: r) := by
  subst hdst
  exact RW.step rfl (fun f w hf hw => by
    obtain ⟨F, ⟨_, es, clock, hb, hs, hm⟩, _⟩ := hw.get
    rcases map_find (KO := KO) hm hs k with ⟨h1, _, h2, h3⟩ | ⟨j, e, u0, h1, hj, hk, _, _, h3⟩
    · have hrun : (execOp f.eval ⟨none, .mapUpdate t x y u, ty, pos, af, none⟩).run P w = .ok .skip { w with heap := w.heap.setIfInBounds b (.map (es.push { key := ι k, val := υ a, born := clock }) (clock + 1)) } := by
        simp [execOp, hf.eval hx, hf.eval hy, hf.eval hu, Instr.mapUpdate, T.runUnd, Go.MapKept.run_getObj_map hb, Go.MapKept.run_checkKey TK.und (KO.isKey k), Go.MapKept.run_findKey TK.und h1, Go.MapKept.run_setObj_map _ hb, Result.andThen]
      rw [hrun]
      refine kk _ _ (hf.skip _) (hw.setobj (fun F hp => hp.1) (fun F hp => ⟨hp.1, _, _, (heap_set hb).1, stamped_push hs h2, ?_⟩))
      rw [h3, Array.toList_push, List.map_append, List.map_append, hm]; rfl
    · have hrun : (execOp f.eval ⟨none, .mapUpdate t x y u, ty, pos, af, none⟩).run P w = .ok .skip { w with heap := w.heap.setIfInBounds b (.map (es.modify j fun e => { e with key := ι k, val := υ a }) clock) } := by
        simp [execOp, hf.eval hx, hf.eval hy, hf.eval hu, Instr.mapUpdate, T.runUnd, Go.MapKept.run_getObj_map hb, Go.MapKept.run_checkKey TK.und (KO.isKey k), Go.MapKept.run_findKey TK.und h1, hj, hk, Go.MapKept.run_keyThatStays (KO.isKey k), Go.MapKept.run_setObj_map _ hb, Result.andThen]
      rw [hrun]
      obtain ⟨g1, g2⟩ := map_set (KO := KO) (a := a) hm hs hj hk
      exact kk _ _ (hf.skip _) (hw.setobj (fun F hp => hp.1) (fun F hp => ⟨hp.1, _, _, (heap_set hb).1, g1, by rw [h3]; exact g2⟩)))
/-- A map, and which stamp its entry at k bears. -/
def mapEnt (ι : κ → Value) (υ : α → Value) (d : TypeDesc) (b : Nat) (D : List (κ × α)) (k : κ) (s : Int) : HP where
  p w F := F b ∧ ∃ (es : Array MapEntry) (clock j : Nat) (e : MapEntry), w.heap[b]? = some (.map es clock) ∧ Stamped es clock ∧ es.toList.map (fun e => (e.key, e.val)) = D.map (fun x => (ι x.1, υ x.2)) ∧ es[j]? = some e ∧ e.key = ι k ∧ (e.born : Int) = s
  st := fun h _ ⟨hb, es, clock, j, e, h1, h2⟩ => ⟨hb, es, clock, j, e, (h b hb (Array.getElem?_eq_some_iff.1 h1).1).trans h1, h2⟩
  up := fun h ⟨hb, k⟩ => ⟨h b hb, k⟩
theorem putM_put [DecidableEq κ] (D : List (κ × α)) (k : κ) (u v : α) : putM (putM D k u) k v = putM D k v := by
  induction D with
  | nil => simp [putM]
  | cons x D ih =>
    rw [putM, putM]
    by_cases h : x.1 = k
    · rw [if_pos h, if_pos h, putM, if_pos rfl]
    · rw [if_neg h, if_neg h, putM, if_neg h, ih]
theorem RW.mapEntry [DecidableEq κ] [T : Ty P t (.map kt et) z sz by_] [TK : Ty P kt kd kz ksz kby] [TE : Ty P et ed ez esz eby] [KO : KeyOK ι kd] (pre : List HP) {r : List HP} {a0 : α} (hz : ez = υ a0) (hx : ev G x = some (.map (some b))) (hy : ev G y = some (ι k)) (hN : Nat.blt dst E.N = true)
    (kk : ∀ s, RW P E ops Q rest ((dst, .tuple #[υ ((getM D k).getD a0), .int .i64 s]) :: G) (pre ++ mapEnt ι υ kd b (putM D k ((getM D k).getD a0)) k s :: r)) : RW P E ops Q (⟨some dst, .mapEntry t x y, ty, pos, af, none⟩ :: rest) G (pre ++ mapHP ι υ kd b D :: r) :=
  RW.step rfl (fun f w hf hw => by
    obtain ⟨F, ⟨_, es, clock, hb, hs, hm⟩, _⟩ := hw.get
    rcases map_find (KO := KO) hm hs k with ⟨h1, h4, h2, h3⟩ | ⟨j, e, u0, h1, hj, hk, hv, h4, h3⟩
    · have hrun : (execOp f.eval ⟨some dst, .mapEntry t x y, ty, pos, af, none⟩).run P w = .ok (.value (.tuple #[υ ((getM D k).getD a0), .int .i64 clock])) { w with heap := w.heap.setIfInBounds b (.map (es.push { key := ι k, val := υ a0, born := clock }) (clock + 1)) } := by
        simp [execOp, hf.eval hx, hf.eval hy, Instr.mapEntry, T.runUnd, Go.MapKept.run_getObj_map hb, Go.MapKept.run_checkKey TK.und (KO.isKey k), Go.MapKept.run_findKey TK.und h1, Go.MapKept.run_setObj_map _ hb, Result.andThen, TE.runZero, hz, h4, goInt]
      rw [hrun]
      refine kk _ _ _ (hf.put hN _) (hw.setobj (fun F hp => hp.1) (fun F hp => ⟨hp.1, _, _, es.size, { key := ι k, val := υ a0, born := clock }, (heap_set hb).1, stamped_push hs h2, ?_, by simp, rfl, rfl⟩))
      rw [h3, h4, Array.toList_push, List.map_append, List.map_append, hm]; rfl
    · have hrun : (execOp f.eval ⟨some dst, .mapEntry t x y, ty, pos, af, none⟩).run P w = .ok (.value (.tuple #[υ ((getM D k).getD a0), .int .i64 e.born])) { w with heap := w.heap.setIfInBounds b (.map (es.modify j fun e => { e with key := ι k }) clock) } := by
        simp [execOp, hf.eval hx, hf.eval hy, Instr.mapEntry, T.runUnd, Go.MapKept.run_getObj_map hb, Go.MapKept.run_checkKey TK.und (KO.isKey k), Go.MapKept.run_findKey TK.und h1, hj, hk, Go.MapKept.run_keyThatStays (KO.isKey k), Go.MapKept.run_setObj_map _ hb, Result.andThen, h4, goInt]
      rw [hrun]
      have hself : (es.modify j fun e => { e with key := ι k }) = es := by
        apply Array.ext_getElem?
        intro i
        rw [Array.getElem?_modify]
        by_cases hij : j = i
        · subst hij
          rw [if_pos rfl, hj]
          simp [← hk]
        · rw [if_neg hij]
      rw [hself]
      refine kk _ _ _ (hf.put hN _) (hw.setobj (fun F hp => hp.1) (fun F hp => ⟨hp.1, es, clock, j, e, (heap_set hb).1, hs, ?_, hj, hk, rfl⟩))
      obtain ⟨_, g2⟩ := map_set (KO := KO) (a := u0) hm hs hj hk
      rw [h4]
      show _ = (putM D k u0).map _
      rw [h3, ← g2]
      congr 1
      apply List.ext_getElem?
      intro i
      rw [Array.getElem?_toList, Array.getElem?_toList, Array.getElem?_modify]
      by_cases hij : j = i
      · subst hij
        rw [if_pos rfl, hj]
        simp [← hk, ← hv]
      · rw [if_neg hij])
theorem RW.entryStore [DecidableEq κ] [T : Ty P t (.map kt et) z sz by_] [KO : KeyOK ι kd] (pre : List HP) {r : List HP} {a : α} {s : Int} {dst : Option Nat} (hdst : dst = none) (hx : ev G x = some (.map (some b))) (hy : ev G y = some (.int .i64 s)) (hu : ev G u = some (υ a))
    (kk : RW P E ops Q rest G (pre ++ mapHP ι υ kd b (putM D k a) :: r)) : RW P E ops Q (⟨dst, .entryStore t x y u, ty, pos, af, none⟩ :: rest) G (pre ++ mapEnt ι υ kd b D k s :: r) := by
  subst hdst
  exact RW.step rfl (fun f w hf hw => by
    obtain ⟨F, ⟨_, es, clock, j, e, hb, hs, hm, hj, hk, hborn⟩, _⟩ := hw.get
    have hidx : es.findIdx? (fun e => (e.born : Int) == s) = some j := by
      rw [Array.findIdx?_eq_some_iff_getElem]
      obtain ⟨hlt, he⟩ := Array.getElem?_eq_some_iff.1 hj
      refine ⟨hlt, by rw [he]; simpa using hborn, fun i hi => ?_⟩
      have h2 := hs.2.1
      rw [List.nodup_iff_pairwise_ne, List.pairwise_iff_getElem] at h2
      have h3 := h2 i j (by simp; omega) (by simpa using hlt) hi
      simp only [List.getElem_map, Array.getElem_toList] at h3
      rw [he] at h3
      simp only [beq_iff_eq, ← hborn]
      intro h4
      exact h3 (by omega)
    have hrun : (execOp f.eval ⟨none, .entryStore t x y u, ty, pos, af, none⟩).run P w = .ok .skip { w with heap := w.heap.setIfInBounds b (.map (es.modify j fun e => { e with val := υ a }) clock) } := by
      simp [execOp, hf.eval hx, hf.eval hy, hf.eval hu, Instr.entryStore, Go.MapKept.run_getObj_map hb, asInt, asIntOf, hidx, Go.MapKept.run_setObj_map _ hb, Result.andThen]
    rw [hrun]
    have hself : (es.modify j fun e => { e with val := υ a }) = (es.modify j fun e => { e with key := ι k, val := υ a }) := by
      apply Array.ext_getElem?
      intro i
      rw [Array.getElem?_modify, Array.getElem?_modify]
      by_cases hij : j = i
      · subst hij
        rw [if_pos rfl, if_pos rfl, hj]
        simp [← hk]
      · rw [if_neg hij, if_neg hij]
    rw [hself]
    obtain ⟨g1, g2⟩ := map_set (KO := KO) (a := a) hm hs hj hk
    have hput : putM D k a = D.set j (k, a) := by
      rcases map_find (KO := KO) hm hs k with ⟨_, _, h2, _⟩ | ⟨j', e', u0, _, hj', hk', _, _, h3⟩
      · exact absurd hk (h2 e (by rw [← Array.getElem?_toList] at hj; exact List.mem_of_getElem? hj))
      · have : j' = j := by
          have h2 := hs.2.2
          rw [List.nodup_iff_pairwise_ne, List.pairwise_iff_getElem] at h2
          obtain ⟨l1, e1⟩ := Array.getElem?_eq_some_iff.1 hj
          obtain ⟨l2, e2⟩ := Array.getElem?_eq_some_iff.1 hj'
          rcases Nat.lt_trichotomy j j' with h | h | h
          · have := h2 j j' (by simpa using l1) (by simpa using l2) h
            simp only [List.getElem_map, Array.getElem_toList] at this
            rw [e1, e2] at this
            exact absurd (hk.trans hk'.symm) this
          · exact h.symm
          · have := h2 j' j (by simpa using l2) (by simpa using l1) h
            simp only [List.getElem_map, Array.getElem_toList] at this
            rw [e1, e2] at this
            exact absurd (hk'.trans hk.symm) this
        subst this
        exact h3 a
    exact kk _ _ (hf.skip _) (hw.setobj (fun F hp => hp.1) (fun F hp => ⟨hp.1, _, _, (heap_set hb).1, g1, by rw [hput]; exact g2⟩)))
end
end Go.Proofs.YtkfmlekomfnleaaGreat
/- The calculus, thirteenth part: calls that unwind with an error, chained. Conditions: none; everything holds over any program. -/
set_option linter.unusedVariables false
set_option linter.unusedSimpArgs false
namespace Go.Proofs.YtkfmlekomfnleaaGreat
open Go Go.RowKit

abbrev Ex (α : Type) := Except (Int × Int) α
def bnd {α β : Type} : Ex α → (α → Ex β) → Ex β
  | .ok x, k => k x
  | .error e, _ => .error e
theorem bnd_ok {α β : Type} {sp : Ex α} {k : α → Ex β} {x : α} (h : sp = .ok x) : bnd sp k = k x := by rw [h]; rfl
theorem bnd_err {α β : Type} {sp : Ex α} {k : α → Ex β} {e : Int × Int} (h : sp = .error e) : bnd sp k = .error e := by rw [h]; rfl
theorem bnd_inv {α β : Type} {sp : Ex α} {k : α → Ex β} {y : β} (h : bnd sp k = .ok y) : ∃ x, sp = .ok x ∧ k x = .ok y := by
  cases sp with
  | error e => cases h
  | ok x => exact ⟨x, rfl, h⟩
theorem bnd_assoc {α β γ : Type} (sp : Ex α) (k : α → Ex β) (l : β → Ex γ) : bnd (bnd sp k) l = bnd sp (fun x => bnd (k x) l) := by cases sp <;> rfl
def evF (er : Int × Int) : Value := .iface 108 (.agg #[.int .i64 er.1, .int .i64 er.2])
/-- How a function of that answer ends. -/
def XP {α β : Type} (w : World) (F : Nat → Prop) (SP : Ex α) (V : α → β → Value) (c : α → β → List HP) (e : Ending) (w' : World) : Prop :=
  match SP with
  | .ok x => ∃ y, e = .returned (V x y) ∧ St w F (c x y) w'
  | .error er => e = .panicked [{ v := evF er, recovered := false }] ∧ St w F [] w'
theorem XP.ok {α β : Type} {w w' : World} {F : Nat → Prop} {SP : Ex α} {V : α → β → Value} {c : α → β → List HP} {x : α} (y : β) (h : SP = .ok x) (hs : St w F (c x y) w') : XP w F SP V c (.returned (V x y)) w' := by
  subst h; exact ⟨y, rfl, hs⟩
theorem XP.err {α β : Type} {w w' : World} {F : Nat → Prop} {SP : Ex α} {V : α → β → Value} {c : α → β → List HP} {er : Int × Int} (h : SP = .error er) {H : List HP} (hs : St w F H w') : XP w F SP V c (.panicked [{ v := evF er, recovered := false }]) w' := by
  subst h; exact ⟨rfl, hs.kp, trivial⟩
/-- A call that hands back what SP says, or unwinds with the error it says. -/
def RetE (P : Program) (f : FuncId) (args : List Value) (w : World) (F : Nat → Prop) {α β : Type} (SP : Ex α) (V : α → β → Value) (c : α → β → List HP) : Prop := Calls P f args.toArray w (XP w F SP V c)
abbrev RetE0 (P : Program) (f : FuncId) (args : List Value) (w : World) {α : Type} (SP : Ex α) (V : α → Value) : Prop := RetE P f args w No SP (fun x (_ : Unit) => V x) (fun _ _ => [])
section
variable {P : Program} {E : Env} {ops : Array Oper} {Q : Pst} {rest : List Oper} {G : List (Nat × Value)} {H : List HP}
variable {dst : Nat} {ty : TypeId} {pos : String} {af : Array Edge}
/-- A call that may unwind and turns nothing. -/
theorem RW.callE0 {fn : Func} {l : List Operand} {vs : List Value} {at_ : Array TypeId} {f : FuncId} {α γ δ : Type} {SP : Ex γ} {V' : γ → δ → Value} {c' : γ → δ → List HP} {sp : Ex α} {k : α → Ex γ} {V : α → Value} (hSP : SP = bnd sp k)
    (hcall : ∀ args w, (callFunc f args).run P w = .ok (.enter f args) w) (hl : evs G l = some vs)
    (hc : ∀ w, St E.w0 E.S H w → RetE0 P f vs w sp V) (hQ : Q.pan = PanP P fn (XP E.w0 E.S SP V' c')) (hds : E.ds = []) (hN : Nat.blt dst E.N = true)
    (kk : ∀ x, sp = .ok x → SP = k x → RW P E ops Q rest ((dst, V x) :: G) H) : RW P E ops Q (⟨some dst, .call ⟨.value (.func f), l.toArray, at_⟩, ty, pos, af, none⟩ :: rest) G H :=
  RW.call_gen hcall hl (fun a w hf hw => (hc w hw).mono (by
    intro e w' he
    unfold XP at he
    cases sp with
    | error er =>
      obtain ⟨rfl, hx⟩ := he
      show Q.pan _ a w'
      rw [hQ]
      exact ⟨⟨by rw [hf.defers, hds], XP.err (hSP.trans rfl) (hw.quiet hx.kp)⟩⟩
    | ok x =>
      obtain ⟨_, rfl, hx⟩ := he
      exact kk x rfl hSP _ _ (hf.put hN _) (hw.quiet hx.kp)))
/-- A call that may unwind, and turns the chunks C. -/
theorem RW.callE {fn : Func} {l : List Operand} {vs : List Value} {at_ : Array TypeId} {f : FuncId} {α β γ δ : Type} {SP : Ex γ} {V' : γ → δ → Value} {c' : γ → δ → List HP} {sp : Ex α} {k : α → Ex γ} {V : α → β → Value} {c : α → β → List HP} (C : List HP) {r : List HP} (hSP : SP = bnd sp k)
    (hcall : ∀ args w, (callFunc f args).run P w = .ok (.enter f args) w) (hl : evs G l = some vs)
    (hc : ∀ w F, St E.w0 E.S (C ++ r) w → (∀ b, F b → E.S b ∨ E.w0.heap.size ≤ b) → Sep C w F → Sep r w (fun b => (E.S b ∨ E.w0.heap.size ≤ b) ∧ ¬ F b) → RetE P f vs w F sp V c) (hQ : Q.pan = PanP P fn (XP E.w0 E.S SP V' c')) (hds : E.ds = []) (hN : Nat.blt dst E.N = true)
    (kk : ∀ x y, sp = .ok x → SP = k x → RW P E ops Q rest ((dst, V x y) :: G) (c x y ++ r)) : RW P E ops Q (⟨some dst, .call ⟨.value (.func f), l.toArray, at_⟩, ty, pos, af, none⟩ :: rest) G (C ++ r) :=
  RW.call_gen hcall hl (fun a w hf hw => by
    obtain ⟨F, hF, h1, h2⟩ := Sep.split hw.sep
    refine (hc w F hw (fun b hb => (hF b hb).1) h1 h2).mono ?_
    intro e w' he
    unfold XP at he
    cases sp with
    | error er =>
      obtain ⟨rfl, hx⟩ := he
      show Q.pan _ a w'
      rw [hQ]
      exact ⟨⟨by rw [hf.defers, hds], XP.err (hSP.trans rfl) (St.turnF hw.kp hF h2 hx)⟩⟩
    | ok x =>
      obtain ⟨y, rfl, hx⟩ := he
      exact kk x y rfl hSP _ _ (hf.put hN _) (St.turnF hw.kp hF h2 hx))
/-- A call that may unwind, turns nothing, and hands out what is new. -/
theorem RW.callEn {fn : Func} {l : List Operand} {vs : List Value} {at_ : Array TypeId} {f : FuncId} {α β γ δ : Type} {SP : Ex γ} {V' : γ → δ → Value} {c' : γ → δ → List HP} {sp : Ex α} {k : α → Ex γ} {V : α → β → Value} {c : α → β → List HP} (hSP : SP = bnd sp k)
    (hcall : ∀ args w, (callFunc f args).run P w = .ok (.enter f args) w) (hl : evs G l = some vs)
    (hc : ∀ w, St E.w0 E.S H w → RetE P f vs w No sp V c) (hQ : Q.pan = PanP P fn (XP E.w0 E.S SP V' c')) (hds : E.ds = []) (hN : Nat.blt dst E.N = true)
    (kk : ∀ x y, sp = .ok x → SP = k x → RW P E ops Q rest ((dst, V x y) :: G) (c x y ++ H)) : RW P E ops Q (⟨some dst, .call ⟨.value (.func f), l.toArray, at_⟩, ty, pos, af, none⟩ :: rest) G H :=
  RW.call_gen hcall hl (fun a w hf hw => (hc w hw).mono (by
    intro e w' he
    unfold XP at he
    cases sp with
    | error er =>
      obtain ⟨rfl, hx⟩ := he
      show Q.pan _ a w'
      rw [hQ]
      exact ⟨⟨by rw [hf.defers, hds], XP.err (hSP.trans rfl) (hw.quiet hx.kp)⟩⟩
    | ok x =>
      obtain ⟨y, rfl, hx⟩ := he
      exact kk x y rfl hSP _ _ (hf.put hN _) (St.turnF (F := No) hw.kp (fun b hb => hb.elim) (Sep.up (fun b hb => ⟨hb, fun k => k.elim⟩) hw.sep) hx)))
end
end Go.Proofs.YtkfmlekomfnleaaGreat
/- The calculus: the plain rules under short names, their side conditions filled in. Conditions: none; everything holds over any program. (Printed by wip/gen_q.py.) -/
set_option linter.unusedVariables false
set_option linter.unusedSimpArgs false
namespace Go.Proofs.YtkfmlekomfnleaaGreat
open Go Go.RowKit

section
variable {P : Program} {E : Env} {ops : Array Oper} {Q : Pst} {rest : List Oper} {G : List (Nat × Value)} {H : List HP}
variable {dst : Nat} {ty : TypeId} {pos : String} {af : Array Edge} {t tx ty' : TypeId} {d d' : TypeDesc} {z z' : Value} {sz sz' by_ by' : Nat} {x y : Operand} {u v : Value} {a b c : Int} {k kk : IntKind} {p q : Bool} {s1 s2 : ByteArray}
theorem Ja {id : Nat} {l : List Oper} {y : Code} (k0 : RW P E l.toArray (Pst.then (y.wp P Q.fn) Q) l G H) : CW P E (.seq (.region id l.toArray false) y) Q G H := CW.seqR k0
theorem Jb {y : Code} {Q2 : Pst} (k0 : CW P E y Q2 G H) : RW P E ops (Pst.then (y.wp P Q2.fn) Q2) [] G H := RW.next k0
theorem Jc (k0 : RW P E ops Q rest ((dst, v) :: G) H) (hx : ev G x = some v := by exact rfl) (hN : Nat.blt dst E.N = true := by exact rfl) : RW P E ops Q (⟨some dst, .move x, ty, pos, af, none⟩ :: rest) G H := RW.move hx hN k0
theorem Jd (k0 : RW P E ops Q rest ((dst, v) :: G) H) (hx : ev G x = some v := by exact rfl) (hN : Nat.blt dst E.N = true := by exact rfl) : RW P E ops Q (⟨some dst, .assign x, ty, pos, af, none⟩ :: rest) G H := RW.assign hx hN k0
theorem Je {s : TypeId} {i off B O : Nat} [F : FA P s i off] (k0 : RW P E ops Q rest ((dst, .pointer (some ⟨B, O + off, none⟩)) :: G) H) (hx : ev G x = some (.pointer (some ⟨B, O, none⟩)) := by exact rfl) (hN : Nat.blt dst E.N = true := by exact rfl) : RW P E ops Q (⟨some dst, .fieldAddr s x i, ty, pos, af, none⟩ :: rest) G H := RW.fieldAddr hx hN k0
theorem Jf {A : Addr} (k0 : RW P E ops Q rest ((dst, .pointer (some A)) :: G) H) (hx : ev G x = some (.pointer (some A)) := by exact rfl) (hN : Nat.blt dst E.N = true := by exact rfl) : RW P E ops Q (⟨some dst, .nilCheck x, ty, pos, af, none⟩ :: rest) G H := RW.nilCheck hx hN k0
theorem Jg {e : TypeId} {A : Option Addr} {n cp : Nat} [T : Ty P t (.slice e) z sz by_] (k0 : RW P E ops Q rest ((dst, .int .i64 n) :: G) H) (hx : ev G x = some (.slice A n cp) := by exact rfl) (hN : Nat.blt dst E.N = true := by exact rfl) : RW P E ops Q (⟨some dst, .call ⟨.builtin .len, #[x], #[t]⟩, ty, pos, af, none⟩ :: rest) G H := RW.len hx hN k0
theorem Jh [T : Ty P t .string z sz by_] (k0 : RW P E ops Q rest ((dst, .int .i64 s1.size) :: G) H) (hx : ev G x = some (.string s1) := by exact rfl) (hN : Nat.blt dst E.N = true := by exact rfl) : RW P E ops Q (⟨some dst, .call ⟨.builtin .len, #[x], #[t]⟩, ty, pos, af, none⟩ :: rest) G H := RW.lenS hx hN k0
theorem Ji (k0 : RW P E ops Q rest ((dst, .bool (decide (a = b))) :: G) H) (hx : ev G x = some (.int k a) := by exact rfl) (hy : ev G y = some (.int k b) := by exact rfl) (hN : Nat.blt dst E.N = true := by exact rfl) : RW P E ops Q (⟨some dst, .binOp .eql t x y ty', ty, pos, af, none⟩ :: rest) G H := RW.eql hx hy hN k0
theorem Jj (k0 : RW P E ops Q rest ((dst, .bool (decide (¬ a = b))) :: G) H) (hx : ev G x = some (.int k a) := by exact rfl) (hy : ev G y = some (.int k b) := by exact rfl) (hN : Nat.blt dst E.N = true := by exact rfl) : RW P E ops Q (⟨some dst, .binOp .neq t x y ty', ty, pos, af, none⟩ :: rest) G H := RW.neq hx hy hN k0
theorem Jk (k0 : RW P E ops Q rest ((dst, .bool (decide (a < b))) :: G) H) (hx : ev G x = some (.int k a) := by exact rfl) (hy : ev G y = some (.int k b) := by exact rfl) (hN : Nat.blt dst E.N = true := by exact rfl) : RW P E ops Q (⟨some dst, .binOp .lss t x y ty', ty, pos, af, none⟩ :: rest) G H := RW.lss hx hy hN k0
theorem Jl (k0 : RW P E ops Q rest ((dst, .bool (decide (a ≤ b))) :: G) H) (hx : ev G x = some (.int k a) := by exact rfl) (hy : ev G y = some (.int k b) := by exact rfl) (hN : Nat.blt dst E.N = true := by exact rfl) : RW P E ops Q (⟨some dst, .binOp .leq t x y ty', ty, pos, af, none⟩ :: rest) G H := RW.leq hx hy hN k0
theorem Jm (k0 : RW P E ops Q rest ((dst, .bool (decide (b < a))) :: G) H) (hx : ev G x = some (.int k a) := by exact rfl) (hy : ev G y = some (.int k b) := by exact rfl) (hN : Nat.blt dst E.N = true := by exact rfl) : RW P E ops Q (⟨some dst, .binOp .gtr t x y ty', ty, pos, af, none⟩ :: rest) G H := RW.gtr hx hy hN k0
theorem Jn (k0 : RW P E ops Q rest ((dst, .bool (decide (b ≤ a))) :: G) H) (hx : ev G x = some (.int k a) := by exact rfl) (hy : ev G y = some (.int k b) := by exact rfl) (hN : Nat.blt dst E.N = true := by exact rfl) : RW P E ops Q (⟨some dst, .binOp .geq t x y ty', ty, pos, af, none⟩ :: rest) G H := RW.geq hx hy hN k0
theorem Jo [T : Ty P t .string z sz by_] (k0 : RW P E ops Q rest ((dst, .bool (decide (s1 = s2))) :: G) H) (hx : ev G x = some (.string s1) := by exact rfl) (hy : ev G y = some (.string s2) := by exact rfl) (hN : Nat.blt dst E.N = true := by exact rfl) : RW P E ops Q (⟨some dst, .binOp .eql t x y ty', ty, pos, af, none⟩ :: rest) G H := RW.eqlS hx hy hN k0
theorem Jp [T : Ty P t .string z sz by_] (k0 : RW P E ops Q rest ((dst, .bool (decide (¬ s1 = s2))) :: G) H) (hx : ev G x = some (.string s1) := by exact rfl) (hy : ev G y = some (.string s2) := by exact rfl) (hN : Nat.blt dst E.N = true := by exact rfl) : RW P E ops Q (⟨some dst, .binOp .neq t x y ty', ty, pos, af, none⟩ :: rest) G H := RW.neqS hx hy hN k0
theorem Jq [T : Ty P t .bool z sz by_] (k0 : RW P E ops Q rest ((dst, .bool (decide (p = q))) :: G) H) (hx : ev G x = some (.bool p) := by exact rfl) (hy : ev G y = some (.bool q) := by exact rfl) (hN : Nat.blt dst E.N = true := by exact rfl) : RW P E ops Q (⟨some dst, .binOp .eql t x y ty', ty, pos, af, none⟩ :: rest) G H := RW.eqlB hx hy hN k0
theorem Jr [T : Ty P t .bool z sz by_] (k0 : RW P E ops Q rest ((dst, .bool (decide (¬ p = q))) :: G) H) (hx : ev G x = some (.bool p) := by exact rfl) (hy : ev G y = some (.bool q) := by exact rfl) (hN : Nat.blt dst E.N = true := by exact rfl) : RW P E ops Q (⟨some dst, .binOp .neq t x y ty', ty, pos, af, none⟩ :: rest) G H := RW.neqB hx hy hN k0
theorem Js (k0 : RW P E ops Q rest ((dst, .bool (!p)) :: G) H) (hx : ev G x = some (.bool p) := by exact rfl) (hN : Nat.blt dst E.N = true := by exact rfl) : RW P E ops Q (⟨some dst, .unOp .not t x, ty, pos, af, none⟩ :: rest) G H := RW.not hx hN k0
theorem Jt {vs : List Value} {i : Nat} (k0 : RW P E ops Q rest ((dst, v) :: G) H) (hx : ev G x = some (.tuple vs.toArray) := by exact rfl) (hi : vs[i]? = some v := by exact rfl) (hN : Nat.blt dst E.N = true := by exact rfl) : RW P E ops Q (⟨some dst, .extract x i, ty, pos, af, none⟩ :: rest) G H := RW.extract hx hi hN k0
theorem Ju {s : TypeId} {i off n : Nat} {l : List Value} [F : FV P s i off n false] (k0 : RW P E ops Q rest ((dst, v) :: G) H) (hx : ev G x = some (.agg l.toArray) := by exact rfl) (hv : l[off]? = some v := by exact rfl) (hN : Nat.blt dst E.N = true := by exact rfl) : RW P E ops Q (⟨some dst, .field s x i, ty, pos, af, none⟩ :: rest) G H := RW.field_one hx hv hN k0
theorem Jv {c : Operand} (k0 : RW P E ops Q rest ((dst, v) :: G) H) (hc : ev G c = some (.bool true) := by exact rfl) (hx : ev G x = some v := by exact rfl) (hN : Nat.blt dst E.N = true := by exact rfl) : RW P E ops Q (⟨some dst, .pick c x y, ty, pos, af, none⟩ :: rest) G H := RW.pick_t hc hx hN k0
theorem Jw {c : Operand} (k0 : RW P E ops Q rest ((dst, v) :: G) H) (hc : ev G c = some (.bool false) := by exact rfl) (hy : ev G y = some v := by exact rfl) (hN : Nat.blt dst E.N = true := by exact rfl) : RW P E ops Q (⟨some dst, .pick c x y, ty, pos, af, none⟩ :: rest) G H := RW.pick_f hc hy hN k0
theorem Jx {f : Fn} {l1 l2 : List Operand} {v1 v2 : List Value} (k0 : RW P E ops Q rest ((dst, .func f v1.toArray v2.toArray) :: G) H) (h1 : evs G l1 = some v1 := by exact rfl) (h2 : evs G l2 = some v2 := by exact rfl) (hN : Nat.blt dst E.N = true := by exact rfl) : RW P E ops Q (⟨some dst, .makeFunc f l1.toArray l2.toArray, ty, pos, af, none⟩ :: rest) G H := RW.makeFunc h1 h2 hN k0
theorem Jy {dst : Option Nat} {op : Op} {j : Nat} {want : Bool} (k0 : RW P E ops Q (⟨dst, op, ty, pos, af, none⟩ :: rest) G H) (hg : gd ops G j want = some true := by exact rfl) : RW P E ops Q (⟨dst, op, ty, pos, af, some (j, want)⟩ :: rest) G H := RW.yes hg k0
theorem Jz {op : Op} {j : Nat} {want : Bool} (k0 : RW P E ops Q rest ((dst, undef) :: G) H) (hg : gd ops G j want = some false := by exact rfl) (hN : Nat.blt dst E.N = true := by exact rfl) : RW P E ops Q (⟨some dst, op, ty, pos, af, some (j, want)⟩ :: rest) G H := RW.no hg hN k0
theorem JA [T : Ty P t d z sz by_] {r : List HP} {B O : Nat} {c : List Value} {te : TypeId} (k0 : RW P E ops Q rest ((dst, v) :: G) ([] ++ blk B c te :: r)) (hx : ev G x = some (.pointer (some ⟨B, O, none⟩)) := by exact rfl) (hv : c[O]? = some v := by exact rfl) (hd : isAggD d = false := by exact rfl) (hN : Nat.blt dst E.N = true := by exact rfl) : RW P E ops Q (⟨some dst, .load t x, ty, pos, af, none⟩ :: rest) G ([] ++ blk B c te :: r) := RW.load_blk [] hx hv hd hN k0
theorem JB {h0_ : HP} [T : Ty P t d z sz by_] {r : List HP} {B O : Nat} {c : List Value} {te : TypeId} (k0 : RW P E ops Q rest ((dst, v) :: G) ([h0_] ++ blk B c te :: r)) (hx : ev G x = some (.pointer (some ⟨B, O, none⟩)) := by exact rfl) (hv : c[O]? = some v := by exact rfl) (hd : isAggD d = false := by exact rfl) (hN : Nat.blt dst E.N = true := by exact rfl) : RW P E ops Q (⟨some dst, .load t x, ty, pos, af, none⟩ :: rest) G ([h0_] ++ blk B c te :: r) := RW.load_blk [h0_] hx hv hd hN k0
theorem JC {h0_ h1_ : HP} [T : Ty P t d z sz by_] {r : List HP} {B O : Nat} {c : List Value} {te : TypeId} (k0 : RW P E ops Q rest ((dst, v) :: G) ([h0_, h1_] ++ blk B c te :: r)) (hx : ev G x = some (.pointer (some ⟨B, O, none⟩)) := by exact rfl) (hv : c[O]? = some v := by exact rfl) (hd : isAggD d = false := by exact rfl) (hN : Nat.blt dst E.N = true := by exact rfl) : RW P E ops Q (⟨some dst, .load t x, ty, pos, af, none⟩ :: rest) G ([h0_, h1_] ++ blk B c te :: r) := RW.load_blk [h0_, h1_] hx hv hd hN k0
theorem JD {h0_ h1_ h2_ : HP} [T : Ty P t d z sz by_] {r : List HP} {B O : Nat} {c : List Value} {te : TypeId} (k0 : RW P E ops Q rest ((dst, v) :: G) ([h0_, h1_, h2_] ++ blk B c te :: r)) (hx : ev G x = some (.pointer (some ⟨B, O, none⟩)) := by exact rfl) (hv : c[O]? = some v := by exact rfl) (hd : isAggD d = false := by exact rfl) (hN : Nat.blt dst E.N = true := by exact rfl) : RW P E ops Q (⟨some dst, .load t x, ty, pos, af, none⟩ :: rest) G ([h0_, h1_, h2_] ++ blk B c te :: r) := RW.load_blk [h0_, h1_, h2_] hx hv hd hN k0
theorem JE [T : Ty P t d z sz by_] {r : List HP} {B : Nat} {c : List Value} {te : TypeId} (k0 : RW P E ops Q rest ((dst, .agg c.toArray) :: G) ([] ++ blk B c te :: r)) (hx : ev G x = some (.pointer (some ⟨B, 0, none⟩)) := by exact rfl) (hs : c.length = sz := by exact rfl) (hd : isAggD d = true := by exact rfl) (hN : Nat.blt dst E.N = true := by exact rfl) : RW P E ops Q (⟨some dst, .load t x, ty, pos, af, none⟩ :: rest) G ([] ++ blk B c te :: r) := RW.load_whole [] hx hs hd hN k0
theorem JF {h0_ : HP} [T : Ty P t d z sz by_] {r : List HP} {B : Nat} {c : List Value} {te : TypeId} (k0 : RW P E ops Q rest ((dst, .agg c.toArray) :: G) ([h0_] ++ blk B c te :: r)) (hx : ev G x = some (.pointer (some ⟨B, 0, none⟩)) := by exact rfl) (hs : c.length = sz := by exact rfl) (hd : isAggD d = true := by exact rfl) (hN : Nat.blt dst E.N = true := by exact rfl) : RW P E ops Q (⟨some dst, .load t x, ty, pos, af, none⟩ :: rest) G ([h0_] ++ blk B c te :: r) := RW.load_whole [h0_] hx hs hd hN k0
theorem JG {h0_ h1_ : HP} [T : Ty P t d z sz by_] {r : List HP} {B : Nat} {c : List Value} {te : TypeId} (k0 : RW P E ops Q rest ((dst, .agg c.toArray) :: G) ([h0_, h1_] ++ blk B c te :: r)) (hx : ev G x = some (.pointer (some ⟨B, 0, none⟩)) := by exact rfl) (hs : c.length = sz := by exact rfl) (hd : isAggD d = true := by exact rfl) (hN : Nat.blt dst E.N = true := by exact rfl) : RW P E ops Q (⟨some dst, .load t x, ty, pos, af, none⟩ :: rest) G ([h0_, h1_] ++ blk B c te :: r) := RW.load_whole [h0_, h1_] hx hs hd hN k0
theorem JH {h0_ h1_ h2_ : HP} [T : Ty P t d z sz by_] {r : List HP} {B : Nat} {c : List Value} {te : TypeId} (k0 : RW P E ops Q rest ((dst, .agg c.toArray) :: G) ([h0_, h1_, h2_] ++ blk B c te :: r)) (hx : ev G x = some (.pointer (some ⟨B, 0, none⟩)) := by exact rfl) (hs : c.length = sz := by exact rfl) (hd : isAggD d = true := by exact rfl) (hN : Nat.blt dst E.N = true := by exact rfl) : RW P E ops Q (⟨some dst, .load t x, ty, pos, af, none⟩ :: rest) G ([h0_, h1_, h2_] ++ blk B c te :: r) := RW.load_whole [h0_, h1_, h2_] hx hs hd hN k0
theorem JI [T : Ty P t d z 3 by_] {r : List HP} {B O : Nat} {c tl : List Value} {v0 v1 v2 : Value} {te : TypeId} (k0 : RW P E ops Q rest ((dst, .agg #[v0, v1, v2]) :: G) ([] ++ blk B c te :: r)) (hx : ev G x = some (.pointer (some ⟨B, O, none⟩)) := by exact rfl) (hv : c.drop O = v0 :: v1 :: v2 :: tl := by exact rfl) (hd : isAggD d = true := by exact rfl) (hN : Nat.blt dst E.N = true := by exact rfl) : RW P E ops Q (⟨some dst, .load t x, ty, pos, af, none⟩ :: rest) G ([] ++ blk B c te :: r) := RW.load_part3 [] hx hv hd hN k0
theorem JJ {h0_ : HP} [T : Ty P t d z 3 by_] {r : List HP} {B O : Nat} {c tl : List Value} {v0 v1 v2 : Value} {te : TypeId} (k0 : RW P E ops Q rest ((dst, .agg #[v0, v1, v2]) :: G) ([h0_] ++ blk B c te :: r)) (hx : ev G x = some (.pointer (some ⟨B, O, none⟩)) := by exact rfl) (hv : c.drop O = v0 :: v1 :: v2 :: tl := by exact rfl) (hd : isAggD d = true := by exact rfl) (hN : Nat.blt dst E.N = true := by exact rfl) : RW P E ops Q (⟨some dst, .load t x, ty, pos, af, none⟩ :: rest) G ([h0_] ++ blk B c te :: r) := RW.load_part3 [h0_] hx hv hd hN k0
theorem JK {h0_ h1_ : HP} [T : Ty P t d z 3 by_] {r : List HP} {B O : Nat} {c tl : List Value} {v0 v1 v2 : Value} {te : TypeId} (k0 : RW P E ops Q rest ((dst, .agg #[v0, v1, v2]) :: G) ([h0_, h1_] ++ blk B c te :: r)) (hx : ev G x = some (.pointer (some ⟨B, O, none⟩)) := by exact rfl) (hv : c.drop O = v0 :: v1 :: v2 :: tl := by exact rfl) (hd : isAggD d = true := by exact rfl) (hN : Nat.blt dst E.N = true := by exact rfl) : RW P E ops Q (⟨some dst, .load t x, ty, pos, af, none⟩ :: rest) G ([h0_, h1_] ++ blk B c te :: r) := RW.load_part3 [h0_, h1_] hx hv hd hN k0
theorem JL {h0_ h1_ h2_ : HP} [T : Ty P t d z 3 by_] {r : List HP} {B O : Nat} {c tl : List Value} {v0 v1 v2 : Value} {te : TypeId} (k0 : RW P E ops Q rest ((dst, .agg #[v0, v1, v2]) :: G) ([h0_, h1_, h2_] ++ blk B c te :: r)) (hx : ev G x = some (.pointer (some ⟨B, O, none⟩)) := by exact rfl) (hv : c.drop O = v0 :: v1 :: v2 :: tl := by exact rfl) (hd : isAggD d = true := by exact rfl) (hN : Nat.blt dst E.N = true := by exact rfl) : RW P E ops Q (⟨some dst, .load t x, ty, pos, af, none⟩ :: rest) G ([h0_, h1_, h2_] ++ blk B c te :: r) := RW.load_part3 [h0_, h1_, h2_] hx hv hd hN k0
theorem JM {y : Code} {Q2 : Pst} (k0 : CW P E y Q2 G H) : CW P E .skip (Pst.then (y.wp P Q2.fn) Q2) G H := CW.skip_next k0
end
end Go.Proofs.YtkfmlekomfnleaaGreat
/- The types of this program, as the calculus asks of them. Closed facts of the translation. -/
namespace Go.Proofs.YtkfmlekomfnleaaGreat
open Go Go.RowKit
instance ty2 : Ty Tryz.prog 2 (.int .i64) (.int .i64 0) 1 8 := ⟨Tryz.underlying2, by kernel_rfl⟩
instance ty3 : Ty Tryz.prog 3 (.int .i64) (.int .i64 0) 1 8 := ⟨Tryz.underlying3, by kernel_rfl⟩
instance ty4 : Ty Tryz.prog 4 (.bool) (.bool false) 1 1 := ⟨Tryz.underlying4, by kernel_rfl⟩
instance ty5 : Ty Tryz.prog 5 (.int .u8) (.int .u8 0) 1 1 := ⟨Tryz.underlying5, by kernel_rfl⟩
instance ty9 : Ty Tryz.prog 9 (.string) (.string ByteArray.empty) 1 16 := ⟨Tryz.underlying9, by kernel_rfl⟩
instance ty12 : Ty Tryz.prog 12 (.int .u64) (.int .u64 0) 1 8 := ⟨Tryz.underlying12, by kernel_rfl⟩
instance ty17 : Ty Tryz.prog 17 (.pointer 318) (.pointer none) 1 8 := ⟨Tryz.underlying17, by kernel_rfl⟩
instance ty20 : Ty Tryz.prog 20 (.interface #[]) (.nilIface) 1 16 := ⟨Tryz.underlying20, by kernel_rfl⟩
instance ty21 : Ty Tryz.prog 21 (.int .i32) (.int .i32 0) 1 4 := ⟨Tryz.underlying21, by kernel_rfl⟩
instance ty22 : Ty Tryz.prog 22 (.slice 9) (.slice none 0 0) 1 24 := ⟨Tryz.underlying22, by kernel_rfl⟩
instance ty23 : Ty Tryz.prog 23 (.slice 158) (.slice none 0 0) 1 24 := ⟨Tryz.underlying23, by kernel_rfl⟩
instance ty24 : Ty Tryz.prog 24 (.slice 151) (.slice none 0 0) 1 24 := ⟨Tryz.underlying24, by kernel_rfl⟩
instance ty25 : Ty Tryz.prog 25 (.slice 22) (.slice none 0 0) 1 24 := ⟨Tryz.underlying25, by kernel_rfl⟩
instance ty26 : Ty Tryz.prog 26 (.slice 161) (.slice none 0 0) 1 24 := ⟨Tryz.underlying26, by kernel_rfl⟩
instance ty27 : Ty Tryz.prog 27 (.slice 120) (.slice none 0 0) 1 24 := ⟨Tryz.underlying27, by kernel_rfl⟩
instance ty28 : Ty Tryz.prog 28 (.slice 164) (.slice none 0 0) 1 24 := ⟨Tryz.underlying28, by kernel_rfl⟩
instance ty29 : Ty Tryz.prog 29 (.slice 166) (.slice none 0 0) 1 24 := ⟨Tryz.underlying29, by kernel_rfl⟩
instance ty30 : Ty Tryz.prog 30 (.struct #[{ name := "Title", type := 9, offset := 0, embedded := false, tag := "", pkgPath := "", byteOffset := 0 }, { name := "Kinds", type := 22, offset := 1, embedded := false, tag := "", pkgPath := "", byteOffset := 16 }, { name := "Members", type := 23, offset := 2, embedded := false, tag := "", pkgPath := "", byteOffset := 40 }, { name := "Preds", type := 24, offset := 3, embedded := false, tag := "", pkgPath := "", byteOffset := 64 }, { name := "Classes", type := 25, offset := 4, embedded := false, tag := "", pkgPath := "", byteOffset := 88 }, { name := "Sources", type := 26, offset := 5, embedded := false, tag := "", pkgPath := "", byteOffset := 112 }, { name := "Rules", type := 27, offset := 6, embedded := false, tag := "", pkgPath := "", byteOffset := 136 }, { name := "Excepts", type := 28, offset := 7, embedded := false, tag := "", pkgPath := "", byteOffset := 160 }, { name := "Totals", type := 29, offset := 8, embedded := false, tag := "", pkgPath := "", byteOffset := 184 }]) (.agg #[.string ByteArray.empty, .slice none 0 0, .slice none 0 0, .slice none 0 0, .slice none 0 0, .slice none 0 0, .slice none 0 0, .slice none 0 0, .slice none 0 0]) 9 208 := ⟨Tryz.underlying30, by kernel_rfl⟩
instance ty31 : Ty Tryz.prog 31 (.struct #[{ name := "Title", type := 9, offset := 0, embedded := false, tag := "", pkgPath := "", byteOffset := 0 }, { name := "Kinds", type := 22, offset := 1, embedded := false, tag := "", pkgPath := "", byteOffset := 16 }, { name := "Members", type := 23, offset := 2, embedded := false, tag := "", pkgPath := "", byteOffset := 40 }, { name := "Preds", type := 24, offset := 3, embedded := false, tag := "", pkgPath := "", byteOffset := 64 }, { name := "Classes", type := 25, offset := 4, embedded := false, tag := "", pkgPath := "", byteOffset := 88 }, { name := "Sources", type := 26, offset := 5, embedded := false, tag := "", pkgPath := "", byteOffset := 112 }, { name := "Rules", type := 27, offset := 6, embedded := false, tag := "", pkgPath := "", byteOffset := 136 }, { name := "Excepts", type := 28, offset := 7, embedded := false, tag := "", pkgPath := "", byteOffset := 160 }, { name := "Totals", type := 29, offset := 8, embedded := false, tag := "", pkgPath := "", byteOffset := 184 }]) (.agg #[.string ByteArray.empty, .slice none 0 0, .slice none 0 0, .slice none 0 0, .slice none 0 0, .slice none 0 0, .slice none 0 0, .slice none 0 0, .slice none 0 0]) 9 208 := ⟨Tryz.underlying31, by kernel_rfl⟩
instance ty33 : Ty Tryz.prog 33 (.int .i64) (.int .i64 0) 1 8 := ⟨Tryz.underlying33, by kernel_rfl⟩
instance ty38 : Ty Tryz.prog 38 (.slice 3) (.slice none 0 0) 1 24 := ⟨Tryz.underlying38, by kernel_rfl⟩
instance ty49 : Ty Tryz.prog 49 (.int .i64) (.int .i64 0) 1 8 := ⟨Tryz.underlying49, by kernel_rfl⟩
instance ty50 : Ty Tryz.prog 50 (.struct #[{ name := "Neg", type := 4, offset := 0, embedded := false, tag := "", pkgPath := "", byteOffset := 0 }, { name := "Pred", type := 9, offset := 1, embedded := false, tag := "", pkgPath := "", byteOffset := 8 }, { name := "Args", type := 22, offset := 2, embedded := false, tag := "", pkgPath := "", byteOffset := 24 }, { name := "HasValue", type := 4, offset := 3, embedded := false, tag := "", pkgPath := "", byteOffset := 48 }, { name := "Value", type := 49, offset := 4, embedded := false, tag := "", pkgPath := "", byteOffset := 56 }]) (.agg #[.bool false, .string ByteArray.empty, .slice none 0 0, .bool false, .int .i64 0]) 5 64 := ⟨Tryz.underlying50, by kernel_rfl⟩
instance ty51 : Ty Tryz.prog 51 (.struct #[{ name := "Neg", type := 4, offset := 0, embedded := false, tag := "", pkgPath := "", byteOffset := 0 }, { name := "Pred", type := 9, offset := 1, embedded := false, tag := "", pkgPath := "", byteOffset := 8 }, { name := "Args", type := 22, offset := 2, embedded := false, tag := "", pkgPath := "", byteOffset := 24 }, { name := "HasValue", type := 4, offset := 3, embedded := false, tag := "", pkgPath := "", byteOffset := 48 }, { name := "Value", type := 49, offset := 4, embedded := false, tag := "", pkgPath := "", byteOffset := 56 }]) (.agg #[.bool false, .string ByteArray.empty, .slice none 0 0, .bool false, .int .i64 0]) 5 64 := ⟨Tryz.underlying51, by kernel_rfl⟩
instance ty53 : Ty Tryz.prog 53 (.struct #[{ name := "Pred", type := 3, offset := 0, embedded := false, tag := "", pkgPath := "", byteOffset := 0 }, { name := "Args", type := 38, offset := 1, embedded := false, tag := "", pkgPath := "", byteOffset := 8 }, { name := "Value", type := 49, offset := 2, embedded := false, tag := "", pkgPath := "", byteOffset := 32 }]) (.agg #[.int .i64 0, .slice none 0 0, .int .i64 0]) 3 40 := ⟨Tryz.underlying53, by kernel_rfl⟩
instance ty54 : Ty Tryz.prog 54 (.struct #[{ name := "Pred", type := 3, offset := 0, embedded := false, tag := "", pkgPath := "", byteOffset := 0 }, { name := "Args", type := 38, offset := 1, embedded := false, tag := "", pkgPath := "", byteOffset := 8 }, { name := "Value", type := 49, offset := 2, embedded := false, tag := "", pkgPath := "", byteOffset := 32 }]) (.agg #[.int .i64 0, .slice none 0 0, .int .i64 0]) 3 40 := ⟨Tryz.underlying54, by kernel_rfl⟩
instance ty55 : Ty Tryz.prog 55 (.struct #[{ name := "Neg", type := 4, offset := 0, embedded := false, tag := "", pkgPath := "", byteOffset := 0 }, { name := "Atom", type := 54, offset := 1, embedded := false, tag := "", pkgPath := "", byteOffset := 8 }, { name := "Guard", type := 3, offset := 4, embedded := false, tag := "", pkgPath := "", byteOffset := 48 }]) (.agg #[.bool false, .int .i64 0, .slice none 0 0, .int .i64 0, .int .i64 0]) 5 56 := ⟨Tryz.underlying55, by kernel_rfl⟩
instance ty56 : Ty Tryz.prog 56 (.struct #[{ name := "Neg", type := 4, offset := 0, embedded := false, tag := "", pkgPath := "", byteOffset := 0 }, { name := "Atom", type := 54, offset := 1, embedded := false, tag := "", pkgPath := "", byteOffset := 8 }, { name := "Guard", type := 3, offset := 4, embedded := false, tag := "", pkgPath := "", byteOffset := 48 }]) (.agg #[.bool false, .int .i64 0, .slice none 0 0, .int .i64 0, .int .i64 0]) 5 56 := ⟨Tryz.underlying56, by kernel_rfl⟩
instance ty64 : Ty Tryz.prog 64 (.slice 214) (.slice none 0 0) 1 24 := ⟨Tryz.underlying64, by kernel_rfl⟩
instance ty65 : Ty Tryz.prog 65 (.slice 38) (.slice none 0 0) 1 24 := ⟨Tryz.underlying65, by kernel_rfl⟩
instance ty66 : Ty Tryz.prog 66 (.slice 218) (.slice none 0 0) 1 24 := ⟨Tryz.underlying66, by kernel_rfl⟩
instance ty67 : Ty Tryz.prog 67 (.slice 221) (.slice none 0 0) 1 24 := ⟨Tryz.underlying67, by kernel_rfl⟩
instance ty68 : Ty Tryz.prog 68 (.slice 149) (.slice none 0 0) 1 24 := ⟨Tryz.underlying68, by kernel_rfl⟩
instance ty69 : Ty Tryz.prog 69 (.slice 250) (.slice none 0 0) 1 24 := ⟨Tryz.underlying69, by kernel_rfl⟩
instance ty70 : Ty Tryz.prog 70 (.slice 226) (.slice none 0 0) 1 24 := ⟨Tryz.underlying70, by kernel_rfl⟩
instance ty71 : Ty Tryz.prog 71 (.slice 256) (.slice none 0 0) 1 24 := ⟨Tryz.underlying71, by kernel_rfl⟩
instance ty72 : Ty Tryz.prog 72 (.slice 258) (.slice none 0 0) 1 24 := ⟨Tryz.underlying72, by kernel_rfl⟩
instance ty73 : Ty Tryz.prog 73 (.slice 240) (.slice none 0 0) 1 24 := ⟨Tryz.underlying73, by kernel_rfl⟩
instance ty74 : Ty Tryz.prog 74 (.slice 262) (.slice none 0 0) 1 24 := ⟨Tryz.underlying74, by kernel_rfl⟩
instance ty75 : Ty Tryz.prog 75 (.slice 246) (.slice none 0 0) 1 24 := ⟨Tryz.underlying75, by kernel_rfl⟩
instance ty76 : Ty Tryz.prog 76 (.slice 230) (.slice none 0 0) 1 24 := ⟨Tryz.underlying76, by kernel_rfl⟩
instance ty77 : Ty Tryz.prog 77 (.slice 244) (.slice none 0 0) 1 24 := ⟨Tryz.underlying77, by kernel_rfl⟩
instance ty78 : Ty Tryz.prog 78 (.slice 93) (.slice none 0 0) 1 24 := ⟨Tryz.underlying78, by kernel_rfl⟩
instance ty79 : Ty Tryz.prog 79 (.slice 23) (.slice none 0 0) 1 24 := ⟨Tryz.underlying79, by kernel_rfl⟩
instance ty80 : Ty Tryz.prog 80 (.slice 24) (.slice none 0 0) 1 24 := ⟨Tryz.underlying80, by kernel_rfl⟩
instance ty81 : Ty Tryz.prog 81 (.slice 26) (.slice none 0 0) 1 24 := ⟨Tryz.underlying81, by kernel_rfl⟩
instance ty82 : Ty Tryz.prog 82 (.slice 27) (.slice none 0 0) 1 24 := ⟨Tryz.underlying82, by kernel_rfl⟩
instance ty83 : Ty Tryz.prog 83 (.slice 117) (.slice none 0 0) 1 24 := ⟨Tryz.underlying83, by kernel_rfl⟩
instance ty84 : Ty Tryz.prog 84 (.slice 140) (.slice none 0 0) 1 24 := ⟨Tryz.underlying84, by kernel_rfl⟩
instance ty85 : Ty Tryz.prog 85 (.slice 28) (.slice none 0 0) 1 24 := ⟨Tryz.underlying85, by kernel_rfl⟩
instance ty86 : Ty Tryz.prog 86 (.slice 29) (.slice none 0 0) 1 24 := ⟨Tryz.underlying86, by kernel_rfl⟩
instance ty87 : Ty Tryz.prog 87 (.struct #[{ name := "listBytes", type := 64, offset := 0, embedded := false, tag := "", pkgPath := "lexprior/lexpriorplain", byteOffset := 0 }, { name := "listInts", type := 65, offset := 1, embedded := false, tag := "", pkgPath := "lexprior/lexpriorplain", byteOffset := 24 }, { name := "listStrings", type := 25, offset := 2, embedded := false, tag := "", pkgPath := "lexprior/lexpriorplain", byteOffset := 48 }, { name := "listMarks", type := 66, offset := 3, embedded := false, tag := "", pkgPath := "lexprior/lexpriorplain", byteOffset := 72 }, { name := "listPairs", type := 67, offset := 4, embedded := false, tag := "", pkgPath := "lexprior/lexpriorplain", byteOffset := 96 }, { name := "listMoney", type := 68, offset := 5, embedded := false, tag := "", pkgPath := "lexprior/lexpriorplain", byteOffset := 120 }, { name := "listSteps", type := 69, offset := 6, embedded := false, tag := "", pkgPath := "lexprior/lexpriorplain", byteOffset := 144 }, { name := "listChoices", type := 70, offset := 7, embedded := false, tag := "", pkgPath := "lexprior/lexpriorplain", byteOffset := 168 }, { name := "listLits", type := 71, offset := 8, embedded := false, tag := "", pkgPath := "lexprior/lexpriorplain", byteOffset := 192 }, { name := "listRules", type := 72, offset := 9, embedded := false, tag := "", pkgPath := "lexprior/lexpriorplain", byteOffset := 216 }, { name := "listTerms", type := 73, offset := 10, embedded := false, tag := "", pkgPath := "lexprior/lexpriorplain", byteOffset := 240 }, { name := "listGuards", type := 74, offset := 11, embedded := false, tag := "", pkgPath := "lexprior/lexpriorplain", byteOffset := 264 }, { name := "listNumbers", type := 75, offset := 12, embedded := false, tag := "", pkgPath := "lexprior/lexpriorplain", byteOffset := 288 }, { name := "listTokens", type := 76, offset := 13, embedded := false, tag := "", pkgPath := "lexprior/lexpriorplain", byteOffset := 312 }, { name := "listAtoms", type := 77, offset := 14, embedded := false, tag := "", pkgPath := "lexprior/lexpriorplain", byteOffset := 336 }, { name := "listKinds", type := 78, offset := 15, embedded := false, tag := "", pkgPath := "lexprior/lexpriorplain", byteOffset := 360 }, { name := "listMembers", type := 79, offset := 16, embedded := false, tag := "", pkgPath := "lexprior/lexpriorplain", byteOffset := 384 }, { name := "listPreds", type := 80, offset := 17, embedded := false, tag := "", pkgPath := "lexprior/lexpriorplain", byteOffset := 408 }, { name := "listSources", type := 81, offset := 18, embedded := false, tag := "", pkgPath := "lexprior/lexpriorplain", byteOffset := 432 }, { name := "listRuleTexts", type := 82, offset := 19, embedded := false, tag := "", pkgPath := "lexprior/lexpriorplain", byteOffset := 456 }, { name := "listPremises", type := 83, offset := 20, embedded := false, tag := "", pkgPath := "lexprior/lexpriorplain", byteOffset := 480 }, { name := "listTermTexts", type := 84, offset := 21, embedded := false, tag := "", pkgPath := "lexprior/lexpriorplain", byteOffset := 504 }, { name := "listExcepts", type := 85, offset := 22, embedded := false, tag := "", pkgPath := "lexprior/lexpriorplain", byteOffset := 528 }, { name := "listTotals", type := 86, offset := 23, embedded := false, tag := "", pkgPath := "lexprior/lexpriorplain", byteOffset := 552 }]) (.agg #[.slice none 0 0, .slice none 0 0, .slice none 0 0, .slice none 0 0, .slice none 0 0, .slice none 0 0, .slice none 0 0, .slice none 0 0, .slice none 0 0, .slice none 0 0, .slice none 0 0, .slice none 0 0, .slice none 0 0, .slice none 0 0, .slice none 0 0, .slice none 0 0, .slice none 0 0, .slice none 0 0, .slice none 0 0, .slice none 0 0, .slice none 0 0, .slice none 0 0, .slice none 0 0, .slice none 0 0]) 24 576 := ⟨Tryz.underlying87, by kernel_rfl⟩
instance ty88 : Ty Tryz.prog 88 (.struct #[{ name := "listBytes", type := 64, offset := 0, embedded := false, tag := "", pkgPath := "lexprior/lexpriorplain", byteOffset := 0 }, { name := "listInts", type := 65, offset := 1, embedded := false, tag := "", pkgPath := "lexprior/lexpriorplain", byteOffset := 24 }, { name := "listStrings", type := 25, offset := 2, embedded := false, tag := "", pkgPath := "lexprior/lexpriorplain", byteOffset := 48 }, { name := "listMarks", type := 66, offset := 3, embedded := false, tag := "", pkgPath := "lexprior/lexpriorplain", byteOffset := 72 }, { name := "listPairs", type := 67, offset := 4, embedded := false, tag := "", pkgPath := "lexprior/lexpriorplain", byteOffset := 96 }, { name := "listMoney", type := 68, offset := 5, embedded := false, tag := "", pkgPath := "lexprior/lexpriorplain", byteOffset := 120 }, { name := "listSteps", type := 69, offset := 6, embedded := false, tag := "", pkgPath := "lexprior/lexpriorplain", byteOffset := 144 }, { name := "listChoices", type := 70, offset := 7, embedded := false, tag := "", pkgPath := "lexprior/lexpriorplain", byteOffset := 168 }, { name := "listLits", type := 71, offset := 8, embedded := false, tag := "", pkgPath := "lexprior/lexpriorplain", byteOffset := 192 }, { name := "listRules", type := 72, offset := 9, embedded := false, tag := "", pkgPath := "lexprior/lexpriorplain", byteOffset := 216 }, { name := "listTerms", type := 73, offset := 10, embedded := false, tag := "", pkgPath := "lexprior/lexpriorplain", byteOffset := 240 }, { name := "listGuards", type := 74, offset := 11, embedded := false, tag := "", pkgPath := "lexprior/lexpriorplain", byteOffset := 264 }, { name := "listNumbers", type := 75, offset := 12, embedded := false, tag := "", pkgPath := "lexprior/lexpriorplain", byteOffset := 288 }, { name := "listTokens", type := 76, offset := 13, embedded := false, tag := "", pkgPath := "lexprior/lexpriorplain", byteOffset := 312 }, { name := "listAtoms", type := 77, offset := 14, embedded := false, tag := "", pkgPath := "lexprior/lexpriorplain", byteOffset := 336 }, { name := "listKinds", type := 78, offset := 15, embedded := false, tag := "", pkgPath := "lexprior/lexpriorplain", byteOffset := 360 }, { name := "listMembers", type := 79, offset := 16, embedded := false, tag := "", pkgPath := "lexprior/lexpriorplain", byteOffset := 384 }, { name := "listPreds", type := 80, offset := 17, embedded := false, tag := "", pkgPath := "lexprior/lexpriorplain", byteOffset := 408 }, { name := "listSources", type := 81, offset := 18, embedded := false, tag := "", pkgPath := "lexprior/lexpriorplain", byteOffset := 432 }, { name := "listRuleTexts", type := 82, offset := 19, embedded := false, tag := "", pkgPath := "lexprior/lexpriorplain", byteOffset := 456 }, { name := "listPremises", type := 83, offset := 20, embedded := false, tag := "", pkgPath := "lexprior/lexpriorplain", byteOffset := 480 }, { name := "listTermTexts", type := 84, offset := 21, embedded := false, tag := "", pkgPath := "lexprior/lexpriorplain", byteOffset := 504 }, { name := "listExcepts", type := 85, offset := 22, embedded := false, tag := "", pkgPath := "lexprior/lexpriorplain", byteOffset := 528 }, { name := "listTotals", type := 86, offset := 23, embedded := false, tag := "", pkgPath := "lexprior/lexpriorplain", byteOffset := 552 }]) (.agg #[.slice none 0 0, .slice none 0 0, .slice none 0 0, .slice none 0 0, .slice none 0 0, .slice none 0 0, .slice none 0 0, .slice none 0 0, .slice none 0 0, .slice none 0 0, .slice none 0 0, .slice none 0 0, .slice none 0 0, .slice none 0 0, .slice none 0 0, .slice none 0 0, .slice none 0 0, .slice none 0 0, .slice none 0 0, .slice none 0 0, .slice none 0 0, .slice none 0 0, .slice none 0 0, .slice none 0 0]) 24 576 := ⟨Tryz.underlying88, by kernel_rfl⟩
instance ty93 : Ty Tryz.prog 93 (.slice 148) (.slice none 0 0) 1 24 := ⟨Tryz.underlying93, by kernel_rfl⟩
instance ty105 : Ty Tryz.prog 105 (.pointer 112) (.pointer none) 1 8 := ⟨Tryz.underlying105, by kernel_rfl⟩
instance ty107 : Ty Tryz.prog 107 (.struct #[{ name := "err", type := 33, offset := 0, embedded := false, tag := "", pkgPath := "lexprior/resolve", byteOffset := 0 }, { name := "at", type := 3, offset := 1, embedded := false, tag := "", pkgPath := "lexprior/resolve", byteOffset := 8 }]) (.agg #[.int .i64 0, .int .i64 0]) 2 16 := ⟨Tryz.underlying107, by kernel_rfl⟩
instance ty108 : Ty Tryz.prog 108 (.struct #[{ name := "err", type := 33, offset := 0, embedded := false, tag := "", pkgPath := "lexprior/resolve", byteOffset := 0 }, { name := "at", type := 3, offset := 1, embedded := false, tag := "", pkgPath := "lexprior/resolve", byteOffset := 8 }]) (.agg #[.int .i64 0, .int .i64 0]) 2 16 := ⟨Tryz.underlying108, by kernel_rfl⟩
instance ty110 : Ty Tryz.prog 110 (.map 9 3) (.map none) 1 8 := ⟨Tryz.underlying110, by kernel_rfl⟩
instance ty111 : Ty Tryz.prog 111 (.struct #[{ name := "s", type := 31, offset := 0, embedded := false, tag := "", pkgPath := "lexprior/resolve", byteOffset := 0 }, { name := "at", type := 3, offset := 9, embedded := false, tag := "", pkgPath := "lexprior/resolve", byteOffset := 208 }, { name := "kinds", type := 110, offset := 10, embedded := false, tag := "", pkgPath := "lexprior/resolve", byteOffset := 216 }, { name := "members", type := 110, offset := 11, embedded := false, tag := "", pkgPath := "lexprior/resolve", byteOffset := 224 }, { name := "preds", type := 110, offset := 12, embedded := false, tag := "", pkgPath := "lexprior/resolve", byteOffset := 232 }, { name := "sources", type := 110, offset := 13, embedded := false, tag := "", pkgPath := "lexprior/resolve", byteOffset := 240 }, { name := "rules", type := 110, offset := 14, embedded := false, tag := "", pkgPath := "lexprior/resolve", byteOffset := 248 }, { name := "totals", type := 110, offset := 15, embedded := false, tag := "", pkgPath := "lexprior/resolve", byteOffset := 256 }]) (.agg #[.string ByteArray.empty, .slice none 0 0, .slice none 0 0, .slice none 0 0, .slice none 0 0, .slice none 0 0, .slice none 0 0, .slice none 0 0, .slice none 0 0, .int .i64 0, .map none, .map none, .map none, .map none, .map none, .map none]) 16 264 := ⟨Tryz.underlying111, by kernel_rfl⟩
instance ty112 : Ty Tryz.prog 112 (.struct #[{ name := "s", type := 31, offset := 0, embedded := false, tag := "", pkgPath := "lexprior/resolve", byteOffset := 0 }, { name := "at", type := 3, offset := 9, embedded := false, tag := "", pkgPath := "lexprior/resolve", byteOffset := 208 }, { name := "kinds", type := 110, offset := 10, embedded := false, tag := "", pkgPath := "lexprior/resolve", byteOffset := 216 }, { name := "members", type := 110, offset := 11, embedded := false, tag := "", pkgPath := "lexprior/resolve", byteOffset := 224 }, { name := "preds", type := 110, offset := 12, embedded := false, tag := "", pkgPath := "lexprior/resolve", byteOffset := 232 }, { name := "sources", type := 110, offset := 13, embedded := false, tag := "", pkgPath := "lexprior/resolve", byteOffset := 240 }, { name := "rules", type := 110, offset := 14, embedded := false, tag := "", pkgPath := "lexprior/resolve", byteOffset := 248 }, { name := "totals", type := 110, offset := 15, embedded := false, tag := "", pkgPath := "lexprior/resolve", byteOffset := 256 }]) (.agg #[.string ByteArray.empty, .slice none 0 0, .slice none 0 0, .slice none 0 0, .slice none 0 0, .slice none 0 0, .slice none 0 0, .slice none 0 0, .slice none 0 0, .int .i64 0, .map none, .map none, .map none, .map none, .map none, .map none]) 16 264 := ⟨Tryz.underlying112, by kernel_rfl⟩
instance ty114 : Ty Tryz.prog 114 (.pointer 123) (.pointer none) 1 8 := ⟨Tryz.underlying114, by kernel_rfl⟩
instance ty116 : Ty Tryz.prog 116 (.int .i64) (.int .i64 0) 1 8 := ⟨Tryz.underlying116, by kernel_rfl⟩
instance ty117 : Ty Tryz.prog 117 (.slice 145) (.slice none 0 0) 1 24 := ⟨Tryz.underlying117, by kernel_rfl⟩
instance ty118 : Ty Tryz.prog 118 (.int .i64) (.int .i64 0) 1 8 := ⟨Tryz.underlying118, by kernel_rfl⟩
instance ty119 : Ty Tryz.prog 119 (.struct #[{ name := "Name", type := 9, offset := 0, embedded := false, tag := "", pkgPath := "", byteOffset := 0 }, { name := "Source", type := 9, offset := 1, embedded := false, tag := "", pkgPath := "", byteOffset := 16 }, { name := "At", type := 116, offset := 2, embedded := false, tag := "", pkgPath := "", byteOffset := 32 }, { name := "Until", type := 116, offset := 3, embedded := false, tag := "", pkgPath := "", byteOffset := 40 }, { name := "Body", type := 117, offset := 4, embedded := false, tag := "", pkgPath := "", byteOffset := 48 }, { name := "Arrow", type := 118, offset := 5, embedded := false, tag := "", pkgPath := "", byteOffset := 72 }, { name := "Head", type := 51, offset := 6, embedded := false, tag := "", pkgPath := "", byteOffset := 80 }]) (.agg #[.string ByteArray.empty, .string ByteArray.empty, .int .i64 0, .int .i64 0, .slice none 0 0, .int .i64 0, .bool false, .string ByteArray.empty, .slice none 0 0, .bool false, .int .i64 0]) 11 144 := ⟨Tryz.underlying119, by kernel_rfl⟩
instance ty120 : Ty Tryz.prog 120 (.struct #[{ name := "Name", type := 9, offset := 0, embedded := false, tag := "", pkgPath := "", byteOffset := 0 }, { name := "Source", type := 9, offset := 1, embedded := false, tag := "", pkgPath := "", byteOffset := 16 }, { name := "At", type := 116, offset := 2, embedded := false, tag := "", pkgPath := "", byteOffset := 32 }, { name := "Until", type := 116, offset := 3, embedded := false, tag := "", pkgPath := "", byteOffset := 40 }, { name := "Body", type := 117, offset := 4, embedded := false, tag := "", pkgPath := "", byteOffset := 48 }, { name := "Arrow", type := 118, offset := 5, embedded := false, tag := "", pkgPath := "", byteOffset := 72 }, { name := "Head", type := 51, offset := 6, embedded := false, tag := "", pkgPath := "", byteOffset := 80 }]) (.agg #[.string ByteArray.empty, .string ByteArray.empty, .int .i64 0, .int .i64 0, .slice none 0 0, .int .i64 0, .bool false, .string ByteArray.empty, .slice none 0 0, .bool false, .int .i64 0]) 11 144 := ⟨Tryz.underlying120, by kernel_rfl⟩
instance ty121 : Ty Tryz.prog 121 (.map 9 9) (.map none) 1 8 := ⟨Tryz.underlying121, by kernel_rfl⟩
instance ty122 : Ty Tryz.prog 122 (.struct #[{ name := "names", type := 22, offset := 0, embedded := false, tag := "", pkgPath := "lexprior/resolve", byteOffset := 0 }, { name := "kinds", type := 121, offset := 1, embedded := false, tag := "", pkgPath := "lexprior/resolve", byteOffset := 24 }, { name := "free", type := 4, offset := 2, embedded := false, tag := "", pkgPath := "lexprior/resolve", byteOffset := 32 }]) (.agg #[.slice none 0 0, .map none, .bool false]) 3 40 := ⟨Tryz.underlying122, by kernel_rfl⟩
instance ty123 : Ty Tryz.prog 123 (.struct #[{ name := "names", type := 22, offset := 0, embedded := false, tag := "", pkgPath := "lexprior/resolve", byteOffset := 0 }, { name := "kinds", type := 121, offset := 1, embedded := false, tag := "", pkgPath := "lexprior/resolve", byteOffset := 24 }, { name := "free", type := 4, offset := 2, embedded := false, tag := "", pkgPath := "lexprior/resolve", byteOffset := 32 }]) (.agg #[.slice none 0 0, .map none, .bool false]) 3 40 := ⟨Tryz.underlying123, by kernel_rfl⟩
instance ty124 : Ty Tryz.prog 124 (.pointer 126) (.pointer none) 1 8 := ⟨Tryz.underlying124, by kernel_rfl⟩
instance ty125 : Ty Tryz.prog 125 (.struct #[{ name := "Names", type := 22, offset := 0, embedded := false, tag := "", pkgPath := "", byteOffset := 0 }, { name := "Kinds", type := 38, offset := 1, embedded := false, tag := "", pkgPath := "", byteOffset := 24 }, { name := "Loose", type := 22, offset := 2, embedded := false, tag := "", pkgPath := "", byteOffset := 48 }]) (.agg #[.slice none 0 0, .slice none 0 0, .slice none 0 0]) 3 72 := ⟨Tryz.underlying125, by kernel_rfl⟩
instance ty126 : Ty Tryz.prog 126 (.struct #[{ name := "Names", type := 22, offset := 0, embedded := false, tag := "", pkgPath := "", byteOffset := 0 }, { name := "Kinds", type := 38, offset := 1, embedded := false, tag := "", pkgPath := "", byteOffset := 24 }, { name := "Loose", type := 22, offset := 2, embedded := false, tag := "", pkgPath := "", byteOffset := 48 }]) (.agg #[.slice none 0 0, .slice none 0 0, .slice none 0 0]) 3 72 := ⟨Tryz.underlying126, by kernel_rfl⟩
instance ty139 : Ty Tryz.prog 139 (.int .i64) (.int .i64 0) 1 8 := ⟨Tryz.underlying139, by kernel_rfl⟩
instance ty140 : Ty Tryz.prog 140 (.slice 207) (.slice none 0 0) 1 24 := ⟨Tryz.underlying140, by kernel_rfl⟩
instance ty141 : Ty Tryz.prog 141 (.int .i64) (.int .i64 0) 1 8 := ⟨Tryz.underlying141, by kernel_rfl⟩
instance ty142 : Ty Tryz.prog 142 (.struct #[{ name := "Left", type := 140, offset := 0, embedded := false, tag := "", pkgPath := "", byteOffset := 0 }, { name := "Op", type := 141, offset := 1, embedded := false, tag := "", pkgPath := "", byteOffset := 24 }, { name := "Right", type := 140, offset := 2, embedded := false, tag := "", pkgPath := "", byteOffset := 32 }]) (.agg #[.slice none 0 0, .int .i64 0, .slice none 0 0]) 3 56 := ⟨Tryz.underlying142, by kernel_rfl⟩
instance ty143 : Ty Tryz.prog 143 (.struct #[{ name := "Left", type := 140, offset := 0, embedded := false, tag := "", pkgPath := "", byteOffset := 0 }, { name := "Op", type := 141, offset := 1, embedded := false, tag := "", pkgPath := "", byteOffset := 24 }, { name := "Right", type := 140, offset := 2, embedded := false, tag := "", pkgPath := "", byteOffset := 32 }]) (.agg #[.slice none 0 0, .int .i64 0, .slice none 0 0]) 3 56 := ⟨Tryz.underlying143, by kernel_rfl⟩
instance ty144 : Ty Tryz.prog 144 (.struct #[{ name := "Kind", type := 139, offset := 0, embedded := false, tag := "", pkgPath := "", byteOffset := 0 }, { name := "Lit", type := 51, offset := 1, embedded := false, tag := "", pkgPath := "", byteOffset := 8 }, { name := "Guard", type := 143, offset := 6, embedded := false, tag := "", pkgPath := "", byteOffset := 72 }, { name := "A", type := 9, offset := 9, embedded := false, tag := "", pkgPath := "", byteOffset := 128 }, { name := "B", type := 9, offset := 10, embedded := false, tag := "", pkgPath := "", byteOffset := 144 }]) (.agg #[.int .i64 0, .bool false, .string ByteArray.empty, .slice none 0 0, .bool false, .int .i64 0, .slice none 0 0, .int .i64 0, .slice none 0 0, .string ByteArray.empty, .string ByteArray.empty]) 11 160 := ⟨Tryz.underlying144, by kernel_rfl⟩
instance ty145 : Ty Tryz.prog 145 (.struct #[{ name := "Kind", type := 139, offset := 0, embedded := false, tag := "", pkgPath := "", byteOffset := 0 }, { name := "Lit", type := 51, offset := 1, embedded := false, tag := "", pkgPath := "", byteOffset := 8 }, { name := "Guard", type := 143, offset := 6, embedded := false, tag := "", pkgPath := "", byteOffset := 72 }, { name := "A", type := 9, offset := 9, embedded := false, tag := "", pkgPath := "", byteOffset := 128 }, { name := "B", type := 9, offset := 10, embedded := false, tag := "", pkgPath := "", byteOffset := 144 }]) (.agg #[.int .i64 0, .bool false, .string ByteArray.empty, .slice none 0 0, .bool false, .int .i64 0, .slice none 0 0, .int .i64 0, .slice none 0 0, .string ByteArray.empty, .string ByteArray.empty]) 11 160 := ⟨Tryz.underlying145, by kernel_rfl⟩
instance ty148 : Ty Tryz.prog 148 (.int .i64) (.int .i64 0) 1 8 := ⟨Tryz.underlying148, by kernel_rfl⟩
instance ty149 : Ty Tryz.prog 149 (.slice 49) (.slice none 0 0) 1 24 := ⟨Tryz.underlying149, by kernel_rfl⟩
instance ty150 : Ty Tryz.prog 150 (.struct #[{ name := "Name", type := 9, offset := 0, embedded := false, tag := "", pkgPath := "", byteOffset := 0 }, { name := "Sort", type := 148, offset := 1, embedded := false, tag := "", pkgPath := "", byteOffset := 16 }, { name := "Kinds", type := 22, offset := 2, embedded := false, tag := "", pkgPath := "", byteOffset := 24 }, { name := "Values", type := 149, offset := 3, embedded := false, tag := "", pkgPath := "", byteOffset := 48 }]) (.agg #[.string ByteArray.empty, .int .i64 0, .slice none 0 0, .slice none 0 0]) 4 72 := ⟨Tryz.underlying150, by kernel_rfl⟩
instance ty151 : Ty Tryz.prog 151 (.struct #[{ name := "Name", type := 9, offset := 0, embedded := false, tag := "", pkgPath := "", byteOffset := 0 }, { name := "Sort", type := 148, offset := 1, embedded := false, tag := "", pkgPath := "", byteOffset := 16 }, { name := "Kinds", type := 22, offset := 2, embedded := false, tag := "", pkgPath := "", byteOffset := 24 }, { name := "Values", type := 149, offset := 3, embedded := false, tag := "", pkgPath := "", byteOffset := 48 }]) (.agg #[.string ByteArray.empty, .int .i64 0, .slice none 0 0, .slice none 0 0]) 4 72 := ⟨Tryz.underlying151, by kernel_rfl⟩
instance ty155 : Ty Tryz.prog 155 (.pointer 88) (.pointer none) 1 8 := ⟨Tryz.underlying155, by kernel_rfl⟩
instance ty157 : Ty Tryz.prog 157 (.struct #[{ name := "Name", type := 9, offset := 0, embedded := false, tag := "", pkgPath := "", byteOffset := 0 }, { name := "Kind", type := 9, offset := 1, embedded := false, tag := "", pkgPath := "", byteOffset := 16 }]) (.agg #[.string ByteArray.empty, .string ByteArray.empty]) 2 32 := ⟨Tryz.underlying157, by kernel_rfl⟩
instance ty158 : Ty Tryz.prog 158 (.struct #[{ name := "Name", type := 9, offset := 0, embedded := false, tag := "", pkgPath := "", byteOffset := 0 }, { name := "Kind", type := 9, offset := 1, embedded := false, tag := "", pkgPath := "", byteOffset := 16 }]) (.agg #[.string ByteArray.empty, .string ByteArray.empty]) 2 32 := ⟨Tryz.underlying158, by kernel_rfl⟩
instance ty160 : Ty Tryz.prog 160 (.struct #[{ name := "Name", type := 9, offset := 0, embedded := false, tag := "", pkgPath := "", byteOffset := 0 }, { name := "Rank", type := 3, offset := 1, embedded := false, tag := "", pkgPath := "", byteOffset := 16 }]) (.agg #[.string ByteArray.empty, .int .i64 0]) 2 24 := ⟨Tryz.underlying160, by kernel_rfl⟩
instance ty161 : Ty Tryz.prog 161 (.struct #[{ name := "Name", type := 9, offset := 0, embedded := false, tag := "", pkgPath := "", byteOffset := 0 }, { name := "Rank", type := 3, offset := 1, embedded := false, tag := "", pkgPath := "", byteOffset := 16 }]) (.agg #[.string ByteArray.empty, .int .i64 0]) 2 24 := ⟨Tryz.underlying161, by kernel_rfl⟩
instance ty163 : Ty Tryz.prog 163 (.struct #[{ name := "Over", type := 9, offset := 0, embedded := false, tag := "", pkgPath := "", byteOffset := 0 }, { name := "Under", type := 9, offset := 1, embedded := false, tag := "", pkgPath := "", byteOffset := 16 }]) (.agg #[.string ByteArray.empty, .string ByteArray.empty]) 2 32 := ⟨Tryz.underlying163, by kernel_rfl⟩
instance ty164 : Ty Tryz.prog 164 (.struct #[{ name := "Over", type := 9, offset := 0, embedded := false, tag := "", pkgPath := "", byteOffset := 0 }, { name := "Under", type := 9, offset := 1, embedded := false, tag := "", pkgPath := "", byteOffset := 16 }]) (.agg #[.string ByteArray.empty, .string ByteArray.empty]) 2 32 := ⟨Tryz.underlying164, by kernel_rfl⟩
instance ty165 : Ty Tryz.prog 165 (.struct #[{ name := "Name", type := 9, offset := 0, embedded := false, tag := "", pkgPath := "", byteOffset := 0 }, { name := "Kind", type := 9, offset := 1, embedded := false, tag := "", pkgPath := "", byteOffset := 16 }, { name := "Preds", type := 22, offset := 2, embedded := false, tag := "", pkgPath := "", byteOffset := 32 }, { name := "HasCap", type := 4, offset := 3, embedded := false, tag := "", pkgPath := "", byteOffset := 56 }, { name := "Cap", type := 49, offset := 4, embedded := false, tag := "", pkgPath := "", byteOffset := 64 }]) (.agg #[.string ByteArray.empty, .string ByteArray.empty, .slice none 0 0, .bool false, .int .i64 0]) 5 72 := ⟨Tryz.underlying165, by kernel_rfl⟩
instance ty166 : Ty Tryz.prog 166 (.struct #[{ name := "Name", type := 9, offset := 0, embedded := false, tag := "", pkgPath := "", byteOffset := 0 }, { name := "Kind", type := 9, offset := 1, embedded := false, tag := "", pkgPath := "", byteOffset := 16 }, { name := "Preds", type := 22, offset := 2, embedded := false, tag := "", pkgPath := "", byteOffset := 32 }, { name := "HasCap", type := 4, offset := 3, embedded := false, tag := "", pkgPath := "", byteOffset := 56 }, { name := "Cap", type := 49, offset := 4, embedded := false, tag := "", pkgPath := "", byteOffset := 64 }]) (.agg #[.string ByteArray.empty, .string ByteArray.empty, .slice none 0 0, .bool false, .int .i64 0]) 5 72 := ⟨Tryz.underlying166, by kernel_rfl⟩
instance ty197 : Ty Tryz.prog 197 (.map 164 3) (.map none) 1 8 := ⟨Tryz.underlying197, by kernel_rfl⟩
instance ty206 : Ty Tryz.prog 206 (.struct #[{ name := "Coef", type := 2, offset := 0, embedded := false, tag := "", pkgPath := "", byteOffset := 0 }, { name := "Pred", type := 9, offset := 1, embedded := false, tag := "", pkgPath := "", byteOffset := 8 }, { name := "Args", type := 22, offset := 2, embedded := false, tag := "", pkgPath := "", byteOffset := 24 }, { name := "Value", type := 49, offset := 3, embedded := false, tag := "", pkgPath := "", byteOffset := 48 }]) (.agg #[.int .i64 0, .string ByteArray.empty, .slice none 0 0, .int .i64 0]) 4 56 := ⟨Tryz.underlying206, by kernel_rfl⟩
instance ty207 : Ty Tryz.prog 207 (.struct #[{ name := "Coef", type := 2, offset := 0, embedded := false, tag := "", pkgPath := "", byteOffset := 0 }, { name := "Pred", type := 9, offset := 1, embedded := false, tag := "", pkgPath := "", byteOffset := 8 }, { name := "Args", type := 22, offset := 2, embedded := false, tag := "", pkgPath := "", byteOffset := 24 }, { name := "Value", type := 49, offset := 3, embedded := false, tag := "", pkgPath := "", byteOffset := 48 }]) (.agg #[.int .i64 0, .string ByteArray.empty, .slice none 0 0, .int .i64 0]) 4 56 := ⟨Tryz.underlying207, by kernel_rfl⟩
instance ty214 : Ty Tryz.prog 214 (.slice 5) (.slice none 0 0) 1 24 := ⟨Tryz.underlying214, by kernel_rfl⟩
instance ty218 : Ty Tryz.prog 218 (.slice 219) (.slice none 0 0) 1 24 := ⟨Tryz.underlying218, by kernel_rfl⟩
instance ty219 : Ty Tryz.prog 219 (.int .u8) (.int .u8 0) 1 1 := ⟨Tryz.underlying219, by kernel_rfl⟩
instance ty221 : Ty Tryz.prog 221 (.slice 223) (.slice none 0 0) 1 24 := ⟨Tryz.underlying221, by kernel_rfl⟩
instance ty222 : Ty Tryz.prog 222 (.struct #[{ name := "A", type := 3, offset := 0, embedded := false, tag := "", pkgPath := "", byteOffset := 0 }, { name := "B", type := 3, offset := 1, embedded := false, tag := "", pkgPath := "", byteOffset := 8 }]) (.agg #[.int .i64 0, .int .i64 0]) 2 16 := ⟨Tryz.underlying222, by kernel_rfl⟩
instance ty223 : Ty Tryz.prog 223 (.struct #[{ name := "A", type := 3, offset := 0, embedded := false, tag := "", pkgPath := "", byteOffset := 0 }, { name := "B", type := 3, offset := 1, embedded := false, tag := "", pkgPath := "", byteOffset := 8 }]) (.agg #[.int .i64 0, .int .i64 0]) 2 16 := ⟨Tryz.underlying223, by kernel_rfl⟩
instance ty226 : Ty Tryz.prog 226 (.slice 228) (.slice none 0 0) 1 24 := ⟨Tryz.underlying226, by kernel_rfl⟩
instance ty227 : Ty Tryz.prog 227 (.struct #[{ name := "Place", type := 3, offset := 0, embedded := false, tag := "", pkgPath := "", byteOffset := 0 }, { name := "Rule", type := 3, offset := 1, embedded := false, tag := "", pkgPath := "", byteOffset := 8 }]) (.agg #[.int .i64 0, .int .i64 0]) 2 16 := ⟨Tryz.underlying227, by kernel_rfl⟩
instance ty228 : Ty Tryz.prog 228 (.struct #[{ name := "Place", type := 3, offset := 0, embedded := false, tag := "", pkgPath := "", byteOffset := 0 }, { name := "Rule", type := 3, offset := 1, embedded := false, tag := "", pkgPath := "", byteOffset := 8 }]) (.agg #[.int .i64 0, .int .i64 0]) 2 16 := ⟨Tryz.underlying228, by kernel_rfl⟩
instance ty230 : Ty Tryz.prog 230 (.slice 233) (.slice none 0 0) 1 24 := ⟨Tryz.underlying230, by kernel_rfl⟩
instance ty231 : Ty Tryz.prog 231 (.int .i64) (.int .i64 0) 1 8 := ⟨Tryz.underlying231, by kernel_rfl⟩
instance ty232 : Ty Tryz.prog 232 (.struct #[{ name := "Kind", type := 231, offset := 0, embedded := false, tag := "", pkgPath := "", byteOffset := 0 }, { name := "Text", type := 9, offset := 1, embedded := false, tag := "", pkgPath := "", byteOffset := 8 }, { name := "At", type := 3, offset := 2, embedded := false, tag := "", pkgPath := "", byteOffset := 24 }]) (.agg #[.int .i64 0, .string ByteArray.empty, .int .i64 0]) 3 32 := ⟨Tryz.underlying232, by kernel_rfl⟩
instance ty233 : Ty Tryz.prog 233 (.struct #[{ name := "Kind", type := 231, offset := 0, embedded := false, tag := "", pkgPath := "", byteOffset := 0 }, { name := "Text", type := 9, offset := 1, embedded := false, tag := "", pkgPath := "", byteOffset := 8 }, { name := "At", type := 3, offset := 2, embedded := false, tag := "", pkgPath := "", byteOffset := 24 }]) (.agg #[.int .i64 0, .string ByteArray.empty, .int .i64 0]) 3 32 := ⟨Tryz.underlying233, by kernel_rfl⟩
instance ty240 : Ty Tryz.prog 240 (.slice 242) (.slice none 0 0) 1 24 := ⟨Tryz.underlying240, by kernel_rfl⟩
instance ty241 : Ty Tryz.prog 241 (.struct #[{ name := "Coef", type := 2, offset := 0, embedded := false, tag := "", pkgPath := "", byteOffset := 0 }, { name := "Atom", type := 54, offset := 1, embedded := false, tag := "", pkgPath := "", byteOffset := 8 }]) (.agg #[.int .i64 0, .int .i64 0, .slice none 0 0, .int .i64 0]) 4 48 := ⟨Tryz.underlying241, by kernel_rfl⟩
instance ty242 : Ty Tryz.prog 242 (.struct #[{ name := "Coef", type := 2, offset := 0, embedded := false, tag := "", pkgPath := "", byteOffset := 0 }, { name := "Atom", type := 54, offset := 1, embedded := false, tag := "", pkgPath := "", byteOffset := 8 }]) (.agg #[.int .i64 0, .int .i64 0, .slice none 0 0, .int .i64 0]) 4 48 := ⟨Tryz.underlying242, by kernel_rfl⟩
instance ty244 : Ty Tryz.prog 244 (.slice 54) (.slice none 0 0) 1 24 := ⟨Tryz.underlying244, by kernel_rfl⟩
instance ty246 : Ty Tryz.prog 246 (.slice 248) (.slice none 0 0) 1 24 := ⟨Tryz.underlying246, by kernel_rfl⟩
instance ty247 : Ty Tryz.prog 247 (.struct #[{ name := "Atom", type := 54, offset := 0, embedded := false, tag := "", pkgPath := "", byteOffset := 0 }, { name := "Value", type := 49, offset := 3, embedded := false, tag := "", pkgPath := "", byteOffset := 40 }]) (.agg #[.int .i64 0, .slice none 0 0, .int .i64 0, .int .i64 0]) 4 48 := ⟨Tryz.underlying247, by kernel_rfl⟩
instance ty248 : Ty Tryz.prog 248 (.struct #[{ name := "Atom", type := 54, offset := 0, embedded := false, tag := "", pkgPath := "", byteOffset := 0 }, { name := "Value", type := 49, offset := 3, embedded := false, tag := "", pkgPath := "", byteOffset := 40 }]) (.agg #[.int .i64 0, .slice none 0 0, .int .i64 0, .int .i64 0]) 4 48 := ⟨Tryz.underlying248, by kernel_rfl⟩
instance ty250 : Ty Tryz.prog 250 (.slice 254) (.slice none 0 0) 1 24 := ⟨Tryz.underlying250, by kernel_rfl⟩
instance ty251 : Ty Tryz.prog 251 (.int .i64) (.int .i64 0) 1 8 := ⟨Tryz.underlying251, by kernel_rfl⟩
instance ty252 : Ty Tryz.prog 252 (.int .i64) (.int .i64 0) 1 8 := ⟨Tryz.underlying252, by kernel_rfl⟩
instance ty253 : Ty Tryz.prog 253 (.struct #[{ name := "Tag", type := 251, offset := 0, embedded := false, tag := "", pkgPath := "", byteOffset := 0 }, { name := "Lit", type := 3, offset := 1, embedded := false, tag := "", pkgPath := "", byteOffset := 8 }, { name := "How", type := 252, offset := 2, embedded := false, tag := "", pkgPath := "", byteOffset := 16 }, { name := "Rule", type := 3, offset := 3, embedded := false, tag := "", pkgPath := "", byteOffset := 24 }, { name := "Choices", type := 226, offset := 4, embedded := false, tag := "", pkgPath := "", byteOffset := 32 }]) (.agg #[.int .i64 0, .int .i64 0, .int .i64 0, .int .i64 0, .slice none 0 0]) 5 56 := ⟨Tryz.underlying253, by kernel_rfl⟩
instance ty254 : Ty Tryz.prog 254 (.struct #[{ name := "Tag", type := 251, offset := 0, embedded := false, tag := "", pkgPath := "", byteOffset := 0 }, { name := "Lit", type := 3, offset := 1, embedded := false, tag := "", pkgPath := "", byteOffset := 8 }, { name := "How", type := 252, offset := 2, embedded := false, tag := "", pkgPath := "", byteOffset := 16 }, { name := "Rule", type := 3, offset := 3, embedded := false, tag := "", pkgPath := "", byteOffset := 24 }, { name := "Choices", type := 226, offset := 4, embedded := false, tag := "", pkgPath := "", byteOffset := 32 }]) (.agg #[.int .i64 0, .int .i64 0, .int .i64 0, .int .i64 0, .slice none 0 0]) 5 56 := ⟨Tryz.underlying254, by kernel_rfl⟩
instance ty256 : Ty Tryz.prog 256 (.slice 56) (.slice none 0 0) 1 24 := ⟨Tryz.underlying256, by kernel_rfl⟩
instance ty258 : Ty Tryz.prog 258 (.slice 260) (.slice none 0 0) 1 24 := ⟨Tryz.underlying258, by kernel_rfl⟩
instance ty259 : Ty Tryz.prog 259 (.struct #[{ name := "Kind", type := 118, offset := 0, embedded := false, tag := "", pkgPath := "", byteOffset := 0 }, { name := "Head", type := 3, offset := 1, embedded := false, tag := "", pkgPath := "", byteOffset := 8 }, { name := "Body", type := 38, offset := 2, embedded := false, tag := "", pkgPath := "", byteOffset := 16 }]) (.agg #[.int .i64 0, .int .i64 0, .slice none 0 0]) 3 40 := ⟨Tryz.underlying259, by kernel_rfl⟩
instance ty260 : Ty Tryz.prog 260 (.struct #[{ name := "Kind", type := 118, offset := 0, embedded := false, tag := "", pkgPath := "", byteOffset := 0 }, { name := "Head", type := 3, offset := 1, embedded := false, tag := "", pkgPath := "", byteOffset := 8 }, { name := "Body", type := 38, offset := 2, embedded := false, tag := "", pkgPath := "", byteOffset := 16 }]) (.agg #[.int .i64 0, .int .i64 0, .slice none 0 0]) 3 40 := ⟨Tryz.underlying260, by kernel_rfl⟩
instance ty262 : Ty Tryz.prog 262 (.slice 264) (.slice none 0 0) 1 24 := ⟨Tryz.underlying262, by kernel_rfl⟩
instance ty263 : Ty Tryz.prog 263 (.struct #[{ name := "Terms", type := 240, offset := 0, embedded := false, tag := "", pkgPath := "", byteOffset := 0 }, { name := "Const", type := 49, offset := 1, embedded := false, tag := "", pkgPath := "", byteOffset := 24 }, { name := "Op", type := 141, offset := 2, embedded := false, tag := "", pkgPath := "", byteOffset := 32 }]) (.agg #[.slice none 0 0, .int .i64 0, .int .i64 0]) 3 40 := ⟨Tryz.underlying263, by kernel_rfl⟩
instance ty264 : Ty Tryz.prog 264 (.struct #[{ name := "Terms", type := 240, offset := 0, embedded := false, tag := "", pkgPath := "", byteOffset := 0 }, { name := "Const", type := 49, offset := 1, embedded := false, tag := "", pkgPath := "", byteOffset := 24 }, { name := "Op", type := 141, offset := 2, embedded := false, tag := "", pkgPath := "", byteOffset := 32 }]) (.agg #[.slice none 0 0, .int .i64 0, .int .i64 0]) 3 40 := ⟨Tryz.underlying264, by kernel_rfl⟩
instance ty272 : Ty Tryz.prog 272 (.map 49 3) (.map none) 1 8 := ⟨Tryz.underlying272, by kernel_rfl⟩
instance ty294 : Ty Tryz.prog 294 (.struct #[{ name := "year", type := 3, offset := 0, embedded := false, tag := "", pkgPath := "lexprior/calendar", byteOffset := 0 }, { name := "month", type := 3, offset := 1, embedded := false, tag := "", pkgPath := "lexprior/calendar", byteOffset := 8 }, { name := "day", type := 3, offset := 2, embedded := false, tag := "", pkgPath := "lexprior/calendar", byteOffset := 16 }]) (.agg #[.int .i64 0, .int .i64 0, .int .i64 0]) 3 24 := ⟨Tryz.underlying294, by kernel_rfl⟩
instance ty295 : Ty Tryz.prog 295 (.struct #[{ name := "year", type := 3, offset := 0, embedded := false, tag := "", pkgPath := "lexprior/calendar", byteOffset := 0 }, { name := "month", type := 3, offset := 1, embedded := false, tag := "", pkgPath := "lexprior/calendar", byteOffset := 8 }, { name := "day", type := 3, offset := 2, embedded := false, tag := "", pkgPath := "lexprior/calendar", byteOffset := 16 }]) (.agg #[.int .i64 0, .int .i64 0, .int .i64 0]) 3 24 := ⟨Tryz.underlying295, by kernel_rfl⟩
instance ty310 : Ty Tryz.prog 310 (.int .u32) (.int .u32 0) 1 4 := ⟨Tryz.underlying310, by kernel_rfl⟩
instance ty314 : Ty Tryz.prog 314 (.pointer 5) (.pointer none) 1 8 := ⟨Tryz.underlying314, by kernel_rfl⟩
instance ty317 : Ty Tryz.prog 317 (.struct #[{ name := "Size_", type := 12, offset := 0, embedded := false, tag := "", pkgPath := "", byteOffset := 0 }, { name := "PtrBytes", type := 12, offset := 1, embedded := false, tag := "", pkgPath := "", byteOffset := 8 }, { name := "Hash", type := 310, offset := 2, embedded := false, tag := "", pkgPath := "", byteOffset := 16 }, { name := "TFlag", type := 311, offset := 3, embedded := false, tag := "", pkgPath := "", byteOffset := 20 }, { name := "Align_", type := 5, offset := 4, embedded := false, tag := "", pkgPath := "", byteOffset := 21 }, { name := "FieldAlign_", type := 5, offset := 5, embedded := false, tag := "", pkgPath := "", byteOffset := 22 }, { name := "Kind_", type := 312, offset := 6, embedded := false, tag := "", pkgPath := "", byteOffset := 23 }, { name := "Equal", type := 313, offset := 7, embedded := false, tag := "", pkgPath := "", byteOffset := 24 }, { name := "GCData", type := 314, offset := 8, embedded := false, tag := "", pkgPath := "", byteOffset := 32 }, { name := "Str", type := 315, offset := 9, embedded := false, tag := "", pkgPath := "", byteOffset := 40 }, { name := "PtrToThis", type := 316, offset := 10, embedded := false, tag := "", pkgPath := "", byteOffset := 44 }]) (.agg #[.int .u64 0, .int .u64 0, .int .u32 0, .int .u8 0, .int .u8 0, .int .u8 0, .int .u8 0, .nilFunc, .pointer none, .int .i32 0, .int .i32 0]) 11 48 := ⟨Tryz.underlying317, by kernel_rfl⟩
instance : FA Tryz.prog 30 0 0 := FA.of ty30 ty9 rfl rfl
instance : FV Tryz.prog 30 0 0 1 false := FV.of ty30 ty9 rfl rfl
instance : FA Tryz.prog 30 1 1 := FA.of ty30 ty22 rfl rfl
instance : FV Tryz.prog 30 1 1 1 false := FV.of ty30 ty22 rfl rfl
instance : FA Tryz.prog 30 2 2 := FA.of ty30 ty23 rfl rfl
instance : FV Tryz.prog 30 2 2 1 false := FV.of ty30 ty23 rfl rfl
instance : FA Tryz.prog 30 3 3 := FA.of ty30 ty24 rfl rfl
instance : FV Tryz.prog 30 3 3 1 false := FV.of ty30 ty24 rfl rfl
instance : FA Tryz.prog 30 4 4 := FA.of ty30 ty25 rfl rfl
instance : FV Tryz.prog 30 4 4 1 false := FV.of ty30 ty25 rfl rfl
instance : FA Tryz.prog 30 5 5 := FA.of ty30 ty26 rfl rfl
instance : FV Tryz.prog 30 5 5 1 false := FV.of ty30 ty26 rfl rfl
instance : FA Tryz.prog 30 6 6 := FA.of ty30 ty27 rfl rfl
instance : FV Tryz.prog 30 6 6 1 false := FV.of ty30 ty27 rfl rfl
instance : FA Tryz.prog 30 7 7 := FA.of ty30 ty28 rfl rfl
instance : FV Tryz.prog 30 7 7 1 false := FV.of ty30 ty28 rfl rfl
instance : FA Tryz.prog 30 8 8 := FA.of ty30 ty29 rfl rfl
instance : FV Tryz.prog 30 8 8 1 false := FV.of ty30 ty29 rfl rfl
instance : FA Tryz.prog 31 0 0 := FA.of ty31 ty9 rfl rfl
instance : FV Tryz.prog 31 0 0 1 false := FV.of ty31 ty9 rfl rfl
instance : FA Tryz.prog 31 1 1 := FA.of ty31 ty22 rfl rfl
instance : FV Tryz.prog 31 1 1 1 false := FV.of ty31 ty22 rfl rfl
instance : FA Tryz.prog 31 2 2 := FA.of ty31 ty23 rfl rfl
instance : FV Tryz.prog 31 2 2 1 false := FV.of ty31 ty23 rfl rfl
instance : FA Tryz.prog 31 3 3 := FA.of ty31 ty24 rfl rfl
instance : FV Tryz.prog 31 3 3 1 false := FV.of ty31 ty24 rfl rfl
instance : FA Tryz.prog 31 4 4 := FA.of ty31 ty25 rfl rfl
instance : FV Tryz.prog 31 4 4 1 false := FV.of ty31 ty25 rfl rfl
instance : FA Tryz.prog 31 5 5 := FA.of ty31 ty26 rfl rfl
instance : FV Tryz.prog 31 5 5 1 false := FV.of ty31 ty26 rfl rfl
instance : FA Tryz.prog 31 6 6 := FA.of ty31 ty27 rfl rfl
instance : FV Tryz.prog 31 6 6 1 false := FV.of ty31 ty27 rfl rfl
instance : FA Tryz.prog 31 7 7 := FA.of ty31 ty28 rfl rfl
instance : FV Tryz.prog 31 7 7 1 false := FV.of ty31 ty28 rfl rfl
instance : FA Tryz.prog 31 8 8 := FA.of ty31 ty29 rfl rfl
instance : FV Tryz.prog 31 8 8 1 false := FV.of ty31 ty29 rfl rfl
instance : FA Tryz.prog 50 0 0 := FA.of ty50 ty4 rfl rfl
instance : FV Tryz.prog 50 0 0 1 false := FV.of ty50 ty4 rfl rfl
instance : FA Tryz.prog 50 1 1 := FA.of ty50 ty9 rfl rfl
instance : FV Tryz.prog 50 1 1 1 false := FV.of ty50 ty9 rfl rfl
instance : FA Tryz.prog 50 2 2 := FA.of ty50 ty22 rfl rfl
instance : FV Tryz.prog 50 2 2 1 false := FV.of ty50 ty22 rfl rfl
instance : FA Tryz.prog 50 3 3 := FA.of ty50 ty4 rfl rfl
instance : FV Tryz.prog 50 3 3 1 false := FV.of ty50 ty4 rfl rfl
instance : FA Tryz.prog 50 4 4 := FA.of ty50 ty49 rfl rfl
instance : FV Tryz.prog 50 4 4 1 false := FV.of ty50 ty49 rfl rfl
instance : FA Tryz.prog 51 0 0 := FA.of ty51 ty4 rfl rfl
instance : FV Tryz.prog 51 0 0 1 false := FV.of ty51 ty4 rfl rfl
instance : FA Tryz.prog 51 1 1 := FA.of ty51 ty9 rfl rfl
instance : FV Tryz.prog 51 1 1 1 false := FV.of ty51 ty9 rfl rfl
instance : FA Tryz.prog 51 2 2 := FA.of ty51 ty22 rfl rfl
instance : FV Tryz.prog 51 2 2 1 false := FV.of ty51 ty22 rfl rfl
instance : FA Tryz.prog 51 3 3 := FA.of ty51 ty4 rfl rfl
instance : FV Tryz.prog 51 3 3 1 false := FV.of ty51 ty4 rfl rfl
instance : FA Tryz.prog 51 4 4 := FA.of ty51 ty49 rfl rfl
instance : FV Tryz.prog 51 4 4 1 false := FV.of ty51 ty49 rfl rfl
instance : FA Tryz.prog 53 0 0 := FA.of ty53 ty3 rfl rfl
instance : FV Tryz.prog 53 0 0 1 false := FV.of ty53 ty3 rfl rfl
instance : FA Tryz.prog 53 1 1 := FA.of ty53 ty38 rfl rfl
instance : FV Tryz.prog 53 1 1 1 false := FV.of ty53 ty38 rfl rfl
instance : FA Tryz.prog 53 2 2 := FA.of ty53 ty49 rfl rfl
instance : FV Tryz.prog 53 2 2 1 false := FV.of ty53 ty49 rfl rfl
instance : FA Tryz.prog 54 0 0 := FA.of ty54 ty3 rfl rfl
instance : FV Tryz.prog 54 0 0 1 false := FV.of ty54 ty3 rfl rfl
instance : FA Tryz.prog 54 1 1 := FA.of ty54 ty38 rfl rfl
instance : FV Tryz.prog 54 1 1 1 false := FV.of ty54 ty38 rfl rfl
instance : FA Tryz.prog 54 2 2 := FA.of ty54 ty49 rfl rfl
instance : FV Tryz.prog 54 2 2 1 false := FV.of ty54 ty49 rfl rfl
instance : FA Tryz.prog 55 0 0 := FA.of ty55 ty4 rfl rfl
instance : FV Tryz.prog 55 0 0 1 false := FV.of ty55 ty4 rfl rfl
instance : FA Tryz.prog 55 1 1 := FA.of ty55 ty54 rfl rfl
instance : FV Tryz.prog 55 1 1 3 true := FV.of ty55 ty54 rfl rfl
instance : FA Tryz.prog 55 2 4 := FA.of ty55 ty3 rfl rfl
instance : FV Tryz.prog 55 2 4 1 false := FV.of ty55 ty3 rfl rfl
instance : FA Tryz.prog 56 0 0 := FA.of ty56 ty4 rfl rfl
instance : FV Tryz.prog 56 0 0 1 false := FV.of ty56 ty4 rfl rfl
instance : FA Tryz.prog 56 1 1 := FA.of ty56 ty54 rfl rfl
instance : FV Tryz.prog 56 1 1 3 true := FV.of ty56 ty54 rfl rfl
instance : FA Tryz.prog 56 2 4 := FA.of ty56 ty3 rfl rfl
instance : FV Tryz.prog 56 2 4 1 false := FV.of ty56 ty3 rfl rfl
instance : FA Tryz.prog 87 0 0 := FA.of ty87 ty64 rfl rfl
instance : FV Tryz.prog 87 0 0 1 false := FV.of ty87 ty64 rfl rfl
instance : FA Tryz.prog 87 1 1 := FA.of ty87 ty65 rfl rfl
instance : FV Tryz.prog 87 1 1 1 false := FV.of ty87 ty65 rfl rfl
instance : FA Tryz.prog 87 2 2 := FA.of ty87 ty25 rfl rfl
instance : FV Tryz.prog 87 2 2 1 false := FV.of ty87 ty25 rfl rfl
instance : FA Tryz.prog 87 3 3 := FA.of ty87 ty66 rfl rfl
instance : FV Tryz.prog 87 3 3 1 false := FV.of ty87 ty66 rfl rfl
instance : FA Tryz.prog 87 4 4 := FA.of ty87 ty67 rfl rfl
instance : FV Tryz.prog 87 4 4 1 false := FV.of ty87 ty67 rfl rfl
instance : FA Tryz.prog 87 5 5 := FA.of ty87 ty68 rfl rfl
instance : FV Tryz.prog 87 5 5 1 false := FV.of ty87 ty68 rfl rfl
instance : FA Tryz.prog 87 6 6 := FA.of ty87 ty69 rfl rfl
instance : FV Tryz.prog 87 6 6 1 false := FV.of ty87 ty69 rfl rfl
instance : FA Tryz.prog 87 7 7 := FA.of ty87 ty70 rfl rfl
instance : FV Tryz.prog 87 7 7 1 false := FV.of ty87 ty70 rfl rfl
instance : FA Tryz.prog 87 8 8 := FA.of ty87 ty71 rfl rfl
instance : FV Tryz.prog 87 8 8 1 false := FV.of ty87 ty71 rfl rfl
instance : FA Tryz.prog 87 9 9 := FA.of ty87 ty72 rfl rfl
instance : FV Tryz.prog 87 9 9 1 false := FV.of ty87 ty72 rfl rfl
instance : FA Tryz.prog 87 10 10 := FA.of ty87 ty73 rfl rfl
instance : FV Tryz.prog 87 10 10 1 false := FV.of ty87 ty73 rfl rfl
instance : FA Tryz.prog 87 11 11 := FA.of ty87 ty74 rfl rfl
instance : FV Tryz.prog 87 11 11 1 false := FV.of ty87 ty74 rfl rfl
instance : FA Tryz.prog 87 12 12 := FA.of ty87 ty75 rfl rfl
instance : FV Tryz.prog 87 12 12 1 false := FV.of ty87 ty75 rfl rfl
instance : FA Tryz.prog 87 13 13 := FA.of ty87 ty76 rfl rfl
instance : FV Tryz.prog 87 13 13 1 false := FV.of ty87 ty76 rfl rfl
instance : FA Tryz.prog 87 14 14 := FA.of ty87 ty77 rfl rfl
instance : FV Tryz.prog 87 14 14 1 false := FV.of ty87 ty77 rfl rfl
instance : FA Tryz.prog 87 15 15 := FA.of ty87 ty78 rfl rfl
instance : FV Tryz.prog 87 15 15 1 false := FV.of ty87 ty78 rfl rfl
instance : FA Tryz.prog 87 16 16 := FA.of ty87 ty79 rfl rfl
instance : FV Tryz.prog 87 16 16 1 false := FV.of ty87 ty79 rfl rfl
instance : FA Tryz.prog 87 17 17 := FA.of ty87 ty80 rfl rfl
instance : FV Tryz.prog 87 17 17 1 false := FV.of ty87 ty80 rfl rfl
instance : FA Tryz.prog 87 18 18 := FA.of ty87 ty81 rfl rfl
instance : FV Tryz.prog 87 18 18 1 false := FV.of ty87 ty81 rfl rfl
instance : FA Tryz.prog 87 19 19 := FA.of ty87 ty82 rfl rfl
instance : FV Tryz.prog 87 19 19 1 false := FV.of ty87 ty82 rfl rfl
instance : FA Tryz.prog 87 20 20 := FA.of ty87 ty83 rfl rfl
instance : FV Tryz.prog 87 20 20 1 false := FV.of ty87 ty83 rfl rfl
instance : FA Tryz.prog 87 21 21 := FA.of ty87 ty84 rfl rfl
instance : FV Tryz.prog 87 21 21 1 false := FV.of ty87 ty84 rfl rfl
instance : FA Tryz.prog 87 22 22 := FA.of ty87 ty85 rfl rfl
instance : FV Tryz.prog 87 22 22 1 false := FV.of ty87 ty85 rfl rfl
instance : FA Tryz.prog 87 23 23 := FA.of ty87 ty86 rfl rfl
instance : FV Tryz.prog 87 23 23 1 false := FV.of ty87 ty86 rfl rfl
instance : FA Tryz.prog 88 0 0 := FA.of ty88 ty64 rfl rfl
instance : FV Tryz.prog 88 0 0 1 false := FV.of ty88 ty64 rfl rfl
instance : FA Tryz.prog 88 1 1 := FA.of ty88 ty65 rfl rfl
instance : FV Tryz.prog 88 1 1 1 false := FV.of ty88 ty65 rfl rfl
instance : FA Tryz.prog 88 2 2 := FA.of ty88 ty25 rfl rfl
instance : FV Tryz.prog 88 2 2 1 false := FV.of ty88 ty25 rfl rfl
instance : FA Tryz.prog 88 3 3 := FA.of ty88 ty66 rfl rfl
instance : FV Tryz.prog 88 3 3 1 false := FV.of ty88 ty66 rfl rfl
instance : FA Tryz.prog 88 4 4 := FA.of ty88 ty67 rfl rfl
instance : FV Tryz.prog 88 4 4 1 false := FV.of ty88 ty67 rfl rfl
instance : FA Tryz.prog 88 5 5 := FA.of ty88 ty68 rfl rfl
instance : FV Tryz.prog 88 5 5 1 false := FV.of ty88 ty68 rfl rfl
instance : FA Tryz.prog 88 6 6 := FA.of ty88 ty69 rfl rfl
instance : FV Tryz.prog 88 6 6 1 false := FV.of ty88 ty69 rfl rfl
instance : FA Tryz.prog 88 7 7 := FA.of ty88 ty70 rfl rfl
instance : FV Tryz.prog 88 7 7 1 false := FV.of ty88 ty70 rfl rfl
instance : FA Tryz.prog 88 8 8 := FA.of ty88 ty71 rfl rfl
instance : FV Tryz.prog 88 8 8 1 false := FV.of ty88 ty71 rfl rfl
instance : FA Tryz.prog 88 9 9 := FA.of ty88 ty72 rfl rfl
instance : FV Tryz.prog 88 9 9 1 false := FV.of ty88 ty72 rfl rfl
instance : FA Tryz.prog 88 10 10 := FA.of ty88 ty73 rfl rfl
instance : FV Tryz.prog 88 10 10 1 false := FV.of ty88 ty73 rfl rfl
instance : FA Tryz.prog 88 11 11 := FA.of ty88 ty74 rfl rfl
instance : FV Tryz.prog 88 11 11 1 false := FV.of ty88 ty74 rfl rfl
instance : FA Tryz.prog 88 12 12 := FA.of ty88 ty75 rfl rfl
instance : FV Tryz.prog 88 12 12 1 false := FV.of ty88 ty75 rfl rfl
instance : FA Tryz.prog 88 13 13 := FA.of ty88 ty76 rfl rfl
instance : FV Tryz.prog 88 13 13 1 false := FV.of ty88 ty76 rfl rfl
instance : FA Tryz.prog 88 14 14 := FA.of ty88 ty77 rfl rfl
instance : FV Tryz.prog 88 14 14 1 false := FV.of ty88 ty77 rfl rfl
instance : FA Tryz.prog 88 15 15 := FA.of ty88 ty78 rfl rfl
instance : FV Tryz.prog 88 15 15 1 false := FV.of ty88 ty78 rfl rfl
instance : FA Tryz.prog 88 16 16 := FA.of ty88 ty79 rfl rfl
instance : FV Tryz.prog 88 16 16 1 false := FV.of ty88 ty79 rfl rfl
instance : FA Tryz.prog 88 17 17 := FA.of ty88 ty80 rfl rfl
instance : FV Tryz.prog 88 17 17 1 false := FV.of ty88 ty80 rfl rfl
instance : FA Tryz.prog 88 18 18 := FA.of ty88 ty81 rfl rfl
instance : FV Tryz.prog 88 18 18 1 false := FV.of ty88 ty81 rfl rfl
instance : FA Tryz.prog 88 19 19 := FA.of ty88 ty82 rfl rfl
instance : FV Tryz.prog 88 19 19 1 false := FV.of ty88 ty82 rfl rfl
instance : FA Tryz.prog 88 20 20 := FA.of ty88 ty83 rfl rfl
instance : FV Tryz.prog 88 20 20 1 false := FV.of ty88 ty83 rfl rfl
instance : FA Tryz.prog 88 21 21 := FA.of ty88 ty84 rfl rfl
instance : FV Tryz.prog 88 21 21 1 false := FV.of ty88 ty84 rfl rfl
instance : FA Tryz.prog 88 22 22 := FA.of ty88 ty85 rfl rfl
instance : FV Tryz.prog 88 22 22 1 false := FV.of ty88 ty85 rfl rfl
instance : FA Tryz.prog 88 23 23 := FA.of ty88 ty86 rfl rfl
instance : FV Tryz.prog 88 23 23 1 false := FV.of ty88 ty86 rfl rfl
instance : FA Tryz.prog 107 0 0 := FA.of ty107 ty33 rfl rfl
instance : FV Tryz.prog 107 0 0 1 false := FV.of ty107 ty33 rfl rfl
instance : FA Tryz.prog 107 1 1 := FA.of ty107 ty3 rfl rfl
instance : FV Tryz.prog 107 1 1 1 false := FV.of ty107 ty3 rfl rfl
instance : FA Tryz.prog 108 0 0 := FA.of ty108 ty33 rfl rfl
instance : FV Tryz.prog 108 0 0 1 false := FV.of ty108 ty33 rfl rfl
instance : FA Tryz.prog 108 1 1 := FA.of ty108 ty3 rfl rfl
instance : FV Tryz.prog 108 1 1 1 false := FV.of ty108 ty3 rfl rfl
instance : FA Tryz.prog 111 0 0 := FA.of ty111 ty31 rfl rfl
instance : FV Tryz.prog 111 0 0 9 true := FV.of ty111 ty31 rfl rfl
instance : FA Tryz.prog 111 1 9 := FA.of ty111 ty3 rfl rfl
instance : FV Tryz.prog 111 1 9 1 false := FV.of ty111 ty3 rfl rfl
instance : FA Tryz.prog 111 2 10 := FA.of ty111 ty110 rfl rfl
instance : FV Tryz.prog 111 2 10 1 false := FV.of ty111 ty110 rfl rfl
instance : FA Tryz.prog 111 3 11 := FA.of ty111 ty110 rfl rfl
instance : FV Tryz.prog 111 3 11 1 false := FV.of ty111 ty110 rfl rfl
instance : FA Tryz.prog 111 4 12 := FA.of ty111 ty110 rfl rfl
instance : FV Tryz.prog 111 4 12 1 false := FV.of ty111 ty110 rfl rfl
instance : FA Tryz.prog 111 5 13 := FA.of ty111 ty110 rfl rfl
instance : FV Tryz.prog 111 5 13 1 false := FV.of ty111 ty110 rfl rfl
instance : FA Tryz.prog 111 6 14 := FA.of ty111 ty110 rfl rfl
instance : FV Tryz.prog 111 6 14 1 false := FV.of ty111 ty110 rfl rfl
instance : FA Tryz.prog 111 7 15 := FA.of ty111 ty110 rfl rfl
instance : FV Tryz.prog 111 7 15 1 false := FV.of ty111 ty110 rfl rfl
instance : FA Tryz.prog 112 0 0 := FA.of ty112 ty31 rfl rfl
instance : FV Tryz.prog 112 0 0 9 true := FV.of ty112 ty31 rfl rfl
instance : FA Tryz.prog 112 1 9 := FA.of ty112 ty3 rfl rfl
instance : FV Tryz.prog 112 1 9 1 false := FV.of ty112 ty3 rfl rfl
instance : FA Tryz.prog 112 2 10 := FA.of ty112 ty110 rfl rfl
instance : FV Tryz.prog 112 2 10 1 false := FV.of ty112 ty110 rfl rfl
instance : FA Tryz.prog 112 3 11 := FA.of ty112 ty110 rfl rfl
instance : FV Tryz.prog 112 3 11 1 false := FV.of ty112 ty110 rfl rfl
instance : FA Tryz.prog 112 4 12 := FA.of ty112 ty110 rfl rfl
instance : FV Tryz.prog 112 4 12 1 false := FV.of ty112 ty110 rfl rfl
instance : FA Tryz.prog 112 5 13 := FA.of ty112 ty110 rfl rfl
instance : FV Tryz.prog 112 5 13 1 false := FV.of ty112 ty110 rfl rfl
instance : FA Tryz.prog 112 6 14 := FA.of ty112 ty110 rfl rfl
instance : FV Tryz.prog 112 6 14 1 false := FV.of ty112 ty110 rfl rfl
instance : FA Tryz.prog 112 7 15 := FA.of ty112 ty110 rfl rfl
instance : FV Tryz.prog 112 7 15 1 false := FV.of ty112 ty110 rfl rfl
instance : FA Tryz.prog 119 0 0 := FA.of ty119 ty9 rfl rfl
instance : FV Tryz.prog 119 0 0 1 false := FV.of ty119 ty9 rfl rfl
instance : FA Tryz.prog 119 1 1 := FA.of ty119 ty9 rfl rfl
instance : FV Tryz.prog 119 1 1 1 false := FV.of ty119 ty9 rfl rfl
instance : FA Tryz.prog 119 2 2 := FA.of ty119 ty116 rfl rfl
instance : FV Tryz.prog 119 2 2 1 false := FV.of ty119 ty116 rfl rfl
instance : FA Tryz.prog 119 3 3 := FA.of ty119 ty116 rfl rfl
instance : FV Tryz.prog 119 3 3 1 false := FV.of ty119 ty116 rfl rfl
instance : FA Tryz.prog 119 4 4 := FA.of ty119 ty117 rfl rfl
instance : FV Tryz.prog 119 4 4 1 false := FV.of ty119 ty117 rfl rfl
instance : FA Tryz.prog 119 5 5 := FA.of ty119 ty118 rfl rfl
instance : FV Tryz.prog 119 5 5 1 false := FV.of ty119 ty118 rfl rfl
instance : FA Tryz.prog 119 6 6 := FA.of ty119 ty51 rfl rfl
instance : FV Tryz.prog 119 6 6 5 true := FV.of ty119 ty51 rfl rfl
instance : FA Tryz.prog 120 0 0 := FA.of ty120 ty9 rfl rfl
instance : FV Tryz.prog 120 0 0 1 false := FV.of ty120 ty9 rfl rfl
instance : FA Tryz.prog 120 1 1 := FA.of ty120 ty9 rfl rfl
instance : FV Tryz.prog 120 1 1 1 false := FV.of ty120 ty9 rfl rfl
instance : FA Tryz.prog 120 2 2 := FA.of ty120 ty116 rfl rfl
instance : FV Tryz.prog 120 2 2 1 false := FV.of ty120 ty116 rfl rfl
instance : FA Tryz.prog 120 3 3 := FA.of ty120 ty116 rfl rfl
instance : FV Tryz.prog 120 3 3 1 false := FV.of ty120 ty116 rfl rfl
instance : FA Tryz.prog 120 4 4 := FA.of ty120 ty117 rfl rfl
instance : FV Tryz.prog 120 4 4 1 false := FV.of ty120 ty117 rfl rfl
instance : FA Tryz.prog 120 5 5 := FA.of ty120 ty118 rfl rfl
instance : FV Tryz.prog 120 5 5 1 false := FV.of ty120 ty118 rfl rfl
instance : FA Tryz.prog 120 6 6 := FA.of ty120 ty51 rfl rfl
instance : FV Tryz.prog 120 6 6 5 true := FV.of ty120 ty51 rfl rfl
instance : FA Tryz.prog 122 0 0 := FA.of ty122 ty22 rfl rfl
instance : FV Tryz.prog 122 0 0 1 false := FV.of ty122 ty22 rfl rfl
instance : FA Tryz.prog 122 1 1 := FA.of ty122 ty121 rfl rfl
instance : FV Tryz.prog 122 1 1 1 false := FV.of ty122 ty121 rfl rfl
instance : FA Tryz.prog 122 2 2 := FA.of ty122 ty4 rfl rfl
instance : FV Tryz.prog 122 2 2 1 false := FV.of ty122 ty4 rfl rfl
instance : FA Tryz.prog 123 0 0 := FA.of ty123 ty22 rfl rfl
instance : FV Tryz.prog 123 0 0 1 false := FV.of ty123 ty22 rfl rfl
instance : FA Tryz.prog 123 1 1 := FA.of ty123 ty121 rfl rfl
instance : FV Tryz.prog 123 1 1 1 false := FV.of ty123 ty121 rfl rfl
instance : FA Tryz.prog 123 2 2 := FA.of ty123 ty4 rfl rfl
instance : FV Tryz.prog 123 2 2 1 false := FV.of ty123 ty4 rfl rfl
instance : FA Tryz.prog 125 0 0 := FA.of ty125 ty22 rfl rfl
instance : FV Tryz.prog 125 0 0 1 false := FV.of ty125 ty22 rfl rfl
instance : FA Tryz.prog 125 1 1 := FA.of ty125 ty38 rfl rfl
instance : FV Tryz.prog 125 1 1 1 false := FV.of ty125 ty38 rfl rfl
instance : FA Tryz.prog 125 2 2 := FA.of ty125 ty22 rfl rfl
instance : FV Tryz.prog 125 2 2 1 false := FV.of ty125 ty22 rfl rfl
instance : FA Tryz.prog 126 0 0 := FA.of ty126 ty22 rfl rfl
instance : FV Tryz.prog 126 0 0 1 false := FV.of ty126 ty22 rfl rfl
instance : FA Tryz.prog 126 1 1 := FA.of ty126 ty38 rfl rfl
instance : FV Tryz.prog 126 1 1 1 false := FV.of ty126 ty38 rfl rfl
instance : FA Tryz.prog 126 2 2 := FA.of ty126 ty22 rfl rfl
instance : FV Tryz.prog 126 2 2 1 false := FV.of ty126 ty22 rfl rfl
instance : FA Tryz.prog 142 0 0 := FA.of ty142 ty140 rfl rfl
instance : FV Tryz.prog 142 0 0 1 false := FV.of ty142 ty140 rfl rfl
instance : FA Tryz.prog 142 1 1 := FA.of ty142 ty141 rfl rfl
instance : FV Tryz.prog 142 1 1 1 false := FV.of ty142 ty141 rfl rfl
instance : FA Tryz.prog 142 2 2 := FA.of ty142 ty140 rfl rfl
instance : FV Tryz.prog 142 2 2 1 false := FV.of ty142 ty140 rfl rfl
instance : FA Tryz.prog 143 0 0 := FA.of ty143 ty140 rfl rfl
instance : FV Tryz.prog 143 0 0 1 false := FV.of ty143 ty140 rfl rfl
instance : FA Tryz.prog 143 1 1 := FA.of ty143 ty141 rfl rfl
instance : FV Tryz.prog 143 1 1 1 false := FV.of ty143 ty141 rfl rfl
instance : FA Tryz.prog 143 2 2 := FA.of ty143 ty140 rfl rfl
instance : FV Tryz.prog 143 2 2 1 false := FV.of ty143 ty140 rfl rfl
instance : FA Tryz.prog 144 0 0 := FA.of ty144 ty139 rfl rfl
instance : FV Tryz.prog 144 0 0 1 false := FV.of ty144 ty139 rfl rfl
instance : FA Tryz.prog 144 1 1 := FA.of ty144 ty51 rfl rfl
instance : FV Tryz.prog 144 1 1 5 true := FV.of ty144 ty51 rfl rfl
instance : FA Tryz.prog 144 2 6 := FA.of ty144 ty143 rfl rfl
instance : FV Tryz.prog 144 2 6 3 true := FV.of ty144 ty143 rfl rfl
instance : FA Tryz.prog 144 3 9 := FA.of ty144 ty9 rfl rfl
instance : FV Tryz.prog 144 3 9 1 false := FV.of ty144 ty9 rfl rfl
instance : FA Tryz.prog 144 4 10 := FA.of ty144 ty9 rfl rfl
instance : FV Tryz.prog 144 4 10 1 false := FV.of ty144 ty9 rfl rfl
instance : FA Tryz.prog 145 0 0 := FA.of ty145 ty139 rfl rfl
instance : FV Tryz.prog 145 0 0 1 false := FV.of ty145 ty139 rfl rfl
instance : FA Tryz.prog 145 1 1 := FA.of ty145 ty51 rfl rfl
instance : FV Tryz.prog 145 1 1 5 true := FV.of ty145 ty51 rfl rfl
instance : FA Tryz.prog 145 2 6 := FA.of ty145 ty143 rfl rfl
instance : FV Tryz.prog 145 2 6 3 true := FV.of ty145 ty143 rfl rfl
instance : FA Tryz.prog 145 3 9 := FA.of ty145 ty9 rfl rfl
instance : FV Tryz.prog 145 3 9 1 false := FV.of ty145 ty9 rfl rfl
instance : FA Tryz.prog 145 4 10 := FA.of ty145 ty9 rfl rfl
instance : FV Tryz.prog 145 4 10 1 false := FV.of ty145 ty9 rfl rfl
instance : FA Tryz.prog 150 0 0 := FA.of ty150 ty9 rfl rfl
instance : FV Tryz.prog 150 0 0 1 false := FV.of ty150 ty9 rfl rfl
instance : FA Tryz.prog 150 1 1 := FA.of ty150 ty148 rfl rfl
instance : FV Tryz.prog 150 1 1 1 false := FV.of ty150 ty148 rfl rfl
instance : FA Tryz.prog 150 2 2 := FA.of ty150 ty22 rfl rfl
instance : FV Tryz.prog 150 2 2 1 false := FV.of ty150 ty22 rfl rfl
instance : FA Tryz.prog 150 3 3 := FA.of ty150 ty149 rfl rfl
instance : FV Tryz.prog 150 3 3 1 false := FV.of ty150 ty149 rfl rfl
instance : FA Tryz.prog 151 0 0 := FA.of ty151 ty9 rfl rfl
instance : FV Tryz.prog 151 0 0 1 false := FV.of ty151 ty9 rfl rfl
instance : FA Tryz.prog 151 1 1 := FA.of ty151 ty148 rfl rfl
instance : FV Tryz.prog 151 1 1 1 false := FV.of ty151 ty148 rfl rfl
instance : FA Tryz.prog 151 2 2 := FA.of ty151 ty22 rfl rfl
instance : FV Tryz.prog 151 2 2 1 false := FV.of ty151 ty22 rfl rfl
instance : FA Tryz.prog 151 3 3 := FA.of ty151 ty149 rfl rfl
instance : FV Tryz.prog 151 3 3 1 false := FV.of ty151 ty149 rfl rfl
instance : FA Tryz.prog 157 0 0 := FA.of ty157 ty9 rfl rfl
instance : FV Tryz.prog 157 0 0 1 false := FV.of ty157 ty9 rfl rfl
instance : FA Tryz.prog 157 1 1 := FA.of ty157 ty9 rfl rfl
instance : FV Tryz.prog 157 1 1 1 false := FV.of ty157 ty9 rfl rfl
instance : FA Tryz.prog 158 0 0 := FA.of ty158 ty9 rfl rfl
instance : FV Tryz.prog 158 0 0 1 false := FV.of ty158 ty9 rfl rfl
instance : FA Tryz.prog 158 1 1 := FA.of ty158 ty9 rfl rfl
instance : FV Tryz.prog 158 1 1 1 false := FV.of ty158 ty9 rfl rfl
instance : FA Tryz.prog 160 0 0 := FA.of ty160 ty9 rfl rfl
instance : FV Tryz.prog 160 0 0 1 false := FV.of ty160 ty9 rfl rfl
instance : FA Tryz.prog 160 1 1 := FA.of ty160 ty3 rfl rfl
instance : FV Tryz.prog 160 1 1 1 false := FV.of ty160 ty3 rfl rfl
instance : FA Tryz.prog 161 0 0 := FA.of ty161 ty9 rfl rfl
instance : FV Tryz.prog 161 0 0 1 false := FV.of ty161 ty9 rfl rfl
instance : FA Tryz.prog 161 1 1 := FA.of ty161 ty3 rfl rfl
instance : FV Tryz.prog 161 1 1 1 false := FV.of ty161 ty3 rfl rfl
instance : FA Tryz.prog 163 0 0 := FA.of ty163 ty9 rfl rfl
instance : FV Tryz.prog 163 0 0 1 false := FV.of ty163 ty9 rfl rfl
instance : FA Tryz.prog 163 1 1 := FA.of ty163 ty9 rfl rfl
instance : FV Tryz.prog 163 1 1 1 false := FV.of ty163 ty9 rfl rfl
instance : FA Tryz.prog 164 0 0 := FA.of ty164 ty9 rfl rfl
instance : FV Tryz.prog 164 0 0 1 false := FV.of ty164 ty9 rfl rfl
instance : FA Tryz.prog 164 1 1 := FA.of ty164 ty9 rfl rfl
instance : FV Tryz.prog 164 1 1 1 false := FV.of ty164 ty9 rfl rfl
instance : FA Tryz.prog 165 0 0 := FA.of ty165 ty9 rfl rfl
instance : FV Tryz.prog 165 0 0 1 false := FV.of ty165 ty9 rfl rfl
instance : FA Tryz.prog 165 1 1 := FA.of ty165 ty9 rfl rfl
instance : FV Tryz.prog 165 1 1 1 false := FV.of ty165 ty9 rfl rfl
instance : FA Tryz.prog 165 2 2 := FA.of ty165 ty22 rfl rfl
instance : FV Tryz.prog 165 2 2 1 false := FV.of ty165 ty22 rfl rfl
instance : FA Tryz.prog 165 3 3 := FA.of ty165 ty4 rfl rfl
instance : FV Tryz.prog 165 3 3 1 false := FV.of ty165 ty4 rfl rfl
instance : FA Tryz.prog 165 4 4 := FA.of ty165 ty49 rfl rfl
instance : FV Tryz.prog 165 4 4 1 false := FV.of ty165 ty49 rfl rfl
instance : FA Tryz.prog 166 0 0 := FA.of ty166 ty9 rfl rfl
instance : FV Tryz.prog 166 0 0 1 false := FV.of ty166 ty9 rfl rfl
instance : FA Tryz.prog 166 1 1 := FA.of ty166 ty9 rfl rfl
instance : FV Tryz.prog 166 1 1 1 false := FV.of ty166 ty9 rfl rfl
instance : FA Tryz.prog 166 2 2 := FA.of ty166 ty22 rfl rfl
instance : FV Tryz.prog 166 2 2 1 false := FV.of ty166 ty22 rfl rfl
instance : FA Tryz.prog 166 3 3 := FA.of ty166 ty4 rfl rfl
instance : FV Tryz.prog 166 3 3 1 false := FV.of ty166 ty4 rfl rfl
instance : FA Tryz.prog 166 4 4 := FA.of ty166 ty49 rfl rfl
instance : FV Tryz.prog 166 4 4 1 false := FV.of ty166 ty49 rfl rfl
instance : FA Tryz.prog 206 0 0 := FA.of ty206 ty2 rfl rfl
instance : FV Tryz.prog 206 0 0 1 false := FV.of ty206 ty2 rfl rfl
instance : FA Tryz.prog 206 1 1 := FA.of ty206 ty9 rfl rfl
instance : FV Tryz.prog 206 1 1 1 false := FV.of ty206 ty9 rfl rfl
instance : FA Tryz.prog 206 2 2 := FA.of ty206 ty22 rfl rfl
instance : FV Tryz.prog 206 2 2 1 false := FV.of ty206 ty22 rfl rfl
instance : FA Tryz.prog 206 3 3 := FA.of ty206 ty49 rfl rfl
instance : FV Tryz.prog 206 3 3 1 false := FV.of ty206 ty49 rfl rfl
instance : FA Tryz.prog 207 0 0 := FA.of ty207 ty2 rfl rfl
instance : FV Tryz.prog 207 0 0 1 false := FV.of ty207 ty2 rfl rfl
instance : FA Tryz.prog 207 1 1 := FA.of ty207 ty9 rfl rfl
instance : FV Tryz.prog 207 1 1 1 false := FV.of ty207 ty9 rfl rfl
instance : FA Tryz.prog 207 2 2 := FA.of ty207 ty22 rfl rfl
instance : FV Tryz.prog 207 2 2 1 false := FV.of ty207 ty22 rfl rfl
instance : FA Tryz.prog 207 3 3 := FA.of ty207 ty49 rfl rfl
instance : FV Tryz.prog 207 3 3 1 false := FV.of ty207 ty49 rfl rfl
instance : FA Tryz.prog 222 0 0 := FA.of ty222 ty3 rfl rfl
instance : FV Tryz.prog 222 0 0 1 false := FV.of ty222 ty3 rfl rfl
instance : FA Tryz.prog 222 1 1 := FA.of ty222 ty3 rfl rfl
instance : FV Tryz.prog 222 1 1 1 false := FV.of ty222 ty3 rfl rfl
instance : FA Tryz.prog 223 0 0 := FA.of ty223 ty3 rfl rfl
instance : FV Tryz.prog 223 0 0 1 false := FV.of ty223 ty3 rfl rfl
instance : FA Tryz.prog 223 1 1 := FA.of ty223 ty3 rfl rfl
instance : FV Tryz.prog 223 1 1 1 false := FV.of ty223 ty3 rfl rfl
instance : FA Tryz.prog 227 0 0 := FA.of ty227 ty3 rfl rfl
instance : FV Tryz.prog 227 0 0 1 false := FV.of ty227 ty3 rfl rfl
instance : FA Tryz.prog 227 1 1 := FA.of ty227 ty3 rfl rfl
instance : FV Tryz.prog 227 1 1 1 false := FV.of ty227 ty3 rfl rfl
instance : FA Tryz.prog 228 0 0 := FA.of ty228 ty3 rfl rfl
instance : FV Tryz.prog 228 0 0 1 false := FV.of ty228 ty3 rfl rfl
instance : FA Tryz.prog 228 1 1 := FA.of ty228 ty3 rfl rfl
instance : FV Tryz.prog 228 1 1 1 false := FV.of ty228 ty3 rfl rfl
instance : FA Tryz.prog 232 0 0 := FA.of ty232 ty231 rfl rfl
instance : FV Tryz.prog 232 0 0 1 false := FV.of ty232 ty231 rfl rfl
instance : FA Tryz.prog 232 1 1 := FA.of ty232 ty9 rfl rfl
instance : FV Tryz.prog 232 1 1 1 false := FV.of ty232 ty9 rfl rfl
instance : FA Tryz.prog 232 2 2 := FA.of ty232 ty3 rfl rfl
instance : FV Tryz.prog 232 2 2 1 false := FV.of ty232 ty3 rfl rfl
instance : FA Tryz.prog 233 0 0 := FA.of ty233 ty231 rfl rfl
instance : FV Tryz.prog 233 0 0 1 false := FV.of ty233 ty231 rfl rfl
instance : FA Tryz.prog 233 1 1 := FA.of ty233 ty9 rfl rfl
instance : FV Tryz.prog 233 1 1 1 false := FV.of ty233 ty9 rfl rfl
instance : FA Tryz.prog 233 2 2 := FA.of ty233 ty3 rfl rfl
instance : FV Tryz.prog 233 2 2 1 false := FV.of ty233 ty3 rfl rfl
instance : FA Tryz.prog 241 0 0 := FA.of ty241 ty2 rfl rfl
instance : FV Tryz.prog 241 0 0 1 false := FV.of ty241 ty2 rfl rfl
instance : FA Tryz.prog 241 1 1 := FA.of ty241 ty54 rfl rfl
instance : FV Tryz.prog 241 1 1 3 true := FV.of ty241 ty54 rfl rfl
instance : FA Tryz.prog 242 0 0 := FA.of ty242 ty2 rfl rfl
instance : FV Tryz.prog 242 0 0 1 false := FV.of ty242 ty2 rfl rfl
instance : FA Tryz.prog 242 1 1 := FA.of ty242 ty54 rfl rfl
instance : FV Tryz.prog 242 1 1 3 true := FV.of ty242 ty54 rfl rfl
instance : FA Tryz.prog 247 0 0 := FA.of ty247 ty54 rfl rfl
instance : FV Tryz.prog 247 0 0 3 true := FV.of ty247 ty54 rfl rfl
instance : FA Tryz.prog 247 1 3 := FA.of ty247 ty49 rfl rfl
instance : FV Tryz.prog 247 1 3 1 false := FV.of ty247 ty49 rfl rfl
instance : FA Tryz.prog 248 0 0 := FA.of ty248 ty54 rfl rfl
instance : FV Tryz.prog 248 0 0 3 true := FV.of ty248 ty54 rfl rfl
instance : FA Tryz.prog 248 1 3 := FA.of ty248 ty49 rfl rfl
instance : FV Tryz.prog 248 1 3 1 false := FV.of ty248 ty49 rfl rfl
instance : FA Tryz.prog 253 0 0 := FA.of ty253 ty251 rfl rfl
instance : FV Tryz.prog 253 0 0 1 false := FV.of ty253 ty251 rfl rfl
instance : FA Tryz.prog 253 1 1 := FA.of ty253 ty3 rfl rfl
instance : FV Tryz.prog 253 1 1 1 false := FV.of ty253 ty3 rfl rfl
instance : FA Tryz.prog 253 2 2 := FA.of ty253 ty252 rfl rfl
instance : FV Tryz.prog 253 2 2 1 false := FV.of ty253 ty252 rfl rfl
instance : FA Tryz.prog 253 3 3 := FA.of ty253 ty3 rfl rfl
instance : FV Tryz.prog 253 3 3 1 false := FV.of ty253 ty3 rfl rfl
instance : FA Tryz.prog 253 4 4 := FA.of ty253 ty226 rfl rfl
instance : FV Tryz.prog 253 4 4 1 false := FV.of ty253 ty226 rfl rfl
instance : FA Tryz.prog 254 0 0 := FA.of ty254 ty251 rfl rfl
instance : FV Tryz.prog 254 0 0 1 false := FV.of ty254 ty251 rfl rfl
instance : FA Tryz.prog 254 1 1 := FA.of ty254 ty3 rfl rfl
instance : FV Tryz.prog 254 1 1 1 false := FV.of ty254 ty3 rfl rfl
instance : FA Tryz.prog 254 2 2 := FA.of ty254 ty252 rfl rfl
instance : FV Tryz.prog 254 2 2 1 false := FV.of ty254 ty252 rfl rfl
instance : FA Tryz.prog 254 3 3 := FA.of ty254 ty3 rfl rfl
instance : FV Tryz.prog 254 3 3 1 false := FV.of ty254 ty3 rfl rfl
instance : FA Tryz.prog 254 4 4 := FA.of ty254 ty226 rfl rfl
instance : FV Tryz.prog 254 4 4 1 false := FV.of ty254 ty226 rfl rfl
instance : FA Tryz.prog 259 0 0 := FA.of ty259 ty118 rfl rfl
instance : FV Tryz.prog 259 0 0 1 false := FV.of ty259 ty118 rfl rfl
instance : FA Tryz.prog 259 1 1 := FA.of ty259 ty3 rfl rfl
instance : FV Tryz.prog 259 1 1 1 false := FV.of ty259 ty3 rfl rfl
instance : FA Tryz.prog 259 2 2 := FA.of ty259 ty38 rfl rfl
instance : FV Tryz.prog 259 2 2 1 false := FV.of ty259 ty38 rfl rfl
instance : FA Tryz.prog 260 0 0 := FA.of ty260 ty118 rfl rfl
instance : FV Tryz.prog 260 0 0 1 false := FV.of ty260 ty118 rfl rfl
instance : FA Tryz.prog 260 1 1 := FA.of ty260 ty3 rfl rfl
instance : FV Tryz.prog 260 1 1 1 false := FV.of ty260 ty3 rfl rfl
instance : FA Tryz.prog 260 2 2 := FA.of ty260 ty38 rfl rfl
instance : FV Tryz.prog 260 2 2 1 false := FV.of ty260 ty38 rfl rfl
instance : FA Tryz.prog 263 0 0 := FA.of ty263 ty240 rfl rfl
instance : FV Tryz.prog 263 0 0 1 false := FV.of ty263 ty240 rfl rfl
instance : FA Tryz.prog 263 1 1 := FA.of ty263 ty49 rfl rfl
instance : FV Tryz.prog 263 1 1 1 false := FV.of ty263 ty49 rfl rfl
instance : FA Tryz.prog 263 2 2 := FA.of ty263 ty141 rfl rfl
instance : FV Tryz.prog 263 2 2 1 false := FV.of ty263 ty141 rfl rfl
instance : FA Tryz.prog 264 0 0 := FA.of ty264 ty240 rfl rfl
instance : FV Tryz.prog 264 0 0 1 false := FV.of ty264 ty240 rfl rfl
instance : FA Tryz.prog 264 1 1 := FA.of ty264 ty49 rfl rfl
instance : FV Tryz.prog 264 1 1 1 false := FV.of ty264 ty49 rfl rfl
instance : FA Tryz.prog 264 2 2 := FA.of ty264 ty141 rfl rfl
instance : FV Tryz.prog 264 2 2 1 false := FV.of ty264 ty141 rfl rfl
instance : FA Tryz.prog 294 0 0 := FA.of ty294 ty3 rfl rfl
instance : FV Tryz.prog 294 0 0 1 false := FV.of ty294 ty3 rfl rfl
instance : FA Tryz.prog 294 1 1 := FA.of ty294 ty3 rfl rfl
instance : FV Tryz.prog 294 1 1 1 false := FV.of ty294 ty3 rfl rfl
instance : FA Tryz.prog 294 2 2 := FA.of ty294 ty3 rfl rfl
instance : FV Tryz.prog 294 2 2 1 false := FV.of ty294 ty3 rfl rfl
instance : FA Tryz.prog 295 0 0 := FA.of ty295 ty3 rfl rfl
instance : FV Tryz.prog 295 0 0 1 false := FV.of ty295 ty3 rfl rfl
instance : FA Tryz.prog 295 1 1 := FA.of ty295 ty3 rfl rfl
instance : FV Tryz.prog 295 1 1 1 false := FV.of ty295 ty3 rfl rfl
instance : FA Tryz.prog 295 2 2 := FA.of ty295 ty3 rfl rfl
instance : FV Tryz.prog 295 2 2 1 false := FV.of ty295 ty3 rfl rfl
instance : FA Tryz.prog 317 0 0 := FA.of ty317 ty12 rfl rfl
instance : FV Tryz.prog 317 0 0 1 false := FV.of ty317 ty12 rfl rfl
instance : FA Tryz.prog 317 1 1 := FA.of ty317 ty12 rfl rfl
instance : FV Tryz.prog 317 1 1 1 false := FV.of ty317 ty12 rfl rfl
instance : FA Tryz.prog 317 2 2 := FA.of ty317 ty310 rfl rfl
instance : FV Tryz.prog 317 2 2 1 false := FV.of ty317 ty310 rfl rfl
instance : FA Tryz.prog 317 4 4 := FA.of ty317 ty5 rfl rfl
instance : FV Tryz.prog 317 4 4 1 false := FV.of ty317 ty5 rfl rfl
instance : FA Tryz.prog 317 5 5 := FA.of ty317 ty5 rfl rfl
instance : FV Tryz.prog 317 5 5 1 false := FV.of ty317 ty5 rfl rfl
instance : FA Tryz.prog 317 8 8 := FA.of ty317 ty314 rfl rfl
instance : FV Tryz.prog 317 8 8 1 false := FV.of ty317 ty314 rfl rfl
end Go.Proofs.YtkfmlekomfnleaaGreat
/- Names and variables: symbols.IsName, symbols.IsVar, by the calculus. Conditions: none. -/
set_option linter.unusedVariables false
set_option linter.unusedSimpArgs false
set_option maxRecDepth 10000
namespace Go.Proofs.YtkfmlekomfnleaaGreat
open Go Go.RowKit

/-- A string's iterator. -/
def iterHP (b : Nat) (s : ByteArray) (pos : Nat) : HP where
  p w F := F b ∧ w.heap[b]? = some (.stringIter s pos)
  st := fun h _ ⟨hb, k⟩ => ⟨hb, (h b hb (Array.getElem?_eq_some_iff.1 k).1).trans k⟩
  up := fun h ⟨hb, k⟩ => ⟨h b hb, k⟩
section
variable {P : Program} {E : Env} {ops : Array Oper} {Q : Pst} {rest : List Oper} {G : List (Nat × Value)} {H : List HP}
variable {dst : Nat} {ty : TypeId} {pos : String} {af : Array Edge} {x : Operand} {s : ByteArray} {t : TypeId} {z : Value} {sz by_ : Nat}
theorem RW.rangeS [T : Ty P t .string z sz by_] (hx : ev G x = some (.string s)) (hN : Nat.blt dst E.N = true) (kk : ∀ b, RW P E ops Q rest ((dst, .pointer (some ⟨b, 0, none⟩)) :: G) (iterHP b s 0 :: H)) :
    RW P E ops Q (⟨some dst, .range t x, ty, pos, af, none⟩ :: rest) G H :=
  RW.step rfl (fun a w hf hw => by
    have hrun : (execOp a.eval ⟨some dst, .range t x, ty, pos, af, none⟩).run P w = .ok (.value (.pointer (some ⟨w.heap.size, 0, none⟩))) (w.iter s 0) := by
      simp [execOp, hf.eval hx, run_range_string w t s T.und, Result.andThen]
    rw [hrun]
    refine kk w.heap.size _ _ (hf.put hN _) (hw.fresh (Keeps.alloc _ _ _) ⟨⟨Nat.le_refl _, ?_⟩, World.iter_heap w s 0⟩)
    show _ < (w.heap.push _).size; simp)
theorem decode_bytes {s : ByteArray} {p : Nat} (h : p < s.size) : (Utf8.decode s p = (s[p].toNat, 1) ∧ s[p].toNat < 128) ∨ (128 ≤ s[p].toNat ∧ 128 ≤ (Utf8.decode s p).1 ∧ 1 ≤ (Utf8.decode s p).2) := by
  rcases Nat.lt_or_ge s[p].toNat 128 with ha | ha
  · exact .inl ⟨decode_ascii s p h ha, ha⟩
  · refine .inr ⟨ha, ?_⟩
    have e : s.get! (p + 0) = s[p] := by
      show s.get! p = _
      simp [ByteArray.get!, getElem!_pos, h]
      rfl
    simp only [Utf8.decode, e, if_neg (Nat.not_lt.2 ha), Utf8.runeError]
    repeat' split
    all_goals constructor <;> simp_all <;> omega
/-- The next of a string's runes: a byte below 128, or a rune from 128 on. -/
theorem RW.nextS (pre : List HP) {r : List HP} {b p : Nat} (hp : p < s.size) (hx : ev G x = some (.pointer (some ⟨b, 0, none⟩))) (hN : Nat.blt dst E.N = true)
    (k1 : s[p].toNat < 128 → RW P E ops Q rest ((dst, .tuple #[.bool true, .int .i64 p, .int .i32 s[p].toNat]) :: G) (pre ++ iterHP b s (p + 1) :: r))
    (k2 : ∀ (c n : Nat), 128 ≤ s[p].toNat → 128 ≤ c → 1 ≤ n → RW P E ops Q rest ((dst, .tuple #[.bool true, .int .i64 p, .int .i32 c]) :: G) (pre ++ iterHP b s (p + n) :: r)) :
    RW P E ops Q (⟨some dst, .next x true, ty, pos, af, none⟩ :: rest) G (pre ++ iterHP b s p :: r) :=
  RW.step rfl (fun a w hf hw => by
    obtain ⟨F, ⟨_, hb⟩, _⟩ := hw.get
    have hrun : (execOp a.eval ⟨some dst, .next x true, ty, pos, af, none⟩).run P w = .ok (.value (.tuple #[.bool true, .int .i64 p, .int .i32 (Utf8.decode s p).1])) { w with heap := w.heap.setIfInBounds b (.stringIter s (p + (Utf8.decode s p).2)) } := by
      simp [execOp, hf.eval hx, Instr.next, getObj, setObj, Sem.run, hb, Result.andThen, hp, goInt]
    rw [hrun]
    have hlt := (Array.getElem?_eq_some_iff.1 hb).1
    have hst : St E.w0 E.S (pre ++ iterHP b s (p + (Utf8.decode s p).2) :: r) { w with heap := w.heap.setIfInBounds b (.stringIter s (p + (Utf8.decode s p).2)) } :=
      hw.setobj (fun F hp => hp.1) (fun F hp => ⟨hp.1, by simp [hlt]⟩)
    rcases decode_bytes hp with ⟨h1, h2⟩ | ⟨h1, h2, h3⟩
    · rw [h1] at hst ⊢
      exact k1 h2 _ _ (hf.put hN _) hst
    · exact k2 _ _ h1 h2 h3 _ _ (hf.put hN _) hst)
theorem RW.nextS_end (pre : List HP) {r : List HP} {b p : Nat} (hp : ¬ p < s.size) (hx : ev G x = some (.pointer (some ⟨b, 0, none⟩))) (hN : Nat.blt dst E.N = true)
    (kk : RW P E ops Q rest ((dst, .tuple #[.bool false]) :: G) (pre ++ iterHP b s p :: r)) :
    RW P E ops Q (⟨some dst, .next x true, ty, pos, af, none⟩ :: rest) G (pre ++ iterHP b s p :: r) :=
  RW.val hN (fun a w hf hw => by
    obtain ⟨F, ⟨_, hb⟩, _⟩ := hw.get
    simp [execOp, hf.eval hx, Instr.next, getObj, Sem.run, hb, Result.andThen, hp]) kk
end
attribute [local irreducible] RW CW
def smallD (c : Nat) : Bool := decide (97 ≤ c) && decide (c ≤ 122)
def bigD (c : Nat) : Bool := decide (65 ≤ c) && decide (c ≤ 90)
def restD (c : Nat) : Bool := decide (48 ≤ c) && decide (c ≤ 57) || decide (c = 95)
theorem small_ret {c : Nat} {w : World} : Ret Tryz.prog 184 [.int .u8 c] w (.bool (smallD c)) := by
  refine Calls.enter Tryz.func184 rfl _ rfl rfl (S := No) (H := []) trivial ?_
  refine Ja ?_;refine Jd ?_;refine Jb ?_;refine Ja ?_;refine Jc ?_;refine Jn ?_;refine Jc ?_
  refine RW.splitD 5 rfl (fun h => ?_) (fun h => ?_)
  · refine Jy ?_;refine Jc ?_;refine Jy ?_;refine Jl ?_;refine Jv ?_;refine Jd ?_;refine Jb ?_
    refine CW.ret1 rfl Tryz.results184 rfl rfl fun w hw => ⟨?_, hw.kp⟩
    unfold smallD
    rw [decide_eq_true (show 97 ≤ c by omega), Bool.true_and, show decide ((c : Int) ≤ 122) = decide (c ≤ 122) from decide_eq_decide.2 (by omega)]
  · refine Jz ?_;refine Jz ?_;refine Jw ?_;refine Jd ?_;refine Jb ?_
    refine CW.ret1 rfl Tryz.results184 rfl rfl fun w hw => ⟨?_, hw.kp⟩
    unfold smallD
    rw [decide_eq_false (show ¬ 97 ≤ c by omega), Bool.false_and]
theorem rest_ret {c : Nat} {w : World} : Ret Tryz.prog 187 [.int .u8 c] w (.bool (restD c)) := by
  have fin : ∀ b : Bool, (decide (48 ≤ c) && decide (c ≤ 57)) = b → (decide (48 ≤ c) && decide (c ≤ 57) || decide (c = 95)) = (b || decide ((c : Int) = 95)) := fun b h => by
    rw [h]; congr 1; simp; omega
  refine Calls.enter Tryz.func187 rfl _ rfl rfl (S := No) (H := []) trivial ?_
  refine Ja ?_;refine Jd ?_;refine Jb ?_;refine Ja ?_;refine Jc ?_;refine Jn ?_;refine Jc ?_
  refine RW.splitD 5 rfl (fun h => ?_) (fun h => ?_)
  · refine Jy ?_;refine Jc ?_;refine Jy ?_;refine Jl ?_;refine Jv ?_;refine Jc ?_
    refine RW.splitD 9 rfl (fun h2 => ?_) (fun h2 => ?_)
    · refine Jz ?_;refine Jz ?_;refine Jv ?_;refine Jd ?_;refine Jb ?_
      refine CW.ret1 rfl Tryz.results187 rfl rfl fun w hw => ⟨?_, hw.kp⟩
      unfold restD
      rw [fin true (by simp; omega), Bool.true_or]
    · refine Jy ?_;refine Jc ?_;refine Jy ?_;refine Ji ?_;refine Jw ?_;refine Jd ?_;refine Jb ?_
      refine CW.ret1 rfl Tryz.results187 rfl rfl fun w hw => ⟨?_, hw.kp⟩
      unfold restD
      rw [fin false (by simp; omega), Bool.false_or]
  · refine Jz ?_;refine Jz ?_;refine Jw ?_;refine Jc ?_;refine Jy ?_;refine Jc ?_;refine Jy ?_;refine Ji ?_;refine Jw ?_;refine Jd ?_;refine Jb ?_
    refine CW.ret1 rfl Tryz.results187 rfl rfl fun w hw => ⟨?_, hw.kp⟩
    unfold restD
    rw [fin false (by simp; omega), Bool.false_or]
theorem big_ret {c : Nat} {w : World} : Ret Tryz.prog 200 [.int .u8 c] w (.bool (bigD c)) := by
  refine Calls.enter Tryz.func200 rfl _ rfl rfl (S := No) (H := []) trivial ?_
  refine Ja ?_;refine Jd ?_;refine Jb ?_;refine Ja ?_;refine Jc ?_;refine Jn ?_;refine Jc ?_
  refine RW.splitD 5 rfl (fun h => ?_) (fun h => ?_)
  · refine Jy ?_;refine Jc ?_;refine Jy ?_;refine Jl ?_;refine Jv ?_;refine Jd ?_;refine Jb ?_
    refine CW.ret1 rfl Tryz.results200 rfl rfl fun w hw => ⟨?_, hw.kp⟩
    unfold bigD
    rw [decide_eq_true (show 65 ≤ c by omega), Bool.true_and, show decide ((c : Int) ≤ 90) = decide (c ≤ 90) from decide_eq_decide.2 (by omega)]
  · refine Jz ?_;refine Jz ?_;refine Jw ?_;refine Jd ?_;refine Jb ?_
    refine CW.ret1 rfl Tryz.results200 rfl rfl fun w hw => ⟨?_, hw.kp⟩
    unfold bigD
    rw [decide_eq_false (show ¬ 65 ≤ c by omega), Bool.false_and]
/-- What a rune is to a name's other places. -/
def noName (r : Nat) : Bool := decide (122 < r) || (!smallD r && !restD r)
def noVar (r : Nat) : Bool := decide (122 < r) || (!smallD r && (!bigD r && !restD r))
theorem noVar_eq {r : Nat} : noVar r = (decide (122 < r) || ((!smallD r && !bigD r) && !restD r)) := by unfold noVar; rw [Bool.and_assoc]
theorem u8_small {r : Nat} (h : ¬ (122 : Int) < r) : IntKind.u8.wrap (r : Int) = ((r : Nat) : Int) := by
  have : (r : Int) < 256 := by omega
  simp [IntKind.wrap, IntKind.signed, IntKind.bits]
  omega
theorem noName_ret {r : Nat} {w : World} : Ret Tryz.prog 186 [.int .i32 r] w (.bool (noName r)) := by
  refine Calls.enter Tryz.func186 rfl _ rfl rfl (S := No) (H := []) trivial ?_
  refine Ja ?_;refine Jd ?_;refine Jb ?_;refine Ja ?_;refine Jc ?_;refine Jm ?_;refine Jc ?_
  refine RW.splitD 5 rfl (fun h => ?_) (fun h => ?_)
  · refine Jz ?_;refine Jz ?_;refine Jz ?_;refine Jz ?_;refine Jz ?_;refine Jz ?_;refine Jz ?_;refine Jz ?_;refine Jz ?_;refine Jz ?_;refine Jv ?_;refine Jd ?_;refine Jb ?_
    refine CW.ret1 rfl Tryz.results186 rfl rfl fun w hw => ⟨?_, hw.kp⟩
    unfold noName
    rw [decide_eq_true (show 122 < r by omega), Bool.true_or]
  · refine Jy ?_;refine Jc ?_;refine Jy ?_
    refine RW.conv rfl (u8_small h) rfl ?_
    refine Jy ?_
    refine RW.call Tryz.call184 rfl (fun w hw => small_ret) rfl ?_
    refine Jy ?_;refine Js ?_;refine Jy ?_;refine Jc ?_
    unfold noName
    rw [decide_eq_false (show ¬ 122 < r by omega), Bool.false_or]
    refine RW.split 10 rfl (fun h2 => ?_) (fun h2 => ?_)
    · refine Jy ?_;refine Jc ?_;refine Jy ?_
      refine RW.conv rfl (u8_small h) rfl ?_
      refine Jy ?_
      refine RW.call Tryz.call187 rfl (fun w hw => rest_ret) rfl ?_
      refine Jy ?_;refine Js ?_;refine Jy ?_;refine Jv ?_;refine Jw ?_;refine Jd ?_;refine Jb ?_
      refine CW.ret1 rfl Tryz.results186 rfl rfl fun w hw => ⟨?_, hw.kp⟩
      rw [h2, Bool.true_and]
    · refine Jz ?_;refine Jz ?_;refine Jz ?_;refine Jz ?_;refine Jy ?_;refine Jw ?_;refine Jw ?_;refine Jd ?_;refine Jb ?_
      refine CW.ret1 rfl Tryz.results186 rfl rfl fun w hw => ⟨?_, hw.kp⟩
      rw [h2, Bool.false_and]
theorem noVar_ret {r : Nat} {w : World} : Ret Tryz.prog 201 [.int .i32 r] w (.bool (noVar r)) := by
  rw [noVar_eq]
  refine Calls.enter Tryz.func201 rfl _ rfl rfl (S := No) (H := []) trivial ?_
  refine Ja ?_;refine Jd ?_;refine Jb ?_;refine Ja ?_;refine Jc ?_;refine Jm ?_;refine Jc ?_
  refine RW.splitD 5 rfl (fun h => ?_) (fun h => ?_)
  · refine Jz ?_;refine Jz ?_;refine Jz ?_;refine Jz ?_;refine Jz ?_;refine Jz ?_;refine Jz ?_;refine Jz ?_;refine Jz ?_;refine Jz ?_;refine Jz ?_;refine Jz ?_;refine Jz ?_;refine Jz ?_;refine Jz ?_;refine Jz ?_;refine Jv ?_;refine Jd ?_;refine Jb ?_
    refine CW.ret1 rfl Tryz.results201 rfl rfl fun w hw => ⟨?_, hw.kp⟩
    rw [decide_eq_true (show 122 < r by omega), Bool.true_or]
  · refine Jy ?_;refine Jc ?_;refine Jy ?_
    refine RW.conv rfl (u8_small h) rfl ?_
    refine Jy ?_
    refine RW.call Tryz.call184 rfl (fun w hw => small_ret) rfl ?_
    refine Jy ?_;refine Js ?_;refine Jy ?_;refine Jc ?_
    rw [decide_eq_false (show ¬ 122 < r by omega), Bool.false_or]
    refine RW.split 10 rfl (fun h2 => ?_) (fun h2 => ?_)
    · refine Jy ?_;refine Jc ?_;refine Jy ?_
      refine RW.conv rfl (u8_small h) rfl ?_
      refine Jy ?_
      refine RW.call Tryz.call200 rfl (fun w hw => big_ret) rfl ?_
      refine Jy ?_;refine Js ?_;refine Jy ?_;refine Jv ?_;refine Jy ?_;refine Jc ?_
      rw [h2, Bool.true_and]
      refine RW.split 16 rfl (fun h3 => ?_) (fun h3 => ?_)
      · refine Jy ?_;refine Jc ?_;refine Jy ?_
        refine RW.conv rfl (u8_small h) rfl ?_
        refine Jy ?_
        refine RW.call Tryz.call187 rfl (fun w hw => rest_ret) rfl ?_
        refine Jy ?_;refine Js ?_;refine Jy ?_;refine Jv ?_;refine Jw ?_;refine Jd ?_;refine Jb ?_
        refine CW.ret1 rfl Tryz.results201 rfl rfl fun w hw => ⟨?_, hw.kp⟩
        rw [h3, Bool.true_and]
      · refine Jz ?_;refine Jz ?_;refine Jz ?_;refine Jz ?_;refine Jy ?_;refine Jw ?_;refine Jw ?_;refine Jd ?_;refine Jb ?_
        refine CW.ret1 rfl Tryz.results201 rfl rfl fun w hw => ⟨?_, hw.kp⟩
        rw [h3, Bool.false_and]
    · refine Jz ?_;refine Jz ?_;refine Jz ?_;refine Jz ?_;refine Jy ?_;refine Jw ?_;refine Jy ?_;refine Jc ?_;refine Jz ?_;refine Jz ?_;refine Jz ?_;refine Jz ?_;refine Jy ?_;refine Jw ?_;refine Jw ?_;refine Jd ?_;refine Jb ?_
      refine CW.ret1 rfl Tryz.results201 rfl rfl fun w hw => ⟨?_, hw.kp⟩
      rw [h2, Bool.false_and, Bool.false_and]
/-- Is there a byte of that sort? -/
def anyB (p : Nat → Bool) (s : ByteArray) : Bool := s.data.toList.any fun b => p b.toNat
theorem anyB_iff {p : Nat → Bool} {s : ByteArray} : anyB p s = true ↔ ∃ (i : Nat) (h : i < s.size), p s[i].toNat = true := by
  unfold anyB
  rw [List.any_eq_true]
  constructor
  · rintro ⟨x, hx, hp⟩
    obtain ⟨i, hi, rfl⟩ := List.mem_iff_getElem.1 hx
    have hi2 : i < s.data.size := by simpa using hi
    have hp2 : p s.data[i].toNat = true := by simpa using hp
    exact ⟨i, hi2, hp2⟩
  · rintro ⟨i, hi, hp⟩
    exact ⟨s[i], by rw [List.mem_iff_getElem]; exact ⟨i, by simpa using hi, rfl⟩, hp⟩
def Idx (p : Nat → Bool) (s : ByteArray) (n : Int) : Prop := (n < 0 ↔ ¬ anyB p s = true)
theorem indexFunc_ret {s : ByteArray} {g : FuncId} {p : Nat → Bool} {w : World} (hcall : ∀ args w, (callFunc g args).run Tryz.prog w = .ok (.enter g args) w) (hp : ∀ (r : Nat) w, Ret Tryz.prog g [.int .i32 r] w (.bool (p r))) (hb : ∀ r, 128 ≤ r → p r = true) :
    RetC Tryz.prog 197 [.string s, .func (.func g) #[] #[], .bool true] w No (fun n : { n : Int // Idx p s n } => .int .i64 n.1) (fun _ => []) := by
  refine Calls.enter Tryz.func197 rfl _ rfl rfl (S := No) (H := []) trivial ?_
  refine Ja ?_;refine Jd ?_;refine Jb ?_
  refine CW.seq ?_
  refine CW.seqR ?_
  refine Jc ?_
  refine RW.rangeS rfl rfl fun b => ?_
  refine Jb ?_
  refine CW.block ?_
  refine CW.loop (ι := { k : Nat // ∀ (i : Nat) (hi : i < k) (hl : i < s.size), p s[i].toNat = false }) (fun k => [(1, .func (.func g) #[] #[]), (2, .bool true), (10, .pointer (some ⟨b, 0, none⟩))]) (fun k => [iterHP b s k.1]) (fun k => s.size - k.1) ⟨0, fun i hi => absurd hi (by omega)⟩ ⟨rfl, rfl, rfl, trivial⟩ (fun h => h) ?_
  intro ⟨k, ho⟩
  dsimp only
  refine CW.seqR ?_
  by_cases hk : k < s.size
  · refine RW.nextS [] hk rfl rfl (fun h1 => ?_) (fun c n h1 h2 h3 => ?_)
    · refine Jt ?_;refine Jb ?_
      refine CW.seq ?_
      refine CW.ct rfl ?_
      refine JM ?_
      refine CW.block ?_
      refine Ja ?_;refine Jt ?_;refine Jt ?_;refine Jd ?_;refine Jd ?_;refine Jb ?_;refine Ja ?_;refine Jc ?_;refine Jc ?_
      refine RW.callv hcall rfl rfl (fun w hw => hp _ _) rfl ?_
      refine Jc ?_;refine Jq ?_;refine Jb ?_
      refine CW.ite rfl (fun h4 => ?_) (fun h4 => ?_)
      · refine Ja ?_;refine Jc ?_;refine Jd ?_;refine Jb ?_
        refine CW.ret1 rfl Tryz.results197 rfl rfl fun w hw => ⟨⟨k, ?_⟩, rfl, hw.sub (List.nil_sublist _)⟩
        exact ⟨fun h => by omega, fun h => absurd (anyB_iff.2 ⟨k, hk, h4⟩) h⟩
      · refine CW.skip ?_
        refine PW.again ⟨k + 1, fun i hi hl => ?_⟩ ⟨rfl, rfl, rfl, trivial⟩ (fun h => h) (by show s.size - (k + 1) < s.size - k; omega)
        rcases Nat.lt_or_ge i k with h | h
        · exact ho i h hl
        · have : i = k := by omega
          subst this
          simpa using h4
    · refine Jt ?_;refine Jb ?_
      refine CW.seq ?_
      refine CW.ct rfl ?_
      refine JM ?_
      refine CW.block ?_
      refine Ja ?_;refine Jt ?_;refine Jt ?_;refine Jd ?_;refine Jd ?_;refine Jb ?_;refine Ja ?_;refine Jc ?_;refine Jc ?_
      refine RW.callv hcall rfl rfl (fun w hw => hp _ _) rfl ?_
      refine Jc ?_;refine Jq ?_;refine Jb ?_
      rw [hb c h2]
      refine CW.ite rfl (fun h4 => ?_) (fun h4 => absurd rfl h4)
      refine Ja ?_;refine Jc ?_;refine Jd ?_;refine Jb ?_
      refine CW.ret1 rfl Tryz.results197 rfl rfl fun w hw => ⟨⟨k, ?_⟩, rfl, hw.sub (List.nil_sublist _)⟩
      exact ⟨fun h => by omega, fun h => absurd (anyB_iff.2 ⟨k, hk, hb _ h1⟩) h⟩
  · refine RW.nextS_end [] hk rfl rfl ?_
    refine Jt ?_;refine Jb ?_
    refine CW.seq ?_
    refine CW.cf rfl ?_
    refine CW.exit rfl ?_
    refine PW.code ?_
    refine Ja ?_;refine Jd ?_;refine Jb ?_
    refine CW.ret1 rfl Tryz.results197 rfl rfl fun w hw => ⟨⟨-1, ?_⟩, rfl, hw.sub (List.nil_sublist _)⟩
    refine ⟨fun _ ha => ?_, fun _ => by omega⟩
    obtain ⟨i, hi, h⟩ := anyB_iff.1 ha
    rw [ho i (by omega) hi] at h
    cases h
theorem IndexFunc_ret {s : ByteArray} {g : FuncId} {p : Nat → Bool} {w : World} (hcall : ∀ args w, (callFunc g args).run Tryz.prog w = .ok (.enter g args) w) (hp : ∀ (r : Nat) w, Ret Tryz.prog g [.int .i32 r] w (.bool (p r))) (hb : ∀ r, 128 ≤ r → p r = true) :
    RetC Tryz.prog 185 [.string s, .func (.func g) #[] #[]] w No (fun n : { n : Int // Idx p s n } => .int .i64 n.1) (fun _ => []) := by
  refine Calls.enter Tryz.func185 rfl _ rfl rfl (S := No) (H := []) trivial ?_
  refine Ja ?_;refine Jd ?_;refine Jb ?_;refine Ja ?_;refine Jc ?_;refine Jc ?_
  refine RW.callN Tryz.call197 rfl (fun w hw => indexFunc_ret hcall hp hb) rfl fun n => ?_
  refine Jd ?_;refine Jb ?_
  refine CW.ret1 rfl Tryz.results185 rfl rfl fun w hw => ⟨n, rfl, hw⟩
theorem idx_dec {p : Nat → Bool} {s : ByteArray} {n : Int} (h : Idx p s n) : decide (n < 0) = !anyB p s := by
  unfold Idx at h
  cases ha : anyB p s with
  | true => rw [ha] at h; exact decide_eq_false (fun k => h.1 k rfl)
  | false => rw [ha] at h; exact decide_eq_true (h.2 (by simp))
def headB (p : Nat → Bool) (s : ByteArray) : Bool := match s[0]? with
  | some c => p c.toNat
  | none => false
theorem headB_at {p : Nat → Bool} {s : ByteArray} {c : UInt8} (h : s[0]? = some c) : headB p s = p c.toNat := by unfold headB; rw [h]
def isNameD (s : ByteArray) : Bool := headB smallD s && decide (s.size ≤ 32) && !anyB noName s
def isVarD (s : ByteArray) : Bool := headB bigD s && decide (s.size ≤ 32) && !anyB noVar s
theorem noName_big : ∀ r, 128 ≤ r → noName r = true := fun r h => by unfold noName; rw [decide_eq_true (by omega), Bool.true_or]
theorem noVar_big : ∀ r, 128 ≤ r → noVar r = true := fun r h => by unfold noVar; rw [decide_eq_true (by omega), Bool.true_or]
theorem bytes_empty {s : ByteArray} (h : ¬ s = ByteArray.empty) : ∃ h : 0 < s.size, s[0]? = some s[0] := by
  have : 0 < s.size := by
    rcases Nat.eq_zero_or_pos s.size with h2 | h2
    · exact absurd (ByteArray.size_eq_zero_iff.1 h2) h
    · exact h2
  exact ⟨this, getElem?_pos s 0 this⟩
theorem IsName_ret {s : ByteArray} {w : World} : Ret Tryz.prog 165 [.string s] w (.bool (isNameD s)) := by
  unfold isNameD
  refine Calls.enter Tryz.func165 rfl _ rfl rfl (S := No) (H := []) trivial ?_
  refine Ja ?_;refine Jd ?_;refine Jb ?_
  refine CW.seq ?_
  refine Ja ?_;refine Jc ?_;refine Jo ?_;refine Jc ?_
  refine RW.splitD 5 rfl (fun h => ?_) (fun h => ?_)
  · refine Jz ?_;refine Jz ?_;refine Jz ?_;refine Jv ?_;refine Jc ?_;refine Jz ?_;refine Jz ?_;refine Jz ?_;refine Jz ?_;refine Jv ?_;refine Jb ?_
    refine CW.ct rfl ?_
    refine Ja ?_;refine Jd ?_;refine Jb ?_
    refine CW.ret1 rfl Tryz.results165 rfl rfl fun w hw => ⟨?_, hw.kp⟩
    rw [show s = ByteArray.empty from h]; rfl
  obtain ⟨h0, h1⟩ := bytes_empty h
  rw [headB_at h1]
  refine Jy ?_;refine Jc ?_;refine Jy ?_;refine Jh ?_;refine Jy ?_;refine Jm ?_;refine Jw ?_;refine Jc ?_
  refine RW.splitD 10 rfl (fun h2 => ?_) (fun h2 => ?_)
  · refine Jz ?_;refine Jz ?_;refine Jz ?_;refine Jz ?_;refine Jv ?_;refine Jb ?_
    refine CW.ct rfl ?_
    refine Ja ?_;refine Jd ?_;refine Jb ?_
    refine CW.ret1 rfl Tryz.results165 rfl rfl fun w hw => ⟨?_, hw.kp⟩
    rw [decide_eq_false (show ¬ s.size ≤ 32 by omega), Bool.and_false, Bool.false_and]
  refine Jy ?_;refine Jc ?_;refine Jy ?_
  refine RW.indexS rfl rfl rfl h1 rfl ?_
  refine Jy ?_
  refine RW.call Tryz.call184 rfl (fun w hw => small_ret) rfl ?_
  refine Jy ?_;refine Js ?_;refine Jw ?_;refine Jb ?_
  rw [decide_eq_true (show s.size ≤ 32 by omega), Bool.and_true]
  refine CW.cond rfl (fun h3 => ?_) (fun h3 => ?_)
  · refine Ja ?_;refine Jd ?_;refine Jb ?_
    refine CW.ret1 rfl Tryz.results165 rfl rfl fun w hw => ⟨?_, hw.kp⟩
    simp only [Bool.not_eq_true'] at h3
    rw [h3, Bool.false_and]
  refine JM ?_;refine Ja ?_;refine Jc ?_
  refine RW.callN Tryz.call185 rfl (fun w hw => IndexFunc_ret (p := noName) Tryz.call186 (fun r w => noName_ret) noName_big) rfl fun n => ?_
  refine Jk ?_;refine Jd ?_;refine Jb ?_
  refine CW.ret1 rfl Tryz.results165 rfl rfl fun w hw => ⟨?_, hw.kp⟩
  simp only [Bool.not_eq_false'] at h3
  rw [h3, Bool.true_and]
  congr 2
  exact idx_dec n.2
theorem IsVar_ret {s : ByteArray} {w : World} : Ret Tryz.prog 191 [.string s] w (.bool (isVarD s)) := by
  unfold isVarD
  refine Calls.enter Tryz.func191 rfl _ rfl rfl (S := No) (H := []) trivial ?_
  refine Ja ?_;refine Jd ?_;refine Jb ?_
  refine CW.seq ?_
  refine Ja ?_;refine Jc ?_;refine Jo ?_;refine Jc ?_
  refine RW.splitD 5 rfl (fun h => ?_) (fun h => ?_)
  · refine Jz ?_;refine Jz ?_;refine Jz ?_;refine Jv ?_;refine Jc ?_;refine Jz ?_;refine Jz ?_;refine Jz ?_;refine Jz ?_;refine Jv ?_;refine Jb ?_
    refine CW.ct rfl ?_
    refine Ja ?_;refine Jd ?_;refine Jb ?_
    refine CW.ret1 rfl Tryz.results191 rfl rfl fun w hw => ⟨?_, hw.kp⟩
    rw [show s = ByteArray.empty from h]; rfl
  obtain ⟨h0, h1⟩ := bytes_empty h
  rw [headB_at h1]
  refine Jy ?_;refine Jc ?_;refine Jy ?_;refine Jh ?_;refine Jy ?_;refine Jm ?_;refine Jw ?_;refine Jc ?_
  refine RW.splitD 10 rfl (fun h2 => ?_) (fun h2 => ?_)
  · refine Jz ?_;refine Jz ?_;refine Jz ?_;refine Jz ?_;refine Jv ?_;refine Jb ?_
    refine CW.ct rfl ?_
    refine Ja ?_;refine Jd ?_;refine Jb ?_
    refine CW.ret1 rfl Tryz.results191 rfl rfl fun w hw => ⟨?_, hw.kp⟩
    rw [decide_eq_false (show ¬ s.size ≤ 32 by omega), Bool.and_false, Bool.false_and]
  refine Jy ?_;refine Jc ?_;refine Jy ?_
  refine RW.indexS rfl rfl rfl h1 rfl ?_
  refine Jy ?_
  refine RW.call Tryz.call200 rfl (fun w hw => big_ret) rfl ?_
  refine Jy ?_;refine Js ?_;refine Jw ?_;refine Jb ?_
  rw [decide_eq_true (show s.size ≤ 32 by omega), Bool.and_true]
  refine CW.cond rfl (fun h3 => ?_) (fun h3 => ?_)
  · refine Ja ?_;refine Jd ?_;refine Jb ?_
    refine CW.ret1 rfl Tryz.results191 rfl rfl fun w hw => ⟨?_, hw.kp⟩
    simp only [Bool.not_eq_true'] at h3
    rw [h3, Bool.false_and]
  refine JM ?_;refine Ja ?_;refine Jc ?_
  refine RW.callN Tryz.call185 rfl (fun w hw => IndexFunc_ret (p := noVar) Tryz.call201 (fun r w => noVar_ret) noVar_big) rfl fun n => ?_
  refine Jk ?_;refine Jd ?_;refine Jb ?_
  refine CW.ret1 rfl Tryz.results191 rfl rfl fun w hw => ⟨?_, hw.kp⟩
  simp only [Bool.not_eq_false'] at h3
  rw [h3, Bool.true_and]
  congr 2
  exact idx_dec n.2
end Go.Proofs.YtkfmlekomfnleaaGreat
