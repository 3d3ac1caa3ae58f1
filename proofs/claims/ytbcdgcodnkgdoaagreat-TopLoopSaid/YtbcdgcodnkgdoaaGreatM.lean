/- The calculus, eleventh part: maps of one's own. Conditions: none; everything holds over any program. -/
import Derived.Test.YtbcdgcodnkgdoaaGreatJ
import Derived.MapKept
set_option linter.unusedVariables false
set_option linter.unusedSimpArgs false
namespace Go.Proofs.YtbcdgcodnkgdoaaGreat
open Go Go.RowKit Go.MapKept

/-- Keys of a kind, as values. -/
class KeyOK {κ : Type} (ι : κ → Value) (d : TypeDesc) : Prop where
  inj : ∀ a b, ι a = ι b → a = b
  isKey : ∀ a, IsKey d (ι a)
instance key_string : KeyOK Value.string .string := ⟨fun a b h => by injection h, fun a => trivial⟩
instance key_int (k : IntKind) : KeyOK (Value.int k) (.int k) := ⟨fun a b h => by injection h, fun a => rfl⟩
section
variable {κ α : Type} [DecidableEq κ]
def getM : List (κ × α) → κ → Option α
  | [], _ => none
  | (k', v) :: r, k => if k' = k then some v else getM r k
def putM : List (κ × α) → κ → α → List (κ × α)
  | [], k, v => [(k, v)]
  | (k', v') :: r, k, v => if k' = k then (k, v) :: r else (k', v') :: putM r k v
theorem getM_none {D : List (κ × α)} {k : κ} (h : ∀ x ∈ D, x.1 ≠ k) : getM D k = none := by
  induction D with
  | nil => rfl
  | cons x D ih =>
    rw [getM, if_neg (h x (by simp))]
    exact ih fun y hy => h y (by simp [hy])
theorem putM_none {D : List (κ × α)} {k : κ} (h : ∀ x ∈ D, x.1 ≠ k) (v : α) : putM D k v = D ++ [(k, v)] := by
  induction D with
  | nil => rfl
  | cons x D ih =>
    rw [putM, if_neg (h x (by simp)), ih fun y hy => h y (by simp [hy])]
    rfl
theorem getM_at {D : List (κ × α)} {k : κ} {u : α} : ∀ {j : Nat}, (D.map (·.1)).Nodup → D[j]? = some (k, u) → getM D k = some u ∧ ∀ v, putM D k v = D.set j (k, v) := by
  induction D with
  | nil => intro j _ h; simp at h
  | cons x D ih =>
    intro j hn hj
    rw [List.map_cons, List.nodup_cons] at hn
    cases j with
    | zero =>
      simp only [List.getElem?_cons_zero, Option.some.injEq] at hj
      subst hj
      exact ⟨by rw [getM, if_pos rfl], fun v => by rw [putM, if_pos rfl]; rfl⟩
    | succ j =>
      simp only [List.getElem?_cons_succ] at hj
      have hne : ¬ x.1 = k := fun he => hn.1 (List.mem_map.2 ⟨_, List.mem_of_getElem? hj, he.symm⟩)
      obtain ⟨h1, h2⟩ := ih hn.2 hj
      exact ⟨by rw [getM, if_neg hne, h1], fun v => by rw [putM, if_neg hne, h2]; rfl⟩
theorem getM_put (D : List (κ × α)) (k k' : κ) (v : α) : getM (putM D k v) k' = if k = k' then some v else getM D k' := by
  induction D with
  | nil => rw [putM, getM]; rfl
  | cons x D ih =>
    rw [putM]
    by_cases h : x.1 = k
    · rw [if_pos h, getM, getM]
      by_cases h2 : k = k'
      · rw [if_pos h2, if_pos h2]
      · rw [if_neg h2, if_neg h2, if_neg (fun e => h2 (h.symm.trans e))]
    · rw [if_neg h, getM, getM, ih]
      by_cases h3 : x.1 = k'
      · rw [if_pos h3, if_pos h3, if_neg (fun e => h (h3.trans e.symm))]
      · rw [if_neg h3, if_neg h3]
end
/-- A map that holds D. -/
def MapAt {κ α : Type} (w : World) (ι : κ → Value) (υ : α → Value) (b : Nat) (D : List (κ × α)) : Prop := ∃ es clock, w.heap[b]? = some (.map es clock) ∧ Stamped es clock ∧ es.toList.map (fun e => (e.key, e.val)) = D.map (fun x => (ι x.1, υ x.2))
theorem MapAt.keeps {κ α : Type} {w w' : World} {ι : κ → Value} {υ : α → Value} {b : Nat} {D : List (κ × α)} {S : Nat → Prop} (h : MapAt w ι υ b D) (k : Keeps S w w') (hS : ¬ S b) : MapAt w' ι υ b D := by
  obtain ⟨es, clock, h1, h2⟩ := h
  exact ⟨es, clock, (k.block b (Array.getElem?_eq_some_iff.1 h1).1 hS).trans h1, h2⟩
/-- A map of one's own that holds D. -/
def mapHP {κ α : Type} (ι : κ → Value) (υ : α → Value) (d : TypeDesc) (b : Nat) (D : List (κ × α)) : HP where
  p w F := F b ∧ MapAt w ι υ b D
  st := fun h _ ⟨hb, es, clock, h1, h2⟩ => ⟨hb, es, clock, (h b hb (Array.getElem?_eq_some_iff.1 h1).1).trans h1, h2⟩
  up := fun h ⟨hb, k⟩ => ⟨h b hb, k⟩
section
variable {κ α : Type} {ι : κ → Value} {υ : α → Value} {d : TypeDesc} {D : List (κ × α)} {es : Array MapEntry} {clock : Nat}
theorem map_keys [KO : KeyOK ι d] (h : es.toList.map (fun e => (e.key, e.val)) = D.map (fun x => (ι x.1, υ x.2))) : ∀ x ∈ es.toList, IsKey d x.key := by
  intro x hx
  have : (x.key, x.val) ∈ D.map (fun x => (ι x.1, υ x.2)) := by rw [← h]; exact List.mem_map.2 ⟨x, hx, rfl⟩
  obtain ⟨y, _, he⟩ := List.mem_map.1 this
  injection he with h1 h2
  rw [← h1]; exact KO.isKey _
theorem map_nodup (h : es.toList.map (fun e => (e.key, e.val)) = D.map (fun x => (ι x.1, υ x.2))) (hs : Stamped es clock) : (D.map (·.1)).Nodup := by
  have h1 : es.toList.map (·.key) = D.map fun x => ι x.1 := by
    have := congrArg (List.map Prod.fst) h
    rw [List.map_map, List.map_map] at this
    exact this
  have h2 := hs.2.2
  rw [h1, show (D.map fun x => ι x.1) = (D.map (·.1)).map ι from (List.map_map ..).symm] at h2
  exact List.Pairwise.of_map ι (fun a b hab he => hab (by rw [he])) h2
/-- What a look for a key comes to. -/
theorem map_find [DecidableEq κ] [KO : KeyOK ι d] (h : es.toList.map (fun e => (e.key, e.val)) = D.map (fun x => (ι x.1, υ x.2))) (hs : Stamped es clock) (k : κ) :
    (Instr.findNow d (ι k) es.toList 0 = some none ∧ getM D k = none ∧ (∀ x ∈ es.toList, x.key ≠ ι k) ∧ ∀ v, putM D k v = D ++ [(k, v)]) ∨
    ∃ j e u, Instr.findNow d (ι k) es.toList 0 = some (some (j, υ u)) ∧ es[j]? = some e ∧ e.key = ι k ∧ e.val = υ u ∧ getM D k = some u ∧ ∀ v, putM D k v = D.set j (k, v) := by
  rcases findNow_spec (KO.isKey k) es.toList 0 (map_keys h) with ⟨h1, h2⟩ | ⟨j, e, h1, h2, h3⟩
  · have hn : ∀ x ∈ D, x.1 ≠ k := fun x hx he => by
      have : (ι x.1, υ x.2) ∈ es.toList.map (fun e => (e.key, e.val)) := by rw [h]; exact List.mem_map.2 ⟨x, hx, rfl⟩
      obtain ⟨y, hy, he'⟩ := List.mem_map.1 this
      injection he' with h4 h5
      exact h2 y hy (by rw [h4, he])
    exact .inl ⟨h1, getM_none hn, h2, fun v => putM_none hn v⟩
  · have hj : (D.map (fun x => (ι x.1, υ x.2)))[j]? = some (e.key, e.val) := by rw [← h, List.getElem?_map, h2]; rfl
    rw [List.getElem?_map] at hj
    cases hd : D[j]? with
    | none => rw [hd] at hj; cases hj
    | some x =>
      rw [hd] at hj
      simp only [Option.map_some, Option.some.injEq, Prod.mk.injEq] at hj
      have hk : x.1 = k := KO.inj _ _ (hj.1.trans h3)
      obtain ⟨x1, x2⟩ := x
      simp only at hk hj
      subst hk
      obtain ⟨g1, g2⟩ := getM_at (map_nodup h hs) hd
      rw [Nat.zero_add, ← hj.2] at h1
      exact .inr ⟨j, e, x2, h1, by rw [← Array.getElem?_toList]; exact h2, h3, hj.2.symm, g1, g2⟩
end
section
variable {P : Program} {E : Env} {ops : Array Oper} {Q : Pst} {rest : List Oper} {G : List (Nat × Value)} {H : List HP}
variable {dst : Nat} {ty : TypeId} {pos : String} {af : Array Edge} {t kt et : TypeId} {kd ed : TypeDesc} {z kz ez v : Value} {sz by_ ksz kby esz eby : Nat} {x y u : Operand}
variable {κ α : Type} {ι : κ → Value} {υ : α → Value} {D : List (κ × α)} {b : Nat} {k : κ}
theorem run_lookup_own [DecidableEq κ] [T : Ty P t (.map kt et) z sz by_] [TK : Ty P kt kd kz ksz kby] [TE : Ty P et ed ez esz eby] [KO : KeyOK ι kd] {w : World} {a0 : α} (hz : ez = υ a0) (h : MapAt w ι υ b D) (k : κ) (ok : Bool) :
    (Instr.lookup t (.map (some b)) (ι k) ok).run P w = .ok (if ok then .tuple #[υ ((getM D k).getD a0), .bool (getM D k).isSome] else υ ((getM D k).getD a0)) w := by
  obtain ⟨es, clock, hb, hs, hm⟩ := h
  rcases map_find (KO := KO) hm hs k with ⟨h1, h2, _, _⟩ | ⟨j, e, a, h1, _, _, _, h2, _⟩
  · cases ok <;> simp [Instr.lookup, T.runUnd, Go.MapKept.run_getObj_map hb, Go.MapKept.run_checkKey TK.und (KO.isKey k), Go.MapKept.run_findKey TK.und h1, TE.runZero, Result.andThen, h2, hz]
  · cases ok <;> simp [Instr.lookup, T.runUnd, Go.MapKept.run_getObj_map hb, Go.MapKept.run_checkKey TK.und (KO.isKey k), Go.MapKept.run_findKey TK.und h1, Result.andThen, h2]
theorem RW.lookup [DecidableEq κ] [T : Ty P t (.map kt et) z sz by_] [TK : Ty P kt kd kz ksz kby] [TE : Ty P et ed ez esz eby] [KO : KeyOK ι kd] (pre : List HP) {r : List HP} {a0 : α} (hz : ez = υ a0) (hx : ev G x = some (.map (some b))) (hy : ev G y = some (ι k)) (hN : Nat.blt dst E.N = true)
    (kk : RW P E ops Q rest ((dst, υ ((getM D k).getD a0)) :: G) (pre ++ mapHP ι υ kd b D :: r)) : RW P E ops Q (⟨some dst, .lookup t x y false, ty, pos, af, none⟩ :: rest) G (pre ++ mapHP ι υ kd b D :: r) :=
  RW.val hN (fun a w hf hw => by
    obtain ⟨F, hp, _⟩ := hw.get
    simp [execOp, hf.eval hx, hf.eval hy, run_lookup_own hz hp.2 k false, Result.andThen]) kk
theorem RW.lookupOk [DecidableEq κ] [T : Ty P t (.map kt et) z sz by_] [TK : Ty P kt kd kz ksz kby] [TE : Ty P et ed ez esz eby] [KO : KeyOK ι kd] (pre : List HP) {r : List HP} {a0 : α} (hz : ez = υ a0) (hx : ev G x = some (.map (some b))) (hy : ev G y = some (ι k)) (hN : Nat.blt dst E.N = true)
    (kk : RW P E ops Q rest ((dst, .tuple #[υ ((getM D k).getD a0), .bool (getM D k).isSome]) :: G) (pre ++ mapHP ι υ kd b D :: r)) : RW P E ops Q (⟨some dst, .lookup t x y true, ty, pos, af, none⟩ :: rest) G (pre ++ mapHP ι υ kd b D :: r) :=
  RW.val hN (fun a w hf hw => by
    obtain ⟨F, hp, _⟩ := hw.get
    simp [execOp, hf.eval hx, hf.eval hy, run_lookup_own hz hp.2 k true, Result.andThen]) kk
/-- A look into a map that one may read for good. -/
theorem RW.lookup_ro [DecidableEq κ] [T : Ty P t (.map kt et) z sz by_] [TK : Ty P kt kd kz ksz kby] [TE : Ty P et ed ez esz eby] [KO : KeyOK ι kd] {a0 : α} (hz : ez = υ a0) (hm : MapAt E.w0 ι υ b D) (hS : ¬ E.S b) (hx : ev G x = some (.map (some b))) (hy : ev G y = some (ι k)) (hN : Nat.blt dst E.N = true)
    (kk : RW P E ops Q rest ((dst, υ ((getM D k).getD a0)) :: G) H) : RW P E ops Q (⟨some dst, .lookup t x y false, ty, pos, af, none⟩ :: rest) G H :=
  RW.val hN (fun a w hf hw => by
    simp [execOp, hf.eval hx, hf.eval hy, run_lookup_own hz (hm.keeps hw.kp hS) k false, Result.andThen]) kk
theorem RW.lookupOk_ro [DecidableEq κ] [T : Ty P t (.map kt et) z sz by_] [TK : Ty P kt kd kz ksz kby] [TE : Ty P et ed ez esz eby] [KO : KeyOK ι kd] {a0 : α} (hz : ez = υ a0) (hm : MapAt E.w0 ι υ b D) (hS : ¬ E.S b) (hx : ev G x = some (.map (some b))) (hy : ev G y = some (ι k)) (hN : Nat.blt dst E.N = true)
    (kk : RW P E ops Q rest ((dst, .tuple #[υ ((getM D k).getD a0), .bool (getM D k).isSome]) :: G) H) : RW P E ops Q (⟨some dst, .lookup t x y true, ty, pos, af, none⟩ :: rest) G H :=
  RW.val hN (fun a w hf hw => by
    simp [execOp, hf.eval hx, hf.eval hy, run_lookup_own hz (hm.keeps hw.kp hS) k true, Result.andThen]) kk
/-- One object exchanged, of a chunk's own. -/
theorem St.setobj {w0 w : World} {S : Nat → Prop} {pre r : List HP} {c d : HP} (h : St w0 S (pre ++ c :: r) w) {B : Nat} {o : Obj} (hB : ∀ F, c.p w F → F B) (hd : ∀ F, c.p w F → d.p { w with heap := w.heap.setIfInBounds B o } F) : St w0 S (pre ++ d :: r) { w with heap := w.heap.setIfInBounds B o } := by
  obtain ⟨F, hF, hc, hr⟩ := Sep.pull h.sep
  have hs : (w.heap.setIfInBounds B o).size = w.heap.size := by simp
  have hne : ∀ i, i ≠ B → (w.heap.setIfInBounds B o)[i]? = w.heap[i]? := fun i hi => by simp [Ne.symm hi]
  refine ⟨h.kp.trans (S2 := fun i => i = B) ⟨rfl, rfl, rfl, by show _ ≤ (w.heap.setIfInBounds B o).size; rw [hs]; exact Nat.le_refl _, fun i _ hn => hne i hn⟩ (fun i hi => hi ▸ (hF B (hB F hc)).1), Sep.push ⟨F, fun b hb => ⟨(hF b hb).1, by show _ < (w.heap.setIfInBounds B o).size; rw [hs]; exact (hF b hb).2⟩, hd F hc, ?_⟩⟩
  exact Sep.keep (fun i hi _ => hne i (fun e => hi.2 (e ▸ hB F hc))) (by show _ ≤ (w.heap.setIfInBounds B o).size; rw [hs]; exact Nat.le_refl _) hr
theorem RW.makeMap [T : Ty P t (.map kt et) z sz by_] (ι : κ → Value) (υ : α → Value) (kd : TypeDesc) {res : Option Operand} (hres : ∀ o, res = some o → ∃ n : Int, ev G o = some (.int .i64 n)) (hN : Nat.blt dst E.N = true)
    (kk : ∀ b, RW P E ops Q rest ((dst, .map (some b)) :: G) (mapHP ι υ kd b ([] : List (κ × α)) :: H)) : RW P E ops Q (⟨some dst, .makeMap t res, ty, pos, af, none⟩ :: rest) G H :=
  RW.step rfl (fun a w hf hw => by
    have hrun : (execOp a.eval ⟨some dst, .makeMap t res, ty, pos, af, none⟩).run P w = .ok (.value (.map (some w.heap.size))) (w.alloc (.map #[] 0)) := by
      cases res with
      | none => simp [execOp, Instr.makeMap, newObj, Result.andThen]; rfl
      | some o =>
        obtain ⟨n, hn⟩ := hres o rfl
        simp [execOp, Instr.makeMap, newObj, hf.eval hn, T.runUnd, asInt, asIntOf, Result.andThen]; rfl
    rw [hrun]
    refine kk w.heap.size _ _ (hf.put hN _) (hw.fresh (Keeps.alloc _ _ _) ⟨⟨Nat.le_refl _, ?_⟩, #[], 0, ?_, stamped_empty 0, rfl⟩)
    · show _ < (w.heap.push _).size; simp
    · exact (heap_alloc w _).1)
theorem map_set {es : Array MapEntry} {j : Nat} {e : MapEntry} {clock : Nat} {kd : TypeDesc} [KO : KeyOK ι kd] {a : α} (hm : es.toList.map (fun e => (e.key, e.val)) = D.map (fun x => (ι x.1, υ x.2))) (hs : Stamped es clock) (hj : es[j]? = some e) (hk : e.key = ι k) :
    Stamped (es.modify j fun e => { e with key := ι k, val := υ a }) clock ∧ (es.modify j fun e => { e with key := ι k, val := υ a }).toList.map (fun e => (e.key, e.val)) = (D.set j (k, a)).map (fun x => (ι x.1, υ x.2)) := by
  refine ⟨stamped_modify hs _ _ (fun _ _ => rfl) (fun e' _ he' => by rw [hj] at he'; cases he'; exact hk.symm), ?_⟩
  rw [List.map_set, ← hm]
  apply List.ext_getElem?
  intro i
  simp only [List.getElem?_map, Array.getElem?_toList, Array.getElem?_modify, List.getElem?_set, List.length_map, Array.length_toList]
  by_cases hij : j = i
  · subst hij
    have hlt := (Array.getElem?_eq_some_iff.1 hj).1
    simp [hlt]
  · simp [hij]
theorem RW.mapUpdate [DecidableEq κ] [T : Ty P t (.map kt et) z sz by_] [TK : Ty P kt kd kz ksz kby] [KO : KeyOK ι kd] (pre : List HP) {r : List HP} {a : α} {dst : Option Nat} (hdst : dst = none) (hx : ev G x = some (.map (some b))) (hy : ev G y = some (ι k)) (hu : ev G u = some (υ a))
    (kk : RW P E ops Q rest G (pre ++ mapHP ι υ kd b (putM D k a) :: r)) : RW P E ops Q (⟨dst, .mapUpdate t x y u, ty, pos, af, none⟩ :: rest) G (pre ++ mapHP ι υ kd b D :: r) := by
  subst hdst
  exact RW.step rfl (fun f w hf hw => by
    obtain ⟨F, ⟨_, es, clock, hb, hs, hm⟩, _⟩ := hw.get
    rcases map_find (KO := KO) hm hs k with ⟨h1, _, h2, h3⟩ | ⟨j, e, u0, h1, hj, hk, _, _, h3⟩
    · have hrun : (execOp f.eval ⟨none, .mapUpdate t x y u, ty, pos, af, none⟩).run P w = .ok .skip { w with heap := w.heap.setIfInBounds b (.map (es.push { key := ι k, val := υ a, born := clock }) (clock + 1)) } := by
        simp [execOp, hf.eval hx, hf.eval hy, hf.eval hu, Instr.mapUpdate, T.runUnd, Go.MapKept.run_getObj_map hb, Go.MapKept.run_checkKey TK.und (KO.isKey k), Go.MapKept.run_findKey TK.und h1, Go.MapKept.run_setObj_map _ hb, Result.andThen]
      rw [hrun]
      refine kk _ _ (hf.skip _) (hw.setobj (fun F hp => hp.1) (fun F hp => ⟨hp.1, _, _, (heap_set hb).1, stamped_push hs h2, ?_⟩))
      rw [h3, Array.toList_push, List.map_append, List.map_append, hm]; rfl
    · have hrun : (execOp f.eval ⟨none, .mapUpdate t x y u, ty, pos, af, none⟩).run P w = .ok .skip { w with heap := w.heap.setIfInBounds b (.map (es.modify j fun e => { e with key := ι k, val := υ a }) clock) } := by
        simp [execOp, hf.eval hx, hf.eval hy, hf.eval hu, Instr.mapUpdate, T.runUnd, Go.MapKept.run_getObj_map hb, Go.MapKept.run_checkKey TK.und (KO.isKey k), Go.MapKept.run_findKey TK.und h1, hj, hk, Go.MapKept.run_keyThatStays (KO.isKey k), Go.MapKept.run_setObj_map _ hb, Result.andThen]
      rw [hrun]
      obtain ⟨g1, g2⟩ := map_set (KO := KO) (a := a) hm hs hj hk
      exact kk _ _ (hf.skip _) (hw.setobj (fun F hp => hp.1) (fun F hp => ⟨hp.1, _, _, (heap_set hb).1, g1, by rw [h3]; exact g2⟩)))
/-- A map, and which stamp its entry at k bears. -/
def mapEnt (ι : κ → Value) (υ : α → Value) (d : TypeDesc) (b : Nat) (D : List (κ × α)) (k : κ) (s : Int) : HP where
  p w F := F b ∧ ∃ (es : Array MapEntry) (clock j : Nat) (e : MapEntry), w.heap[b]? = some (.map es clock) ∧ Stamped es clock ∧ es.toList.map (fun e => (e.key, e.val)) = D.map (fun x => (ι x.1, υ x.2)) ∧ es[j]? = some e ∧ e.key = ι k ∧ (e.born : Int) = s
  st := fun h _ ⟨hb, es, clock, j, e, h1, h2⟩ => ⟨hb, es, clock, j, e, (h b hb (Array.getElem?_eq_some_iff.1 h1).1).trans h1, h2⟩
  up := fun h ⟨hb, k⟩ => ⟨h b hb, k⟩
theorem putM_put [DecidableEq κ] (D : List (κ × α)) (k : κ) (u v : α) : putM (putM D k u) k v = putM D k v := by
  induction D with
  | nil => simp [putM]
  | cons x D ih =>
    rw [putM, putM]
    by_cases h : x.1 = k
    · rw [if_pos h, if_pos h, putM, if_pos rfl]
    · rw [if_neg h, if_neg h, putM, if_neg h, ih]
theorem RW.mapEntry [DecidableEq κ] [T : Ty P t (.map kt et) z sz by_] [TK : Ty P kt kd kz ksz kby] [TE : Ty P et ed ez esz eby] [KO : KeyOK ι kd] (pre : List HP) {r : List HP} {a0 : α} (hz : ez = υ a0) (hx : ev G x = some (.map (some b))) (hy : ev G y = some (ι k)) (hN : Nat.blt dst E.N = true)
    (kk : ∀ s, RW P E ops Q rest ((dst, .tuple #[υ ((getM D k).getD a0), .int .i64 s]) :: G) (pre ++ mapEnt ι υ kd b (putM D k ((getM D k).getD a0)) k s :: r)) : RW P E ops Q (⟨some dst, .mapEntry t x y, ty, pos, af, none⟩ :: rest) G (pre ++ mapHP ι υ kd b D :: r) :=
  RW.step rfl (fun f w hf hw => by
    obtain ⟨F, ⟨_, es, clock, hb, hs, hm⟩, _⟩ := hw.get
    rcases map_find (KO := KO) hm hs k with ⟨h1, h4, h2, h3⟩ | ⟨j, e, u0, h1, hj, hk, hv, h4, h3⟩
    · have hrun : (execOp f.eval ⟨some dst, .mapEntry t x y, ty, pos, af, none⟩).run P w = .ok (.value (.tuple #[υ ((getM D k).getD a0), .int .i64 clock])) { w with heap := w.heap.setIfInBounds b (.map (es.push { key := ι k, val := υ a0, born := clock }) (clock + 1)) } := by
        simp [execOp, hf.eval hx, hf.eval hy, Instr.mapEntry, T.runUnd, Go.MapKept.run_getObj_map hb, Go.MapKept.run_checkKey TK.und (KO.isKey k), Go.MapKept.run_findKey TK.und h1, Go.MapKept.run_setObj_map _ hb, Result.andThen, TE.runZero, hz, h4, goInt]
      rw [hrun]
      refine kk _ _ _ (hf.put hN _) (hw.setobj (fun F hp => hp.1) (fun F hp => ⟨hp.1, _, _, es.size, { key := ι k, val := υ a0, born := clock }, (heap_set hb).1, stamped_push hs h2, ?_, by simp, rfl, rfl⟩))
      rw [h3, h4, Array.toList_push, List.map_append, List.map_append, hm]; rfl
    · have hrun : (execOp f.eval ⟨some dst, .mapEntry t x y, ty, pos, af, none⟩).run P w = .ok (.value (.tuple #[υ ((getM D k).getD a0), .int .i64 e.born])) { w with heap := w.heap.setIfInBounds b (.map (es.modify j fun e => { e with key := ι k }) clock) } := by
        simp [execOp, hf.eval hx, hf.eval hy, Instr.mapEntry, T.runUnd, Go.MapKept.run_getObj_map hb, Go.MapKept.run_checkKey TK.und (KO.isKey k), Go.MapKept.run_findKey TK.und h1, hj, hk, Go.MapKept.run_keyThatStays (KO.isKey k), Go.MapKept.run_setObj_map _ hb, Result.andThen, h4, goInt]
      rw [hrun]
      have hself : (es.modify j fun e => { e with key := ι k }) = es := by
        apply Array.ext_getElem?
        intro i
        rw [Array.getElem?_modify]
        by_cases hij : j = i
        · subst hij
          rw [if_pos rfl, hj]
          simp [← hk]
        · rw [if_neg hij]
      rw [hself]
      refine kk _ _ _ (hf.put hN _) (hw.setobj (fun F hp => hp.1) (fun F hp => ⟨hp.1, es, clock, j, e, (heap_set hb).1, hs, ?_, hj, hk, rfl⟩))
      obtain ⟨_, g2⟩ := map_set (KO := KO) (a := u0) hm hs hj hk
      rw [h4]
      show _ = (putM D k u0).map _
      rw [h3, ← g2]
      congr 1
      apply List.ext_getElem?
      intro i
      rw [Array.getElem?_toList, Array.getElem?_toList, Array.getElem?_modify]
      by_cases hij : j = i
      · subst hij
        rw [if_pos rfl, hj]
        simp [← hk, ← hv]
      · rw [if_neg hij])
theorem RW.entryStore [DecidableEq κ] [T : Ty P t (.map kt et) z sz by_] [KO : KeyOK ι kd] (pre : List HP) {r : List HP} {a : α} {s : Int} {dst : Option Nat} (hdst : dst = none) (hx : ev G x = some (.map (some b))) (hy : ev G y = some (.int .i64 s)) (hu : ev G u = some (υ a))
    (kk : RW P E ops Q rest G (pre ++ mapHP ι υ kd b (putM D k a) :: r)) : RW P E ops Q (⟨dst, .entryStore t x y u, ty, pos, af, none⟩ :: rest) G (pre ++ mapEnt ι υ kd b D k s :: r) := by
  subst hdst
  exact RW.step rfl (fun f w hf hw => by
    obtain ⟨F, ⟨_, es, clock, j, e, hb, hs, hm, hj, hk, hborn⟩, _⟩ := hw.get
    have hidx : es.findIdx? (fun e => (e.born : Int) == s) = some j := by
      rw [Array.findIdx?_eq_some_iff_getElem]
      obtain ⟨hlt, he⟩ := Array.getElem?_eq_some_iff.1 hj
      refine ⟨hlt, by rw [he]; simpa using hborn, fun i hi => ?_⟩
      have h2 := hs.2.1
      rw [List.nodup_iff_pairwise_ne, List.pairwise_iff_getElem] at h2
      have h3 := h2 i j (by simp; omega) (by simpa using hlt) hi
      simp only [List.getElem_map, Array.getElem_toList] at h3
      rw [he] at h3
      simp only [beq_iff_eq, ← hborn]
      intro h4
      exact h3 (by omega)
    have hrun : (execOp f.eval ⟨none, .entryStore t x y u, ty, pos, af, none⟩).run P w = .ok .skip { w with heap := w.heap.setIfInBounds b (.map (es.modify j fun e => { e with val := υ a }) clock) } := by
      simp [execOp, hf.eval hx, hf.eval hy, hf.eval hu, Instr.entryStore, Go.MapKept.run_getObj_map hb, asInt, asIntOf, hidx, Go.MapKept.run_setObj_map _ hb, Result.andThen]
    rw [hrun]
    have hself : (es.modify j fun e => { e with val := υ a }) = (es.modify j fun e => { e with key := ι k, val := υ a }) := by
      apply Array.ext_getElem?
      intro i
      rw [Array.getElem?_modify, Array.getElem?_modify]
      by_cases hij : j = i
      · subst hij
        rw [if_pos rfl, if_pos rfl, hj]
        simp [← hk]
      · rw [if_neg hij, if_neg hij]
    rw [hself]
    obtain ⟨g1, g2⟩ := map_set (KO := KO) (a := a) hm hs hj hk
    have hput : putM D k a = D.set j (k, a) := by
      rcases map_find (KO := KO) hm hs k with ⟨_, _, h2, _⟩ | ⟨j', e', u0, _, hj', hk', _, _, h3⟩
      · exact absurd hk (h2 e (by rw [← Array.getElem?_toList] at hj; exact List.mem_of_getElem? hj))
      · have : j' = j := by
          have h2 := hs.2.2
          rw [List.nodup_iff_pairwise_ne, List.pairwise_iff_getElem] at h2
          obtain ⟨l1, e1⟩ := Array.getElem?_eq_some_iff.1 hj
          obtain ⟨l2, e2⟩ := Array.getElem?_eq_some_iff.1 hj'
          rcases Nat.lt_trichotomy j j' with h | h | h
          · have := h2 j j' (by simpa using l1) (by simpa using l2) h
            simp only [List.getElem_map, Array.getElem_toList] at this
            rw [e1, e2] at this
            exact absurd (hk.trans hk'.symm) this
          · exact h.symm
          · have := h2 j' j (by simpa using l2) (by simpa using l1) h
            simp only [List.getElem_map, Array.getElem_toList] at this
            rw [e1, e2] at this
            exact absurd (hk'.trans hk.symm) this
        subst this
        exact h3 a
    exact kk _ _ (hf.skip _) (hw.setobj (fun F hp => hp.1) (fun F hp => ⟨hp.1, _, _, (heap_set hb).1, g1, by rw [hput]; exact g2⟩)))
end
end Go.Proofs.YtbcdgcodnkgdoaaGreat
