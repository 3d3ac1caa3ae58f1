/- Parts of the proof: The law of own lists, walked. Conditions: none. -/
import Derived.Test.YtkfmlekomfnleaaGreatPo9
/- The law of own lists, walked. Conditions: none. -/
set_option linter.unusedVariables false
set_option linter.unusedSimpArgs false
set_option maxRecDepth 10000
namespace Go.Proofs.YtkfmlekomfnleaaGreat
open Go Go.RowKit Go.MapKept

theorem varsD_len (s : kStat.V) (n : Int) : (varsD s n).1.length ≤ 1028 ∧ (varsD s n).2.1.length ≤ 1028 := by
  unfold varsD
  split
  · rename_i h1
    obtain ⟨m, hm, _⟩ := check_ok h1
    obtain ⟨hK, hrs⟩ := items_rules hm
    split
    · exact ⟨Nat.zero_le _, Nat.zero_le _⟩
    · rename_i h2
      have hn : n.toNat < (sRules s).length := by omega
      have hat : (sRules s)[n.toNat]? = some (ruleAt s n) := by unfold ruleAt; rw [List.getElem?_eq_getElem hn]; rfl
      obtain ⟨hB, c, hc⟩ := hrs _ (List.mem_of_getElem? hat)
      rw [hc]
      have := ruleD_len hK hB hc
      exact ⟨this, by show (List.map _ _).length ≤ _; rw [List.length_map]; exact this⟩
  · exact ⟨Nat.zero_le _, Nat.zero_le _⟩
theorem litD_len (s : kStat.V) (l : kLitT.V) : (litD s l).1.2.2.1.length ≤ l.2.2.1.length := by
  unfold litD
  split
  · split
    · show (List.map _ _).length ≤ _
      rw [List.length_map]
      exact Nat.le_refl _
    · exact Nat.zero_le _
  · exact Nat.zero_le _
def RowsN (by_ n : Nat) (L : List Rw) : Prop := (∀ p ∈ L, ∀ x ∈ p.2.2, x.length = 1) ∧ (∀ p ∈ L, (p.2.2.length + 21) * by_ ≤ 140737488355328) ∧ L.length ≤ n
theorem RowsN.nil {by_ : Nat} : RowsN by_ 0 [] := ⟨fun p h => (List.not_mem_nil h).elim, fun p h => (List.not_mem_nil h).elim, Nat.le_refl _⟩
theorem RowsN.add {by_ n : Nat} {L L' : List Rw} {es : List (List Value)} (h : RowsN by_ n L) (h1 : ∀ x ∈ es, x.length = 1) (h2 : (es.length + 21) * by_ ≤ 140737488355328) (hL : L' = L ∨ ∃ B c, L' = L ++ [(B, c, es)]) : RowsN by_ (n + 1) L' := by
  obtain ⟨a1, a2, a3⟩ := h
  rcases hL with rfl | ⟨B, c, rfl⟩
  · exact ⟨a1, a2, by omega⟩
  · refine ⟨fun p hp => ?_, fun p hp => ?_, by rw [List.length_append]; exact Nat.add_le_add_right a3 1⟩
    · rcases List.mem_append.1 hp with h | h
      · exact a1 p h
      · obtain rfl := List.mem_singleton.1 h; exact h1
    · rcases List.mem_append.1 hp with h | h
      · exact a2 p h
      · obtain rfl := List.mem_singleton.1 h; exact h2
theorem RowsN.ok {by_ n : Nat} {L : List Rw} (h : RowsN by_ n L) (hn : n ≤ 1000) : RowsOk by_ L := ⟨h.1, h.2.1, by have := h.2.2; omega⟩
theorem one_intE (l : List Int) : ∀ x ∈ l.map intE, x.length = 1 := fun x hx => by obtain ⟨a, _, rfl⟩ := List.mem_map.1 hx; rfl
theorem one_strE (l : List Str) : ∀ x ∈ l.map strE, x.length = 1 := fun x hx => by obtain ⟨a, _, rfl⟩ := List.mem_map.1 hx; rfl
theorem one_own {w0 w : World} {S : Nat → Prop} {pre r : List HP} {e : TypeId} {sz : Nat} {v : Value} {es : List (List Value)} (h : St w0 S (pre ++ ownHP e sz v es :: r) w) : v.oneCell' = true := by
  obtain ⟨F2, hp, _⟩ := h.get
  rcases hp with ⟨rfl, _⟩ | ⟨B, c, tl, rfl, _⟩ <;> rfl
theorem empty_rows {e : TypeId} {r : List HP} {w : World} {A : Nat → Prop} (h : Sep r w A) : Sep (ownHP e 1 nilV (heads []) :: allHP [] :: r) w A := Sep.addp (.inl ⟨rfl, rfl⟩) (Sep.addp (c := allHP []) (trivial : Sep [] w No) h)
attribute [local irreducible] RW CW
set_option maxHeartbeats 32000000 in
theorem ownLaw_ret {s : kStat.V} {x : RC} {sc : Int} {cs : List Value} {l : kLitT.V} {w : World} (hst : StatOn (mem w (fun b => ¬ No b)) s x) (hl : Rd kLitT (mem w (fun b => ¬ No b)) cs l) : Ret Tryz.prog 5 [.agg (x.stat s).toArray, .int .i64 sc, .agg cs.toArray] w (.bool true) := by
  have hl' := hl
  obtain ⟨A, c, rfl, hargs⟩ := Rd.litT hl
  have hk1 := sl_small hargs
  have hk2 := sl_small hst.preds
  have hk3 := sl_small hst.members
  unfold reach at hk1 hk2 hk3
  have lv := varsD_len s sc
  have ll := litD_len s l
  have lc : (classesD s).length = (sPreds s).length := by unfold classesD; rw [List.length_map]
  have ls : (sortsD s).length = (sPreds s).length := by unfold sortsD; rw [List.length_map]
  have lo : (ofD s 0).length ≤ (sMembers s).length := ofGo_len s 0 (sMembers s) 0
  refine Calls.enter Tryz.func5 rfl _ rfl rfl (S := No) (H := []) trivial ?_
  refine CW.seqR ?_
  refine RW.box_agg (l := x.stat s) rfl rfl fun b3 _ => ?_
  refine RW.box_agg (l := [.bool l.1, .string l.2.1, .slice A l.2.2.1.length c, .bool l.2.2.2.1, .int .i64 l.2.2.2.2]) rfl rfl fun b5 _ => ?_
  refine Jd ?_;refine Jb ?_
  refine CW.seq ?_
  refine Ja ?_
  refine RW.call Tryz.call15 rfl (fun w2 hw => works_ret) rfl ?_
  refine Js ?_;refine Jb ?_
  refine CW.cf rfl ?_
  refine JM ?_;refine Ja ?_
  refine RW.alloc (c := bookC nilV nilV nilV) rfl rfl fun b7 _ => ?_
  refine Jb ?_
  refine CW.seq ?_
  refine Ja ?_;refine Jd ?_;refine Jb ?_
  refine CW.block ?_
  refine CW.loop (ι := { q : Nat × (Value × Value × Value) × List Rw × List Rw × List Rw // q.1 ≤ 2 ∧ RowsN 8 (4 * q.1) q.2.2.1 ∧ RowsN 16 q.1 q.2.2.2.1 ∧ RowsN 8 q.1 q.2.2.2.2 })
    (fun q => [(1, .int .i64 sc), (3, ptrV b3), (5, ptrV b5), (7, ptrV b7), (8, .int .i64 q.1.1)])
    (fun q => [blk b3 (x.stat s) 31, blk b5 [.bool l.1, .string l.2.1, .slice A l.2.2.1.length c, .bool l.2.2.2.1, .int .i64 l.2.2.2.2] 51, blk b7 (bookC q.1.2.1.1 q.1.2.1.2.1 q.1.2.1.2.2) 88, ownHP 38 1 q.1.2.1.1 (heads q.1.2.2.1), allHP (q.1.2.2.1.map (rowH 3)), ownHP 22 1 q.1.2.1.2.1 (heads q.1.2.2.2.1), allHP (q.1.2.2.2.1.map (rowH 9)), ownHP 93 1 q.1.2.1.2.2 (heads q.1.2.2.2.2), allHP (q.1.2.2.2.2.map (rowH 148))]) (fun q => 2 - q.1.1)
    ⟨(0, (nilV, nilV, nilV), [], [], []), Nat.zero_le _, RowsN.nil, RowsN.nil, RowsN.nil⟩ ⟨rfl, rfl, rfl, rfl, rfl, trivial⟩ (fun h => h.sep_map fun w A h => Sep.cons_perm (fun _ => Sep.cons_perm (fun _ => Sep.cons_perm (fun _ h => empty_rows (empty_rows (empty_rows h))))) (Sep.take [2, 1, 0] h)) ?_
  intro ⟨⟨i, ⟨iv, sv, kv⟩, LI, LS, LK⟩, hi, hI, hS, hK⟩
  dsimp only at hi hI hS hK ⊢
  refine CW.seq ?_
  refine Ja ?_;refine Jc ?_;refine Jk ?_;refine Jb ?_
  refine CW.ite rfl (fun hlt => ?_) (fun hge => ?_)
  rotate_left
  · refine CW.exit rfl ?_
    refine PW.code ?_
    refine Ja ?_
    refine RW.callT [2, 3, 4, 5, 6, 7, 8] [blk b7 (bookC iv sv kv) 88, ownHP 38 1 iv (heads LI), allHP (LI.map (rowH 3)), ownHP 22 1 sv (heads LS), allHP (LS.map (rowH 9)), ownHP 93 1 kv (heads LK), allHP (LK.map (rowH 148))] (r := []) rfl rfl rfl Tryz.call27 (fun w2 F hle hC hr => apart_ret (hI.ok (by omega)) (hS.ok (by omega)) (hK.ok (by omega)) hC) fun _ => ?_
    refine Jd ?_;refine Jb ?_
    exact CW.ret1 rfl Tryz.results5 rfl rfl fun w hw => ⟨rfl, hw.kp⟩
  have hlt' : i < 2 := by omega
  refine CW.skip ?_
  refine PW.code ?_
  refine CW.seq ?_
  refine CW.block ?_
  refine Ja ?_;refine JE ?_;refine Jc ?_
  refine RW.callN Tryz.call9 rfl (fun w2 hw => vars_ret (StatOn.mono hst (ro_call hw))) rfl fun ⟨v1, v2⟩ => ?_
  refine RW.take [2, 3, 4, 5, 6, 7, 8, 9, 10, 0, 1] ?_
  refine Jc ?_;refine Jt ?_;refine Jt ?_;refine Jt ?_;refine Jd ?_;refine Jd ?_;refine Jd ?_;refine Jb ?_;refine Ja ?_;refine JE ?_;refine JF ?_
  refine RW.callN Tryz.call17 rfl (fun w2 hw => literal_call (StatOn.mono hst (ro_call hw)) (hl'.mono (ro_call hw))) rfl fun v3 => ?_
  refine RW.have_ (φ := v3.oneCell' = true) (fun w hw => one_own (pre := []) hw) (fun ho1 => ?_)
  refine Jc ?_;refine Jt ?_;refine Jt ?_
  refine RW.alloc (c := litC (false, 0, [], 0) (.slice none 0 0)) rfl rfl fun b12 _ => ?_
  refine RW.store_whole [] rfl rfl (vs := litC (litD s l).1 v3) rfl rfl rfl (fun u hu => by simp only [List.mem_cons, List.not_mem_nil, or_false] at hu; rcases hu with rfl | rfl | rfl | rfl | rfl <;> first | exact ho1 | rfl) ?_
  refine RW.take [2, 0, 3, 4, 5, 6, 7, 8, 9, 10, 11, 12, 1] ?_
  refine Jd ?_;refine Jb ?_;refine Ja ?_;refine Jc ?_
  refine RW.callT [3, 6, 7, 10, 0, 1, 2, 4, 5, 8, 9, 11, 12] [blk b7 (bookC iv sv kv) 88, ownHP 22 1 sv (heads LS), allHP (LS.map (rowH 9)), ownHP 9 1 v1 ((varsD s sc).1.map strE)] (r := [_, _, _, _, _, _, _, _, _]) rfl rfl rfl Tryz.call21 (fun w2 F hle hC hr => bookStrings_ret (by have := hS.2.2; omega) hC) fun ⟨u1, M1⟩ => ?_
  refine RW.purely [_, _, _] (fun hM1 => ?_)
  replace hM1 : RowsN 16 (_ + 1) M1 := RowsN.add hS (one_strE _) (by rw [List.length_map]; omega) hM1
  dsimp only [List.cons_append, List.nil_append]
  refine Jb ?_;refine Ja ?_;refine Jc ?_
  refine RW.callT [0, 6, 7, 10, 1, 2, 3, 4, 5, 8, 9, 11] [blk b7 (bookC iv u1 kv) 88, ownHP 38 1 iv (heads LI), allHP (LI.map (rowH 3)), ownHP 3 1 v2 ((varsD s sc).2.1.map intE)] (r := [_, _, _, _, _, _, _, _]) rfl rfl rfl Tryz.call22 (fun w2 F hle hC hr => bookInts_ret (by have := hI.2.2; omega) hC) fun ⟨u2, M2⟩ => ?_
  refine RW.purely [_, _, _] (fun hM2 => ?_)
  replace hM2 : RowsN 8 (_ + 1) M2 := RowsN.add hI (one_intE _) (by rw [List.length_map]; omega) hM2
  dsimp only [List.cons_append, List.nil_append]
  refine RW.take [5, 6, 7, 0, 1, 2, 3, 4, 8, 9, 10] ?_
  refine Jb ?_;refine Ja ?_;refine Je ?_;refine Je ?_;refine JB ?_
  refine RW.callT [3, 4, 5, 10, 0, 1, 2, 6, 7, 8, 9] [blk b7 (bookC u2 u1 kv) 88, ownHP 38 1 u2 (heads M2), allHP (M2.map (rowH 3)), ownHP 3 1 v3 ((litD s l).1.2.2.1.map intE)] (r := [_, _, _, _, _, _, _]) rfl rfl rfl Tryz.call22 (fun w2 F hle hC hr => bookInts_ret (by have := hM2.2.2; omega) hC) fun ⟨u3, M3⟩ => ?_
  refine RW.purely [_, _, _] (fun hM3 => ?_)
  replace hM3 : RowsN 8 (_ + 1) M3 := RowsN.add hM2 (one_intE _) (by rw [List.length_map]; omega) hM3
  dsimp only [List.cons_append, List.nil_append]
  refine RW.take [3, 5, 0, 1, 2, 6, 7, 8, 9] ?_
  refine Jb ?_;refine Ja ?_;refine JE ?_
  refine RW.callN Tryz.call23 rfl (fun w2 hw => class_all_ret (StatOn.mono hst (ro_call hw))) rfl fun v4 => ?_
  skip
  refine RW.callT [3, 4, 5, 0, 1, 2, 6, 7, 8, 9] [blk b7 (bookC u3 u1 kv) 88, ownHP 38 1 u3 (heads M3), allHP (M3.map (rowH 3)), ownHP 3 1 v4 ((classesD s).map intE)] (r := [_, _, _, _, _, _]) rfl rfl rfl Tryz.call22 (fun w2 F hle hC hr => bookInts_ret (by have := hM3.2.2; omega) hC) fun ⟨u4, M4⟩ => ?_
  refine RW.purely [_, _, _] (fun hM4 => ?_)
  replace hM4 : RowsN 8 (_ + 1) M4 := RowsN.add hM3 (one_intE _) (by rw [List.length_map]; omega) hM4
  dsimp only [List.cons_append, List.nil_append]
  refine RW.take [3, 4, 0, 1, 2, 5, 6, 7, 8] ?_
  refine Jb ?_;refine Ja ?_;refine JE ?_
  refine RW.callN Tryz.call25 rfl (fun w2 hw => sorts_ret (StatOn.mono hst (ro_call hw))) rfl fun v5 => ?_
  skip
  refine RW.callT [3, 8, 9, 0, 1, 2, 4, 5, 6, 7] [blk b7 (bookC u4 u1 kv) 88, ownHP 93 1 kv (heads LK), allHP (LK.map (rowH 148)), ownHP 148 1 v5 ((sortsD s).map intE)] (r := [_, _, _, _, _, _]) rfl rfl rfl Tryz.call24 (fun w2 F hle hC hr => bookKinds_ret (by have := hK.2.2; omega) hC) fun ⟨u5, M5⟩ => ?_
  refine RW.purely [_, _, _] (fun hM5 => ?_)
  replace hM5 : RowsN 8 (_ + 1) M5 := RowsN.add hK (one_intE _) (by rw [List.length_map]; omega) hM5
  dsimp only [List.cons_append, List.nil_append]
  refine RW.take [3, 4, 0, 5, 6, 7, 8, 1, 2] ?_
  refine Jb ?_
  refine CW.region ?_
  refine JE ?_
  refine RW.callN Tryz.call26 rfl (fun w2 hw => of_ret (StatOn.mono hst (ro_call hw))) rfl fun v6 => ?_
  skip
  refine RW.callT [3, 4, 5, 0, 1, 2, 6, 7, 8, 9] [blk b7 (bookC u4 u1 u5) 88, ownHP 38 1 u4 (heads M4), allHP (M4.map (rowH 3)), ownHP 3 1 v6 ((ofD s 0).map intE)] (r := [_, _, _, _, _, _]) rfl rfl rfl Tryz.call22 (fun w2 F hle hC hr => bookInts_ret (by have := hM4.2.2; omega) hC) fun ⟨u6, M6⟩ => ?_
  refine RW.purely [_, _, _] (fun hM6 => ?_)
  replace hM6 : RowsN 8 (_ + 1) M6 := RowsN.add hM4 (one_intE _) (by rw [List.length_map]; omega) hM6
  dsimp only [List.cons_append, List.nil_append]
  refine RW.take [3, 4, 0, 1, 2, 5, 6, 7, 8] ?_
  refine RW.nil (PW.code ?_)
  refine CW.region ?_
  refine Jc ?_
  refine RW.add rfl rfl (w64 (by omega) (by omega)) rfl ?_
  refine Jd ?_
  refine RW.nil ?_
  exact PW.again ⟨(i + 1, (u6, u1, u5), M6, M1, M5), hlt', hM6, hM1, hM5⟩ ⟨rfl, rfl, rfl, rfl, rfl, trivial⟩ (fun h => h) (by show 2 - (i + 1) < 2 - i; omega)
theorem law_ResolveOwn (W : World) {c0 c2 : List Value} {a1 x1 : Int} {x0 : kStat.V} {x2 : kLitT.V} (y0 : Rd kStat (mem W Any) c0 x0) (y1 : Rd kI (mem W Any) [.int .i64 a1] x1) (y2 : Rd kLitT (mem W Any) c2 x2) : Ret Tryz.prog 5 [.agg c0.toArray, .int .i64 a1, .agg c2.toArray] W (.bool true) := by
  obtain ⟨x, rfl, h⟩ := rd_stat y0
  exact ownLaw_ret (h.mono (mem_up fun _ _ k => k)) (y2.mono (mem_up fun _ _ k => k))
end Go.Proofs.YtkfmlekomfnleaaGreat
