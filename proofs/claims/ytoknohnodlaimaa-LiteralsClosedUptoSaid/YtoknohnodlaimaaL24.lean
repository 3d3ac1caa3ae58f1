/- lexpriorlaw09.LiteralsJust, by the calculus. -/
import Derived.Test.YtoknohnodlaimaaL18
import Derived.Test.YtoknohnodlaimaaL21
import Derived.Test.YtoknohnodlaimaaL23
set_option linter.unusedVariables false
set_option linter.unusedSimpArgs false
set_option maxRecDepth 10000
namespace Go.Proofs.Ytoknohnodlaimaa
open Go Go.RowKit

attribute [local irreducible] RW CW
theorem mates_guard {preds : List PredD} {cl : List Int} {a x : LitD} (ha : a.guard = 0) (h : x ∈ matesD preds cl a) : x.guard = 0 := by
  unfold matesD at h
  have hc : (compD a).1.guard = 0 := by rw [compD, if_neg (fun k => k ha)]; exact ha
  split at h
  · rw [List.mem_singleton] at h
    rw [h]; exact hc
  · split at h
    · rw [List.mem_singleton] at h
      rw [h]; exact hc
    · rw [mem_putP, mem_putV, List.mem_singleton] at h
      rcases h with (h | ⟨v, _, _, h⟩) | ⟨i, _, _, h⟩
      · rw [h]; exact hc
      · rw [h]; exact ha
      · rw [h]; exact ha
abbrev sortsD (preds : List PredD) : List Int := preds.map fun p => p.sort
theorem mates_ok {preds : List PredD} {cl : List Int} {a : LitD} (he : (MatesD preds cl a).2 = 0) : cl.length = preds.length ∧ a.guard = 0 ∧ rightD preds (-1) a = true ∧ (MatesD preds cl a).1 = matesD (plainOf preds a) cl a := by
  unfold MatesD at he ⊢
  split at he
  · cases he
  · rename_i h1
    split at he
    · cases he
    · rename_i h2
      split at he
      · rename_i h3
        rw [if_neg h1, if_neg h2, if_pos h3]
        exact ⟨Classical.not_not.1 h1, Classical.not_not.1 h2, h3, rfl⟩
      · cases he
theorem just_law {preds : List PredD} {cl : List Int} {a b : LitD} {m : Int} (he : (MatesD preds cl a).2 = 0) (hc : checkD preds m b = 0) : ((MatesD preds cl a).1.any fun y => decide (y = b)) = conflictD cl (sortsD preds) a b := by
  obtain ⟨h1, h2, h3, h4⟩ := mates_ok he
  rw [h4, Bool.eq_iff_iff]
  have hmem : ((matesD (plainOf preds a) cl a).any fun y => decide (y = b)) = true ↔ b ∈ matesD (plainOf preds a) cl a := by
    rw [List.any_eq_true]
    constructor
    · rintro ⟨x, hx, k⟩; rw [← of_decide_eq_true k]; exact hx
    · intro k; exact ⟨b, k, by simp⟩
  rw [hmem]
  by_cases hg : b.guard = 0
  · have hr : rightD preds (-1) b = true := by
      unfold checkD at hc
      by_cases k : rightD preds (if m < 0 then 0 else m) b = true
      · exact rightD_any hg k
      · rw [if_neg k] at hc; cases hc
    exact mates_just h1 h2 h3 hr hg
  · constructor
    · intro k; exact absurd (mates_guard h2 k) hg
    · intro k
      rw [conflictD, if_neg (fun k => k h2), if_pos hg] at k
      cases k
theorem preds_sort_in {M : Mem} {cs : List Value} {ps : List kPred.V} (h : Rd kPreds M cs ps) : ∀ p ∈ ps, inR .i64 (predOf p).sort := by
  obtain ⟨A, c, _, _, _, _, hr⟩ := h
  intro p hp
  obtain ⟨i, hi⟩ := List.mem_iff_getElem?.1 hp
  obtain ⟨B, O, es, _, _, hR, _⟩ := hr.get hi
  obtain ⟨c1, c2, _, _, c3, c4, _, ⟨_, k⟩, _⟩ := hR
  exact k
/-- The sorts of predicates, gathered. -/
abbrev sortCells (ps : List kPred.V) : List (List Value) := (sortsD (ps.map predOf)).map fun x => [.int .i64 x]
theorem sortCells_succ {ps : List kPred.V} {k : Nat} {p : PredD} (h : (ps.map predOf)[k]? = some p) : sortCells (ps.take (k + 1)) = sortCells (ps.take k) ++ [[.int .i64 p.sort]] := by
  obtain ⟨hk, he⟩ := List.getElem?_eq_some_iff.1 h
  rw [List.length_map] at hk
  rw [List.take_succ_eq_append_getElem hk, sortCells, sortsD, List.map_append, List.map_append, List.map_append]
  congr 1
  show [[Value.int .i64 (predOf ps[k]).sort]] = _
  rw [← he, List.getElem_map]
theorem sorts_rd {e : TypeId} {v : Value} {ps : List kPred.V} {w : World} {F : Nat → Prop} (h : (ownHP e 1 v (sortCells ps)).p w F) (hs : ∀ p ∈ ps, inR .i64 (predOf p).sort) (hb : ps.length * 8 ≤ 140737488351232) : (rdHP Mem.none kInts [v] (sortsD (ps.map predOf))).p w F := by
  refine rd_of_own (t := kInt) (by_ := 8) (xs := sortsD (ps.map predOf)) (N := Mem.none.or (mem w F)) h rfl (Mem.le_right _ _) ⟨by simp, fun i cs x h1 h2 => ?_⟩ (by rw [reach_eq, List.length_map, List.length_map]; exact hb)
  rw [List.getElem?_map, h2] at h1
  cases h1
  refine ⟨rfl, ?_⟩
  obtain ⟨p, hp1, rfl⟩ := List.mem_map.1 (List.mem_of_getElem? h2)
  obtain ⟨q, hq, rfl⟩ := List.mem_map.1 hp1
  exact hs q hq
set_option maxHeartbeats 8000000 in
theorem just_ret {N : Mem} {A B : Option Addr} {c d : Nat} {ps : List kPred.V} {cl : List Int} {a b : LitD} {ca cb : List Value} {w : World} (hN : Mem.le N (mem w Any)) (hps : Rd kPreds N [.slice A ps.length c] ps) (hcl : Rd kInts N [.slice B cl.length d] cl) (ha : Rd kLit N ca (litV a)) (hb : Rd kLit N cb (litV b))
    (hbnd : ∀ p ∈ ps, (ps.length + (predOf p).vals.length + 2) * 56 ≤ reach) : Ret Try.prog 5 [.slice A ps.length c, .slice B cl.length d, .agg ca.toArray, .agg cb.toArray] w (.bool true) := by
  have hle : ∀ {H : List HP} {w2 : World}, St w No H w2 → Mem.le (mem w Any) (mem w2 Any) := fun hw2 => Mem.le_trans (any_ro (N := 0) (ds := [])) (ro_le' (E := ⟨0, [], w, No⟩) hw2)
  have ha' := ha
  have hb' := hb
  obtain ⟨A1, c1, rfl, _⟩ := Rd.lit ha
  obtain ⟨A2, c2, rfl, _⟩ := Rd.lit hb
  clear ha hb
  rw [litOf_V] at *
  have hsin := preds_sort_in hps
  obtain ⟨A', c', he, _, _, hsz, hp⟩ := Rd.preds hps
  cases he
  rw [reach_eq] at hsz
  unfold LitD.V at *
  refine Calls.enter Try.func5 rfl _ rfl rfl (S := No) (H := []) trivial ?_
  refine CW.seqR ?_
  refine RW.box_agg rfl rfl fun b6 _ => ?_
  refine RW.box_agg rfl rfl fun b7 _ => ?_
  repeat (first|refine Ja ?_|refine Jb ?_|refine Jc ?_|refine Jd ?_|refine Je ?_|refine Jf ?_|refine Jg ?_|refine Jh ?_|refine Ji ?_|refine Jj ?_|refine Jk ?_|refine Jl ?_|refine Jm ?_|refine Jn ?_|refine Jo ?_|refine Jp ?_|refine Jq ?_|refine Jr ?_|refine Js ?_|refine Jt ?_|refine Ju ?_|refine Jv ?_|refine Jw ?_|refine Jx ?_|refine Jy ?_|refine Jz ?_|refine JA ?_|refine JB ?_|refine JC ?_|refine JD ?_|refine JE ?_|refine JF ?_|refine JG ?_|refine JH ?_|refine JI ?_|refine JJ ?_|refine JK ?_|refine JL ?_|refine JM ?_|refine CW.skip (PW.code ?_)|refine RW.nil (PW.code ?_))
  refine CW.seq ?_
  repeat (first|refine Ja ?_|refine Jb ?_|refine Jc ?_|refine Jd ?_|refine Je ?_|refine Jf ?_|refine Jg ?_|refine Jh ?_|refine Ji ?_|refine Jj ?_|refine Jk ?_|refine Jl ?_|refine Jm ?_|refine Jn ?_|refine Jo ?_|refine Jp ?_|refine Jq ?_|refine Jr ?_|refine Js ?_|refine Jt ?_|refine Ju ?_|refine Jv ?_|refine Jw ?_|refine Jx ?_|refine Jy ?_|refine Jz ?_|refine JA ?_|refine JB ?_|refine JC ?_|refine JD ?_|refine JE ?_|refine JF ?_|refine JG ?_|refine JH ?_|refine JI ?_|refine JJ ?_|refine JK ?_|refine JL ?_|refine JM ?_|refine CW.skip (PW.code ?_)|refine RW.nil (PW.code ?_))
  refine RW.call Try.call7 rfl (fun w2 _ => alive_ret w2) rfl ?_
  repeat (first|refine Ja ?_|refine Jb ?_|refine Jc ?_|refine Jd ?_|refine Je ?_|refine Jf ?_|refine Jg ?_|refine Jh ?_|refine Ji ?_|refine Jj ?_|refine Jk ?_|refine Jl ?_|refine Jm ?_|refine Jn ?_|refine Jo ?_|refine Jp ?_|refine Jq ?_|refine Jr ?_|refine Js ?_|refine Jt ?_|refine Ju ?_|refine Jv ?_|refine Jw ?_|refine Jx ?_|refine Jy ?_|refine Jz ?_|refine JA ?_|refine JB ?_|refine JC ?_|refine JD ?_|refine JE ?_|refine JF ?_|refine JG ?_|refine JH ?_|refine JI ?_|refine JJ ?_|refine JK ?_|refine JL ?_|refine JM ?_|refine CW.skip (PW.code ?_)|refine RW.nil (PW.code ?_))
  refine CW.cf rfl ?_
  repeat (first|refine Ja ?_|refine Jb ?_|refine Jc ?_|refine Jd ?_|refine Je ?_|refine Jf ?_|refine Jg ?_|refine Jh ?_|refine Ji ?_|refine Jj ?_|refine Jk ?_|refine Jl ?_|refine Jm ?_|refine Jn ?_|refine Jo ?_|refine Jp ?_|refine Jq ?_|refine Jr ?_|refine Js ?_|refine Jt ?_|refine Ju ?_|refine Jv ?_|refine Jw ?_|refine Jx ?_|refine Jy ?_|refine Jz ?_|refine JA ?_|refine JB ?_|refine JC ?_|refine JD ?_|refine JE ?_|refine JF ?_|refine JG ?_|refine JH ?_|refine JI ?_|refine JJ ?_|refine JK ?_|refine JL ?_|refine JM ?_|refine CW.skip (PW.code ?_)|refine RW.nil (PW.code ?_))
  refine CW.seq ?_
  repeat (first|refine Ja ?_|refine Jb ?_|refine Jc ?_|refine Jd ?_|refine Je ?_|refine Jf ?_|refine Jg ?_|refine Jh ?_|refine Ji ?_|refine Jj ?_|refine Jk ?_|refine Jl ?_|refine Jm ?_|refine Jn ?_|refine Jo ?_|refine Jp ?_|refine Jq ?_|refine Jr ?_|refine Js ?_|refine Jt ?_|refine Ju ?_|refine Jv ?_|refine Jw ?_|refine Jx ?_|refine Jy ?_|refine Jz ?_|refine JA ?_|refine JB ?_|refine JC ?_|refine JD ?_|refine JE ?_|refine JF ?_|refine JG ?_|refine JH ?_|refine JI ?_|refine JJ ?_|refine JK ?_|refine JL ?_|refine JM ?_|refine CW.skip (PW.code ?_)|refine RW.nil (PW.code ?_))
  refine CW.add_ (ownHP 45 1 (.slice none 0 0) (sortCells (ps.take 0))) (fun w _ => .inl ⟨rfl, rfl⟩) ?_
  refine CW.block ?_
  refine CW.loop (ι := { q : Nat × Value // q.1 ≤ ps.length })
    (fun q => [(0, .slice A ps.length c), (1, .slice B cl.length d), (6, .pointer (some ⟨b6, 0, none⟩)), (7, .pointer (some ⟨b7, 0, none⟩)), (9, q.1.2), (10, .int .i64 q.1.1)])
    (fun q => [ownHP 45 1 q.1.2 (sortCells (ps.take q.1.1)), blk b7 [.bool b.neg, .int .i64 b.pred, .slice A2 b.args.length c2, .int .i64 b.value, .int .i64 b.guard] 27, blk b6 [.bool a.neg, .int .i64 a.pred, .slice A1 a.args.length c1, .int .i64 a.value, .int .i64 a.guard] 27])
    (fun q => ps.length - q.1.1) ⟨(0, .slice none 0 0), Nat.zero_le _⟩ ⟨rfl, rfl, rfl, rfl, rfl, rfl, trivial⟩ (fun h => h) ?_
  intro ⟨(k, v), hk⟩
  dsimp only
  replace hk : k ≤ ps.length := hk
  refine CW.seq ?_
  repeat (first|refine Ja ?_|refine Jb ?_|refine Jc ?_|refine Jd ?_|refine Je ?_|refine Jf ?_|refine Jg ?_|refine Jh ?_|refine Ji ?_|refine Jj ?_|refine Jk ?_|refine Jl ?_|refine Jm ?_|refine Jn ?_|refine Jo ?_|refine Jp ?_|refine Jq ?_|refine Jr ?_|refine Js ?_|refine Jt ?_|refine Ju ?_|refine Jv ?_|refine Jw ?_|refine Jx ?_|refine Jy ?_|refine Jz ?_|refine JA ?_|refine JB ?_|refine JC ?_|refine JD ?_|refine JE ?_|refine JF ?_|refine JG ?_|refine JH ?_|refine JI ?_|refine JJ ?_|refine JK ?_|refine JL ?_|refine JM ?_|refine CW.skip (PW.code ?_)|refine RW.nil (PW.code ?_))
  refine CW.ite rfl (fun hlt => ?_) (fun hge => ?_)
  · have hlt' : k < ps.length := by omega
    obtain ⟨PB, PO, pn, PA1, pc1, PA2, pc2, hA, _, _, hpm⟩ := hp k ps[k] (List.getElem?_eq_getElem hlt')
    subst hA
    have hsucc := sortCells_succ (ps := ps) (k := k) (p := predOf ps[k]) (by rw [List.getElem?_map, List.getElem?_eq_getElem hlt']; rfl)
    have hlk : (sortCells (ps.take k)).length = k := by simp [Nat.min_eq_left hk]
    generalize predOf ps[k] = p at hpm hsucc
    repeat (first|refine Ja ?_|refine Jb ?_|refine Jc ?_|refine Jd ?_|refine Je ?_|refine Jf ?_|refine Jg ?_|refine Jh ?_|refine Ji ?_|refine Jj ?_|refine Jk ?_|refine Jl ?_|refine Jm ?_|refine Jn ?_|refine Jo ?_|refine Jp ?_|refine Jq ?_|refine Jr ?_|refine Js ?_|refine Jt ?_|refine Ju ?_|refine Jv ?_|refine Jw ?_|refine Jx ?_|refine Jy ?_|refine Jz ?_|refine JA ?_|refine JB ?_|refine JC ?_|refine JD ?_|refine JE ?_|refine JF ?_|refine JG ?_|refine JH ?_|refine JI ?_|refine JJ ?_|refine JK ?_|refine JL ?_|refine JM ?_|refine CW.skip (PW.code ?_)|refine RW.nil (PW.code ?_))
    refine CW.seq ?_
    refine CW.block ?_
    refine CW.region ?_
    repeat (first|refine Ja ?_|refine Jb ?_|refine Jc ?_|refine Jd ?_|refine Je ?_|refine Jf ?_|refine Jg ?_|refine Jh ?_|refine Ji ?_|refine Jj ?_|refine Jk ?_|refine Jl ?_|refine Jm ?_|refine Jn ?_|refine Jo ?_|refine Jp ?_|refine Jq ?_|refine Jr ?_|refine Js ?_|refine Jt ?_|refine Ju ?_|refine Jv ?_|refine Jw ?_|refine Jx ?_|refine Jy ?_|refine Jz ?_|refine JA ?_|refine JB ?_|refine JC ?_|refine JD ?_|refine JE ?_|refine JF ?_|refine JG ?_|refine JH ?_|refine JI ?_|refine JJ ?_|refine JK ?_|refine JL ?_|refine JM ?_|refine CW.skip (PW.code ?_)|refine RW.nil (PW.code ?_))
    refine RW.indexAddr rfl rfl (by omega) hlt rfl ?_
    repeat (first|refine Ja ?_|refine Jb ?_|refine Jc ?_|refine Jd ?_|refine Je ?_|refine Jf ?_|refine Jg ?_|refine Jh ?_|refine Ji ?_|refine Jj ?_|refine Jk ?_|refine Jl ?_|refine Jm ?_|refine Jn ?_|refine Jo ?_|refine Jp ?_|refine Jq ?_|refine Jr ?_|refine Js ?_|refine Jt ?_|refine Ju ?_|refine Jv ?_|refine Jw ?_|refine Jx ?_|refine Jy ?_|refine Jz ?_|refine JA ?_|refine JB ?_|refine JC ?_|refine JD ?_|refine JE ?_|refine JF ?_|refine JG ?_|refine JH ?_|refine JI ?_|refine JJ ?_|refine JK ?_|refine JL ?_|refine JM ?_|refine CW.skip (PW.code ?_)|refine RW.nil (PW.code ?_))
    refine RW.load_ro rfl (Mem.le_trans hN any_ro) (hpm 1 _ rfl) rfl rfl ?_
    refine RW.buildOwn (e := 45) (sz := 1) [[.int .i64 p.sort]] rfl (fun w => by kernel_rfl) rfl (by simp) (by decide) rfl fun nb => ?_
    refine RW.pull [_] ?_
    refine RW.append [] (e := 45) (sz := 1) (news := [[.int .i64 p.sort]]) (zc := [.int .i64 0]) rfl rfl rfl rfl rfl (by simp) (by simp [Value.oneCell']) (fun w hw hn => ?_) ?_ ?_ rfl fun v' => ?_
    · exact ⟨nb, 0, rfl, own_cells (pre := []) (hw.take [1])⟩
    · rw [hlk]; omega
    · rw [hlk]; unfold maxN; omega
    rw [← hsucc]
    repeat (first|refine Ja ?_|refine Jb ?_|refine Jc ?_|refine Jd ?_|refine Je ?_|refine Jf ?_|refine Jg ?_|refine Jh ?_|refine Ji ?_|refine Jj ?_|refine Jk ?_|refine Jl ?_|refine Jm ?_|refine Jn ?_|refine Jo ?_|refine Jp ?_|refine Jq ?_|refine Jr ?_|refine Js ?_|refine Jt ?_|refine Ju ?_|refine Jv ?_|refine Jw ?_|refine Jx ?_|refine Jy ?_|refine Jz ?_|refine JA ?_|refine JB ?_|refine JC ?_|refine JD ?_|refine JE ?_|refine JF ?_|refine JG ?_|refine JH ?_|refine JI ?_|refine JJ ?_|refine JK ?_|refine JL ?_|refine JM ?_|refine CW.skip (PW.code ?_)|refine RW.nil (PW.code ?_))
    refine CW.region ?_
    repeat (first|refine Ja ?_|refine Jb ?_|refine Jc ?_|refine Jd ?_|refine Je ?_|refine Jf ?_|refine Jg ?_|refine Jh ?_|refine Ji ?_|refine Jj ?_|refine Jk ?_|refine Jl ?_|refine Jm ?_|refine Jn ?_|refine Jo ?_|refine Jp ?_|refine Jq ?_|refine Jr ?_|refine Js ?_|refine Jt ?_|refine Ju ?_|refine Jv ?_|refine Jw ?_|refine Jx ?_|refine Jy ?_|refine Jz ?_|refine JA ?_|refine JB ?_|refine JC ?_|refine JD ?_|refine JE ?_|refine JF ?_|refine JG ?_|refine JH ?_|refine JI ?_|refine JJ ?_|refine JK ?_|refine JL ?_|refine JM ?_|refine CW.skip (PW.code ?_)|refine RW.nil (PW.code ?_))
    refine RW.add rfl rfl (w64 (by omega) (by omega)) rfl ?_
    repeat (first|refine Ja ?_|refine Jb ?_|refine Jc ?_|refine Jd ?_|refine Je ?_|refine Jf ?_|refine Jg ?_|refine Jh ?_|refine Ji ?_|refine Jj ?_|refine Jk ?_|refine Jl ?_|refine Jm ?_|refine Jn ?_|refine Jo ?_|refine Jp ?_|refine Jq ?_|refine Jr ?_|refine Js ?_|refine Jt ?_|refine Ju ?_|refine Jv ?_|refine Jw ?_|refine Jx ?_|refine Jy ?_|refine Jz ?_|refine JA ?_|refine JB ?_|refine JC ?_|refine JD ?_|refine JE ?_|refine JF ?_|refine JG ?_|refine JH ?_|refine JI ?_|refine JJ ?_|refine JK ?_|refine JL ?_|refine JM ?_|refine CW.skip (PW.code ?_)|refine RW.nil (PW.code ?_))
    refine RW.nil ?_
    refine PW.againT ⟨(k + 1, v'), hlt'⟩ [0, 2, 3] ⟨rfl, rfl, rfl, rfl, rfl, rfl, trivial⟩ rfl (by show ps.length - (k + 1) < ps.length - k; omega)
  have hke : k = ps.length := by omega
  subst hke
  rw [List.take_length]
  refine CW.exit rfl ?_
  refine PW.code ?_
  refine CW.change [] (rdHP Mem.none kInts [v] (sortsD (ps.map predOf))) (fun w F hp => sorts_rd hp hsin (by omega)) ?_
  generalize hso : sortsD (ps.map predOf) = so
  refine CW.have_ (φ := ∃ A c, v = .slice A so.length c) (fun w hw => sl_form (pre := []) hw) (fun ⟨A5, c5, hv⟩ => ?_)
  subst hv
  have cOK : ∀ {x y : LitD} {cx cy : List Value} {r : List HP} {w2 : World}, Rd kLit N cx (litV x) → Rd kLit N cy (litV y) → St w No (rdHP Mem.none kInts [.slice A5 so.length c5] so :: r) w2 → Ret Try.prog 16 [.slice B cl.length d, .slice A5 so.length c5, .agg cx.toArray, .agg cy.toArray] w2 (.bool (conflictD cl so x y)) := fun {x y cx cy r w2} h1 h2 hw2 =>
    conflict_ret (M := mem w2 Any) (N := mem w2 Any) (Mem.le_refl _) (Mem.le_refl _) (hcl.mono (Mem.le_trans hN (hle hw2))) (rd_at (pre := []) hw2) (h1.mono (Mem.le_trans hN (hle hw2))) (h2.mono (Mem.le_trans hN (hle hw2)))
  have cSelf : ∀ {r : List HP} {w2 : World}, St w No (rdHP Mem.none kInts [.slice A5 so.length c5] so :: r) w2 → Ret Try.prog 16 [.slice B cl.length d, .slice A5 so.length c5, .agg (a.V A1 c1).toArray, .agg (a.V A1 c1).toArray] w2 (.bool false) := fun {r w2} hw2 => by
    rw [← conflictD_self cl so a]; exact cOK ha' ha' hw2
  have cBack : ∀ {r : List HP} {w2 : World}, St w No (rdHP Mem.none kInts [.slice A5 so.length c5] so :: r) w2 → Ret Try.prog 16 [.slice B cl.length d, .slice A5 so.length c5, .agg (b.V A2 c2).toArray, .agg (a.V A1 c1).toArray] w2 (.bool (conflictD cl so a b)) := fun {r w2} hw2 => by
    rw [conflictD_comm]; exact cOK hb' ha' hw2
  unfold LitD.V at cSelf cBack
  refine CW.seq ?_
  refine CW.seqA (by kernel_rfl) rfl ?_
  repeat (apply AW.val rfl; · intro Gx X; (first | refine RW.yes rfl ?_ | skip); (first|refine Jc ?_|refine Jd ?_|refine Je ?_|refine Jg ?_|refine Jh ?_|refine Ji ?_|refine Jj ?_|refine Jk ?_|refine Jl ?_|refine Jm ?_|refine Jn ?_|refine Jo ?_|refine Jp ?_|refine Jq ?_|refine Jr ?_|refine Js ?_|refine Jt ?_|refine Ju ?_|refine Jv ?_|refine Jw ?_|refine Jx ?_|refine Jz ?_|refine JA ?_|refine JB ?_|refine JC ?_|refine JD ?_|refine JE ?_|refine JF ?_|refine JG ?_|refine JH ?_|refine JI ?_|refine JJ ?_|refine JK ?_|refine JL ?_); exact RW.done rfl)
  (apply AW.val rfl; · intro Gx X; (first | refine RW.yes rfl ?_ | skip); refine RW.call Try.call16 rfl (fun w2 hw2 => cSelf hw2) rfl ?_; exact RW.done rfl)
  repeat (apply AW.val rfl; · intro Gx X; (first | refine RW.yes rfl ?_ | skip); (first|refine Jc ?_|refine Jd ?_|refine Je ?_|refine Jg ?_|refine Jh ?_|refine Ji ?_|refine Jj ?_|refine Jk ?_|refine Jl ?_|refine Jm ?_|refine Jn ?_|refine Jo ?_|refine Jp ?_|refine Jq ?_|refine Jr ?_|refine Js ?_|refine Jt ?_|refine Ju ?_|refine Jv ?_|refine Jw ?_|refine Jx ?_|refine Jz ?_|refine JA ?_|refine JB ?_|refine JC ?_|refine JD ?_|refine JE ?_|refine JF ?_|refine JG ?_|refine JH ?_|refine JI ?_|refine JJ ?_|refine JK ?_|refine JL ?_); exact RW.done rfl)
  (apply AW.val rfl; · intro Gx X; (first | refine RW.yes rfl ?_ | skip); refine RW.call Try.call16 rfl (fun w2 hw2 => cOK ha' hb' hw2) rfl ?_; exact RW.done rfl)
  repeat (apply AW.val rfl; · intro Gx X; (first | refine RW.yes rfl ?_ | skip); (first|refine Jc ?_|refine Jd ?_|refine Je ?_|refine Jg ?_|refine Jh ?_|refine Ji ?_|refine Jj ?_|refine Jk ?_|refine Jl ?_|refine Jm ?_|refine Jn ?_|refine Jo ?_|refine Jp ?_|refine Jq ?_|refine Jr ?_|refine Js ?_|refine Jt ?_|refine Ju ?_|refine Jv ?_|refine Jw ?_|refine Jx ?_|refine Jz ?_|refine JA ?_|refine JB ?_|refine JC ?_|refine JD ?_|refine JE ?_|refine JF ?_|refine JG ?_|refine JH ?_|refine JI ?_|refine JJ ?_|refine JK ?_|refine JL ?_); exact RW.done rfl)
  (apply AW.val rfl; · intro Gx X; (first | refine RW.yes rfl ?_ | skip); refine RW.call Try.call16 rfl (fun w2 hw2 => cBack hw2) rfl ?_; exact RW.done rfl)
  repeat (apply AW.val rfl; · intro Gx X; (first | refine RW.yes rfl ?_ | skip); (first|refine Jc ?_|refine Jd ?_|refine Je ?_|refine Jg ?_|refine Jh ?_|refine Ji ?_|refine Jj ?_|refine Jk ?_|refine Jl ?_|refine Jm ?_|refine Jn ?_|refine Jo ?_|refine Jp ?_|refine Jq ?_|refine Jr ?_|refine Js ?_|refine Jt ?_|refine Ju ?_|refine Jv ?_|refine Jw ?_|refine Jx ?_|refine Jz ?_|refine JA ?_|refine JB ?_|refine JC ?_|refine JD ?_|refine JE ?_|refine JF ?_|refine JG ?_|refine JH ?_|refine JI ?_|refine JJ ?_|refine JK ?_|refine JL ?_); exact RW.done rfl)
  refine AW.stop (by kernel_rfl) (by kernel_rfl) fun bs => ?_
  repeat (first|refine Ja ?_|refine Jb ?_|refine Jc ?_|refine Jd ?_|refine Je ?_|refine Jf ?_|refine Jg ?_|refine Jh ?_|refine Ji ?_|refine Jj ?_|refine Jk ?_|refine Jl ?_|refine Jm ?_|refine Jn ?_|refine Jo ?_|refine Jp ?_|refine Jq ?_|refine Jr ?_|refine Js ?_|refine Jt ?_|refine Ju ?_|refine Jv ?_|refine Jw ?_|refine Jx ?_|refine Jy ?_|refine Jz ?_|refine JA ?_|refine JB ?_|refine JC ?_|refine JD ?_|refine JE ?_|refine JF ?_|refine JG ?_|refine JH ?_|refine JI ?_|refine JJ ?_|refine JK ?_|refine JL ?_|refine JM ?_|refine CW.skip (PW.code ?_)|refine RW.nil (PW.code ?_))
  refine CW.ite rfl (fun h1 => absurd rfl h1) (fun _ => ?_)
  repeat (first|refine Ja ?_|refine Jb ?_|refine Jc ?_|refine Jd ?_|refine Je ?_|refine Jf ?_|refine Jg ?_|refine Jh ?_|refine Ji ?_|refine Jj ?_|refine Jk ?_|refine Jl ?_|refine Jm ?_|refine Jn ?_|refine Jo ?_|refine Jp ?_|refine Jq ?_|refine Jr ?_|refine Js ?_|refine Jt ?_|refine Ju ?_|refine Jv ?_|refine Jw ?_|refine Jx ?_|refine Jy ?_|refine Jz ?_|refine JA ?_|refine JB ?_|refine JC ?_|refine JD ?_|refine JE ?_|refine JF ?_|refine JG ?_|refine JH ?_|refine JI ?_|refine JJ ?_|refine JK ?_|refine JL ?_|refine JM ?_|refine CW.skip (PW.code ?_)|refine RW.nil (PW.code ?_))
  refine RW.take [0, 1, 2] ?_
  refine RW.callN Try.call14 rfl (fun w2 hw2 => Mates_ret (l := a) (Mem.le_trans hN (hle hw2)) (Mem.le_trans hN (hle hw2)) hps hcl ha' hbnd) rfl fun y => ?_
  obtain ⟨vm, em⟩ := y
  dsimp only
  have hlaw := just_law (preds := ps.map predOf) (cl := cl) (a := a) (b := b) (m := 4611686018427387904)
  rw [hso] at hlaw
  generalize hms : (MatesD (ps.map predOf) cl a).1 = ms at hlaw
  generalize hme : (MatesD (ps.map predOf) cl a).2 = me at hlaw
  refine RW.have_ (φ := _ ∧ ∃ A c, vm = .slice A ms.length c ∧ ms.length ≤ c ∧ c ≤ maxN ∧ (∀ x ∈ em, x.length = 5) ∧ (em ≠ [] → ∃ B, A = some ⟨B, 0, none⟩) ∧ ∀ u ∈ em, ∀ v ∈ u, v.oneCell' = true) (fun w hw => own_lits (pre := []) hw) (fun ⟨hem, A3, c3, hvm, _, _, _, _, _⟩ => ?_)
  subst hvm
  have hmsb : ms.length * 56 ≤ reach := by
    have := closeAll_bound (cl := cl) (x := a) hbnd
    rw [closeAll, List.length_append] at this
    by_cases hg : a.guard = 0
    · rw [if_pos hg, hms, reach_eq] at this
      rw [reach_eq]
      omega
    · have : ms = [] := by
        rw [← hms]
        unfold MatesD
        split
        · rfl
        · rfl
      rw [this]; exact Nat.zero_le _
  repeat (first|refine Ja ?_|refine Jb ?_|refine Jc ?_|refine Jd ?_|refine Je ?_|refine Jf ?_|refine Jg ?_|refine Jh ?_|refine Ji ?_|refine Jj ?_|refine Jk ?_|refine Jl ?_|refine Jm ?_|refine Jn ?_|refine Jo ?_|refine Jp ?_|refine Jq ?_|refine Jr ?_|refine Js ?_|refine Jt ?_|refine Ju ?_|refine Jv ?_|refine Jw ?_|refine Jx ?_|refine Jy ?_|refine Jz ?_|refine JA ?_|refine JB ?_|refine JC ?_|refine JD ?_|refine JE ?_|refine JF ?_|refine JG ?_|refine JH ?_|refine JI ?_|refine JJ ?_|refine JK ?_|refine JL ?_|refine JM ?_|refine CW.skip (PW.code ?_)|refine RW.nil (PW.code ?_))
  refine CW.seq ?_
  repeat (first|refine Ja ?_|refine Jb ?_|refine Jc ?_|refine Jd ?_|refine Je ?_|refine Jf ?_|refine Jg ?_|refine Jh ?_|refine Ji ?_|refine Jj ?_|refine Jk ?_|refine Jl ?_|refine Jm ?_|refine Jn ?_|refine Jo ?_|refine Jp ?_|refine Jq ?_|refine Jr ?_|refine Js ?_|refine Jt ?_|refine Ju ?_|refine Jv ?_|refine Jw ?_|refine Jx ?_|refine Jy ?_|refine Jz ?_|refine JA ?_|refine JB ?_|refine JC ?_|refine JD ?_|refine JE ?_|refine JF ?_|refine JG ?_|refine JH ?_|refine JI ?_|refine JJ ?_|refine JK ?_|refine JL ?_|refine JM ?_|refine CW.skip (PW.code ?_)|refine RW.nil (PW.code ?_))
  refine RW.call Try.call13 rfl (fun w2 _ => num_ret _ w2) rfl ?_
  repeat (first|refine Ja ?_|refine Jb ?_|refine Jc ?_|refine Jd ?_|refine Je ?_|refine Jf ?_|refine Jg ?_|refine Jh ?_|refine Ji ?_|refine Jj ?_|refine Jk ?_|refine Jl ?_|refine Jm ?_|refine Jn ?_|refine Jo ?_|refine Jp ?_|refine Jq ?_|refine Jr ?_|refine Js ?_|refine Jt ?_|refine Ju ?_|refine Jv ?_|refine Jw ?_|refine Jx ?_|refine Jy ?_|refine Jz ?_|refine JA ?_|refine JB ?_|refine JC ?_|refine JD ?_|refine JE ?_|refine JF ?_|refine JG ?_|refine JH ?_|refine JI ?_|refine JJ ?_|refine JK ?_|refine JL ?_|refine JM ?_|refine CW.skip (PW.code ?_)|refine RW.nil (PW.code ?_))
  refine RW.splitD 59 rfl (fun h2 => ?_) (fun h2 => ?_)
  · repeat (first|refine Ja ?_|refine Jb ?_|refine Jc ?_|refine Jd ?_|refine Je ?_|refine Jf ?_|refine Jg ?_|refine Jh ?_|refine Ji ?_|refine Jj ?_|refine Jk ?_|refine Jl ?_|refine Jm ?_|refine Jn ?_|refine Jo ?_|refine Jp ?_|refine Jq ?_|refine Jr ?_|refine Js ?_|refine Jt ?_|refine Ju ?_|refine Jv ?_|refine Jw ?_|refine Jx ?_|refine Jy ?_|refine Jz ?_|refine JA ?_|refine JB ?_|refine JC ?_|refine JD ?_|refine JE ?_|refine JF ?_|refine JG ?_|refine JH ?_|refine JI ?_|refine JJ ?_|refine JK ?_|refine JL ?_|refine JM ?_|refine CW.skip (PW.code ?_)|refine RW.nil (PW.code ?_))
    refine CW.ct rfl ?_
    repeat (first|refine Ja ?_|refine Jb ?_|refine Jc ?_|refine Jd ?_|refine Je ?_|refine Jf ?_|refine Jg ?_|refine Jh ?_|refine Ji ?_|refine Jj ?_|refine Jk ?_|refine Jl ?_|refine Jm ?_|refine Jn ?_|refine Jo ?_|refine Jp ?_|refine Jq ?_|refine Jr ?_|refine Js ?_|refine Jt ?_|refine Ju ?_|refine Jv ?_|refine Jw ?_|refine Jx ?_|refine Jy ?_|refine Jz ?_|refine JA ?_|refine JB ?_|refine JC ?_|refine JD ?_|refine JE ?_|refine JF ?_|refine JG ?_|refine JH ?_|refine JI ?_|refine JJ ?_|refine JK ?_|refine JL ?_|refine JM ?_|refine CW.skip (PW.code ?_)|refine RW.nil (PW.code ?_))
    refine CW.ret1 rfl Try.results5 rfl rfl fun w hw => ⟨rfl, hw.kp⟩
  have h2' : me = 0 := Classical.not_not.1 h2
  repeat (first|refine Ja ?_|refine Jb ?_|refine Jc ?_|refine Jd ?_|refine Je ?_|refine Jf ?_|refine Jg ?_|refine Jh ?_|refine Ji ?_|refine Jj ?_|refine Jk ?_|refine Jl ?_|refine Jm ?_|refine Jn ?_|refine Jo ?_|refine Jp ?_|refine Jq ?_|refine Jr ?_|refine Js ?_|refine Jt ?_|refine Ju ?_|refine Jv ?_|refine Jw ?_|refine Jx ?_|refine Jy ?_|refine Jz ?_|refine JA ?_|refine JB ?_|refine JC ?_|refine JD ?_|refine JE ?_|refine JF ?_|refine JG ?_|refine JH ?_|refine JI ?_|refine JJ ?_|refine JK ?_|refine JL ?_|refine JM ?_|refine CW.skip (PW.code ?_)|refine RW.nil (PW.code ?_))
  refine RW.call Try.call17 rfl (fun w2 hw2 => check_ret (l := b) 4611686018427387904 (Mem.le_trans hN (hle hw2)) (Mem.le_trans hN (hle hw2)) hps hb') rfl ?_
  generalize hck : checkD (ps.map predOf) 4611686018427387904 b = ck at hlaw
  repeat (first|refine Ja ?_|refine Jb ?_|refine Jc ?_|refine Jd ?_|refine Je ?_|refine Jf ?_|refine Jg ?_|refine Jh ?_|refine Ji ?_|refine Jj ?_|refine Jk ?_|refine Jl ?_|refine Jm ?_|refine Jn ?_|refine Jo ?_|refine Jp ?_|refine Jq ?_|refine Jr ?_|refine Js ?_|refine Jt ?_|refine Ju ?_|refine Jv ?_|refine Jw ?_|refine Jx ?_|refine Jy ?_|refine Jz ?_|refine JA ?_|refine JB ?_|refine JC ?_|refine JD ?_|refine JE ?_|refine JF ?_|refine JG ?_|refine JH ?_|refine JI ?_|refine JJ ?_|refine JK ?_|refine JL ?_|refine JM ?_|refine CW.skip (PW.code ?_)|refine RW.nil (PW.code ?_))
  refine RW.call Try.call13 rfl (fun w2 _ => num_ret _ w2) rfl ?_
  repeat (first|refine Ja ?_|refine Jb ?_|refine Jc ?_|refine Jd ?_|refine Je ?_|refine Jf ?_|refine Jg ?_|refine Jh ?_|refine Ji ?_|refine Jj ?_|refine Jk ?_|refine Jl ?_|refine Jm ?_|refine Jn ?_|refine Jo ?_|refine Jp ?_|refine Jq ?_|refine Jr ?_|refine Js ?_|refine Jt ?_|refine Ju ?_|refine Jv ?_|refine Jw ?_|refine Jx ?_|refine Jy ?_|refine Jz ?_|refine JA ?_|refine JB ?_|refine JC ?_|refine JD ?_|refine JE ?_|refine JF ?_|refine JG ?_|refine JH ?_|refine JI ?_|refine JJ ?_|refine JK ?_|refine JL ?_|refine JM ?_|refine CW.skip (PW.code ?_)|refine RW.nil (PW.code ?_))
  refine CW.ite rfl (fun h3 => ?_) (fun h3 => ?_)
  · repeat (first|refine Ja ?_|refine Jb ?_|refine Jc ?_|refine Jd ?_|refine Je ?_|refine Jf ?_|refine Jg ?_|refine Jh ?_|refine Ji ?_|refine Jj ?_|refine Jk ?_|refine Jl ?_|refine Jm ?_|refine Jn ?_|refine Jo ?_|refine Jp ?_|refine Jq ?_|refine Jr ?_|refine Js ?_|refine Jt ?_|refine Ju ?_|refine Jv ?_|refine Jw ?_|refine Jx ?_|refine Jy ?_|refine Jz ?_|refine JA ?_|refine JB ?_|refine JC ?_|refine JD ?_|refine JE ?_|refine JF ?_|refine JG ?_|refine JH ?_|refine JI ?_|refine JJ ?_|refine JK ?_|refine JL ?_|refine JM ?_|refine CW.skip (PW.code ?_)|refine RW.nil (PW.code ?_))
    refine CW.ret1 rfl Try.results5 rfl rfl fun w hw => ⟨rfl, hw.kp⟩
  have h3' : ck = 0 := Classical.not_not.1 h3
  have hlaw' := hlaw h2' h3'
  repeat (first|refine Ja ?_|refine Jb ?_|refine Jc ?_|refine Jd ?_|refine Je ?_|refine Jf ?_|refine Jg ?_|refine Jh ?_|refine Ji ?_|refine Jj ?_|refine Jk ?_|refine Jl ?_|refine Jm ?_|refine Jn ?_|refine Jo ?_|refine Jp ?_|refine Jq ?_|refine Jr ?_|refine Js ?_|refine Jt ?_|refine Ju ?_|refine Jv ?_|refine Jw ?_|refine Jx ?_|refine Jy ?_|refine Jz ?_|refine JA ?_|refine JB ?_|refine JC ?_|refine JD ?_|refine JE ?_|refine JF ?_|refine JG ?_|refine JH ?_|refine JI ?_|refine JJ ?_|refine JK ?_|refine JL ?_|refine JM ?_|refine CW.skip (PW.code ?_)|refine RW.nil (PW.code ?_))
  refine RW.call Try.call18 rfl (fun w2 hw2 => refFind_ret (N := mem w2 Any) (ls := ms) (x := b) (Mem.le_refl _) (own_at (pre := []) (t := kLit) hw2 rfl (rds_at (pre := [_]) hw2) (by rw [List.length_map]; exact hmsb)) (hb'.mono (Mem.le_trans hN (hle hw2)))) rfl ?_
  rw [hlaw']
  repeat (first|refine Ja ?_|refine Jb ?_|refine Jc ?_|refine Jd ?_|refine Je ?_|refine Jf ?_|refine Jg ?_|refine Jh ?_|refine Ji ?_|refine Jj ?_|refine Jk ?_|refine Jl ?_|refine Jm ?_|refine Jn ?_|refine Jo ?_|refine Jp ?_|refine Jq ?_|refine Jr ?_|refine Js ?_|refine Jt ?_|refine Ju ?_|refine Jv ?_|refine Jw ?_|refine Jx ?_|refine Jy ?_|refine Jz ?_|refine JA ?_|refine JB ?_|refine JC ?_|refine JD ?_|refine JE ?_|refine JF ?_|refine JG ?_|refine JH ?_|refine JI ?_|refine JJ ?_|refine JK ?_|refine JL ?_|refine JM ?_|refine CW.skip (PW.code ?_)|refine RW.nil (PW.code ?_))
  refine RW.take [2, 3, 4] ?_
  repeat (first|refine Ja ?_|refine Jb ?_|refine Jc ?_|refine Jd ?_|refine Je ?_|refine Jf ?_|refine Jg ?_|refine Jh ?_|refine Ji ?_|refine Jj ?_|refine Jk ?_|refine Jl ?_|refine Jm ?_|refine Jn ?_|refine Jo ?_|refine Jp ?_|refine Jq ?_|refine Jr ?_|refine Js ?_|refine Jt ?_|refine Ju ?_|refine Jv ?_|refine Jw ?_|refine Jx ?_|refine Jy ?_|refine Jz ?_|refine JA ?_|refine JB ?_|refine JC ?_|refine JD ?_|refine JE ?_|refine JF ?_|refine JG ?_|refine JH ?_|refine JI ?_|refine JJ ?_|refine JK ?_|refine JL ?_|refine JM ?_|refine CW.skip (PW.code ?_)|refine RW.nil (PW.code ?_))
  refine RW.call Try.call16 rfl (fun w2 hw2 => cOK ha' hb' hw2) rfl ?_
  repeat (first|refine Ja ?_|refine Jb ?_|refine Jc ?_|refine Jd ?_|refine Je ?_|refine Jf ?_|refine Jg ?_|refine Jh ?_|refine Ji ?_|refine Jj ?_|refine Jk ?_|refine Jl ?_|refine Jm ?_|refine Jn ?_|refine Jo ?_|refine Jp ?_|refine Jq ?_|refine Jr ?_|refine Js ?_|refine Jt ?_|refine Ju ?_|refine Jv ?_|refine Jw ?_|refine Jx ?_|refine Jy ?_|refine Jz ?_|refine JA ?_|refine JB ?_|refine JC ?_|refine JD ?_|refine JE ?_|refine JF ?_|refine JG ?_|refine JH ?_|refine JI ?_|refine JJ ?_|refine JK ?_|refine JL ?_|refine JM ?_|refine CW.skip (PW.code ?_)|refine RW.nil (PW.code ?_))
  refine CW.ret1 rfl Try.results5 rfl rfl fun w hw => ⟨?_, hw.kp⟩
  rw [decide_eq_true rfl]
end Go.Proofs.Ytoknohnodlaimaa
