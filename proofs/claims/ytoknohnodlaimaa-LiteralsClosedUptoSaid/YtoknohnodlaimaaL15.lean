/- literals.Close, by the calculus. -/
import Derived.Test.YtoknohnodlaimaaL14
import Derived.Test.YtoknohnodlaimaaJ
set_option linter.unusedVariables false
set_option linter.unusedSimpArgs false
set_option maxRecDepth 10000
namespace Go.Proofs.Ytoknohnodlaimaa
open Go Go.RowKit

attribute [local irreducible] RW CW
theorem closeAll_bound {ps : List kPred.V} {cl : List Int} {x : LitD} (hb : ∀ p ∈ ps, (ps.length + (predOf p).vals.length + 2) * 56 ≤ reach) : (closeAll (ps.map predOf) cl x).length * 56 ≤ reach := by
  have h1 : (closeAll (ps.map predOf) cl x).length ≤ 2 + (reach / 56 - 2 - ps.length) + ps.length := by
    have h2 := MatesD_len (ps.map predOf) cl x (reach / 56 - 2 - ps.length) (fun p hp => by
      obtain ⟨q, hq, rfl⟩ := List.mem_map.1 hp
      have := hb q hq
      unfold reach at this ⊢
      omega)
    rw [List.length_map] at h2
    unfold closeAll
    rw [List.length_append]
    split
    · simp only [List.length_singleton]; omega
    · simp; omega
  cases ps with
  | nil => unfold reach at h1 ⊢; simp only [List.length_nil] at h1; omega
  | cons p r =>
    have := hb p (by simp)
    unfold reach at this h1 ⊢
    omega
theorem own_elem {w0 w : World} {S : Nat → Prop} {pre r : List HP} {e : TypeId} {sz B n c : Nat} {es : List (List Value)} {j : Nat} {x : List Value} (h : St w0 S (pre ++ ownHP e sz (.slice (some ⟨B, 0, none⟩) n c) es :: r) w) (hs : ∀ x ∈ es, x.length = sz) (hx : es[j]? = some x) : CellsAt w B (0 + j * sz) x := by
  intro i v hv
  have := own_cells h (j * sz + i) v (flatten_at hs hx hv)
  rwa [Nat.zero_add] at this ⊢
theorem own_lits {w0 w : World} {S : Nat → Prop} {pre r : List HP} {M : Mem} {v : Value} {es : List (List Value)} {ls : List LitD} (h : St w0 S (pre ++ ownHP 27 5 v es :: rdsHP M kLit es (ls.map litV) :: r) w) :
    es.length = ls.length ∧ ∃ A c, v = .slice A ls.length c ∧ ls.length ≤ c ∧ c ≤ maxN ∧ (∀ x ∈ es, x.length = 5) ∧ (es ≠ [] → ∃ B, A = some ⟨B, 0, none⟩) ∧ ∀ u ∈ es, ∀ v ∈ u, v.oneCell' = true := by
  have h2 : St w0 S ((pre ++ [ownHP 27 5 v es]) ++ rdsHP M kLit es (ls.map litV) :: r) w := by rw [List.append_assoc]; exact h
  obtain ⟨F, hp, _⟩ := h2.get
  have hl : es.length = ls.length := by rw [hp.1, List.length_map]
  have h9 : ∀ u ∈ es, ∀ v ∈ u, v.oneCell' = true := fun u hu => by
    obtain ⟨i, hi⟩ := List.mem_iff_getElem?.1 hu
    have hil : i < (ls.map litV).length := by rw [← hp.1]; exact (List.getElem?_eq_some_iff.1 hi).1
    exact Rd.one (hp.2 i u _ hi (List.getElem?_eq_getElem hil))
  obtain ⟨A, c, h1, h2, h3, h4, h5⟩ := own_any h
  rw [hl] at h1 h2
  exact ⟨hl, A, c, h1, h2, h3, h4, h5, h9⟩
/-- add, where the literal is one of several in a chunk. -/
theorem add_call2 {E : Env} {ops : Array Oper} {Q : Pst} {rest : List Oper} {G : List (Nat × Value)} {pre r : List HP} {dst : Nat} {ty : TypeId} {pos : String} {af : Array Edge} {at_ : Array TypeId} {x y : Operand} {v : Value} {es ea : List (List Value)} {ls al : List LitD} {l : LitD} {cs : List Value} {j : Nat} {N : Mem}
    (hl : evs G [x, y] = some [v, .agg cs.toArray]) (hE : Mem.le N E.ro) (hej : ea[j]? = some cs) (haj : (al.map litV)[j]? = some (litV l)) (hb : (ls.length + 1) * 56 ≤ reach) (hN : Nat.blt dst E.N = true)
    (kk : ∀ v' es', RW Try.prog E ops Q rest ((dst, v') :: G) (ownHP 27 5 v' es' :: rdsHP Mem.none kLit es' ((addD ls l).map litV) :: (pre ++ rdsHP N kLit ea (al.map litV) :: r))) :
    RW Try.prog E ops Q (⟨some dst, .call ⟨.value (.func 32), [x, y].toArray, at_⟩, ty, pos, af, none⟩ :: rest) G (ownHP 27 5 v es :: rdsHP Mem.none kLit es (ls.map litV) :: (pre ++ rdsHP N kLit ea (al.map litV) :: r)) :=
  RW.callD (litsH v es ls) (r := pre ++ rdsHP N kLit ea (al.map litV) :: r) Try.call32 hl (fun w F h3 hS hr => add_ret (Mem.le_refl _) hS ((Sep.rds hr (Mem.le_trans hE h3)).2 j _ _ hej haj) hb) hN (fun y => kk y.1 y.2)
set_option maxHeartbeats 8000000 in
theorem Close_ret {N : Mem} {A B D : Option Addr} {c d e : Nat} {ps : List kPred.V} {cl : List Int} {ls : List LitD} {w : World} (hN : Mem.le N (mem w Any)) (hps : Rd kPreds N [.slice A ps.length c] ps) (hcl : Rd kInts N [.slice B cl.length d] cl) (hls : Rd kLits N [.slice D ls.length e] (ls.map litV))
    (hb : ∀ p ∈ ps, (ps.length + (predOf p).vals.length + 2) * 56 ≤ reach) :
    RetC Try.prog 11 [.slice A ps.length c, .slice B cl.length d, .slice D ls.length e] w No (fun y : Value × List (List Value) => .tuple #[y.1, .int .i64 (closeD (ps.map predOf) cl ls).2]) (fun y => litsH y.1 y.2 (closeD (ps.map predOf) cl ls).1) := by
  have hle : ∀ {H : List HP} {w2 : World}, St w No H w2 → Mem.le (mem w Any) (mem w2 Any) := fun hw2 => Mem.le_trans (any_ro (N := 0) (ds := [])) (ro_le' (E := ⟨0, [], w, No⟩) hw2)
  obtain ⟨D', e', he, _, _, hsz, hx⟩ := Rd.lits hls
  cases he
  have hl : ls.length ≤ reach := by omega
  unfold reach at hl
  refine Calls.enter Try.func11 rfl _ rfl rfl (S := No) (H := []) trivial ?_
  refine CW.seqR ?_
  refine RW.box_one rfl rfl rfl fun b3 _ => ?_
  repeat (first|refine Ja ?_|refine Jb ?_|refine Jc ?_|refine Jd ?_|refine Je ?_|refine Jf ?_|refine Jg ?_|refine Jh ?_|refine Ji ?_|refine Jj ?_|refine Jk ?_|refine Jl ?_|refine Jm ?_|refine Jn ?_|refine Jo ?_|refine Jp ?_|refine Jq ?_|refine Jr ?_|refine Js ?_|refine Jt ?_|refine Ju ?_|refine Jv ?_|refine Jw ?_|refine Jx ?_|refine Jy ?_|refine Jz ?_|refine JA ?_|refine JB ?_|refine JC ?_|refine JD ?_|refine JE ?_|refine JF ?_|refine JG ?_|refine JH ?_|refine JI ?_|refine JJ ?_|refine JK ?_|refine JL ?_|refine JM ?_|refine CW.skip (PW.code ?_)|refine RW.nil (PW.code ?_))
  refine CW.seq ?_
  repeat (first|refine Ja ?_|refine Jb ?_|refine Jc ?_|refine Jd ?_|refine Je ?_|refine Jf ?_|refine Jg ?_|refine Jh ?_|refine Ji ?_|refine Jj ?_|refine Jk ?_|refine Jl ?_|refine Jm ?_|refine Jn ?_|refine Jo ?_|refine Jp ?_|refine Jq ?_|refine Jr ?_|refine Js ?_|refine Jt ?_|refine Ju ?_|refine Jv ?_|refine Jw ?_|refine Jx ?_|refine Jy ?_|refine Jz ?_|refine JA ?_|refine JB ?_|refine JC ?_|refine JD ?_|refine JE ?_|refine JF ?_|refine JG ?_|refine JH ?_|refine JI ?_|refine JJ ?_|refine JK ?_|refine JL ?_|refine JM ?_|refine CW.skip (PW.code ?_)|refine RW.nil (PW.code ?_))
  refine CW.ite rfl (fun h1 => ?_) (fun h1 => ?_)
  · repeat (first|refine Ja ?_|refine Jb ?_|refine Jc ?_|refine Jd ?_|refine Je ?_|refine Jf ?_|refine Jg ?_|refine Jh ?_|refine Ji ?_|refine Jj ?_|refine Jk ?_|refine Jl ?_|refine Jm ?_|refine Jn ?_|refine Jo ?_|refine Jp ?_|refine Jq ?_|refine Jr ?_|refine Js ?_|refine Jt ?_|refine Ju ?_|refine Jv ?_|refine Jw ?_|refine Jx ?_|refine Jy ?_|refine Jz ?_|refine JA ?_|refine JB ?_|refine JC ?_|refine JD ?_|refine JE ?_|refine JF ?_|refine JG ?_|refine JH ?_|refine JI ?_|refine JJ ?_|refine JK ?_|refine JL ?_|refine JM ?_|refine CW.skip (PW.code ?_)|refine RW.nil (PW.code ?_))
    refine CW.rets (rs := [.tmp 6, .tmp 7]) (vs := [_, _]) rfl Try.results11 rfl (ResOK.tmp rfl (ResOK.tmp rfl ResOK.nil)) fun w hw => ⟨(.slice none 0 0, []), ?_, ?_⟩
    · rw [closeD, if_pos (by simp; omega)]; rfl
    · rw [closeD, if_pos (by simp; omega)]; exact litsH_nil hw.kp
  have hlen : cl.length = ps.length := by omega
  repeat (first|refine Ja ?_|refine Jb ?_|refine Jc ?_|refine Jd ?_|refine Je ?_|refine Jf ?_|refine Jg ?_|refine Jh ?_|refine Ji ?_|refine Jj ?_|refine Jk ?_|refine Jl ?_|refine Jm ?_|refine Jn ?_|refine Jo ?_|refine Jp ?_|refine Jq ?_|refine Jr ?_|refine Js ?_|refine Jt ?_|refine Ju ?_|refine Jv ?_|refine Jw ?_|refine Jx ?_|refine Jy ?_|refine Jz ?_|refine JA ?_|refine JB ?_|refine JC ?_|refine JD ?_|refine JE ?_|refine JF ?_|refine JG ?_|refine JH ?_|refine JI ?_|refine JJ ?_|refine JK ?_|refine JL ?_|refine JM ?_|refine CW.skip (PW.code ?_)|refine RW.nil (PW.code ?_))
  refine CW.seq ?_
  repeat (first|refine Ja ?_|refine Jb ?_|refine Jc ?_|refine Jd ?_|refine Je ?_|refine Jf ?_|refine Jg ?_|refine Jh ?_|refine Ji ?_|refine Jj ?_|refine Jk ?_|refine Jl ?_|refine Jm ?_|refine Jn ?_|refine Jo ?_|refine Jp ?_|refine Jq ?_|refine Jr ?_|refine Js ?_|refine Jt ?_|refine Ju ?_|refine Jv ?_|refine Jw ?_|refine Jx ?_|refine Jy ?_|refine Jz ?_|refine JA ?_|refine JB ?_|refine JC ?_|refine JD ?_|refine JE ?_|refine JF ?_|refine JG ?_|refine JH ?_|refine JI ?_|refine JJ ?_|refine JK ?_|refine JL ?_|refine JM ?_|refine CW.skip (PW.code ?_)|refine RW.nil (PW.code ?_))
  refine RW.call Try.call29 rfl (fun w2 hw2 => containsLit_ret (N := N) (caps := [.pointer (some ⟨b3, 0, none⟩)]) (p := fun x => !rightD (ps.map predOf) (-1) x) (Mem.le_trans hN (hle hw2)) hls Try.call30 (fun w3 hk3 x hx9 cs hcs => ?_)) rfl ?_
  · have h9 : Mem.le N (mem w3 Any) := Mem.le_trans hN (Mem.le_trans (any_ro (N := 0) (ds := [])) (Mem.le_trans (mem_keeps (S := No) (hw2.kp.trans hk3 (fun _ hb => hb.elim))) (mem_up fun _ _ => trivial)))
    refine wrong_ret (l := x) b3 h9 h9 hps hcs ?_
    have := cell_of_blk (o := 0) (v := .slice A ps.length c) (St.blk (pre := []) hw2) rfl
    exact cell_keeps this hk3 (fun k => k)
  repeat (first|refine Ja ?_|refine Jb ?_|refine Jc ?_|refine Jd ?_|refine Je ?_|refine Jf ?_|refine Jg ?_|refine Jh ?_|refine Ji ?_|refine Jj ?_|refine Jk ?_|refine Jl ?_|refine Jm ?_|refine Jn ?_|refine Jo ?_|refine Jp ?_|refine Jq ?_|refine Jr ?_|refine Js ?_|refine Jt ?_|refine Ju ?_|refine Jv ?_|refine Jw ?_|refine Jx ?_|refine Jy ?_|refine Jz ?_|refine JA ?_|refine JB ?_|refine JC ?_|refine JD ?_|refine JE ?_|refine JF ?_|refine JG ?_|refine JH ?_|refine JI ?_|refine JJ ?_|refine JK ?_|refine JL ?_|refine JM ?_|refine CW.skip (PW.code ?_)|refine RW.nil (PW.code ?_))
  refine CW.cond rfl (fun h2 => ?_) (fun h2 => ?_)
  · repeat (first|refine Ja ?_|refine Jb ?_|refine Jc ?_|refine Jd ?_|refine Je ?_|refine Jf ?_|refine Jg ?_|refine Jh ?_|refine Ji ?_|refine Jj ?_|refine Jk ?_|refine Jl ?_|refine Jm ?_|refine Jn ?_|refine Jo ?_|refine Jp ?_|refine Jq ?_|refine Jr ?_|refine Js ?_|refine Jt ?_|refine Ju ?_|refine Jv ?_|refine Jw ?_|refine Jx ?_|refine Jy ?_|refine Jz ?_|refine JA ?_|refine JB ?_|refine JC ?_|refine JD ?_|refine JE ?_|refine JF ?_|refine JG ?_|refine JH ?_|refine JI ?_|refine JJ ?_|refine JK ?_|refine JL ?_|refine JM ?_|refine CW.skip (PW.code ?_)|refine RW.nil (PW.code ?_))
    refine CW.rets (rs := [.tmp 6, .tmp 7]) (vs := [_, _]) rfl Try.results11 rfl (ResOK.tmp rfl (ResOK.tmp rfl ResOK.nil)) fun w hw => ⟨(.slice none 0 0, []), ?_, ?_⟩
    · rw [closeD, if_neg (by simp; omega), if_pos h2]; rfl
    · rw [closeD, if_neg (by simp; omega), if_pos h2]; exact litsH_nil hw.kp
  have hD : closeD (ps.map predOf) cl ls = match closeGo (ps.map predOf) cl ls [] with
    | none => ([], 112)
    | some o => (o, 0) := by rw [closeD, if_neg (by simp; omega), if_neg (by simp only [h2]; decide)]; rfl
  repeat (first|refine Ja ?_|refine Jb ?_|refine Jc ?_|refine Jd ?_|refine Je ?_|refine Jf ?_|refine Jg ?_|refine Jh ?_|refine Ji ?_|refine Jj ?_|refine Jk ?_|refine Jl ?_|refine Jm ?_|refine Jn ?_|refine Jo ?_|refine Jp ?_|refine Jq ?_|refine Jr ?_|refine Js ?_|refine Jt ?_|refine Ju ?_|refine Jv ?_|refine Jw ?_|refine Jx ?_|refine Jy ?_|refine Jz ?_|refine JA ?_|refine JB ?_|refine JC ?_|refine JD ?_|refine JE ?_|refine JF ?_|refine JG ?_|refine JH ?_|refine JI ?_|refine JJ ?_|refine JK ?_|refine JL ?_|refine JM ?_|refine CW.skip (PW.code ?_)|refine RW.nil (PW.code ?_))
  refine CW.seq ?_
  repeat (first|refine Ja ?_|refine Jb ?_|refine Jc ?_|refine Jd ?_|refine Je ?_|refine Jf ?_|refine Jg ?_|refine Jh ?_|refine Ji ?_|refine Jj ?_|refine Jk ?_|refine Jl ?_|refine Jm ?_|refine Jn ?_|refine Jo ?_|refine Jp ?_|refine Jq ?_|refine Jr ?_|refine Js ?_|refine Jt ?_|refine Ju ?_|refine Jv ?_|refine Jw ?_|refine Jx ?_|refine Jy ?_|refine Jz ?_|refine JA ?_|refine JB ?_|refine JC ?_|refine JD ?_|refine JE ?_|refine JF ?_|refine JG ?_|refine JH ?_|refine JI ?_|refine JJ ?_|refine JK ?_|refine JL ?_|refine JM ?_|refine CW.skip (PW.code ?_)|refine RW.nil (PW.code ?_))
  refine CW.add_ (rdsHP Mem.none kLit [] (([] : List LitD).map litV)) (fun w _ => All2.nil) ?_
  refine CW.add_ (ownHP 27 5 (.slice none 0 0) []) (fun w _ => .inl ⟨rfl, rfl⟩) ?_
  refine CW.block ?_
  refine CW.loop (ι := { q : Nat × Value × List (List Value) × List LitD // q.1 ≤ ls.length ∧ q.2.2.2.length ≤ 4096 ∧ closeGo (ps.map predOf) cl ls [] = closeGo (ps.map predOf) cl (ls.drop q.1) q.2.2.2 })
    (fun q => [(1, .slice B cl.length d), (3, .pointer (some ⟨b3, 0, none⟩)), (8, q.1.2.1), (24, .slice D ls.length e), (25, .int .i64 ls.length), (26, .int .i64 q.1.1)])
    (fun q => [ownHP 27 5 q.1.2.1 q.1.2.2.1, rdsHP Mem.none kLit q.1.2.2.1 (q.1.2.2.2.map litV), blk b3 [.slice A ps.length c] 32])
    (fun q => ls.length - q.1.1) ⟨(0, _, _, []), Nat.zero_le _, Nat.zero_le _, rfl⟩ ⟨rfl, rfl, rfl, rfl, rfl, rfl, trivial⟩ (fun h => h) ?_
  intro ⟨(k, v, es, o), hk, ho, hgo⟩
  dsimp only
  replace hk : k ≤ ls.length := hk
  replace ho : o.length ≤ 4096 := ho
  replace hgo : closeGo (ps.map predOf) cl ls [] = closeGo (ps.map predOf) cl (ls.drop k) o := hgo
  repeat (first|refine Ja ?_|refine Jb ?_|refine Jc ?_|refine Jd ?_|refine Je ?_|refine Jf ?_|refine Jg ?_|refine Jh ?_|refine Ji ?_|refine Jj ?_|refine Jk ?_|refine Jl ?_|refine Jm ?_|refine Jn ?_|refine Jo ?_|refine Jp ?_|refine Jq ?_|refine Jr ?_|refine Js ?_|refine Jt ?_|refine Ju ?_|refine Jv ?_|refine Jw ?_|refine Jx ?_|refine Jy ?_|refine Jz ?_|refine JA ?_|refine JB ?_|refine JC ?_|refine JD ?_|refine JE ?_|refine JF ?_|refine JG ?_|refine JH ?_|refine JI ?_|refine JJ ?_|refine JK ?_|refine JL ?_|refine JM ?_|refine CW.skip (PW.code ?_)|refine RW.nil (PW.code ?_))
  refine CW.seq ?_
  refine CW.ite rfl (fun hlt => ?_) (fun hge => ?_)
  · have hlt' : k < ls.length := by omega
    obtain ⟨B1, O1, es1, rfl, hl1, hr, hm⟩ := hx k ls[k] (List.getElem?_eq_getElem hlt')
    have hdrop : ls.drop k = ls[k] :: ls.drop (k + 1) := List.drop_eq_getElem_cons hlt'
    generalize hxk : ls[k] = x at hr hdrop
    have hlit := hr
    obtain ⟨A2, c2, rfl, hargs, hi1, hi2, hi3⟩ := Rd.lit hr
    rw [litOf_V] at *
    clear hr
    unfold LitD.V at *
    repeat (first|refine Ja ?_|refine Jb ?_|refine Jc ?_|refine Jd ?_|refine Je ?_|refine Jf ?_|refine Jg ?_|refine Jh ?_|refine Ji ?_|refine Jj ?_|refine Jk ?_|refine Jl ?_|refine Jm ?_|refine Jn ?_|refine Jo ?_|refine Jp ?_|refine Jq ?_|refine Jr ?_|refine Js ?_|refine Jt ?_|refine Ju ?_|refine Jv ?_|refine Jw ?_|refine Jx ?_|refine Jy ?_|refine Jz ?_|refine JA ?_|refine JB ?_|refine JC ?_|refine JD ?_|refine JE ?_|refine JF ?_|refine JG ?_|refine JH ?_|refine JI ?_|refine JJ ?_|refine JK ?_|refine JL ?_|refine JM ?_|refine CW.skip (PW.code ?_)|refine RW.nil (PW.code ?_))
    refine CW.seq ?_
    refine CW.block ?_
    repeat (first|refine Ja ?_|refine Jb ?_|refine Jc ?_|refine Jd ?_|refine Je ?_|refine Jf ?_|refine Jg ?_|refine Jh ?_|refine Ji ?_|refine Jj ?_|refine Jk ?_|refine Jl ?_|refine Jm ?_|refine Jn ?_|refine Jo ?_|refine Jp ?_|refine Jq ?_|refine Jr ?_|refine Js ?_|refine Jt ?_|refine Ju ?_|refine Jv ?_|refine Jw ?_|refine Jx ?_|refine Jy ?_|refine Jz ?_|refine JA ?_|refine JB ?_|refine JC ?_|refine JD ?_|refine JE ?_|refine JF ?_|refine JG ?_|refine JH ?_|refine JI ?_|refine JJ ?_|refine JK ?_|refine JL ?_|refine JM ?_|refine CW.skip (PW.code ?_)|refine RW.nil (PW.code ?_))
    refine RW.indexAddr rfl rfl (by omega) hlt rfl ?_
    refine RW.load_ros rfl (Mem.le_trans hN any_ro) hm rfl rfl (Nat.succ_pos _) rfl ?_
    refine RW.alloc rfl rfl fun b10 _ => ?_
    refine RW.store_whole [] rfl rfl rfl rfl rfl (by simp [Value.oneCell']) ?_
    repeat (first|refine Ja ?_|refine Jb ?_|refine Jc ?_|refine Jd ?_|refine Je ?_|refine Jf ?_|refine Jg ?_|refine Jh ?_|refine Ji ?_|refine Jj ?_|refine Jk ?_|refine Jl ?_|refine Jm ?_|refine Jn ?_|refine Jo ?_|refine Jp ?_|refine Jq ?_|refine Jr ?_|refine Js ?_|refine Jt ?_|refine Ju ?_|refine Jv ?_|refine Jw ?_|refine Jx ?_|refine Jy ?_|refine Jz ?_|refine JA ?_|refine JB ?_|refine JC ?_|refine JD ?_|refine JE ?_|refine JF ?_|refine JG ?_|refine JH ?_|refine JI ?_|refine JJ ?_|refine JK ?_|refine JL ?_|refine JM ?_|refine CW.skip (PW.code ?_)|refine RW.nil (PW.code ?_))
    refine RW.buildOwn (e := 27) (sz := 5) [[.bool x.neg, .int .i64 x.pred, .slice A2 x.args.length c2, .int .i64 x.value, .int .i64 x.guard]] rfl (fun w => by kernel_rfl) rfl (by simp) (by decide) rfl fun nb => ?_
    repeat (first|refine Ja ?_|refine Jb ?_|refine Jc ?_|refine Jd ?_|refine Je ?_|refine Jf ?_|refine Jg ?_|refine Jh ?_|refine Ji ?_|refine Jj ?_|refine Jk ?_|refine Jl ?_|refine Jm ?_|refine Jn ?_|refine Jo ?_|refine Jp ?_|refine Jq ?_|refine Jr ?_|refine Js ?_|refine Jt ?_|refine Ju ?_|refine Jv ?_|refine Jw ?_|refine Jx ?_|refine Jy ?_|refine Jz ?_|refine JA ?_|refine JB ?_|refine JC ?_|refine JD ?_|refine JE ?_|refine JF ?_|refine JG ?_|refine JH ?_|refine JI ?_|refine JJ ?_|refine JK ?_|refine JL ?_|refine JM ?_|refine CW.skip (PW.code ?_)|refine RW.nil (PW.code ?_))
    refine CW.cut (ι := Value × List (List Value))
      (fun q => [(1, .slice B cl.length d), (3, .pointer (some ⟨b3, 0, none⟩)), (8, v), (11, q.1), (24, .slice (some ⟨B1, O1, none⟩) ls.length e), (25, .int .i64 ls.length), (26, .int .i64 k)])
      (fun q => [ownHP 27 5 v es, rdsHP Mem.none kLit es (o.map litV), ownHP 27 5 q.1 q.2, rdsHP N kLit q.2 ((closeAll (ps.map predOf) cl x).map litV), blk b3 [.slice A ps.length c] 32]) ?_ (fun ⟨va, ea⟩ => ?_)
    · repeat (first|refine Ja ?_|refine Jb ?_|refine Jc ?_|refine Jd ?_|refine Je ?_|refine Jf ?_|refine Jg ?_|refine Jh ?_|refine Ji ?_|refine Jj ?_|refine Jk ?_|refine Jl ?_|refine Jm ?_|refine Jn ?_|refine Jo ?_|refine Jp ?_|refine Jq ?_|refine Jr ?_|refine Js ?_|refine Jt ?_|refine Ju ?_|refine Jv ?_|refine Jw ?_|refine Jx ?_|refine Jy ?_|refine Jz ?_|refine JA ?_|refine JB ?_|refine JC ?_|refine JD ?_|refine JE ?_|refine JF ?_|refine JG ?_|refine JH ?_|refine JI ?_|refine JJ ?_|refine JK ?_|refine JL ?_|refine JM ?_|refine CW.skip (PW.code ?_)|refine RW.nil (PW.code ?_))
      refine CW.ite rfl (fun h5 => ?_) (fun h5 => ?_)
      · repeat (first|refine Ja ?_|refine Jb ?_|refine Jc ?_|refine Jd ?_|refine Je ?_|refine Jf ?_|refine Jg ?_|refine Jh ?_|refine Ji ?_|refine Jj ?_|refine Jk ?_|refine Jl ?_|refine Jm ?_|refine Jn ?_|refine Jo ?_|refine Jp ?_|refine Jq ?_|refine Jr ?_|refine Js ?_|refine Jt ?_|refine Ju ?_|refine Jv ?_|refine Jw ?_|refine Jx ?_|refine Jy ?_|refine Jz ?_|refine JA ?_|refine JB ?_|refine JC ?_|refine JD ?_|refine JE ?_|refine JF ?_|refine JG ?_|refine JH ?_|refine JI ?_|refine JJ ?_|refine JK ?_|refine JL ?_|refine JM ?_|refine CW.skip (PW.code ?_)|refine RW.nil (PW.code ?_))
        dsimp only [List.cons_append, List.nil_append]
        refine RW.load_blk [_, _, _, _] rfl rfl rfl rfl ?_
        repeat (first|refine Ja ?_|refine Jb ?_|refine Jc ?_|refine Jd ?_|refine Je ?_|refine Jf ?_|refine Jg ?_|refine Jh ?_|refine Ji ?_|refine Jj ?_|refine Jk ?_|refine Jl ?_|refine Jm ?_|refine Jn ?_|refine Jo ?_|refine Jp ?_|refine Jq ?_|refine Jr ?_|refine Js ?_|refine Jt ?_|refine Ju ?_|refine Jv ?_|refine Jw ?_|refine Jx ?_|refine Jy ?_|refine Jz ?_|refine JA ?_|refine JB ?_|refine JC ?_|refine JD ?_|refine JE ?_|refine JF ?_|refine JG ?_|refine JH ?_|refine JI ?_|refine JJ ?_|refine JK ?_|refine JL ?_|refine JM ?_|refine CW.skip (PW.code ?_)|refine RW.nil (PW.code ?_))
        refine RW.callN Try.call14 rfl (fun w2 hw2 => Mates_ret (l := x) (Mem.le_trans hN (hle hw2)) (Mem.le_trans hN (hle hw2)) hps hcl hlit hb) rfl fun y => ?_
        obtain ⟨vm, em⟩ := y
        have hall : closeAll (ps.map predOf) cl x = [x] ++ (MatesD (ps.map predOf) cl x).1 := by rw [closeAll, if_pos h5]
        have hallb := closeAll_bound (cl := cl) (x := x) hb
        rw [hall] at hallb
        generalize (MatesD (ps.map predOf) cl x).1 = ms at hall hallb
        generalize (MatesD (ps.map predOf) cl x).2 = me
        refine RW.have_ (φ := _ ∧ ∃ A c, vm = .slice A ms.length c ∧ ms.length ≤ c ∧ c ≤ maxN ∧ (∀ x ∈ em, x.length = 5) ∧ (em ≠ [] → ∃ B, A = some ⟨B, 0, none⟩) ∧ ∀ u ∈ em, ∀ v ∈ u, v.oneCell' = true) (fun w hw => own_lits (pre := []) hw) (fun ⟨hem, A3, c3, hvm, _, _, hm5, hm6, hm7⟩ => ?_)
        subst hvm
        dsimp only [List.cons_append, List.nil_append]
        repeat (first|refine Ja ?_|refine Jb ?_|refine Jc ?_|refine Jd ?_|refine Je ?_|refine Jf ?_|refine Jg ?_|refine Jh ?_|refine Ji ?_|refine Jj ?_|refine Jk ?_|refine Jl ?_|refine Jm ?_|refine Jn ?_|refine Jo ?_|refine Jp ?_|refine Jq ?_|refine Jr ?_|refine Js ?_|refine Jt ?_|refine Ju ?_|refine Jv ?_|refine Jw ?_|refine Jx ?_|refine Jy ?_|refine Jz ?_|refine JA ?_|refine JB ?_|refine JC ?_|refine JD ?_|refine JE ?_|refine JF ?_|refine JG ?_|refine JH ?_|refine JI ?_|refine JJ ?_|refine JK ?_|refine JL ?_|refine JM ?_|refine CW.skip (PW.code ?_)|refine RW.nil (PW.code ?_))
        refine CW.region ?_
        repeat (first|refine Ja ?_|refine Jb ?_|refine Jc ?_|refine Jd ?_|refine Je ?_|refine Jf ?_|refine Jg ?_|refine Jh ?_|refine Ji ?_|refine Jj ?_|refine Jk ?_|refine Jl ?_|refine Jm ?_|refine Jn ?_|refine Jo ?_|refine Jp ?_|refine Jq ?_|refine Jr ?_|refine Js ?_|refine Jt ?_|refine Ju ?_|refine Jv ?_|refine Jw ?_|refine Jx ?_|refine Jy ?_|refine Jz ?_|refine JA ?_|refine JB ?_|refine JC ?_|refine JD ?_|refine JE ?_|refine JF ?_|refine JG ?_|refine JH ?_|refine JI ?_|refine JJ ?_|refine JK ?_|refine JL ?_|refine JM ?_|refine CW.skip (PW.code ?_)|refine RW.nil (PW.code ?_))
        refine RW.pull [_, _] ?_
        refine RW.append [] (e := 27) (sz := 5) (es := [[.bool x.neg, .int .i64 x.pred, .slice A2 x.args.length c2, .int .i64 x.value, .int .i64 x.guard]]) (news := em) (zc := [.bool false, .int .i64 0, .slice none 0 0, .int .i64 0, .int .i64 0]) rfl rfl rfl rfl hem hm5 (fun u hu => ?_) (fun w hw hn => ?_) ?_ ?_ rfl fun v' => ?_
        · exact hm7 u hu
        · obtain ⟨BB, hBB⟩ := hm6 (fun k => hn (by rw [← hem, k]; rfl))
          subst hBB
          exact ⟨BB, 0, rfl, own_cells (pre := []) (hw.take [1])⟩
        · rw [List.length_append] at hallb
          unfold reach at hallb
          simp only [List.length_singleton] at hallb ⊢
          omega
        · rw [List.length_append] at hallb
          unfold reach at hallb
          unfold maxN
          simp only [List.length_singleton] at hallb ⊢
          omega
        repeat (first|refine Ja ?_|refine Jb ?_|refine Jc ?_|refine Jd ?_|refine Je ?_|refine Jf ?_|refine Jg ?_|refine Jh ?_|refine Ji ?_|refine Jj ?_|refine Jk ?_|refine Jl ?_|refine Jm ?_|refine Jn ?_|refine Jo ?_|refine Jp ?_|refine Jq ?_|refine Jr ?_|refine Js ?_|refine Jt ?_|refine Ju ?_|refine Jv ?_|refine Jw ?_|refine Jx ?_|refine Jy ?_|refine Jz ?_|refine JA ?_|refine JB ?_|refine JC ?_|refine JD ?_|refine JE ?_|refine JF ?_|refine JG ?_|refine JH ?_|refine JI ?_|refine JJ ?_|refine JK ?_|refine JL ?_|refine JM ?_|refine CW.skip (PW.code ?_)|refine RW.nil (PW.code ?_))
        refine RW.change [_, _] (rdsHP N kLit ([[.bool x.neg, .int .i64 x.pred, .slice A2 x.args.length c2, .int .i64 x.value, .int .i64 x.guard]] ++ em) (([x] ++ ms).map litV)) (fun w F hp => ?_) ?_
        · rw [List.map_append]
          exact All2.append (All2.one (hlit.mono (Mem.le_left _ _))) (hp.imp fun _ _ k => k.mono (Mem.or_le (Mem.none_le _) (Mem.le_right _ _)))
        rw [← hall]
        generalize [[Value.bool x.neg, .int .i64 x.pred, .slice A2 x.args.length c2, .int .i64 x.value, .int .i64 x.guard]] ++ em = ea
        refine RW.nil ?_
        refine PW.meetT (v', ea) [4, 5, 0, 2, 6] ⟨rfl, rfl, rfl, rfl, rfl, rfl, rfl, trivial⟩ rfl
      · refine CW.skip ?_
        refine PW.add (rdsHP N kLit [[.bool x.neg, .int .i64 x.pred, .slice A2 x.args.length c2, .int .i64 x.value, .int .i64 x.guard]] ((closeAll (ps.map predOf) cl x).map litV)) (fun w _ => by
          rw [closeAll, if_neg h5]
          exact All2.one (hlit.mono (Mem.le_left _ _))) ?_
        refine PW.meetT (_, _) [3, 4, 1, 0, 5] ⟨rfl, rfl, rfl, rfl, rfl, rfl, rfl, trivial⟩ rfl
    generalize hall : closeAll (ps.map predOf) cl x = all
    have hallb := closeAll_bound (cl := cl) (x := x) hb
    rw [hall] at hallb
    unfold reach at hallb
    dsimp only
    refine CW.have_ (φ := _ ∧ ∃ A c, va = .slice A all.length c ∧ all.length ≤ c ∧ c ≤ maxN ∧ (∀ x ∈ ea, x.length = 5) ∧ (ea ≠ [] → ∃ B, A = some ⟨B, 0, none⟩) ∧ ∀ u ∈ ea, ∀ v ∈ u, v.oneCell' = true) (fun w hw => own_lits (pre := [_, _]) hw) (fun ⟨hea, A3, c3, hva, hc3, _, ha5, ha6, ha7⟩ => ?_)
    subst hva
    repeat (first|refine Ja ?_|refine Jb ?_|refine Jc ?_|refine Jd ?_|refine Je ?_|refine Jf ?_|refine Jg ?_|refine Jh ?_|refine Ji ?_|refine Jj ?_|refine Jk ?_|refine Jl ?_|refine Jm ?_|refine Jn ?_|refine Jo ?_|refine Jp ?_|refine Jq ?_|refine Jr ?_|refine Js ?_|refine Jt ?_|refine Ju ?_|refine Jv ?_|refine Jw ?_|refine Jx ?_|refine Jy ?_|refine Jz ?_|refine JA ?_|refine JB ?_|refine JC ?_|refine JD ?_|refine JE ?_|refine JF ?_|refine JG ?_|refine JH ?_|refine JI ?_|refine JJ ?_|refine JK ?_|refine JL ?_|refine JM ?_|refine CW.skip (PW.code ?_)|refine RW.nil (PW.code ?_))
    refine CW.block ?_
    refine CW.loop (ι := { q : Nat × Value × List (List Value) × List LitD // q.1 ≤ all.length ∧ q.2.2.2.length ≤ 4096 ∧ addAll all o = addAll (all.drop q.1) q.2.2.2 })
      (fun q => [(1, .slice B cl.length d), (3, .pointer (some ⟨b3, 0, none⟩)), (8, q.1.2.1), (24, .slice (some ⟨B1, O1, none⟩) ls.length e), (25, .int .i64 ls.length), (26, .int .i64 k), (45, .slice A3 all.length c3), (46, .int .i64 all.length), (47, .int .i64 q.1.1)])
      (fun q => [ownHP 27 5 q.1.2.1 q.1.2.2.1, rdsHP Mem.none kLit q.1.2.2.1 (q.1.2.2.2.map litV), ownHP 27 5 (.slice A3 all.length c3) ea, rdsHP N kLit ea (all.map litV), blk b3 [.slice A ps.length c] 32])
      (fun q => all.length - q.1.1) ⟨(0, _, _, o), Nat.zero_le _, ho, rfl⟩ ⟨rfl, rfl, rfl, rfl, rfl, rfl, rfl, rfl, rfl, trivial⟩ (fun h => h) ?_
    intro ⟨(j, v2, es2, o2), hj, ho2, hadd⟩
    dsimp only
    replace hj : j ≤ all.length := hj
    replace ho2 : o2.length ≤ 4096 := ho2
    replace hadd : addAll all o = addAll (all.drop j) o2 := hadd
    repeat (first|refine Ja ?_|refine Jb ?_|refine Jc ?_|refine Jd ?_|refine Je ?_|refine Jf ?_|refine Jg ?_|refine Jh ?_|refine Ji ?_|refine Jj ?_|refine Jk ?_|refine Jl ?_|refine Jm ?_|refine Jn ?_|refine Jo ?_|refine Jp ?_|refine Jq ?_|refine Jr ?_|refine Js ?_|refine Jt ?_|refine Ju ?_|refine Jv ?_|refine Jw ?_|refine Jx ?_|refine Jy ?_|refine Jz ?_|refine JA ?_|refine JB ?_|refine JC ?_|refine JD ?_|refine JE ?_|refine JF ?_|refine JG ?_|refine JH ?_|refine JI ?_|refine JJ ?_|refine JK ?_|refine JL ?_|refine JM ?_|refine CW.skip (PW.code ?_)|refine RW.nil (PW.code ?_))
    refine CW.seq ?_
    refine CW.ite rfl (fun hjlt => ?_) (fun hjge => ?_)
    · have hjlt' : j < all.length := by omega
      obtain ⟨BA, hBA⟩ := ha6 (fun k => by rw [k] at hea; simp at hea; omega)
      subst hBA
      have hej : ea[j]? = some ea[j] := List.getElem?_eq_getElem (by omega)
      have haj : (all.map litV)[j]? = some (litV all[j]) := by rw [List.getElem?_map, List.getElem?_eq_getElem hjlt']; rfl
      have hdropj : all.drop j = all[j] :: all.drop (j + 1) := List.drop_eq_getElem_cons hjlt'
      have hejl := ha5 _ (List.getElem_mem (by omega : j < ea.length))
      have hejo := ha7 _ (List.getElem_mem (by omega : j < ea.length))
      generalize ea[j] = ej at hej hejl hejo
      generalize all[j] = y at haj hdropj
      repeat (first|refine Ja ?_|refine Jb ?_|refine Jc ?_|refine Jd ?_|refine Je ?_|refine Jf ?_|refine Jg ?_|refine Jh ?_|refine Ji ?_|refine Jj ?_|refine Jk ?_|refine Jl ?_|refine Jm ?_|refine Jn ?_|refine Jo ?_|refine Jp ?_|refine Jq ?_|refine Jr ?_|refine Js ?_|refine Jt ?_|refine Ju ?_|refine Jv ?_|refine Jw ?_|refine Jx ?_|refine Jy ?_|refine Jz ?_|refine JA ?_|refine JB ?_|refine JC ?_|refine JD ?_|refine JE ?_|refine JF ?_|refine JG ?_|refine JH ?_|refine JI ?_|refine JJ ?_|refine JK ?_|refine JL ?_|refine JM ?_|refine CW.skip (PW.code ?_)|refine RW.nil (PW.code ?_))
      refine CW.seq ?_
      refine CW.block ?_
      repeat (first|refine Ja ?_|refine Jb ?_|refine Jc ?_|refine Jd ?_|refine Je ?_|refine Jf ?_|refine Jg ?_|refine Jh ?_|refine Ji ?_|refine Jj ?_|refine Jk ?_|refine Jl ?_|refine Jm ?_|refine Jn ?_|refine Jo ?_|refine Jp ?_|refine Jq ?_|refine Jr ?_|refine Js ?_|refine Jt ?_|refine Ju ?_|refine Jv ?_|refine Jw ?_|refine Jx ?_|refine Jy ?_|refine Jz ?_|refine JA ?_|refine JB ?_|refine JC ?_|refine JD ?_|refine JE ?_|refine JF ?_|refine JG ?_|refine JH ?_|refine JI ?_|refine JJ ?_|refine JK ?_|refine JL ?_|refine JM ?_|refine CW.skip (PW.code ?_)|refine RW.nil (PW.code ?_))
      refine RW.indexAddr rfl rfl (by omega) hjlt rfl ?_
      refine RW.load_facts (cs := ej) rfl rfl hejl rfl (fun w hw => own_elem (pre := [_, _]) hw ha5 hej) ?_
      refine RW.alloc rfl rfl fun b15 _ => ?_
      refine RW.store_whole [] rfl rfl rfl hejl hejl hejo ?_
      repeat (first|refine Ja ?_|refine Jb ?_|refine Jc ?_|refine Jd ?_|refine Je ?_|refine Jf ?_|refine Jg ?_|refine Jh ?_|refine Ji ?_|refine Jj ?_|refine Jk ?_|refine Jl ?_|refine Jm ?_|refine Jn ?_|refine Jo ?_|refine Jp ?_|refine Jq ?_|refine Jr ?_|refine Js ?_|refine Jt ?_|refine Ju ?_|refine Jv ?_|refine Jw ?_|refine Jx ?_|refine Jy ?_|refine Jz ?_|refine JA ?_|refine JB ?_|refine JC ?_|refine JD ?_|refine JE ?_|refine JF ?_|refine JG ?_|refine JH ?_|refine JI ?_|refine JJ ?_|refine JK ?_|refine JL ?_|refine JM ?_|refine CW.skip (PW.code ?_)|refine RW.nil (PW.code ?_))
      refine RW.load_whole [] rfl hejl rfl rfl ?_
      refine RW.take [1, 2, 0, 3, 4, 5] ?_
      refine add_call2 (pre := [_, _]) (r := [_]) (v := v2) (es := es2) (ls := o2) (l := y) (cs := ej) (ea := ea) (al := all) (j := j) (N := N) ?_ ?_ hej haj ?_ ?_ fun v3 es3 => ?_
      · rfl
      · exact Mem.le_trans hN any_ro
      · unfold reach; omega
      · rfl
      refine RW.have_ (φ := _ ∧ ∃ A c, v3 = .slice A (addD o2 y).length c ∧ (addD o2 y).length ≤ c ∧ c ≤ maxN ∧ (∀ x ∈ es3, x.length = 5) ∧ (es3 ≠ [] → ∃ B, A = some ⟨B, 0, none⟩) ∧ ∀ u ∈ es3, ∀ v ∈ u, v.oneCell' = true) (fun w hw => own_lits (pre := []) hw) (fun ⟨_, A4, c4, hv3, _, _, _, _, _⟩ => ?_)
      subst hv3
      repeat (first|refine Ja ?_|refine Jb ?_|refine Jc ?_|refine Jd ?_|refine Je ?_|refine Jf ?_|refine Jg ?_|refine Jh ?_|refine Ji ?_|refine Jj ?_|refine Jk ?_|refine Jl ?_|refine Jm ?_|refine Jn ?_|refine Jo ?_|refine Jp ?_|refine Jq ?_|refine Jr ?_|refine Js ?_|refine Jt ?_|refine Ju ?_|refine Jv ?_|refine Jw ?_|refine Jx ?_|refine Jy ?_|refine Jz ?_|refine JA ?_|refine JB ?_|refine JC ?_|refine JD ?_|refine JE ?_|refine JF ?_|refine JG ?_|refine JH ?_|refine JI ?_|refine JJ ?_|refine JK ?_|refine JL ?_|refine JM ?_|refine CW.skip (PW.code ?_)|refine RW.nil (PW.code ?_))
      refine CW.ite rfl (fun h6 => ?_) (fun h6 => ?_)
      · repeat (first|refine Ja ?_|refine Jb ?_|refine Jc ?_|refine Jd ?_|refine Je ?_|refine Jf ?_|refine Jg ?_|refine Jh ?_|refine Ji ?_|refine Jj ?_|refine Jk ?_|refine Jl ?_|refine Jm ?_|refine Jn ?_|refine Jo ?_|refine Jp ?_|refine Jq ?_|refine Jr ?_|refine Js ?_|refine Jt ?_|refine Ju ?_|refine Jv ?_|refine Jw ?_|refine Jx ?_|refine Jy ?_|refine Jz ?_|refine JA ?_|refine JB ?_|refine JC ?_|refine JD ?_|refine JE ?_|refine JF ?_|refine JG ?_|refine JH ?_|refine JI ?_|refine JJ ?_|refine JK ?_|refine JL ?_|refine JM ?_|refine CW.skip (PW.code ?_)|refine RW.nil (PW.code ?_))
        refine CW.rets (rs := [.tmp 6, .tmp 7]) (vs := [_, _]) rfl Try.results11 rfl (ResOK.tmp rfl (ResOK.tmp rfl ResOK.nil)) fun w hw => ⟨(.slice none 0 0, []), ?_, ?_⟩
        all_goals (
          have hend : closeD (ps.map predOf) cl ls = ([], 112) := by
            rw [hD, hgo, hdrop, closeGo, hall, hadd, hdropj, addAll, if_pos (by omega)]
          rw [hend])
        · rfl
        · exact litsH_nil hw.kp
      · repeat (first|refine Ja ?_|refine Jb ?_|refine Jc ?_|refine Jd ?_|refine Je ?_|refine Jf ?_|refine Jg ?_|refine Jh ?_|refine Ji ?_|refine Jj ?_|refine Jk ?_|refine Jl ?_|refine Jm ?_|refine Jn ?_|refine Jo ?_|refine Jp ?_|refine Jq ?_|refine Jr ?_|refine Js ?_|refine Jt ?_|refine Ju ?_|refine Jv ?_|refine Jw ?_|refine Jx ?_|refine Jy ?_|refine Jz ?_|refine JA ?_|refine JB ?_|refine JC ?_|refine JD ?_|refine JE ?_|refine JF ?_|refine JG ?_|refine JH ?_|refine JI ?_|refine JJ ?_|refine JK ?_|refine JL ?_|refine JM ?_|refine CW.skip (PW.code ?_)|refine RW.nil (PW.code ?_))
        refine CW.region ?_
        refine RW.add rfl rfl (w64 (by omega) (by omega)) rfl ?_
        repeat (first|refine Ja ?_|refine Jb ?_|refine Jc ?_|refine Jd ?_|refine Je ?_|refine Jf ?_|refine Jg ?_|refine Jh ?_|refine Ji ?_|refine Jj ?_|refine Jk ?_|refine Jl ?_|refine Jm ?_|refine Jn ?_|refine Jo ?_|refine Jp ?_|refine Jq ?_|refine Jr ?_|refine Js ?_|refine Jt ?_|refine Ju ?_|refine Jv ?_|refine Jw ?_|refine Jx ?_|refine Jy ?_|refine Jz ?_|refine JA ?_|refine JB ?_|refine JC ?_|refine JD ?_|refine JE ?_|refine JF ?_|refine JG ?_|refine JH ?_|refine JI ?_|refine JJ ?_|refine JK ?_|refine JL ?_|refine JM ?_|refine CW.skip (PW.code ?_)|refine RW.nil (PW.code ?_))
        refine RW.nil ?_
        refine PW.againT ⟨(j + 1, _, es3, addD o2 y), hjlt', by show (addD o2 y).length ≤ 4096; omega, ?_⟩ [0, 1, 3, 4, 5] ⟨rfl, rfl, rfl, rfl, rfl, rfl, rfl, rfl, rfl, trivial⟩ rfl (by show all.length - (j + 1) < all.length - j; omega)
        show addAll all o = addAll (all.drop (j + 1)) (addD o2 y)
        rw [hadd, hdropj, addAll, if_neg (by omega)]
    · have hje : j = all.length := by omega
      subst hje
      rw [List.drop_length, addAll] at hadd
      refine CW.exit rfl ?_
      refine PW.code ?_
      refine CW.region ?_
      refine RW.add rfl rfl (w64 (by omega) (by omega)) rfl ?_
      repeat (first|refine Ja ?_|refine Jb ?_|refine Jc ?_|refine Jd ?_|refine Je ?_|refine Jf ?_|refine Jg ?_|refine Jh ?_|refine Ji ?_|refine Jj ?_|refine Jk ?_|refine Jl ?_|refine Jm ?_|refine Jn ?_|refine Jo ?_|refine Jp ?_|refine Jq ?_|refine Jr ?_|refine Js ?_|refine Jt ?_|refine Ju ?_|refine Jv ?_|refine Jw ?_|refine Jx ?_|refine Jy ?_|refine Jz ?_|refine JA ?_|refine JB ?_|refine JC ?_|refine JD ?_|refine JE ?_|refine JF ?_|refine JG ?_|refine JH ?_|refine JI ?_|refine JJ ?_|refine JK ?_|refine JL ?_|refine JM ?_|refine CW.skip (PW.code ?_)|refine RW.nil (PW.code ?_))
      refine RW.nil ?_
      refine PW.againT ⟨(k + 1, v2, es2, o2), hlt', ho2, ?_⟩ [0, 1, 4] ⟨rfl, rfl, rfl, rfl, rfl, rfl, trivial⟩ rfl (by show ls.length - (k + 1) < ls.length - k; omega)
      show closeGo (ps.map predOf) cl ls [] = closeGo (ps.map predOf) cl (ls.drop (k + 1)) o2
      rw [hgo, hdrop, closeGo, hall, hadd]
  · have hke : k = ls.length := by omega
    subst hke
    rw [List.drop_length, closeGo] at hgo
    refine CW.exit rfl ?_
    refine PW.code ?_
    repeat (first|refine Ja ?_|refine Jb ?_|refine Jc ?_|refine Jd ?_|refine Je ?_|refine Jf ?_|refine Jg ?_|refine Jh ?_|refine Ji ?_|refine Jj ?_|refine Jk ?_|refine Jl ?_|refine Jm ?_|refine Jn ?_|refine Jo ?_|refine Jp ?_|refine Jq ?_|refine Jr ?_|refine Js ?_|refine Jt ?_|refine Ju ?_|refine Jv ?_|refine Jw ?_|refine Jx ?_|refine Jy ?_|refine Jz ?_|refine JA ?_|refine JB ?_|refine JC ?_|refine JD ?_|refine JE ?_|refine JF ?_|refine JG ?_|refine JH ?_|refine JI ?_|refine JJ ?_|refine JK ?_|refine JL ?_|refine JM ?_|refine CW.skip (PW.code ?_)|refine RW.nil (PW.code ?_))
    refine CW.rets (rs := [.tmp 6, .tmp 7]) (vs := [_, _]) rfl Try.results11 rfl (ResOK.tmp rfl (ResOK.tmp rfl ResOK.nil)) fun w hw => ⟨(v, es), ?_, ?_⟩
    · rw [hD, hgo]; rfl
    · rw [hD, hgo]; exact hw.take [0, 1]
end Go.Proofs.Ytoknohnodlaimaa
