/- literals.add, by the calculus. -/
import Derived.Test.YtoknohnodlaimaaL8
set_option linter.unusedVariables false
set_option linter.unusedSimpArgs false
set_option maxRecDepth 10000
namespace Go.Proofs.Ytoknohnodlaimaa
open Go Go.RowKit

attribute [local irreducible] RW CW
def addD (ls : List LitD) (x : LitD) : List LitD := if foundD ls x then ls else ls.take (bsD ls x) ++ [x] ++ ls.drop (bsD ls x)
theorem addD_len (ls : List LitD) (x : LitD) : (addD ls x).length ≤ ls.length + 1 := by
  unfold addD
  split
  · omega
  · simp; omega
/-- A rising list of one's own: its elements, their arguments. -/
abbrev litsH (v : Value) (es : List (List Value)) (ls : List LitD) : List HP := [ownHP 27 5 v es, rdsHP Mem.none kLit es (ls.map litV)]
theorem lits_read {w : World} {A : Nat → Prop} {v : Value} {es : List (List Value)} {ls : List LitD} {r : List HP} (h : Sep (ownHP 27 5 v es :: rdsHP Mem.none kLit es (ls.map litV) :: r) w A) (hb : ls.length * 56 ≤ reach) : Rd kLits (mem w Any) [v] (ls.map litV) := by
  obtain ⟨F, hF, hp, _⟩ := Go.Proofs.Ytoknohnodlaimaa.merge_own (by_ := 56) h rfl (by rw [List.length_map]; exact hb)
  exact hp.mono (Mem.or_le (Mem.none_le _) (mem_up (fun _ _ => trivial)))
theorem rds_len {w : World} {A : Nat → Prop} {M : Mem} {es : List (List Value)} {ls : List LitD} {pre r : List HP} (h : Sep (pre ++ rdsHP M kLit es (ls.map litV) :: r) w A) : es.length = ls.length := by
  obtain ⟨F, hF, hp, _⟩ := Sep.pull h
  have := hp.1
  rwa [List.length_map] at this
theorem rds_one {w : World} {A : Nat → Prop} {M : Mem} {es : List (List Value)} {ls : List LitD} {pre r : List HP} (h : Sep (pre ++ rdsHP M kLit es (ls.map litV) :: r) w A) : ∀ x ∈ es, ∀ v ∈ x, v.oneCell' = true := by
  obtain ⟨F, hF, hp, _⟩ := Sep.pull h
  intro x hx
  obtain ⟨i, hi⟩ := List.mem_iff_getElem?.1 hx
  have hil : i < (ls.map litV).length := by rw [← hp.1]; exact (List.getElem?_eq_some_iff.1 hi).1
  exact Rd.one (hp.2 i x _ hi (List.getElem?_eq_getElem hil))
set_option maxHeartbeats 1000000 in
theorem add_ret {M : Mem} {v : Value} {es : List (List Value)} {ls : List LitD} {x : LitD} {cs : List Value} {w : World} {F : Nat → Prop} (hM : Mem.le M (mem w (fun b => ¬ F b))) (hS : Sep (litsH v es ls) w F) (h : Rd kLit M cs (litV x)) (hb : (ls.length + 1) * 56 ≤ reach) :
    RetC Try.prog 32 [v, .agg cs.toArray] w F (fun y : Value × List (List Value) => y.1) (fun y => litsH y.1 y.2 (addD ls x)) := by
  unfold reach at hb
  have hlen := rds_len (pre := [_]) hS
  have hone := rds_one (pre := [_]) hS
  have hlit := h
  have hcs5 := h.len
  obtain ⟨A2, c2, rfl, _⟩ := Rd.lit h
  rw [litOf_V] at *
  have hle : ∀ {H : List HP} {w2 : World}, St w F H w2 → Mem.le M (mem w2 Any) := fun hw2 => Mem.le_trans hM (Mem.le_trans (mem_keeps hw2.kp) (mem_up (fun _ _ => trivial)))
  clear h
  unfold LitD.V at *
  refine Calls.enter Try.func32 rfl _ rfl rfl hS ?_
  refine CW.have_ (fun w hw => own_any (pre := []) hw) (fun ⟨A, c, he, hnc, hcm, hes, hA⟩ => ?_)
  subst he
  rw [hlen]
  refine CW.seqR ?_
  refine RW.box_agg rfl rfl fun b1 _ => ?_
  repeat (first|refine Ja ?_|refine Jb ?_|refine Jc ?_|refine Jd ?_|refine Je ?_|refine Jf ?_|refine Jg ?_|refine Jh ?_|refine Ji ?_|refine Jj ?_|refine Jk ?_|refine Jl ?_|refine Jm ?_|refine Jn ?_|refine Jo ?_|refine Jp ?_|refine Jq ?_|refine Jr ?_|refine Js ?_|refine Jt ?_|refine Ju ?_|refine Jv ?_|refine Jw ?_|refine Jx ?_|refine Jy ?_|refine Jz ?_|refine JA ?_|refine JB ?_|refine JC ?_|refine JD ?_|refine JE ?_|refine JF ?_|refine JG ?_|refine JH ?_|refine JI ?_|refine JJ ?_|refine JK ?_|refine JL ?_|refine JM ?_|refine CW.skip (PW.code ?_)|refine RW.nil (PW.code ?_))
  refine RW.call Try.call49 rfl (fun w2 hw2 => bs_ret (Mem.le_refl _) (Mem.le_refl _) (lits_read (Sep.tail (c := blk b1 _ _) hw2.sep) (by unfold reach; omega)) (hlit.mono (hle hw2))) rfl ?_
  repeat (first|refine Ja ?_|refine Jb ?_|refine Jc ?_|refine Jd ?_|refine Je ?_|refine Jf ?_|refine Jg ?_|refine Jh ?_|refine Ji ?_|refine Jj ?_|refine Jk ?_|refine Jl ?_|refine Jm ?_|refine Jn ?_|refine Jo ?_|refine Jp ?_|refine Jq ?_|refine Jr ?_|refine Js ?_|refine Jt ?_|refine Ju ?_|refine Jv ?_|refine Jw ?_|refine Jx ?_|refine Jy ?_|refine Jz ?_|refine JA ?_|refine JB ?_|refine JC ?_|refine JD ?_|refine JE ?_|refine JF ?_|refine JG ?_|refine JH ?_|refine JI ?_|refine JJ ?_|refine JK ?_|refine JL ?_|refine JM ?_|refine CW.skip (PW.code ?_)|refine RW.nil (PW.code ?_))
  refine CW.seq ?_
  repeat (first|refine Ja ?_|refine Jb ?_|refine Jc ?_|refine Jd ?_|refine Je ?_|refine Jf ?_|refine Jg ?_|refine Jh ?_|refine Ji ?_|refine Jj ?_|refine Jk ?_|refine Jl ?_|refine Jm ?_|refine Jn ?_|refine Jo ?_|refine Jp ?_|refine Jq ?_|refine Jr ?_|refine Js ?_|refine Jt ?_|refine Ju ?_|refine Jv ?_|refine Jw ?_|refine Jx ?_|refine Jy ?_|refine Jz ?_|refine JA ?_|refine JB ?_|refine JC ?_|refine JD ?_|refine JE ?_|refine JF ?_|refine JG ?_|refine JH ?_|refine JI ?_|refine JJ ?_|refine JK ?_|refine JL ?_|refine JM ?_|refine CW.skip (PW.code ?_)|refine RW.nil (PW.code ?_))
  refine CW.cond rfl (fun hf => ?_) (fun hf => ?_)
  · repeat (first|refine Ja ?_|refine Jb ?_|refine Jc ?_|refine Jd ?_|refine Je ?_|refine Jf ?_|refine Jg ?_|refine Jh ?_|refine Ji ?_|refine Jj ?_|refine Jk ?_|refine Jl ?_|refine Jm ?_|refine Jn ?_|refine Jo ?_|refine Jp ?_|refine Jq ?_|refine Jr ?_|refine Js ?_|refine Jt ?_|refine Ju ?_|refine Jv ?_|refine Jw ?_|refine Jx ?_|refine Jy ?_|refine Jz ?_|refine JA ?_|refine JB ?_|refine JC ?_|refine JD ?_|refine JE ?_|refine JF ?_|refine JG ?_|refine JH ?_|refine JI ?_|refine JJ ?_|refine JK ?_|refine JL ?_|refine JM ?_|refine CW.skip (PW.code ?_)|refine RW.nil (PW.code ?_))
    refine CW.ret1 rfl Try.results32 rfl rfl fun w hw => ⟨(.slice A ls.length c, es), rfl, ?_⟩
    rw [addD, if_pos hf]
    exact hw.sub (List.sublist_cons_self _ _)
  repeat (first|refine Ja ?_|refine Jb ?_|refine Jc ?_|refine Jd ?_|refine Je ?_|refine Jf ?_|refine Jg ?_|refine Jh ?_|refine Ji ?_|refine Jj ?_|refine Jk ?_|refine Jl ?_|refine Jm ?_|refine Jn ?_|refine Jo ?_|refine Jp ?_|refine Jq ?_|refine Jr ?_|refine Js ?_|refine Jt ?_|refine Ju ?_|refine Jv ?_|refine Jw ?_|refine Jx ?_|refine Jy ?_|refine Jz ?_|refine JA ?_|refine JB ?_|refine JC ?_|refine JD ?_|refine JE ?_|refine JF ?_|refine JG ?_|refine JH ?_|refine JI ?_|refine JJ ?_|refine JK ?_|refine JL ?_|refine JM ?_|refine CW.skip (PW.code ?_)|refine RW.nil (PW.code ?_))
  refine RW.callF Try.call33 rfl (fun w2 hw2 => twin_ret (l := x) (Mem.le_refl _) (hlit.mono (hle hw2))) rfl fun cs2 => ?_
  refine RW.have_ (φ := ∃ A3 c3, cs2 = x.V A3 c3) (fun w hw => ?_) (fun ⟨A3, c3, he⟩ => ?_)
  · obtain ⟨F, hp, _⟩ := St.get (pre := []) hw
    obtain ⟨A2, c2, he, _⟩ := Rd.lit hp
    exact ⟨A2, c2, he⟩
  subst he
  refine RW.buildOwn (e := 27) (sz := 5) [x.V A3 c3] rfl (fun w => by kernel_rfl) rfl (by simp [LitD.V]) (by decide) rfl fun nb => ?_
  refine RW.pull [_, _, _] ?_
  refine RW.callD [_, _] Try.call50 rfl (fun w2 F2 _ hS2 _ => insert_ret (cs := x.V A3 c3) (es := es) (a := bsD ls x) hS2 rfl (by simp [LitD.V, Value.oneCell']) hone (by rw [hlen]; exact bsD_le _ _) (by rw [hlen]; omega)) rfl fun v' => ?_
  repeat (first|refine Ja ?_|refine Jb ?_|refine Jc ?_|refine Jd ?_|refine Je ?_|refine Jf ?_|refine Jg ?_|refine Jh ?_|refine Ji ?_|refine Jj ?_|refine Jk ?_|refine Jl ?_|refine Jm ?_|refine Jn ?_|refine Jo ?_|refine Jp ?_|refine Jq ?_|refine Jr ?_|refine Js ?_|refine Jt ?_|refine Ju ?_|refine Jv ?_|refine Jw ?_|refine Jx ?_|refine Jy ?_|refine Jz ?_|refine JA ?_|refine JB ?_|refine JC ?_|refine JD ?_|refine JE ?_|refine JF ?_|refine JG ?_|refine JH ?_|refine JI ?_|refine JJ ?_|refine JK ?_|refine JL ?_|refine JM ?_|refine CW.skip (PW.code ?_)|refine RW.nil (PW.code ?_))
  refine CW.ret1 rfl Try.results32 rfl rfl fun w hw => ⟨(v', es.take (bsD ls x) ++ [x.V A3 c3] ++ es.drop (bsD ls x)), rfl, ?_⟩
  have hw2 := St.pull [_, _] (St.pull [_, _, _] hw)
  have hw3 := St.two (e := rdsHP Mem.none kLit (es.take (bsD ls x) ++ [x.V A3 c3] ++ es.drop (bsD ls x)) ((addD ls x).map litV)) (fun F1 F2 h1 h2 => by
    have := rds_insert (bsD ls x) h2 h1
    rw [addD, if_neg (by simp [hf]), List.map_append, List.map_append, List.map_take, List.map_drop]
    exact HP.up _ (fun b hb => hb.symm) this) hw2
  exact (St.pull [_] hw3).sub (List.Sublist.cons_cons _ (List.Sublist.cons_cons _ (List.nil_sublist _)))
end Go.Proofs.Ytoknohnodlaimaa
