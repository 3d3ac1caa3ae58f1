/- The law of names, walked. Conditions: none. -/
import Derived.Test.YtkfmlekomfnleaaR34
import Derived.Test.YtkfmlekomfnleaaE2
import Derived.Test.YtkfmlekomfnleaaK08
set_option linter.unusedVariables false
set_option linter.unusedSimpArgs false
set_option maxRecDepth 10000
namespace Go.Proofs.Ytkfmlekomfnleaa
open Go Go.RowKit Go.MapKept

/-- A number for a slice of one's own. -/
def encV (L n : Nat) : Value := if n = 0 then .slice none 0 0 else .slice (some ⟨(n - 1) / 9223372036854775808, 0, none⟩) L ((n - 1) % 9223372036854775808)
theorem enc_own {w0 w : World} {S : Nat → Prop} {pre r : List HP} {e : TypeId} {sz : Nat} {v : Value} {es : List (List Value)} (h : St w0 S (pre ++ ownHP e sz v es :: r) w) : ∃ n, v = encV es.length n := by
  rcases own_form h with ⟨h1, h2⟩ | ⟨B, c, h1, _, h3, _⟩
  · exact ⟨0, by rw [h1]; unfold encV; rw [if_pos rfl]⟩
  · obtain ⟨n, e1, e2⟩ := enc B c h3
    refine ⟨n + 1, ?_⟩
    unfold encV
    rw [if_neg (by omega), Nat.add_sub_cancel, h1, e1, e2]
theorem ofGo_range (s : kStat.V) (k : Int) : ∀ (l : List kMember.V) (i : Int), ∀ a ∈ ofGo s k l i, i ≤ a ∧ a < i + l.length := by
  intro l
  induction l with
  | nil => intro i a h; cases h
  | cons m l ih =>
    intro i a h
    rw [ofGo] at h
    simp only [List.length_cons]
    split at h
    · rcases List.mem_cons.1 h with rfl | h
      · omega
      · have := ih (i + 1) a h; omega
    · have := ih (i + 1) a h; omega
theorem same_own {w0 w : World} {S : Nat → Prop} {v1 v2 : Value} {ns : List Int} {pre pre2 r r2 : List HP} (h1 : St w0 S (pre ++ ownHP 3 1 v1 (ns.map intE) :: r) w) (h2 : St w0 S (pre2 ++ ownHP 3 1 v2 (ns.map intE) :: r2) w) (hs : ∀ a ∈ ns, -1 ≤ a ∧ a ≤ 140737488355328) (hl : ns.length * 8 ≤ reach) : Ret Try.prog 13 [v1, v2] w (.bool true) := by
  have g1 := rd_ints h1.sep hs hl
  have g2 := rd_ints h2.sep hs hl
  obtain ⟨A, c, e1, _⟩ := own_shapeN h1
  obtain ⟨B, d, e2, _⟩ := own_shapeN h2
  rw [List.length_map] at e1 e2
  subst e1
  subst e2
  exact sameInts_ret g1 g2
theorem own_sort {w0 w : World} {S : Nat → Prop} {pre r : List HP} {B n c : Nat} {ns : List Int} {k : Nat} (h : St w0 S (pre ++ ownHP 68 1 (.slice (some ⟨B, 0, none⟩) n c) (ns.map intE) :: r) w) (hk : k < ns.length) : w.cell? ⟨B, 0 + (k : Int).toNat * 1, none⟩ = some (.int .i64 ns[k]) := by
  have h2 := flatten_at (sz := 1) (es := ns.map intE) (fun x hx => by obtain ⟨a, _, rfl⟩ := List.mem_map.1 hx; rfl) (i := k) (x := intE ns[k]) (by rw [List.getElem?_map, List.getElem?_eq_getElem hk]; rfl) (j := 0) (v := .int .i64 ns[k]) rfl
  exact (own_cells h).at_ (k * 1 + 0) h2
attribute [local irreducible] RW CW
set_option maxHeartbeats 32000000 in
theorem names_ret {s : kStat.V} {x : RC} {name : Str} {kd : Int} {w : World} (hst : StatOn (mem w (fun b => ¬ No b)) s x) : Ret Try.prog 6 [.agg (x.stat s).toArray, .string name, .int .i64 kd] w (.bool true) := by
  have hsm := sl_small hst.members
  have hsp := sl_small hst.preds
  have hsc := sl_small hst.classes
  have hcr : ∀ a ∈ classesD s, -1 ≤ a ∧ a ≤ 140737488355328 := fun a ha => by
    obtain ⟨p, _, rfl⟩ := List.mem_map.1 ha
    unfold reach at hsc
    cases hf : fstC (sClasses s) p.1 with
    | none =>
      show -1 ≤ (fstC (sClasses s) p.1).getD (-1) ∧ (fstC (sClasses s) p.1).getD (-1) ≤ 140737488355328
      rw [hf]
      exact ⟨by decide, by decide⟩
    | some u =>
      obtain ⟨h1, h2⟩ := fstC_range hf
      show -1 ≤ (fstC (sClasses s) p.1).getD (-1) ∧ (fstC (sClasses s) p.1).getD (-1) ≤ _
      rw [hf]
      show -1 ≤ u ∧ u ≤ 140737488355328
      omega
  have hcl : (classesD s).length * 8 ≤ reach := by rw [List.length_map]; unfold reach at hsp ⊢; omega
  have hor : ∀ a ∈ ofD s kd, -1 ≤ a ∧ a ≤ 140737488355328 := fun a ha => by
    have := ofGo_range s kd _ 0 a ha
    unfold reach at hsm
    omega
  have hol : (ofD s kd).length * 8 ≤ reach := by
    have := ofGo_len s kd (sMembers s) 0
    have e : (ofD s kd).length = (ofGo s kd (sMembers s) 0).length := rfl
    unfold reach at hsm ⊢
    omega
  unfold reach at hsp
  refine Calls.enter Try.func6 rfl _ rfl rfl (S := No) (H := []) trivial ?_
  refine CW.seqR ?_
  refine RW.box_agg (l := x.stat s) rfl rfl fun b3 _ => ?_
  repeat (first|refine Ja ?_|refine Jb ?_|refine Jc ?_|refine Jd ?_|refine Je ?_|refine Jf ?_|refine Jg ?_|refine Jh ?_|refine Ji ?_|refine Jj ?_|refine Jk ?_|refine Jl ?_|refine Jm ?_|refine Jn ?_|refine Jo ?_|refine Jp ?_|refine Jq ?_|refine Jr ?_|refine Js ?_|refine Jt ?_|refine Ju ?_|refine Jv ?_|refine Jw ?_|refine Jx ?_|refine Jy ?_|refine Jz ?_|refine JA ?_|refine JB ?_|refine JC ?_|refine JD ?_|refine JE ?_|refine JF ?_|refine JG ?_|refine JH ?_|refine JI ?_|refine JJ ?_|refine JK ?_|refine JL ?_|refine JM ?_|refine CW.skip (PW.code ?_)|refine RW.nil (PW.code ?_))
  refine RW.call Try.call17 rfl (fun w2 hw => Kind_num_ret (StatOn.mono hst (ro_call hw))) rfl ?_
  repeat (first|refine Ja ?_|refine Jb ?_|refine Jc ?_|refine Jd ?_|refine Je ?_|refine Jf ?_|refine Jg ?_|refine Jh ?_|refine Ji ?_|refine Jj ?_|refine Jk ?_|refine Jl ?_|refine Jm ?_|refine Jn ?_|refine Jo ?_|refine Jp ?_|refine Jq ?_|refine Jr ?_|refine Js ?_|refine Jt ?_|refine Ju ?_|refine Jv ?_|refine Jw ?_|refine Jx ?_|refine Jy ?_|refine Jz ?_|refine JA ?_|refine JB ?_|refine JC ?_|refine JD ?_|refine JE ?_|refine JF ?_|refine JG ?_|refine JH ?_|refine JI ?_|refine JJ ?_|refine JK ?_|refine JL ?_|refine JM ?_|refine CW.skip (PW.code ?_)|refine RW.nil (PW.code ?_))
  refine RW.call Try.call18 rfl (fun w2 hw => refKind_ret (StatOn.mono hst (ro_call hw))) rfl ?_
  repeat (first|refine Ja ?_|refine Jb ?_|refine Jc ?_|refine Jd ?_|refine Je ?_|refine Jf ?_|refine Jg ?_|refine Jh ?_|refine Ji ?_|refine Jj ?_|refine Jk ?_|refine Jl ?_|refine Jm ?_|refine Jn ?_|refine Jo ?_|refine Jp ?_|refine Jq ?_|refine Jr ?_|refine Js ?_|refine Jt ?_|refine Ju ?_|refine Jv ?_|refine Jw ?_|refine Jx ?_|refine Jy ?_|refine Jz ?_|refine JA ?_|refine JB ?_|refine JC ?_|refine JD ?_|refine JE ?_|refine JF ?_|refine JG ?_|refine JH ?_|refine JI ?_|refine JJ ?_|refine JK ?_|refine JL ?_|refine JM ?_|refine CW.skip (PW.code ?_)|refine RW.nil (PW.code ?_))
  refine RW.call Try.call10 rfl (fun w2 hw => Member_num_ret (StatOn.mono hst (ro_call hw))) rfl ?_
  repeat (first|refine Ja ?_|refine Jb ?_|refine Jc ?_|refine Jd ?_|refine Je ?_|refine Jf ?_|refine Jg ?_|refine Jh ?_|refine Ji ?_|refine Jj ?_|refine Jk ?_|refine Jl ?_|refine Jm ?_|refine Jn ?_|refine Jo ?_|refine Jp ?_|refine Jq ?_|refine Jr ?_|refine Js ?_|refine Jt ?_|refine Ju ?_|refine Jv ?_|refine Jw ?_|refine Jx ?_|refine Jy ?_|refine Jz ?_|refine JA ?_|refine JB ?_|refine JC ?_|refine JD ?_|refine JE ?_|refine JF ?_|refine JG ?_|refine JH ?_|refine JI ?_|refine JJ ?_|refine JK ?_|refine JL ?_|refine JM ?_|refine CW.skip (PW.code ?_)|refine RW.nil (PW.code ?_))
  refine RW.call Try.call19 rfl (fun w2 hw => ref_Member_num_ret (StatOn.mono hst (ro_call hw))) rfl ?_
  repeat (first|refine Ja ?_|refine Jb ?_|refine Jc ?_|refine Jd ?_|refine Je ?_|refine Jf ?_|refine Jg ?_|refine Jh ?_|refine Ji ?_|refine Jj ?_|refine Jk ?_|refine Jl ?_|refine Jm ?_|refine Jn ?_|refine Jo ?_|refine Jp ?_|refine Jq ?_|refine Jr ?_|refine Js ?_|refine Jt ?_|refine Ju ?_|refine Jv ?_|refine Jw ?_|refine Jx ?_|refine Jy ?_|refine Jz ?_|refine JA ?_|refine JB ?_|refine JC ?_|refine JD ?_|refine JE ?_|refine JF ?_|refine JG ?_|refine JH ?_|refine JI ?_|refine JJ ?_|refine JK ?_|refine JL ?_|refine JM ?_|refine CW.skip (PW.code ?_)|refine RW.nil (PW.code ?_))
  refine RW.call Try.call20 rfl (fun w2 hw => Pred_num_ret (StatOn.mono hst (ro_call hw))) rfl ?_
  repeat (first|refine Ja ?_|refine Jb ?_|refine Jc ?_|refine Jd ?_|refine Je ?_|refine Jf ?_|refine Jg ?_|refine Jh ?_|refine Ji ?_|refine Jj ?_|refine Jk ?_|refine Jl ?_|refine Jm ?_|refine Jn ?_|refine Jo ?_|refine Jp ?_|refine Jq ?_|refine Jr ?_|refine Js ?_|refine Jt ?_|refine Ju ?_|refine Jv ?_|refine Jw ?_|refine Jx ?_|refine Jy ?_|refine Jz ?_|refine JA ?_|refine JB ?_|refine JC ?_|refine JD ?_|refine JE ?_|refine JF ?_|refine JG ?_|refine JH ?_|refine JI ?_|refine JJ ?_|refine JK ?_|refine JL ?_|refine JM ?_|refine CW.skip (PW.code ?_)|refine RW.nil (PW.code ?_))
  refine RW.call Try.call21 rfl (fun w2 hw => ref_Pred_num_ret (StatOn.mono hst (ro_call hw))) rfl ?_
  repeat (first|refine Ja ?_|refine Jb ?_|refine Jc ?_|refine Jd ?_|refine Je ?_|refine Jf ?_|refine Jg ?_|refine Jh ?_|refine Ji ?_|refine Jj ?_|refine Jk ?_|refine Jl ?_|refine Jm ?_|refine Jn ?_|refine Jo ?_|refine Jp ?_|refine Jq ?_|refine Jr ?_|refine Js ?_|refine Jt ?_|refine Ju ?_|refine Jv ?_|refine Jw ?_|refine Jx ?_|refine Jy ?_|refine Jz ?_|refine JA ?_|refine JB ?_|refine JC ?_|refine JD ?_|refine JE ?_|refine JF ?_|refine JG ?_|refine JH ?_|refine JI ?_|refine JJ ?_|refine JK ?_|refine JL ?_|refine JM ?_|refine CW.skip (PW.code ?_)|refine RW.nil (PW.code ?_))
  refine CW.seq ?_
  refine CW.keep [(1, .string name), (2, .int .i64 kd), (3, ptrV b3), (7, .int .i64 ((getM (indexD (sKinds s)) name).getD 0)), (8, .bool (getM (indexD (sKinds s)) name).isSome), (9, .int .i64 ((getM (indexD (sKinds s)) name).getD 0)), (10, .bool (getM (indexD (sKinds s)) name).isSome), (11, .int .i64 ((getM (indexD ((sMembers s).map nameOf)) name).getD 0)), (12, .bool (getM (indexD ((sMembers s).map nameOf)) name).isSome), (13, .int .i64 ((getM (indexD ((sMembers s).map nameOf)) name).getD 0)), (14, .bool (getM (indexD ((sMembers s).map nameOf)) name).isSome), (15, .int .i64 ((getM (indexD ((sPreds s).map nameOf)) name).getD 0)), (16, .bool (getM (indexD ((sPreds s).map nameOf)) name).isSome), (17, .int .i64 ((getM (indexD ((sPreds s).map nameOf)) name).getD 0)), (18, .bool (getM (indexD ((sPreds s).map nameOf)) name).isSome)] ⟨rfl, rfl, rfl, rfl, rfl, rfl, rfl, rfl, rfl, rfl, rfl, rfl, rfl, rfl, rfl, trivial⟩ ?_
  repeat (first|refine Ja ?_|refine Jb ?_|refine Jc ?_|refine Jd ?_|refine Je ?_|refine Jf ?_|refine Jg ?_|refine Jh ?_|refine Ji ?_|refine Jj ?_|refine Jk ?_|refine Jl ?_|refine Jm ?_|refine Jn ?_|refine Jo ?_|refine Jp ?_|refine Jq ?_|refine Jr ?_|refine Js ?_|refine Jt ?_|refine Ju ?_|refine Jv ?_|refine Jw ?_|refine Jx ?_|refine Jy ?_|refine Jz ?_|refine JA ?_|refine JB ?_|refine JC ?_|refine JD ?_|refine JE ?_|refine JF ?_|refine JG ?_|refine JH ?_|refine JI ?_|refine JJ ?_|refine JK ?_|refine JL ?_|refine JM ?_|refine CW.skip (PW.code ?_)|refine RW.nil (PW.code ?_))
  refine RW.splitD 61 rfl (fun h => absurd rfl h) (fun _ => ?_)
  repeat (first|refine Ja ?_|refine Jb ?_|refine Jc ?_|refine Jd ?_|refine Je ?_|refine Jf ?_|refine Jg ?_|refine Jh ?_|refine Ji ?_|refine Jj ?_|refine Jk ?_|refine Jl ?_|refine Jm ?_|refine Jn ?_|refine Jo ?_|refine Jp ?_|refine Jq ?_|refine Jr ?_|refine Js ?_|refine Jt ?_|refine Ju ?_|refine Jv ?_|refine Jw ?_|refine Jx ?_|refine Jy ?_|refine Jz ?_|refine JA ?_|refine JB ?_|refine JC ?_|refine JD ?_|refine JE ?_|refine JF ?_|refine JG ?_|refine JH ?_|refine JI ?_|refine JJ ?_|refine JK ?_|refine JL ?_|refine JM ?_|refine CW.skip (PW.code ?_)|refine RW.nil (PW.code ?_))
  refine RW.splitD 66 rfl (fun h => absurd rfl h) (fun _ => ?_)
  repeat (first|refine Ja ?_|refine Jb ?_|refine Jc ?_|refine Jd ?_|refine Je ?_|refine Jf ?_|refine Jg ?_|refine Jh ?_|refine Ji ?_|refine Jj ?_|refine Jk ?_|refine Jl ?_|refine Jm ?_|refine Jn ?_|refine Jo ?_|refine Jp ?_|refine Jq ?_|refine Jr ?_|refine Js ?_|refine Jt ?_|refine Ju ?_|refine Jv ?_|refine Jw ?_|refine Jx ?_|refine Jy ?_|refine Jz ?_|refine JA ?_|refine JB ?_|refine JC ?_|refine JD ?_|refine JE ?_|refine JF ?_|refine JG ?_|refine JH ?_|refine JI ?_|refine JJ ?_|refine JK ?_|refine JL ?_|refine JM ?_|refine CW.skip (PW.code ?_)|refine RW.nil (PW.code ?_))
  refine RW.splitD 71 rfl (fun h => absurd rfl h) (fun _ => ?_)
  repeat (first|refine Ja ?_|refine Jb ?_|refine Jc ?_|refine Jd ?_|refine Je ?_|refine Jf ?_|refine Jg ?_|refine Jh ?_|refine Ji ?_|refine Jj ?_|refine Jk ?_|refine Jl ?_|refine Jm ?_|refine Jn ?_|refine Jo ?_|refine Jp ?_|refine Jq ?_|refine Jr ?_|refine Js ?_|refine Jt ?_|refine Ju ?_|refine Jv ?_|refine Jw ?_|refine Jx ?_|refine Jy ?_|refine Jz ?_|refine JA ?_|refine JB ?_|refine JC ?_|refine JD ?_|refine JE ?_|refine JF ?_|refine JG ?_|refine JH ?_|refine JI ?_|refine JJ ?_|refine JK ?_|refine JL ?_|refine JM ?_|refine CW.skip (PW.code ?_)|refine RW.nil (PW.code ?_))
  refine RW.splitD 76 rfl (fun h => absurd rfl h) (fun _ => ?_)
  repeat (first|refine Ja ?_|refine Jb ?_|refine Jc ?_|refine Jd ?_|refine Je ?_|refine Jf ?_|refine Jg ?_|refine Jh ?_|refine Ji ?_|refine Jj ?_|refine Jk ?_|refine Jl ?_|refine Jm ?_|refine Jn ?_|refine Jo ?_|refine Jp ?_|refine Jq ?_|refine Jr ?_|refine Js ?_|refine Jt ?_|refine Ju ?_|refine Jv ?_|refine Jw ?_|refine Jx ?_|refine Jy ?_|refine Jz ?_|refine JA ?_|refine JB ?_|refine JC ?_|refine JD ?_|refine JE ?_|refine JF ?_|refine JG ?_|refine JH ?_|refine JI ?_|refine JJ ?_|refine JK ?_|refine JL ?_|refine JM ?_|refine CW.skip (PW.code ?_)|refine RW.nil (PW.code ?_))
  refine RW.splitD 81 rfl (fun h => absurd rfl h) (fun _ => ?_)
  repeat (first|refine Ja ?_|refine Jb ?_|refine Jc ?_|refine Jd ?_|refine Je ?_|refine Jf ?_|refine Jg ?_|refine Jh ?_|refine Ji ?_|refine Jj ?_|refine Jk ?_|refine Jl ?_|refine Jm ?_|refine Jn ?_|refine Jo ?_|refine Jp ?_|refine Jq ?_|refine Jr ?_|refine Js ?_|refine Jt ?_|refine Ju ?_|refine Jv ?_|refine Jw ?_|refine Jx ?_|refine Jy ?_|refine Jz ?_|refine JA ?_|refine JB ?_|refine JC ?_|refine JD ?_|refine JE ?_|refine JF ?_|refine JG ?_|refine JH ?_|refine JI ?_|refine JJ ?_|refine JK ?_|refine JL ?_|refine JM ?_|refine CW.skip (PW.code ?_)|refine RW.nil (PW.code ?_))
  refine CW.ite rfl (fun h => absurd rfl h) (fun _ => ?_)
  refine CW.skip ?_
  refine PW.code ?_
  refine CW.keep [(1, .string name), (2, .int .i64 kd), (3, ptrV b3)] ⟨rfl, rfl, rfl, trivial⟩ ?_
  repeat (first|refine Ja ?_|refine Jb ?_|refine Jc ?_|refine Jd ?_|refine Je ?_|refine Jf ?_|refine Jg ?_|refine Jh ?_|refine Ji ?_|refine Jj ?_|refine Jk ?_|refine Jl ?_|refine Jm ?_|refine Jn ?_|refine Jo ?_|refine Jp ?_|refine Jq ?_|refine Jr ?_|refine Js ?_|refine Jt ?_|refine Ju ?_|refine Jv ?_|refine Jw ?_|refine Jx ?_|refine Jy ?_|refine Jz ?_|refine JA ?_|refine JB ?_|refine JC ?_|refine JD ?_|refine JE ?_|refine JF ?_|refine JG ?_|refine JH ?_|refine JI ?_|refine JJ ?_|refine JK ?_|refine JL ?_|refine JM ?_|refine CW.skip (PW.code ?_)|refine RW.nil (PW.code ?_))
  refine RW.call Try.call22 rfl (fun w2 hw => Schema_num_ret (StatOn.mono hst (ro_call hw))) rfl ?_
  repeat (first|refine Ja ?_|refine Jb ?_|refine Jc ?_|refine Jd ?_|refine Je ?_|refine Jf ?_|refine Jg ?_|refine Jh ?_|refine Ji ?_|refine Jj ?_|refine Jk ?_|refine Jl ?_|refine Jm ?_|refine Jn ?_|refine Jo ?_|refine Jp ?_|refine Jq ?_|refine Jr ?_|refine Js ?_|refine Jt ?_|refine Ju ?_|refine Jv ?_|refine Jw ?_|refine Jx ?_|refine Jy ?_|refine Jz ?_|refine JA ?_|refine JB ?_|refine JC ?_|refine JD ?_|refine JE ?_|refine JF ?_|refine JG ?_|refine JH ?_|refine JI ?_|refine JJ ?_|refine JK ?_|refine JL ?_|refine JM ?_|refine CW.skip (PW.code ?_)|refine RW.nil (PW.code ?_))
  refine RW.call Try.call23 rfl (fun w2 hw => ref_Schema_num_ret (StatOn.mono hst (ro_call hw))) rfl ?_
  repeat (first|refine Ja ?_|refine Jb ?_|refine Jc ?_|refine Jd ?_|refine Je ?_|refine Jf ?_|refine Jg ?_|refine Jh ?_|refine Ji ?_|refine Jj ?_|refine Jk ?_|refine Jl ?_|refine Jm ?_|refine Jn ?_|refine Jo ?_|refine Jp ?_|refine Jq ?_|refine Jr ?_|refine Js ?_|refine Jt ?_|refine Ju ?_|refine Jv ?_|refine Jw ?_|refine Jx ?_|refine Jy ?_|refine Jz ?_|refine JA ?_|refine JB ?_|refine JC ?_|refine JD ?_|refine JE ?_|refine JF ?_|refine JG ?_|refine JH ?_|refine JI ?_|refine JJ ?_|refine JK ?_|refine JL ?_|refine JM ?_|refine CW.skip (PW.code ?_)|refine RW.nil (PW.code ?_))
  refine RW.call Try.call24 rfl (fun w2 hw => Source_num_ret (StatOn.mono hst (ro_call hw))) rfl ?_
  repeat (first|refine Ja ?_|refine Jb ?_|refine Jc ?_|refine Jd ?_|refine Je ?_|refine Jf ?_|refine Jg ?_|refine Jh ?_|refine Ji ?_|refine Jj ?_|refine Jk ?_|refine Jl ?_|refine Jm ?_|refine Jn ?_|refine Jo ?_|refine Jp ?_|refine Jq ?_|refine Jr ?_|refine Js ?_|refine Jt ?_|refine Ju ?_|refine Jv ?_|refine Jw ?_|refine Jx ?_|refine Jy ?_|refine Jz ?_|refine JA ?_|refine JB ?_|refine JC ?_|refine JD ?_|refine JE ?_|refine JF ?_|refine JG ?_|refine JH ?_|refine JI ?_|refine JJ ?_|refine JK ?_|refine JL ?_|refine JM ?_|refine CW.skip (PW.code ?_)|refine RW.nil (PW.code ?_))
  refine RW.call Try.call25 rfl (fun w2 hw => ref_Source_num_ret (StatOn.mono hst (ro_call hw))) rfl ?_
  repeat (first|refine Ja ?_|refine Jb ?_|refine Jc ?_|refine Jd ?_|refine Je ?_|refine Jf ?_|refine Jg ?_|refine Jh ?_|refine Ji ?_|refine Jj ?_|refine Jk ?_|refine Jl ?_|refine Jm ?_|refine Jn ?_|refine Jo ?_|refine Jp ?_|refine Jq ?_|refine Jr ?_|refine Js ?_|refine Jt ?_|refine Ju ?_|refine Jv ?_|refine Jw ?_|refine Jx ?_|refine Jy ?_|refine Jz ?_|refine JA ?_|refine JB ?_|refine JC ?_|refine JD ?_|refine JE ?_|refine JF ?_|refine JG ?_|refine JH ?_|refine JI ?_|refine JJ ?_|refine JK ?_|refine JL ?_|refine JM ?_|refine CW.skip (PW.code ?_)|refine RW.nil (PW.code ?_))
  refine RW.call Try.call26 rfl (fun w2 hw => Total_num_ret (StatOn.mono hst (ro_call hw))) rfl ?_
  repeat (first|refine Ja ?_|refine Jb ?_|refine Jc ?_|refine Jd ?_|refine Je ?_|refine Jf ?_|refine Jg ?_|refine Jh ?_|refine Ji ?_|refine Jj ?_|refine Jk ?_|refine Jl ?_|refine Jm ?_|refine Jn ?_|refine Jo ?_|refine Jp ?_|refine Jq ?_|refine Jr ?_|refine Js ?_|refine Jt ?_|refine Ju ?_|refine Jv ?_|refine Jw ?_|refine Jx ?_|refine Jy ?_|refine Jz ?_|refine JA ?_|refine JB ?_|refine JC ?_|refine JD ?_|refine JE ?_|refine JF ?_|refine JG ?_|refine JH ?_|refine JI ?_|refine JJ ?_|refine JK ?_|refine JL ?_|refine JM ?_|refine CW.skip (PW.code ?_)|refine RW.nil (PW.code ?_))
  refine RW.call Try.call27 rfl (fun w2 hw => ref_Total_num_ret (StatOn.mono hst (ro_call hw))) rfl ?_
  repeat (first|refine Ja ?_|refine Jb ?_|refine Jc ?_|refine Jd ?_|refine Je ?_|refine Jf ?_|refine Jg ?_|refine Jh ?_|refine Ji ?_|refine Jj ?_|refine Jk ?_|refine Jl ?_|refine Jm ?_|refine Jn ?_|refine Jo ?_|refine Jp ?_|refine Jq ?_|refine Jr ?_|refine Js ?_|refine Jt ?_|refine Ju ?_|refine Jv ?_|refine Jw ?_|refine Jx ?_|refine Jy ?_|refine Jz ?_|refine JA ?_|refine JB ?_|refine JC ?_|refine JD ?_|refine JE ?_|refine JF ?_|refine JG ?_|refine JH ?_|refine JI ?_|refine JJ ?_|refine JK ?_|refine JL ?_|refine JM ?_|refine CW.skip (PW.code ?_)|refine RW.nil (PW.code ?_))
  refine CW.seq ?_
  refine CW.keep [(1, .string name), (2, .int .i64 kd), (3, ptrV b3), (7, .int .i64 ((getM (indexD ((sRules s).map nameOf)) name).getD 0)), (8, .bool (getM (indexD ((sRules s).map nameOf)) name).isSome), (9, .int .i64 ((getM (indexD ((sRules s).map nameOf)) name).getD 0)), (10, .bool (getM (indexD ((sRules s).map nameOf)) name).isSome), (11, .int .i64 ((getM (indexD ((sSources s).map nameOf)) name).getD 0)), (12, .bool (getM (indexD ((sSources s).map nameOf)) name).isSome), (13, .int .i64 ((getM (indexD ((sSources s).map nameOf)) name).getD 0)), (14, .bool (getM (indexD ((sSources s).map nameOf)) name).isSome), (15, .int .i64 ((getM (indexD ((sTotals s).map nameOf)) name).getD 0)), (16, .bool (getM (indexD ((sTotals s).map nameOf)) name).isSome), (17, .int .i64 ((getM (indexD ((sTotals s).map nameOf)) name).getD 0)), (18, .bool (getM (indexD ((sTotals s).map nameOf)) name).isSome)] ⟨rfl, rfl, rfl, rfl, rfl, rfl, rfl, rfl, rfl, rfl, rfl, rfl, rfl, rfl, rfl, trivial⟩ ?_
  repeat (first|refine Ja ?_|refine Jb ?_|refine Jc ?_|refine Jd ?_|refine Je ?_|refine Jf ?_|refine Jg ?_|refine Jh ?_|refine Ji ?_|refine Jj ?_|refine Jk ?_|refine Jl ?_|refine Jm ?_|refine Jn ?_|refine Jo ?_|refine Jp ?_|refine Jq ?_|refine Jr ?_|refine Js ?_|refine Jt ?_|refine Ju ?_|refine Jv ?_|refine Jw ?_|refine Jx ?_|refine Jy ?_|refine Jz ?_|refine JA ?_|refine JB ?_|refine JC ?_|refine JD ?_|refine JE ?_|refine JF ?_|refine JG ?_|refine JH ?_|refine JI ?_|refine JJ ?_|refine JK ?_|refine JL ?_|refine JM ?_|refine CW.skip (PW.code ?_)|refine RW.nil (PW.code ?_))
  refine RW.splitD 125 rfl (fun h => absurd rfl h) (fun _ => ?_)
  repeat (first|refine Ja ?_|refine Jb ?_|refine Jc ?_|refine Jd ?_|refine Je ?_|refine Jf ?_|refine Jg ?_|refine Jh ?_|refine Ji ?_|refine Jj ?_|refine Jk ?_|refine Jl ?_|refine Jm ?_|refine Jn ?_|refine Jo ?_|refine Jp ?_|refine Jq ?_|refine Jr ?_|refine Js ?_|refine Jt ?_|refine Ju ?_|refine Jv ?_|refine Jw ?_|refine Jx ?_|refine Jy ?_|refine Jz ?_|refine JA ?_|refine JB ?_|refine JC ?_|refine JD ?_|refine JE ?_|refine JF ?_|refine JG ?_|refine JH ?_|refine JI ?_|refine JJ ?_|refine JK ?_|refine JL ?_|refine JM ?_|refine CW.skip (PW.code ?_)|refine RW.nil (PW.code ?_))
  refine RW.splitD 130 rfl (fun h => absurd rfl h) (fun _ => ?_)
  repeat (first|refine Ja ?_|refine Jb ?_|refine Jc ?_|refine Jd ?_|refine Je ?_|refine Jf ?_|refine Jg ?_|refine Jh ?_|refine Ji ?_|refine Jj ?_|refine Jk ?_|refine Jl ?_|refine Jm ?_|refine Jn ?_|refine Jo ?_|refine Jp ?_|refine Jq ?_|refine Jr ?_|refine Js ?_|refine Jt ?_|refine Ju ?_|refine Jv ?_|refine Jw ?_|refine Jx ?_|refine Jy ?_|refine Jz ?_|refine JA ?_|refine JB ?_|refine JC ?_|refine JD ?_|refine JE ?_|refine JF ?_|refine JG ?_|refine JH ?_|refine JI ?_|refine JJ ?_|refine JK ?_|refine JL ?_|refine JM ?_|refine CW.skip (PW.code ?_)|refine RW.nil (PW.code ?_))
  refine RW.splitD 135 rfl (fun h => absurd rfl h) (fun _ => ?_)
  repeat (first|refine Ja ?_|refine Jb ?_|refine Jc ?_|refine Jd ?_|refine Je ?_|refine Jf ?_|refine Jg ?_|refine Jh ?_|refine Ji ?_|refine Jj ?_|refine Jk ?_|refine Jl ?_|refine Jm ?_|refine Jn ?_|refine Jo ?_|refine Jp ?_|refine Jq ?_|refine Jr ?_|refine Js ?_|refine Jt ?_|refine Ju ?_|refine Jv ?_|refine Jw ?_|refine Jx ?_|refine Jy ?_|refine Jz ?_|refine JA ?_|refine JB ?_|refine JC ?_|refine JD ?_|refine JE ?_|refine JF ?_|refine JG ?_|refine JH ?_|refine JI ?_|refine JJ ?_|refine JK ?_|refine JL ?_|refine JM ?_|refine CW.skip (PW.code ?_)|refine RW.nil (PW.code ?_))
  refine RW.splitD 140 rfl (fun h => absurd rfl h) (fun _ => ?_)
  repeat (first|refine Ja ?_|refine Jb ?_|refine Jc ?_|refine Jd ?_|refine Je ?_|refine Jf ?_|refine Jg ?_|refine Jh ?_|refine Ji ?_|refine Jj ?_|refine Jk ?_|refine Jl ?_|refine Jm ?_|refine Jn ?_|refine Jo ?_|refine Jp ?_|refine Jq ?_|refine Jr ?_|refine Js ?_|refine Jt ?_|refine Ju ?_|refine Jv ?_|refine Jw ?_|refine Jx ?_|refine Jy ?_|refine Jz ?_|refine JA ?_|refine JB ?_|refine JC ?_|refine JD ?_|refine JE ?_|refine JF ?_|refine JG ?_|refine JH ?_|refine JI ?_|refine JJ ?_|refine JK ?_|refine JL ?_|refine JM ?_|refine CW.skip (PW.code ?_)|refine RW.nil (PW.code ?_))
  refine RW.splitD 145 rfl (fun h => absurd rfl h) (fun _ => ?_)
  repeat (first|refine Ja ?_|refine Jb ?_|refine Jc ?_|refine Jd ?_|refine Je ?_|refine Jf ?_|refine Jg ?_|refine Jh ?_|refine Ji ?_|refine Jj ?_|refine Jk ?_|refine Jl ?_|refine Jm ?_|refine Jn ?_|refine Jo ?_|refine Jp ?_|refine Jq ?_|refine Jr ?_|refine Js ?_|refine Jt ?_|refine Ju ?_|refine Jv ?_|refine Jw ?_|refine Jx ?_|refine Jy ?_|refine Jz ?_|refine JA ?_|refine JB ?_|refine JC ?_|refine JD ?_|refine JE ?_|refine JF ?_|refine JG ?_|refine JH ?_|refine JI ?_|refine JJ ?_|refine JK ?_|refine JL ?_|refine JM ?_|refine CW.skip (PW.code ?_)|refine RW.nil (PW.code ?_))
  refine CW.ite rfl (fun h => absurd rfl h) (fun _ => ?_)
  refine CW.skip ?_
  refine PW.code ?_
  refine CW.keep [(1, .string name), (2, .int .i64 kd), (3, ptrV b3)] ⟨rfl, rfl, rfl, trivial⟩ ?_
  refine CW.seqA (by kernel_rfl) rfl ?_
  repeat (apply AW.val rfl; · intro Gx X; (first | refine RW.yes rfl ?_ | skip); (first|refine Jc ?_|refine Jd ?_|refine Je ?_|refine Jf ?_|refine Jg ?_|refine Jh ?_|refine Ji ?_|refine Jj ?_|refine Jk ?_|refine Jl ?_|refine Jm ?_|refine Jn ?_|refine Jo ?_|refine Jp ?_|refine Jq ?_|refine Jr ?_|refine Js ?_|refine Jt ?_|refine Ju ?_|refine Jv ?_|refine Jw ?_|refine Jx ?_|refine Jz ?_|refine JA ?_|refine JB ?_|refine JC ?_|refine JD ?_|refine JE ?_|refine JF ?_|refine JG ?_|refine JH ?_|refine JI ?_|refine JJ ?_|refine JK ?_|refine JL ?_); exact RW.done rfl)
  (apply AW.gen (fun n => encV (sortsD s).length n) (fun n => ownHP 68 1 (encV (sortsD s).length n) ((sortsD s).map intE)) rfl; · intro Gx X; refine RW.callN Try.call28 rfl (fun w2 hw => sorts_ret (StatOn.mono hst (ro_call hw))) rfl fun v => ?_; refine RW.have_ (φ := ∃ n, v = encV (sortsD s).length n) (fun w hw => by have := enc_own (pre := []) hw; rwa [List.length_map] at this) (fun ⟨n, hn⟩ => ?_); subst hn; exact RW.done_gen rfl)
  repeat (apply AW.val rfl; · intro Gx X; (first | refine RW.yes rfl ?_ | skip); (first|refine Jc ?_|refine Jd ?_|refine Je ?_|refine Jf ?_|refine Jg ?_|refine Jh ?_|refine Ji ?_|refine Jj ?_|refine Jk ?_|refine Jl ?_|refine Jm ?_|refine Jn ?_|refine Jo ?_|refine Jp ?_|refine Jq ?_|refine Jr ?_|refine Js ?_|refine Jt ?_|refine Ju ?_|refine Jv ?_|refine Jw ?_|refine Jx ?_|refine Jz ?_|refine JA ?_|refine JB ?_|refine JC ?_|refine JD ?_|refine JE ?_|refine JF ?_|refine JG ?_|refine JH ?_|refine JI ?_|refine JJ ?_|refine JK ?_|refine JL ?_); exact RW.done rfl)
  refine AW.stop (by kernel_rfl) (by kernel_rfl) fun bs => ?_
  refine RW.callN Try.call29 rfl (fun w2 hw => refSorts_ret (StatOn.mono hst (ro_call hw))) rfl fun v2 => ?_
  refine RW.take [0, 2, 1] ?_
  have hll : ((sortsD s).map intE).length = (sortsD s).length := List.length_map _
  refine RW.have_ (φ := (∃ A c1, v2 = .slice A (sortsD s).length c1 ∧ (sortsD s ≠ [] → ∃ B, A = some ⟨B, 0, none⟩)) ∧ ∃ A c1, encV (sortsD s).length (bs 151) = .slice A (sortsD s).length c1 ∧ (sortsD s ≠ [] → ∃ B, A = some ⟨B, 0, none⟩)) (fun w hw => ⟨?_, ?_⟩) (fun ⟨⟨A2, c2, e2, hA2⟩, A1, c1, e1, hA1⟩ => ?_)
  · obtain ⟨A, c1, h1, h2⟩ := own_shapeN (pre := []) hw
    rw [hll] at h1
    exact ⟨A, c1, h1, fun h => h2 (by simpa using h)⟩
  · obtain ⟨A, c1, h1, h2⟩ := own_shapeN (pre := [_]) hw
    rw [hll] at h1
    exact ⟨A, c1, h1, fun h => h2 (by simpa using h)⟩
  subst e2
  refine RW.change [_] (ownHP 68 1 (.slice A1 (sortsD s).length c1) ((sortsD s).map intE)) (fun w F hp => e1 ▸ hp) ?_
  refine RW.keep [(1, .string name), (2, .int .i64 kd), (3, ptrV b3), (151, .slice A1 (sortsD s).length c1), (153, .slice A2 (sortsD s).length c2)] ⟨rfl, rfl, rfl, congrArg some e1, rfl, trivial⟩ ?_
  repeat (first|refine Ja ?_|refine Jb ?_|refine Jc ?_|refine Jd ?_|refine Je ?_|refine Jf ?_|refine Jg ?_|refine Jh ?_|refine Ji ?_|refine Jj ?_|refine Jk ?_|refine Jl ?_|refine Jm ?_|refine Jn ?_|refine Jo ?_|refine Jp ?_|refine Jq ?_|refine Jr ?_|refine Js ?_|refine Jt ?_|refine Ju ?_|refine Jv ?_|refine Jw ?_|refine Jx ?_|refine Jy ?_|refine Jz ?_|refine JA ?_|refine JB ?_|refine JC ?_|refine JD ?_|refine JE ?_|refine JF ?_|refine JG ?_|refine JH ?_|refine JI ?_|refine JJ ?_|refine JK ?_|refine JL ?_|refine JM ?_|refine CW.skip (PW.code ?_)|refine RW.nil (PW.code ?_))
  refine CW.seq ?_
  refine CW.keep [(1, .string name), (2, .int .i64 kd), (3, ptrV b3), (19, .slice A1 (sortsD s).length c1), (20, .slice A2 (sortsD s).length c2)] ⟨rfl, rfl, rfl, rfl, rfl, trivial⟩ ?_
  repeat (first|refine Ja ?_|refine Jb ?_|refine Jc ?_|refine Jd ?_|refine Je ?_|refine Jf ?_|refine Jg ?_|refine Jh ?_|refine Ji ?_|refine Jj ?_|refine Jk ?_|refine Jl ?_|refine Jm ?_|refine Jn ?_|refine Jo ?_|refine Jp ?_|refine Jq ?_|refine Jr ?_|refine Js ?_|refine Jt ?_|refine Ju ?_|refine Jv ?_|refine Jw ?_|refine Jx ?_|refine Jy ?_|refine Jz ?_|refine JA ?_|refine JB ?_|refine JC ?_|refine JD ?_|refine JE ?_|refine JF ?_|refine JG ?_|refine JH ?_|refine JI ?_|refine JJ ?_|refine JK ?_|refine JL ?_|refine JM ?_|refine CW.skip (PW.code ?_)|refine RW.nil (PW.code ?_))
  refine CW.ite rfl (fun h => absurd rfl h) (fun _ => ?_)
  refine CW.skip ?_
  refine PW.code ?_
  refine CW.cut (ι := Unit) (fun _ => [(2, .int .i64 kd), (3, ptrV b3)]) (fun _ => [blk b3 (x.stat s) 31]) ?_ (fun _ => ?_)
  · repeat (first|refine Ja ?_|refine Jb ?_|refine Jc ?_|refine Jd ?_|refine Je ?_|refine Jf ?_|refine Jg ?_|refine Jh ?_|refine Ji ?_|refine Jj ?_|refine Jk ?_|refine Jl ?_|refine Jm ?_|refine Jn ?_|refine Jo ?_|refine Jp ?_|refine Jq ?_|refine Jr ?_|refine Js ?_|refine Jt ?_|refine Ju ?_|refine Jv ?_|refine Jw ?_|refine Jx ?_|refine Jy ?_|refine Jz ?_|refine JA ?_|refine JB ?_|refine JC ?_|refine JD ?_|refine JE ?_|refine JF ?_|refine JG ?_|refine JH ?_|refine JI ?_|refine JJ ?_|refine JK ?_|refine JL ?_|refine JM ?_|refine CW.skip (PW.code ?_)|refine RW.nil (PW.code ?_))
    refine CW.block ?_
    refine CW.loop (ι := { k : Nat // k ≤ (sortsD s).length }) (fun k => [(2, .int .i64 kd), (3, ptrV b3), (19, .slice A1 (sortsD s).length c1), (20, .slice A2 (sortsD s).length c2), (21, .int .i64 k.1)]) (fun k => [ownHP 68 1 (.slice A2 (sortsD s).length c2) ((sortsD s).map intE), ownHP 68 1 (.slice A1 (sortsD s).length c1) ((sortsD s).map intE), blk b3 (x.stat s) 31]) (fun k => (sortsD s).length - k.1) ⟨0, Nat.zero_le _⟩ ⟨rfl, rfl, rfl, rfl, rfl, trivial⟩ (fun h => h) ?_
    intro ⟨k, hk⟩
    dsimp only at hk ⊢
    have hsl : (sortsD s).length = (sPreds s).length := List.length_map _
    refine CW.seq ?_
    repeat (first|refine Ja ?_|refine Jb ?_|refine Jc ?_|refine Jd ?_|refine Je ?_|refine Jf ?_|refine Jg ?_|refine Jh ?_|refine Ji ?_|refine Jj ?_|refine Jk ?_|refine Jl ?_|refine Jm ?_|refine Jn ?_|refine Jo ?_|refine Jp ?_|refine Jq ?_|refine Jr ?_|refine Js ?_|refine Jt ?_|refine Ju ?_|refine Jv ?_|refine Jw ?_|refine Jx ?_|refine Jy ?_|refine Jz ?_|refine JA ?_|refine JB ?_|refine JC ?_|refine JD ?_|refine JE ?_|refine JF ?_|refine JG ?_|refine JH ?_|refine JI ?_|refine JJ ?_|refine JK ?_|refine JL ?_|refine JM ?_|refine CW.skip (PW.code ?_)|refine RW.nil (PW.code ?_))
    refine CW.ite rfl (fun hkt => ?_) (fun hke => ?_)
    rotate_left
    · refine CW.exit rfl ?_
      exact PW.meetT () [2] ⟨rfl, rfl, trivial⟩ rfl
    have hkt' : k < (sortsD s).length := by simpa using hkt
    have hne : sortsD s ≠ [] := by intro h; rw [h] at hkt'; simp at hkt'
    obtain ⟨B1, rfl⟩ := hA1 hne
    obtain ⟨B2, rfl⟩ := hA2 hne
    refine CW.skip ?_
    refine PW.code ?_
    refine CW.seq ?_
    refine CW.block ?_
    refine CW.seqA (by kernel_rfl) rfl ?_
    repeat (apply AW.val rfl; · intro Gx X; (first | refine RW.yes rfl ?_ | skip); (first|refine Jc ?_|refine Jd ?_|refine Je ?_|refine Jf ?_|refine Jg ?_|refine Jh ?_|refine Ji ?_|refine Jj ?_|refine Jk ?_|refine Jl ?_|refine Jm ?_|refine Jn ?_|refine Jo ?_|refine Jp ?_|refine Jq ?_|refine Jr ?_|refine Js ?_|refine Jt ?_|refine Ju ?_|refine Jv ?_|refine Jw ?_|refine Jx ?_|refine Jz ?_|refine JA ?_|refine JB ?_|refine JC ?_|refine JD ?_|refine JE ?_|refine JF ?_|refine JG ?_|refine JH ?_|refine JI ?_|refine JJ ?_|refine JK ?_|refine JL ?_); exact RW.done rfl)
    (apply AW.val rfl; · intro Gx X; (first | refine RW.yes rfl ?_ | skip); refine RW.indexAddr rfl rfl (by omega) hkt rfl ?_; exact RW.done rfl)
    (apply AW.val rfl; · intro Gx X; (first | refine RW.yes rfl ?_ | skip); refine RW.load_fact (v := .int .i64 (sortsD s)[k]) rfl rfl rfl (fun w hw => own_sort (pre := [_]) hw hkt') ?_; exact RW.done rfl)
    repeat (apply AW.val rfl; · intro Gx X; (first | refine RW.yes rfl ?_ | skip); (first|refine Jc ?_|refine Jd ?_|refine Je ?_|refine Jf ?_|refine Jg ?_|refine Jh ?_|refine Ji ?_|refine Jj ?_|refine Jk ?_|refine Jl ?_|refine Jm ?_|refine Jn ?_|refine Jo ?_|refine Jp ?_|refine Jq ?_|refine Jr ?_|refine Js ?_|refine Jt ?_|refine Ju ?_|refine Jv ?_|refine Jw ?_|refine Jx ?_|refine Jz ?_|refine JA ?_|refine JB ?_|refine JC ?_|refine JD ?_|refine JE ?_|refine JF ?_|refine JG ?_|refine JH ?_|refine JI ?_|refine JJ ?_|refine JK ?_|refine JL ?_); exact RW.done rfl)
    (apply AW.val rfl; · intro Gx X; (first | refine RW.yes rfl ?_ | skip); refine RW.indexAddr rfl rfl (by omega) hkt rfl ?_; exact RW.done rfl)
    (apply AW.val rfl; · intro Gx X; (first | refine RW.yes rfl ?_ | skip); refine RW.load_fact (v := .int .i64 (sortsD s)[k]) rfl rfl rfl (fun w hw => own_sort (pre := []) hw hkt') ?_; exact RW.done rfl)
    repeat (apply AW.val rfl; · intro Gx X; (first | refine RW.yes rfl ?_ | skip); (first|refine Jc ?_|refine Jd ?_|refine Je ?_|refine Jf ?_|refine Jg ?_|refine Jh ?_|refine Ji ?_|refine Jj ?_|refine Jk ?_|refine Jl ?_|refine Jm ?_|refine Jn ?_|refine Jo ?_|refine Jp ?_|refine Jq ?_|refine Jr ?_|refine Js ?_|refine Jt ?_|refine Ju ?_|refine Jv ?_|refine Jw ?_|refine Jx ?_|refine Jz ?_|refine JA ?_|refine JB ?_|refine JC ?_|refine JD ?_|refine JE ?_|refine JF ?_|refine JG ?_|refine JH ?_|refine JI ?_|refine JJ ?_|refine JK ?_|refine JL ?_); exact RW.done rfl)
    refine AW.stop (by kernel_rfl) (by kernel_rfl) fun bs => ?_
    repeat (first|refine Ja ?_|refine Jb ?_|refine Jc ?_|refine Jd ?_|refine Je ?_|refine Jf ?_|refine Jg ?_|refine Jh ?_|refine Ji ?_|refine Jj ?_|refine Jk ?_|refine Jl ?_|refine Jm ?_|refine Jn ?_|refine Jo ?_|refine Jp ?_|refine Jq ?_|refine Jr ?_|refine Js ?_|refine Jt ?_|refine Ju ?_|refine Jv ?_|refine Jw ?_|refine Jx ?_|refine Jy ?_|refine Jz ?_|refine JA ?_|refine JB ?_|refine JC ?_|refine JD ?_|refine JE ?_|refine JF ?_|refine JG ?_|refine JH ?_|refine JI ?_|refine JJ ?_|refine JK ?_|refine JL ?_|refine JM ?_|refine CW.skip (PW.code ?_)|refine RW.nil (PW.code ?_))
    refine CW.ite rfl (fun h => absurd rfl h) (fun _ => ?_)
    refine CW.skip ?_
    refine PW.code ?_
    refine CW.region ?_
    repeat (first|refine Ja ?_|refine Jb ?_|refine Jc ?_|refine Jd ?_|refine Je ?_|refine Jf ?_|refine Jg ?_|refine Jh ?_|refine Ji ?_|refine Jj ?_|refine Jk ?_|refine Jl ?_|refine Jm ?_|refine Jn ?_|refine Jo ?_|refine Jp ?_|refine Jq ?_|refine Jr ?_|refine Js ?_|refine Jt ?_|refine Ju ?_|refine Jv ?_|refine Jw ?_|refine Jx ?_|refine Jy ?_|refine Jz ?_|refine JA ?_|refine JB ?_|refine JC ?_|refine JD ?_|refine JE ?_|refine JF ?_|refine JG ?_|refine JH ?_|refine JI ?_|refine JJ ?_|refine JK ?_|refine JL ?_|refine JM ?_|refine CW.skip (PW.code ?_)|refine RW.nil (PW.code ?_))
    refine RW.add rfl rfl (w64 (by omega) (by omega)) rfl ?_
    repeat (first|refine Ja ?_|refine Jb ?_|refine Jc ?_|refine Jd ?_|refine Je ?_|refine Jf ?_|refine Jg ?_|refine Jh ?_|refine Ji ?_|refine Jj ?_|refine Jk ?_|refine Jl ?_|refine Jm ?_|refine Jn ?_|refine Jo ?_|refine Jp ?_|refine Jq ?_|refine Jr ?_|refine Js ?_|refine Jt ?_|refine Ju ?_|refine Jv ?_|refine Jw ?_|refine Jx ?_|refine Jy ?_|refine Jz ?_|refine JA ?_|refine JB ?_|refine JC ?_|refine JD ?_|refine JE ?_|refine JF ?_|refine JG ?_|refine JH ?_|refine JI ?_|refine JJ ?_|refine JK ?_|refine JL ?_|refine JM ?_|refine CW.skip (PW.code ?_)|refine RW.nil (PW.code ?_))
    refine RW.nil ?_
    exact PW.again ⟨k + 1, hkt'⟩ ⟨rfl, rfl, rfl, rfl, rfl, trivial⟩ (fun h => h) (by show (sortsD s).length - (k + 1) < (sortsD s).length - k; omega)
  refine CW.seq ?_
  refine CW.anyW 99 99 0 4 1 3 (fun _ => [blk b3 (x.stat s) 31]) 11
    [.val (.agg (x.stat s).toArray), .new (fun n => ownHP 3 1 (encV (classesD s).length n) ((classesD s).map intE)) (fun n => encV (classesD s).length n) 99 (fun n => ownHP 3 1 (encV (classesD s).length n) ((classesD s).map intE)), .val (.agg (x.stat s).toArray),
     .new (fun n => ownHP 3 1 (encV (classesD s).length n) ((classesD s).map intE)) (fun n => encV (classesD s).length n) 99 (fun n => ownHP 3 1 (encV (classesD s).length n) ((classesD s).map intE)), .val (.bool true), .val (.bool true), .val (.agg (x.stat s).toArray), .val (.int .i64 kd),
     .new (fun n => ownHP 3 1 (encV (ofD s kd).length n) ((ofD s kd).map intE)) (fun n => encV (ofD s kd).length n) 99 (fun n => ownHP 3 1 (encV (ofD s kd).length n) ((ofD s kd).map intE)), .val (.agg (x.stat s).toArray), .val (.int .i64 kd)] (by kernel_rfl) rfl rfl rfl rfl (by kernel_rfl)
    ⟨fun p dj c t c2 h => by have := List.mem_of_getElem? h; simp at this, fun j j' p c t c2 c' t' c2' h h' hne => ?_, fun j c t p c2 h => .inl ?_⟩ (fun i o d hi _ _ h => ?_) (fun k h => by cases h) (fun i o k _ _ h4 ho hk b => ?_) (fun o v ho _ => by cases ho) (fun o hlt ho => absurd hlt (by decide)) (fun o _ ho => ?_) (fun bs => ?_)
  · have := List.mem_of_getElem? h'
    simp only [List.mem_cons, PK.new.injEq, reduceCtorEq, false_or, or_false, List.not_mem_nil] at this
    rcases this with ⟨rfl, _, _, rfl⟩ | ⟨rfl, _, _, rfl⟩ | ⟨rfl, _, _, rfl⟩ <;> rfl
  · have := List.mem_of_getElem? h
    simp only [List.mem_cons, PK.new.injEq, reduceCtorEq, false_or, or_false, List.not_mem_nil] at this
    rcases this with ⟨rfl, _, _, rfl⟩ | ⟨rfl, _, _, rfl⟩ | ⟨rfl, _, _, rfl⟩ <;> rfl
  · have : i = 0 ∨ i = 1 ∨ i = 2 ∨ i = 3 ∨ i = 4 ∨ i = 5 ∨ i = 6 ∨ i = 7 ∨ i = 8 ∨ i = 9 ∨ i = 10 := by omega
    rcases this with rfl | rfl | rfl | rfl | rfl | rfl | rfl | rfl | rfl | rfl | rfl <;> cases h
  · have : i = 0 ∨ i = 1 ∨ i = 2 ∨ i = 3 ∨ i = 4 ∨ i = 5 ∨ i = 6 ∨ i = 7 ∨ i = 8 ∨ i = 9 ∨ i = 10 ∨ 11 ≤ i := by omega
    rcases this with rfl | rfl | rfl | rfl | rfl | rfl | rfl | rfl | rfl | rfl | rfl | h12
    any_goals (obtain rfl := Option.some.inj ho; obtain rfl := Option.some.inj hk; intro Gx X)
    · refine RW.load_whole [] rfl rfl rfl rfl ?_; exact RW.done rfl
    · refine RW.callN Try.call30 rfl (fun w2 hw => class_all_ret (StatOn.mono hst (ro_call hw))) rfl fun v => ?_
      refine RW.have_ (φ := ∃ n, v = encV (classesD s).length n) (fun w hw => by have := enc_own (pre := []) hw; rwa [List.length_map] at this) (fun ⟨n, hn⟩ => ?_)
      subst hn
      exact RW.done_gen (b := n) rfl
    · refine RW.load_whole [] rfl rfl rfl rfl ?_; exact RW.done rfl
    · refine RW.callN Try.call31 rfl (fun w2 hw => refClass_ret (StatOn.mono hst (ro_call hw))) rfl fun v => ?_
      refine RW.have_ (φ := ∃ n, v = encV (classesD s).length n) (fun w hw => by have := enc_own (pre := []) hw; rwa [List.length_map] at this) (fun ⟨n, hn⟩ => ?_)
      subst hn
      exact RW.done_gen (b := n) rfl
    · exact absurd rfl h4
    · refine RW.move rfl rfl ?_; exact RW.done rfl
    · refine RW.yes rfl ?_; refine RW.load_whole [] rfl rfl rfl rfl ?_; exact RW.done rfl
    · refine RW.yes rfl ?_; refine RW.move rfl rfl ?_; exact RW.done rfl
    · refine RW.yes rfl ?_
      refine RW.callN Try.call16 rfl (fun w2 hw => of_ret (StatOn.mono hst (ro_call hw))) rfl fun v => ?_
      refine RW.have_ (φ := ∃ n, v = encV (ofD s kd).length n) (fun w hw => by have := enc_own (pre := []) hw; rwa [List.length_map] at this) (fun ⟨n, hn⟩ => ?_)
      subst hn
      exact RW.done_gen (b := n) rfl
    · refine RW.yes rfl ?_; refine RW.load_whole [] rfl rfl rfl rfl ?_; exact RW.done rfl
    · refine RW.yes rfl ?_; refine RW.move rfl rfl ?_; exact RW.done rfl
    · rw [List.getElem?_eq_none (by simpa using h12)] at hk; cases hk
  · obtain rfl := Option.some.inj ho
    refine ⟨_, _, _, _, 175, 177, _, _, _, _, _, _, _, List.mem_of_getElem? (i := 0) rfl, rfl, rfl, List.mem_of_getElem? (i := 1) rfl, rfl, rfl, by decide, rfl, rfl, rfl, rfl, rfl, rfl, rfl, fun b0 b b' Gx X => ?_⟩
    refine RW.call Try.call13 rfl (fun w2 hw => same_own (pre := []) (pre2 := [_]) hw hw hcr hcl) rfl ?_
    exact RW.done rfl
  · refine RW.yes rfl ?_
    refine RW.callN Try.call32 rfl (fun w2 hw => refOf_ret (StatOn.mono hst (ro_call hw))) rfl fun v => ?_
    repeat (first|refine Ja ?_|refine Jb ?_|refine Jc ?_|refine Jd ?_|refine Je ?_|refine Jf ?_|refine Jg ?_|refine Jh ?_|refine Ji ?_|refine Jj ?_|refine Jk ?_|refine Jl ?_|refine Jm ?_|refine Jn ?_|refine Jo ?_|refine Jp ?_|refine Jq ?_|refine Jr ?_|refine Js ?_|refine Jt ?_|refine Ju ?_|refine Jv ?_|refine Jw ?_|refine Jx ?_|refine Jy ?_|refine Jz ?_|refine JA ?_|refine JB ?_|refine JC ?_|refine JD ?_|refine JE ?_|refine JF ?_|refine JG ?_|refine JH ?_|refine JI ?_|refine JJ ?_|refine JK ?_|refine JL ?_|refine JM ?_|refine CW.skip (PW.code ?_)|refine RW.nil (PW.code ?_))
    refine RW.call Try.call13 rfl (fun w2 hw => same_own (pre := [_, _, _, _]) (pre2 := []) hw hw hor hol) rfl ?_
    repeat (first|refine Ja ?_|refine Jb ?_|refine Jc ?_|refine Jd ?_|refine Je ?_|refine Jf ?_|refine Jg ?_|refine Jh ?_|refine Ji ?_|refine Jj ?_|refine Jk ?_|refine Jl ?_|refine Jm ?_|refine Jn ?_|refine Jo ?_|refine Jp ?_|refine Jq ?_|refine Jr ?_|refine Js ?_|refine Jt ?_|refine Ju ?_|refine Jv ?_|refine Jw ?_|refine Jx ?_|refine Jy ?_|refine Jz ?_|refine JA ?_|refine JB ?_|refine JC ?_|refine JD ?_|refine JE ?_|refine JF ?_|refine JG ?_|refine JH ?_|refine JI ?_|refine JJ ?_|refine JK ?_|refine JL ?_|refine JM ?_|refine CW.skip (PW.code ?_)|refine RW.nil (PW.code ?_))
    refine RW.call Try.call7 rfl (fun w2 hw => works_ret) rfl ?_
    repeat (first|refine Ja ?_|refine Jb ?_|refine Jc ?_|refine Jd ?_|refine Je ?_|refine Jf ?_|refine Jg ?_|refine Jh ?_|refine Ji ?_|refine Jj ?_|refine Jk ?_|refine Jl ?_|refine Jm ?_|refine Jn ?_|refine Jo ?_|refine Jp ?_|refine Jq ?_|refine Jr ?_|refine Js ?_|refine Jt ?_|refine Ju ?_|refine Jv ?_|refine Jw ?_|refine Jx ?_|refine Jy ?_|refine Jz ?_|refine JA ?_|refine JB ?_|refine JC ?_|refine JD ?_|refine JE ?_|refine JF ?_|refine JG ?_|refine JH ?_|refine JI ?_|refine JJ ?_|refine JK ?_|refine JL ?_|refine JM ?_|refine CW.skip (PW.code ?_)|refine RW.nil (PW.code ?_))
    exact CW.ret1 rfl Try.results6 rfl rfl fun w hw => ⟨rfl, hw.kp⟩
theorem law_ResolveNames (W : World) {c0 : List Value} {x0 : kStat.V} {a1 : ByteArray} {x1 : ByteArray} {a2 x2 : Int} (y0 : Rd kStat (mem W Any) c0 x0) (y1 : Rd .str (mem W Any) [.string a1] x1) (y2 : Rd kI (mem W Any) [.int .i64 a2] x2) : Ret Try.prog 6 [.agg c0.toArray, .string a1, .int .i64 a2] W (.bool true) := by
  obtain ⟨x, rfl, h⟩ := rd_stat y0
  exact names_ret (h.mono (mem_up fun _ _ k => k))
end Go.Proofs.Ytkfmlekomfnleaa
