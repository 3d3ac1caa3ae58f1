/- The law of what is taken away, walked. Conditions: none. -/
import Derived.Test.YtkfmlekomfnleaaR24
import Derived.Test.YtkfmlekomfnleaaK08
set_option linter.unusedVariables false
set_option linter.unusedSimpArgs false
set_option maxRecDepth 10000
namespace Go.Proofs.Ytkfmlekomfnleaa
open Go Go.RowKit Go.MapKept

theorem sl_cap {M : Mem} {by_ : Nat} {t : K} {A : Option Addr} {n c : Nat} {xs : List t.V} (h : Rd (.sl by_ t) M [.slice A n c] xs) : xs.length ≤ c := by
  obtain ⟨A', c', he, h2, _⟩ := h
  have := (List.cons.inj he).1
  injection this with _ _ h3
  omega
theorem sl_drop {M : Mem} {by_ : Nat} {t : K} {A : Option Addr} {c : Nat} {xs : List t.V} (h : Rd (.sl by_ t) M [.slice A xs.length c] xs) : Rd (.sl by_ t) M [.slice A xs.dropLast.length c] xs.dropLast := by
  obtain ⟨A', c', he, h2, h3, h4, h5⟩ := h
  have := (List.cons.inj he).1
  injection this with e1 _ e3
  subst e1; subst e3
  have hl : xs.dropLast.length ≤ xs.length := by rw [List.length_dropLast]; omega
  refine ⟨A, c, rfl, by omega, h3, Nat.le_trans (Nat.mul_le_mul_right _ hl) h4, fun hne => ?_⟩
  have hne2 : xs ≠ [] := fun e => hne (by rw [e]; rfl)
  obtain ⟨B, O, hA, hj⟩ := h5 hne2
  exact ⟨B, O, hA, fun j x hx => hj j x (by
    rw [List.getElem?_dropLast] at hx
    split at hx
    · exact hx
    · cases hx)⟩
@[reducible] def cut1 (s : kStat.V) : kStat.V := (s.1, sKinds s, sMembers s, sPreds s, sClasses s, sSources s, sRules s, sExcepts s, ([] : List kTotal.V))
@[reducible] def cut2 (s : kStat.V) : kStat.V := (s.1, sKinds s, sMembers s, sPreds s, sClasses s, sSources s, sRules s, ([] : List kExc.V), ([] : List kTotal.V))
@[reducible] def cut3 (s : kStat.V) : kStat.V := (s.1, sKinds s, sMembers s, sPreds s, sClasses s, sSources s, (sRules s).dropLast, ([] : List kExc.V), ([] : List kTotal.V))
@[reducible] def cut4 (s : kStat.V) : kStat.V := (s.1, sKinds s, sMembers s, sPreds s, (sClasses s).dropLast, sSources s, (sRules s).dropLast, ([] : List kExc.V), ([] : List kTotal.V))
@[reducible] def RC.no8 (x : RC) : RC := ⟨x.A1, x.A2, x.A3, x.A4, x.A5, x.A6, x.A7, none, x.c1, x.c2, x.c3, x.c4, x.c5, x.c6, x.c7, 0, 0, 0, 0, 0, 0, 0⟩
@[reducible] def RC.no7 (x : RC) : RC := ⟨x.A1, x.A2, x.A3, x.A4, x.A5, x.A6, none, none, x.c1, x.c2, x.c3, x.c4, x.c5, x.c6, 0, 0, 0, 0, 0, 0, 0, 0⟩
section
variable {M : Mem} {s : kStat.V} {x : RC}
theorem on_cut1 (h : StatOn M s x) : StatOn M (cut1 s) x.no8 := ⟨h.kinds, h.members, h.preds, h.classes, h.sources, h.rules, h.excepts, rdNil⟩
theorem on_cut2 (h : StatOn M s x) : StatOn M (cut2 s) x.no7 := ⟨h.kinds, h.members, h.preds, h.classes, h.sources, h.rules, rdNil, rdNil⟩
theorem on_cut3 (h : StatOn M s x) : StatOn M (cut3 s) x.no7 := ⟨h.kinds, h.members, h.preds, h.classes, h.sources, sl_drop h.rules, rdNil, rdNil⟩
theorem on_cut4 (h : StatOn M s x) : StatOn M (cut4 s) x.no7 := ⟨h.kinds, h.members, h.preds, sl_drop h.classes, h.sources, sl_drop h.rules, rdNil, rdNil⟩
theorem dropLast_prefix {α : Type} (l : List α) : l.dropLast <+: l := List.dropLast_prefix l
theorem cuts {n : Int} (h : itemsD s 0 = .ok n) : ∃ n1 n2 n3 n4, (checkD (cut1 s) = (0, n1) ∧ checkD (cut2 s) = (0, n2) ∧ checkD (cut3 s) = (0, n3) ∧ checkD (cut4 s) = (0, n4)) ∧ n1 ≤ n ∧ n2 ≤ n1 ∧ n3 ≤ n2 ∧ n4 ≤ n3 := by
  obtain ⟨n1, h1, l1⟩ := items_less (s := s) (s' := cut1 s) ⟨⟨rfl, rfl, rfl, rfl⟩, List.prefix_refl _, List.prefix_refl _, .inr ⟨rfl, rfl⟩, .inl rfl⟩ h
  obtain ⟨n2, h2, l2⟩ := items_less (s := cut1 s) (s' := cut2 s) ⟨⟨rfl, rfl, rfl, rfl⟩, List.prefix_refl _, List.prefix_refl _, .inl rfl, .inl rfl⟩ h1
  obtain ⟨n3, h3, l3⟩ := items_less (s := cut2 s) (s' := cut3 s) ⟨⟨rfl, rfl, rfl, rfl⟩, List.prefix_refl _, dropLast_prefix _, .inl rfl, .inl rfl⟩ h2
  obtain ⟨n4, h4, l4⟩ := items_less (s := cut3 s) (s' := cut4 s) ⟨⟨rfl, rfl, rfl, rfl⟩, dropLast_prefix _, List.prefix_refl _, .inl rfl, .inl rfl⟩ h3
  exact ⟨n1, n2, n3, n4, ⟨by unfold checkD; rw [h1], by unfold checkD; rw [h2], by unfold checkD; rw [h3], by unfold checkD; rw [h4]⟩, l1, l2, l3, l4⟩
theorem check_at {w : World} {a b : Int} (h : StatOn (mem w (fun b => ¬ No b)) s x) (hc : checkD s = (a, b)) : Ret Try.prog 8 [.agg (x.stat s).toArray] w (.tuple #[.int .i64 a, .int .i64 b]) := by
  have := check_ret h
  rw [hc] at this
  exact this
end
attribute [local irreducible] RW CW
set_option maxHeartbeats 16000000 in
theorem less_ret {s : kStat.V} {x : RC} {w : World} (hst : StatOn (mem w (fun b => ¬ No b)) s x) : Ret Try.prog 3 [.agg (x.stat s).toArray] w (.bool true) := by
  refine Calls.enter Try.func3 rfl _ rfl rfl (S := No) (H := []) trivial ?_
  refine CW.seqR ?_
  refine RW.box_agg (l := x.stat s) rfl rfl fun b1 _ => ?_
  repeat (first|refine Ja ?_|refine Jb ?_|refine Jc ?_|refine Jd ?_|refine Je ?_|refine Jf ?_|refine Jg ?_|refine Jh ?_|refine Ji ?_|refine Jj ?_|refine Jk ?_|refine Jl ?_|refine Jm ?_|refine Jn ?_|refine Jo ?_|refine Jp ?_|refine Jq ?_|refine Jr ?_|refine Js ?_|refine Jt ?_|refine Ju ?_|refine Jv ?_|refine Jw ?_|refine Jx ?_|refine Jy ?_|refine Jz ?_|refine JA ?_|refine JB ?_|refine JC ?_|refine JD ?_|refine JE ?_|refine JF ?_|refine JG ?_|refine JH ?_|refine JI ?_|refine JJ ?_|refine JK ?_|refine JL ?_|refine JM ?_|refine CW.skip (PW.code ?_)|refine RW.nil (PW.code ?_))
  refine CW.seq ?_
  repeat (first|refine Ja ?_|refine Jb ?_|refine Jc ?_|refine Jd ?_|refine Je ?_|refine Jf ?_|refine Jg ?_|refine Jh ?_|refine Ji ?_|refine Jj ?_|refine Jk ?_|refine Jl ?_|refine Jm ?_|refine Jn ?_|refine Jo ?_|refine Jp ?_|refine Jq ?_|refine Jr ?_|refine Js ?_|refine Jt ?_|refine Ju ?_|refine Jv ?_|refine Jw ?_|refine Jx ?_|refine Jy ?_|refine Jz ?_|refine JA ?_|refine JB ?_|refine JC ?_|refine JD ?_|refine JE ?_|refine JF ?_|refine JG ?_|refine JH ?_|refine JI ?_|refine JJ ?_|refine JK ?_|refine JL ?_|refine JM ?_|refine CW.skip (PW.code ?_)|refine RW.nil (PW.code ?_))
  refine RW.call Try.call7 rfl (fun w2 hw => works_ret) rfl ?_
  repeat (first|refine Ja ?_|refine Jb ?_|refine Jc ?_|refine Jd ?_|refine Je ?_|refine Jf ?_|refine Jg ?_|refine Jh ?_|refine Ji ?_|refine Jj ?_|refine Jk ?_|refine Jl ?_|refine Jm ?_|refine Jn ?_|refine Jo ?_|refine Jp ?_|refine Jq ?_|refine Jr ?_|refine Js ?_|refine Jt ?_|refine Ju ?_|refine Jv ?_|refine Jw ?_|refine Jx ?_|refine Jy ?_|refine Jz ?_|refine JA ?_|refine JB ?_|refine JC ?_|refine JD ?_|refine JE ?_|refine JF ?_|refine JG ?_|refine JH ?_|refine JI ?_|refine JJ ?_|refine JK ?_|refine JL ?_|refine JM ?_|refine CW.skip (PW.code ?_)|refine RW.nil (PW.code ?_))
  refine CW.cf rfl ?_
  refine CW.skip ?_
  refine PW.code ?_
  repeat (first|refine Ja ?_|refine Jb ?_|refine Jc ?_|refine Jd ?_|refine Je ?_|refine Jf ?_|refine Jg ?_|refine Jh ?_|refine Ji ?_|refine Jj ?_|refine Jk ?_|refine Jl ?_|refine Jm ?_|refine Jn ?_|refine Jo ?_|refine Jp ?_|refine Jq ?_|refine Jr ?_|refine Js ?_|refine Jt ?_|refine Ju ?_|refine Jv ?_|refine Jw ?_|refine Jx ?_|refine Jy ?_|refine Jz ?_|refine JA ?_|refine JB ?_|refine JC ?_|refine JD ?_|refine JE ?_|refine JF ?_|refine JG ?_|refine JH ?_|refine JI ?_|refine JJ ?_|refine JK ?_|refine JL ?_|refine JM ?_|refine CW.skip (PW.code ?_)|refine RW.nil (PW.code ?_))
  refine RW.call Try.call8 rfl (fun w2 hw => check_ret (StatOn.mono hst (ro_call hw))) rfl ?_
  repeat (first|refine Ja ?_|refine Jb ?_|refine Jc ?_|refine Jd ?_|refine Je ?_|refine Jf ?_|refine Jg ?_|refine Jh ?_|refine Ji ?_|refine Jj ?_|refine Jk ?_|refine Jl ?_|refine Jm ?_|refine Jn ?_|refine Jo ?_|refine Jp ?_|refine Jq ?_|refine Jr ?_|refine Js ?_|refine Jt ?_|refine Ju ?_|refine Jv ?_|refine Jw ?_|refine Jx ?_|refine Jy ?_|refine Jz ?_|refine JA ?_|refine JB ?_|refine JC ?_|refine JD ?_|refine JE ?_|refine JF ?_|refine JG ?_|refine JH ?_|refine JI ?_|refine JJ ?_|refine JK ?_|refine JL ?_|refine JM ?_|refine CW.skip (PW.code ?_)|refine RW.nil (PW.code ?_))
  refine CW.seq ?_
  repeat (first|refine Ja ?_|refine Jb ?_|refine Jc ?_|refine Jd ?_|refine Je ?_|refine Jf ?_|refine Jg ?_|refine Jh ?_|refine Ji ?_|refine Jj ?_|refine Jk ?_|refine Jl ?_|refine Jm ?_|refine Jn ?_|refine Jo ?_|refine Jp ?_|refine Jq ?_|refine Jr ?_|refine Js ?_|refine Jt ?_|refine Ju ?_|refine Jv ?_|refine Jw ?_|refine Jx ?_|refine Jy ?_|refine Jz ?_|refine JA ?_|refine JB ?_|refine JC ?_|refine JD ?_|refine JE ?_|refine JF ?_|refine JG ?_|refine JH ?_|refine JI ?_|refine JJ ?_|refine JK ?_|refine JL ?_|refine JM ?_|refine CW.skip (PW.code ?_)|refine RW.nil (PW.code ?_))
  refine CW.ite rfl (fun h1 => ?_) (fun h1 => ?_)
  · repeat (first|refine Ja ?_|refine Jb ?_|refine Jc ?_|refine Jd ?_|refine Je ?_|refine Jf ?_|refine Jg ?_|refine Jh ?_|refine Ji ?_|refine Jj ?_|refine Jk ?_|refine Jl ?_|refine Jm ?_|refine Jn ?_|refine Jo ?_|refine Jp ?_|refine Jq ?_|refine Jr ?_|refine Js ?_|refine Jt ?_|refine Ju ?_|refine Jv ?_|refine Jw ?_|refine Jx ?_|refine Jy ?_|refine Jz ?_|refine JA ?_|refine JB ?_|refine JC ?_|refine JD ?_|refine JE ?_|refine JF ?_|refine JG ?_|refine JH ?_|refine JI ?_|refine JJ ?_|refine JK ?_|refine JL ?_|refine JM ?_|refine CW.skip (PW.code ?_)|refine RW.nil (PW.code ?_))
    exact CW.ret1 rfl Try.results3 rfl rfl fun w hw => ⟨rfl, hw.kp⟩
  obtain ⟨n, hn, hcn⟩ := check_ok (Decidable.of_not_not h1)
  obtain ⟨n1, n2, n3, n4, ⟨k1, k2, k3, k4⟩, l1, l2, l3, l4⟩ := cuts hn
  rw [hcn]
  refine CW.skip ?_
  refine PW.code ?_
  repeat (first|refine Ja ?_|refine Jb ?_|refine Jc ?_|refine Jd ?_|refine Je ?_|refine Jf ?_|refine Jg ?_|refine Jh ?_|refine Ji ?_|refine Jj ?_|refine Jk ?_|refine Jl ?_|refine Jm ?_|refine Jn ?_|refine Jo ?_|refine Jp ?_|refine Jq ?_|refine Jr ?_|refine Js ?_|refine Jt ?_|refine Ju ?_|refine Jv ?_|refine Jw ?_|refine Jx ?_|refine Jy ?_|refine Jz ?_|refine JA ?_|refine JB ?_|refine JC ?_|refine JD ?_|refine JE ?_|refine JF ?_|refine JG ?_|refine JH ?_|refine JI ?_|refine JJ ?_|refine JK ?_|refine JL ?_|refine JM ?_|refine CW.skip (PW.code ?_)|refine RW.nil (PW.code ?_))
  refine RW.store_blk [] rfl rfl rfl rfl rfl (by show 8 < 9; omega) ?_
  refine RW.change [] (blk b1 (x.no8.stat (cut1 s)) 31) (fun w F hp => hp) ?_
  repeat (first|refine Ja ?_|refine Jb ?_|refine Jc ?_|refine Jd ?_|refine Je ?_|refine Jf ?_|refine Jg ?_|refine Jh ?_|refine Ji ?_|refine Jj ?_|refine Jk ?_|refine Jl ?_|refine Jm ?_|refine Jn ?_|refine Jo ?_|refine Jp ?_|refine Jq ?_|refine Jr ?_|refine Js ?_|refine Jt ?_|refine Ju ?_|refine Jv ?_|refine Jw ?_|refine Jx ?_|refine Jy ?_|refine Jz ?_|refine JA ?_|refine JB ?_|refine JC ?_|refine JD ?_|refine JE ?_|refine JF ?_|refine JG ?_|refine JH ?_|refine JI ?_|refine JJ ?_|refine JK ?_|refine JL ?_|refine JM ?_|refine CW.skip (PW.code ?_)|refine RW.nil (PW.code ?_))
  refine RW.call Try.call8 rfl (fun w2 hw => check_at (on_cut1 (StatOn.mono hst (ro_call hw))) k1) rfl ?_
  repeat (first|refine Ja ?_|refine Jb ?_|refine Jc ?_|refine Jd ?_|refine Je ?_|refine Jf ?_|refine Jg ?_|refine Jh ?_|refine Ji ?_|refine Jj ?_|refine Jk ?_|refine Jl ?_|refine Jm ?_|refine Jn ?_|refine Jo ?_|refine Jp ?_|refine Jq ?_|refine Jr ?_|refine Js ?_|refine Jt ?_|refine Ju ?_|refine Jv ?_|refine Jw ?_|refine Jx ?_|refine Jy ?_|refine Jz ?_|refine JA ?_|refine JB ?_|refine JC ?_|refine JD ?_|refine JE ?_|refine JF ?_|refine JG ?_|refine JH ?_|refine JI ?_|refine JJ ?_|refine JK ?_|refine JL ?_|refine JM ?_|refine CW.skip (PW.code ?_)|refine RW.nil (PW.code ?_))
  refine RW.store_blk [] rfl rfl rfl rfl rfl (by show 7 < 9; omega) ?_
  refine RW.change [] (blk b1 (x.no7.stat (cut2 s)) 31) (fun w F hp => hp) ?_
  repeat (first|refine Ja ?_|refine Jb ?_|refine Jc ?_|refine Jd ?_|refine Je ?_|refine Jf ?_|refine Jg ?_|refine Jh ?_|refine Ji ?_|refine Jj ?_|refine Jk ?_|refine Jl ?_|refine Jm ?_|refine Jn ?_|refine Jo ?_|refine Jp ?_|refine Jq ?_|refine Jr ?_|refine Js ?_|refine Jt ?_|refine Ju ?_|refine Jv ?_|refine Jw ?_|refine Jx ?_|refine Jy ?_|refine Jz ?_|refine JA ?_|refine JB ?_|refine JC ?_|refine JD ?_|refine JE ?_|refine JF ?_|refine JG ?_|refine JH ?_|refine JI ?_|refine JJ ?_|refine JK ?_|refine JL ?_|refine JM ?_|refine CW.skip (PW.code ?_)|refine RW.nil (PW.code ?_))
  refine RW.call Try.call8 rfl (fun w2 hw => check_at (on_cut2 (StatOn.mono hst (ro_call hw))) k2) rfl ?_
  repeat (first|refine Ja ?_|refine Jb ?_|refine Jc ?_|refine Jd ?_|refine Je ?_|refine Jf ?_|refine Jg ?_|refine Jh ?_|refine Ji ?_|refine Jj ?_|refine Jk ?_|refine Jl ?_|refine Jm ?_|refine Jn ?_|refine Jo ?_|refine Jp ?_|refine Jq ?_|refine Jr ?_|refine Js ?_|refine Jt ?_|refine Ju ?_|refine Jv ?_|refine Jw ?_|refine Jx ?_|refine Jy ?_|refine Jz ?_|refine JA ?_|refine JB ?_|refine JC ?_|refine JD ?_|refine JE ?_|refine JF ?_|refine JG ?_|refine JH ?_|refine JI ?_|refine JJ ?_|refine JK ?_|refine JL ?_|refine JM ?_|refine CW.skip (PW.code ?_)|refine RW.nil (PW.code ?_))
  refine CW.seq ?_
  repeat (first|refine Ja ?_|refine Jb ?_|refine Jc ?_|refine Jd ?_|refine Je ?_|refine Jf ?_|refine Jg ?_|refine Jh ?_|refine Ji ?_|refine Jj ?_|refine Jk ?_|refine Jl ?_|refine Jm ?_|refine Jn ?_|refine Jo ?_|refine Jp ?_|refine Jq ?_|refine Jr ?_|refine Js ?_|refine Jt ?_|refine Ju ?_|refine Jv ?_|refine Jw ?_|refine Jx ?_|refine Jy ?_|refine Jz ?_|refine JA ?_|refine JB ?_|refine JC ?_|refine JD ?_|refine JE ?_|refine JF ?_|refine JG ?_|refine JH ?_|refine JI ?_|refine JJ ?_|refine JK ?_|refine JL ?_|refine JM ?_|refine CW.skip (PW.code ?_)|refine RW.nil (PW.code ?_))
  refine RW.splitD 45 rfl (fun h => absurd h (by omega)) (fun _ => ?_)
  repeat (first|refine Ja ?_|refine Jb ?_|refine Jc ?_|refine Jd ?_|refine Je ?_|refine Jf ?_|refine Jg ?_|refine Jh ?_|refine Ji ?_|refine Jj ?_|refine Jk ?_|refine Jl ?_|refine Jm ?_|refine Jn ?_|refine Jo ?_|refine Jp ?_|refine Jq ?_|refine Jr ?_|refine Js ?_|refine Jt ?_|refine Ju ?_|refine Jv ?_|refine Jw ?_|refine Jx ?_|refine Jy ?_|refine Jz ?_|refine JA ?_|refine JB ?_|refine JC ?_|refine JD ?_|refine JE ?_|refine JF ?_|refine JG ?_|refine JH ?_|refine JI ?_|refine JJ ?_|refine JK ?_|refine JL ?_|refine JM ?_|refine CW.skip (PW.code ?_)|refine RW.nil (PW.code ?_))
  refine CW.ite rfl (fun h => absurd h (by omega)) (fun _ => ?_)
  refine CW.skip ?_
  refine PW.code ?_
  refine CW.cut (ι := Unit) (fun _ => [(1, ptrV b1), (8, .int .i64 n2)]) (fun _ => [blk b1 (x.no7.stat (cut3 s)) 31]) ?_ (fun _ => ?_)
  · repeat (first|refine Ja ?_|refine Jb ?_|refine Jc ?_|refine Jd ?_|refine Je ?_|refine Jf ?_|refine Jg ?_|refine Jh ?_|refine Ji ?_|refine Jj ?_|refine Jk ?_|refine Jl ?_|refine Jm ?_|refine Jn ?_|refine Jo ?_|refine Jp ?_|refine Jq ?_|refine Jr ?_|refine Js ?_|refine Jt ?_|refine Ju ?_|refine Jv ?_|refine Jw ?_|refine Jx ?_|refine Jy ?_|refine Jz ?_|refine JA ?_|refine JB ?_|refine JC ?_|refine JD ?_|refine JE ?_|refine JF ?_|refine JG ?_|refine JH ?_|refine JI ?_|refine JJ ?_|refine JK ?_|refine JL ?_|refine JM ?_|refine CW.skip (PW.code ?_)|refine RW.nil (PW.code ?_))
    refine CW.ite rfl (fun hr => ?_) (fun hr => ?_)
    · refine CW.region ?_
      have er : (sRules (cut2 s)).length = (sRules s).length := rfl
      have ec : x.no7.c6 = x.c6 := rfl
      have hcap := sl_cap hst.rules
      have hsm := sl_small hst.rules
      unfold reach at hsm
      repeat (first|refine Ja ?_|refine Jb ?_|refine Jc ?_|refine Jd ?_|refine Je ?_|refine Jf ?_|refine Jg ?_|refine Jh ?_|refine Ji ?_|refine Jj ?_|refine Jk ?_|refine Jl ?_|refine Jm ?_|refine Jn ?_|refine Jo ?_|refine Jp ?_|refine Jq ?_|refine Jr ?_|refine Js ?_|refine Jt ?_|refine Ju ?_|refine Jv ?_|refine Jw ?_|refine Jx ?_|refine Jy ?_|refine Jz ?_|refine JA ?_|refine JB ?_|refine JC ?_|refine JD ?_|refine JE ?_|refine JF ?_|refine JG ?_|refine JH ?_|refine JI ?_|refine JJ ?_|refine JK ?_|refine JL ?_|refine JM ?_|refine CW.skip (PW.code ?_)|refine RW.nil (PW.code ?_))
      refine RW.sub rfl rfl (w64 (by omega) (by omega)) rfl ?_
      refine RW.slice_h rfl rfl (by omega) (by omega) rfl ?_
      repeat (first|refine Ja ?_|refine Jb ?_|refine Jc ?_|refine Jd ?_|refine Je ?_|refine Jf ?_|refine Jg ?_|refine Jh ?_|refine Ji ?_|refine Jj ?_|refine Jk ?_|refine Jl ?_|refine Jm ?_|refine Jn ?_|refine Jo ?_|refine Jp ?_|refine Jq ?_|refine Jr ?_|refine Js ?_|refine Jt ?_|refine Ju ?_|refine Jv ?_|refine Jw ?_|refine Jx ?_|refine Jy ?_|refine Jz ?_|refine JA ?_|refine JB ?_|refine JC ?_|refine JD ?_|refine JE ?_|refine JF ?_|refine JG ?_|refine JH ?_|refine JI ?_|refine JJ ?_|refine JK ?_|refine JL ?_|refine JM ?_|refine CW.skip (PW.code ?_)|refine RW.nil (PW.code ?_))
      refine RW.store_blk [] rfl rfl rfl rfl rfl (by show 6 < 9; omega) ?_
      refine RW.nil ?_
      refine PW.meet () ⟨rfl, rfl, trivial⟩ (fun h => ?_)
      refine h.change (pre := []) (r := []) (fun F hp => ?_)
      have e : (((sRules (cut2 s)).length : Int) - 1).toNat = (sRules s).dropLast.length := by rw [List.length_dropLast]; omega
      rw [e] at hp
      exact hp
    · refine CW.skip ?_
      have er : (sRules (cut2 s)).length = (sRules s).length := rfl
      have h0 : sRules s = [] := List.eq_nil_of_length_eq_zero (by omega)
      refine PW.meet () ⟨rfl, rfl, trivial⟩ (fun h => ?_)
      refine h.change (pre := []) (r := []) (fun F hp => ?_)
      have e : (sRules s).length = (sRules s).dropLast.length := by rw [h0]; rfl
      show (blk b1 [.string s.1, .slice x.A1 (sKinds s).length x.c1, .slice x.A2 (sMembers s).length x.c2, .slice x.A3 (sPreds s).length x.c3, .slice x.A4 (sClasses s).length x.c4, .slice x.A5 (sSources s).length x.c5, .slice x.A6 (sRules s).dropLast.length x.c6, .slice none 0 0, .slice none 0 0] _).p _ _
      rw [← e]
      exact hp
  repeat (first|refine Ja ?_|refine Jb ?_|refine Jc ?_|refine Jd ?_|refine Je ?_|refine Jf ?_|refine Jg ?_|refine Jh ?_|refine Ji ?_|refine Jj ?_|refine Jk ?_|refine Jl ?_|refine Jm ?_|refine Jn ?_|refine Jo ?_|refine Jp ?_|refine Jq ?_|refine Jr ?_|refine Js ?_|refine Jt ?_|refine Ju ?_|refine Jv ?_|refine Jw ?_|refine Jx ?_|refine Jy ?_|refine Jz ?_|refine JA ?_|refine JB ?_|refine JC ?_|refine JD ?_|refine JE ?_|refine JF ?_|refine JG ?_|refine JH ?_|refine JI ?_|refine JJ ?_|refine JK ?_|refine JL ?_|refine JM ?_|refine CW.skip (PW.code ?_)|refine RW.nil (PW.code ?_))
  refine RW.call Try.call8 rfl (fun w2 hw => check_at (on_cut3 (StatOn.mono hst (ro_call hw))) k3) rfl ?_
  repeat (first|refine Ja ?_|refine Jb ?_|refine Jc ?_|refine Jd ?_|refine Je ?_|refine Jf ?_|refine Jg ?_|refine Jh ?_|refine Ji ?_|refine Jj ?_|refine Jk ?_|refine Jl ?_|refine Jm ?_|refine Jn ?_|refine Jo ?_|refine Jp ?_|refine Jq ?_|refine Jr ?_|refine Js ?_|refine Jt ?_|refine Ju ?_|refine Jv ?_|refine Jw ?_|refine Jx ?_|refine Jy ?_|refine Jz ?_|refine JA ?_|refine JB ?_|refine JC ?_|refine JD ?_|refine JE ?_|refine JF ?_|refine JG ?_|refine JH ?_|refine JI ?_|refine JJ ?_|refine JK ?_|refine JL ?_|refine JM ?_|refine CW.skip (PW.code ?_)|refine RW.nil (PW.code ?_))
  refine CW.cut (ι := Unit) (fun _ => [(1, ptrV b1), (8, .int .i64 n2), (9, .int .i64 0), (10, .int .i64 n3)]) (fun _ => [blk b1 (x.no7.stat (cut4 s)) 31]) ?_ (fun _ => ?_)
  · repeat (first|refine Ja ?_|refine Jb ?_|refine Jc ?_|refine Jd ?_|refine Je ?_|refine Jf ?_|refine Jg ?_|refine Jh ?_|refine Ji ?_|refine Jj ?_|refine Jk ?_|refine Jl ?_|refine Jm ?_|refine Jn ?_|refine Jo ?_|refine Jp ?_|refine Jq ?_|refine Jr ?_|refine Js ?_|refine Jt ?_|refine Ju ?_|refine Jv ?_|refine Jw ?_|refine Jx ?_|refine Jy ?_|refine Jz ?_|refine JA ?_|refine JB ?_|refine JC ?_|refine JD ?_|refine JE ?_|refine JF ?_|refine JG ?_|refine JH ?_|refine JI ?_|refine JJ ?_|refine JK ?_|refine JL ?_|refine JM ?_|refine CW.skip (PW.code ?_)|refine RW.nil (PW.code ?_))
    refine CW.ite rfl (fun hr => ?_) (fun hr => ?_)
    · refine CW.region ?_
      have er : (sClasses (cut3 s)).length = (sClasses s).length := rfl
      have ec : x.no7.c4 = x.c4 := rfl
      have hcap := sl_cap hst.classes
      have hsm := sl_small hst.classes
      unfold reach at hsm
      repeat (first|refine Ja ?_|refine Jb ?_|refine Jc ?_|refine Jd ?_|refine Je ?_|refine Jf ?_|refine Jg ?_|refine Jh ?_|refine Ji ?_|refine Jj ?_|refine Jk ?_|refine Jl ?_|refine Jm ?_|refine Jn ?_|refine Jo ?_|refine Jp ?_|refine Jq ?_|refine Jr ?_|refine Js ?_|refine Jt ?_|refine Ju ?_|refine Jv ?_|refine Jw ?_|refine Jx ?_|refine Jy ?_|refine Jz ?_|refine JA ?_|refine JB ?_|refine JC ?_|refine JD ?_|refine JE ?_|refine JF ?_|refine JG ?_|refine JH ?_|refine JI ?_|refine JJ ?_|refine JK ?_|refine JL ?_|refine JM ?_|refine CW.skip (PW.code ?_)|refine RW.nil (PW.code ?_))
      refine RW.sub rfl rfl (w64 (by omega) (by omega)) rfl ?_
      refine RW.slice_h rfl rfl (by omega) (by omega) rfl ?_
      repeat (first|refine Ja ?_|refine Jb ?_|refine Jc ?_|refine Jd ?_|refine Je ?_|refine Jf ?_|refine Jg ?_|refine Jh ?_|refine Ji ?_|refine Jj ?_|refine Jk ?_|refine Jl ?_|refine Jm ?_|refine Jn ?_|refine Jo ?_|refine Jp ?_|refine Jq ?_|refine Jr ?_|refine Js ?_|refine Jt ?_|refine Ju ?_|refine Jv ?_|refine Jw ?_|refine Jx ?_|refine Jy ?_|refine Jz ?_|refine JA ?_|refine JB ?_|refine JC ?_|refine JD ?_|refine JE ?_|refine JF ?_|refine JG ?_|refine JH ?_|refine JI ?_|refine JJ ?_|refine JK ?_|refine JL ?_|refine JM ?_|refine CW.skip (PW.code ?_)|refine RW.nil (PW.code ?_))
      refine RW.store_blk [] rfl rfl rfl rfl rfl (by show 4 < 9; omega) ?_
      refine RW.nil ?_
      refine PW.meet () ⟨rfl, rfl, rfl, rfl, trivial⟩ (fun h => ?_)
      refine h.change (pre := []) (r := []) (fun F hp => ?_)
      have e : (((sClasses (cut3 s)).length : Int) - 1).toNat = (sClasses s).dropLast.length := by rw [List.length_dropLast]; omega
      rw [e] at hp
      exact hp
    · refine CW.skip ?_
      have er : (sClasses (cut3 s)).length = (sClasses s).length := rfl
      have h0 : sClasses s = [] := List.eq_nil_of_length_eq_zero (by omega)
      refine PW.meet () ⟨rfl, rfl, rfl, rfl, trivial⟩ (fun h => ?_)
      refine h.change (pre := []) (r := []) (fun F hp => ?_)
      have e : (sClasses s).length = (sClasses s).dropLast.length := by rw [h0]; rfl
      show (blk b1 [.string s.1, .slice x.A1 (sKinds s).length x.c1, .slice x.A2 (sMembers s).length x.c2, .slice x.A3 (sPreds s).length x.c3, .slice x.A4 (sClasses s).dropLast.length x.c4, .slice x.A5 (sSources s).length x.c5, .slice x.A6 (sRules s).dropLast.length x.c6, .slice none 0 0, .slice none 0 0] _).p _ _
      rw [← e]
      exact hp
  repeat (first|refine Ja ?_|refine Jb ?_|refine Jc ?_|refine Jd ?_|refine Je ?_|refine Jf ?_|refine Jg ?_|refine Jh ?_|refine Ji ?_|refine Jj ?_|refine Jk ?_|refine Jl ?_|refine Jm ?_|refine Jn ?_|refine Jo ?_|refine Jp ?_|refine Jq ?_|refine Jr ?_|refine Js ?_|refine Jt ?_|refine Ju ?_|refine Jv ?_|refine Jw ?_|refine Jx ?_|refine Jy ?_|refine Jz ?_|refine JA ?_|refine JB ?_|refine JC ?_|refine JD ?_|refine JE ?_|refine JF ?_|refine JG ?_|refine JH ?_|refine JI ?_|refine JJ ?_|refine JK ?_|refine JL ?_|refine JM ?_|refine CW.skip (PW.code ?_)|refine RW.nil (PW.code ?_))
  refine RW.call Try.call8 rfl (fun w2 hw => check_at (on_cut4 (StatOn.mono hst (ro_call hw))) k4) rfl ?_
  repeat (first|refine Ja ?_|refine Jb ?_|refine Jc ?_|refine Jd ?_|refine Je ?_|refine Jf ?_|refine Jg ?_|refine Jh ?_|refine Ji ?_|refine Jj ?_|refine Jk ?_|refine Jl ?_|refine Jm ?_|refine Jn ?_|refine Jo ?_|refine Jp ?_|refine Jq ?_|refine Jr ?_|refine Js ?_|refine Jt ?_|refine Ju ?_|refine Jv ?_|refine Jw ?_|refine Jx ?_|refine Jy ?_|refine Jz ?_|refine JA ?_|refine JB ?_|refine JC ?_|refine JD ?_|refine JE ?_|refine JF ?_|refine JG ?_|refine JH ?_|refine JI ?_|refine JJ ?_|refine JK ?_|refine JL ?_|refine JM ?_|refine CW.skip (PW.code ?_)|refine RW.nil (PW.code ?_))
  refine RW.splitD 95 rfl (fun _ => ?_) (fun h => absurd l3 h)
  repeat (first|refine Ja ?_|refine Jb ?_|refine Jc ?_|refine Jd ?_|refine Je ?_|refine Jf ?_|refine Jg ?_|refine Jh ?_|refine Ji ?_|refine Jj ?_|refine Jk ?_|refine Jl ?_|refine Jm ?_|refine Jn ?_|refine Jo ?_|refine Jp ?_|refine Jq ?_|refine Jr ?_|refine Js ?_|refine Jt ?_|refine Ju ?_|refine Jv ?_|refine Jw ?_|refine Jx ?_|refine Jy ?_|refine Jz ?_|refine JA ?_|refine JB ?_|refine JC ?_|refine JD ?_|refine JE ?_|refine JF ?_|refine JG ?_|refine JH ?_|refine JI ?_|refine JJ ?_|refine JK ?_|refine JL ?_|refine JM ?_|refine CW.skip (PW.code ?_)|refine RW.nil (PW.code ?_))
  exact CW.ret1 rfl Try.results3 rfl rfl fun w hw => ⟨by rw [decide_eq_true l4], hw.kp⟩
theorem law_ResolveLess (W : World) {c0 : List Value} {x0 : kStat.V} (y0 : Rd kStat (mem W Any) c0 x0) : Ret Try.prog 3 [.agg c0.toArray] W (.bool true) := by
  obtain ⟨x, rfl, h⟩ := rd_stat y0
  exact less_ret (h.mono (mem_up fun _ _ k => k))
end Go.Proofs.Ytkfmlekomfnleaa
