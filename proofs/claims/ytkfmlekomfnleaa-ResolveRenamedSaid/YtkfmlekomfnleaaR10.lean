/- The resolver's premise, rule. Conditions: none. -/
import Derived.Test.YtkfmlekomfnleaaR9
set_option linter.unusedVariables false
set_option linter.unusedSimpArgs false
set_option maxRecDepth 10000
namespace Go.Proofs.Ytkfmlekomfnleaa
open Go Go.RowKit

attribute [local irreducible] RW CW
def premiseD (s : kStat.V) (at_ : Int) (fr : Bool) (x : Sc) (p : kPrem.V) : Ex Sc :=
  if p.1 = 1 then bnd (literalD s at_ fr x p.2.1) .ok
  else if p.1 = 2 then bnd (guardD s at_ fr x p.2.2.1) .ok
  else if p.1 = 3 then bnd (unlikeD s at_ x p.2.2.2.1) fun x' => bnd (unlikeD s at_ x' p.2.2.2.2) .ok
  else bnd (wantD false 1 at_) fun _ => .ok x
theorem premiseD_len {s : kStat.V} {at_ : Int} {fr : Bool} {x x' : Sc} {p : kPrem.V} (hK : fourK s) (h : premiseD s at_ fr x p = .ok x') : x'.names.length ≤ x.names.length + 64 := by
  unfold premiseD at h
  split at h
  · obtain ⟨_, h1, h⟩ := bnd_inv h
    cases h
    have := literalD_len hK h1
    omega
  · split at h
    · obtain ⟨_, h1, h⟩ := bnd_inv h
      cases h
      exact guardD_len hK h1
    · split at h
      · obtain ⟨_, h1, h⟩ := bnd_inv h
        obtain ⟨_, h2, h⟩ := bnd_inv h
        cases h
        have := unlikeD_len h1
        have := unlikeD_len h2
        omega
      · obtain ⟨_, h1, h⟩ := bnd_inv h
        cases h1
set_option maxHeartbeats 4000000 in
theorem premise_ret {br bc bm : Nat} {s : kStat.V} {at_ : Int} {x : RC} {fr : Bool} {y : Sc} {v : Value} {cs : List Value} {p : kPrem.V} {w : World} {F : Nat → Prop} (hR : RS w (fun b => ¬ F b) br s at_ x) (hl : Rd kPrem (mem w (fun b => ¬ F b)) cs p) (hK : fourK s)
    (hH : Sep (scH bc bm fr y v) w F) (hbd : y.names.length + 64 ≤ 1000000) :
    RetE Try.prog 97 [.pointer (some ⟨br, 0, none⟩), .pointer (some ⟨bc, 0, none⟩), .agg cs.toArray] w F (premiseD s at_ fr y p) (fun _ _ => .tuple #[]) (fun y' (v' : Value) => scH bc bm fr y' v') := by
  generalize hS : premiseD s at_ fr y p = SP
  have hS := hS.symm
  unfold premiseD at hS
  obtain ⟨A, c, A1, c1, A2, c2, rfl, hlit, hgu⟩ := Rd.premT hl
  have fin : ∀ {y' : Sc} {u : Value} {c0 : List Value}, SP = .ok y' → PW (⟨Try.f97.ntmps, [], w, F⟩ : Env) (RetP Try.prog Try.f97 (XP w F SP (fun _ _ => .tuple #[]) (fun y' (v' : Value) => scH bc bm fr y' v'))) [] (scH bc bm fr y' u) := fun {y' u c0} hS =>
    PW.ret (rs := []) (vs := []) Try.results97 rfl ResOK.nil fun w hw => XP.ok (V := fun _ _ => .tuple #[]) u hS hw
  refine Calls.enter Try.func97 rfl _ rfl rfl (S := F) (H := scH bc bm fr y v) hH ?_
  refine CW.seqR ?_
  refine RW.box_agg rfl rfl fun b5 _ => ?_
  repeat (first|refine Ja ?_|refine Jb ?_|refine Jc ?_|refine Jd ?_|refine Je ?_|refine Jf ?_|refine Jg ?_|refine Jh ?_|refine Ji ?_|refine Jj ?_|refine Jk ?_|refine Jl ?_|refine Jm ?_|refine Jn ?_|refine Jo ?_|refine Jp ?_|refine Jq ?_|refine Jr ?_|refine Js ?_|refine Jt ?_|refine Ju ?_|refine Jv ?_|refine Jw ?_|refine Jx ?_|refine Jy ?_|refine Jz ?_|refine JA ?_|refine JB ?_|refine JC ?_|refine JD ?_|refine JE ?_|refine JF ?_|refine JG ?_|refine JH ?_|refine JI ?_|refine JJ ?_|refine JK ?_|refine JL ?_|refine JM ?_|refine CW.skip (PW.code ?_)|refine RW.nil (PW.code ?_))
  refine CW.block ?_
  repeat (first|refine Ja ?_|refine Jb ?_|refine Jc ?_|refine Jd ?_|refine Je ?_|refine Jf ?_|refine Jg ?_|refine Jh ?_|refine Ji ?_|refine Jj ?_|refine Jk ?_|refine Jl ?_|refine Jm ?_|refine Jn ?_|refine Jo ?_|refine Jp ?_|refine Jq ?_|refine Jr ?_|refine Js ?_|refine Jt ?_|refine Ju ?_|refine Jv ?_|refine Jw ?_|refine Jx ?_|refine Jy ?_|refine Jz ?_|refine JA ?_|refine JB ?_|refine JC ?_|refine JD ?_|refine JE ?_|refine JF ?_|refine JG ?_|refine JH ?_|refine JI ?_|refine JJ ?_|refine JK ?_|refine JL ?_|refine JM ?_|refine CW.skip (PW.code ?_)|refine RW.nil (PW.code ?_))
  refine CW.ite rfl (fun h1 => ?_) (fun h1 => ?_)
  · rw [if_pos h1] at hS
    refine CW.region ?_
    repeat (first|refine Ja ?_|refine Jb ?_|refine Jc ?_|refine Jd ?_|refine Je ?_|refine Jf ?_|refine Jg ?_|refine Jh ?_|refine Ji ?_|refine Jj ?_|refine Jk ?_|refine Jl ?_|refine Jm ?_|refine Jn ?_|refine Jo ?_|refine Jp ?_|refine Jq ?_|refine Jr ?_|refine Js ?_|refine Jt ?_|refine Ju ?_|refine Jv ?_|refine Jw ?_|refine Jx ?_|refine Jy ?_|refine Jz ?_|refine JA ?_|refine JB ?_|refine JC ?_|refine JD ?_|refine JE ?_|refine JF ?_|refine JG ?_|refine JH ?_|refine JI ?_|refine JJ ?_|refine JK ?_|refine JL ?_|refine JM ?_|refine CW.skip (PW.code ?_)|refine RW.nil (PW.code ?_))
    refine RW.load_part5 [] rfl rfl rfl rfl ?_
    refine RW.take [1, 2, 3, 0] ?_
    refine RW.callE (r := [_]) (scH bc bm fr y v) hS Try.call98 rfl (fun w2 F2 hw2 hF2 h1 _ => literal_ret (RS.callF hR hw2 hF2) (hlit.mono (ro_callF hw2 hF2)) hK h1 (by omega)) rfl rfl rfl fun z u hz hS => ?_
    exact RW.nil (PW.ret (rs := []) (vs := []) Try.results97 rfl ResOK.nil fun w hw => XP.ok (V := fun _ _ => .tuple #[]) u hS (hw.sub (List.sublist_append_left _ _)))
  rw [if_neg h1] at hS
  repeat (first|refine Ja ?_|refine Jb ?_|refine Jc ?_|refine Jd ?_|refine Je ?_|refine Jf ?_|refine Jg ?_|refine Jh ?_|refine Ji ?_|refine Jj ?_|refine Jk ?_|refine Jl ?_|refine Jm ?_|refine Jn ?_|refine Jo ?_|refine Jp ?_|refine Jq ?_|refine Jr ?_|refine Js ?_|refine Jt ?_|refine Ju ?_|refine Jv ?_|refine Jw ?_|refine Jx ?_|refine Jy ?_|refine Jz ?_|refine JA ?_|refine JB ?_|refine JC ?_|refine JD ?_|refine JE ?_|refine JF ?_|refine JG ?_|refine JH ?_|refine JI ?_|refine JJ ?_|refine JK ?_|refine JL ?_|refine JM ?_|refine CW.skip (PW.code ?_)|refine RW.nil (PW.code ?_))
  refine CW.ite rfl (fun h2 => ?_) (fun h2 => ?_)
  · rw [if_pos h2] at hS
    refine CW.region ?_
    repeat (first|refine Ja ?_|refine Jb ?_|refine Jc ?_|refine Jd ?_|refine Je ?_|refine Jf ?_|refine Jg ?_|refine Jh ?_|refine Ji ?_|refine Jj ?_|refine Jk ?_|refine Jl ?_|refine Jm ?_|refine Jn ?_|refine Jo ?_|refine Jp ?_|refine Jq ?_|refine Jr ?_|refine Js ?_|refine Jt ?_|refine Ju ?_|refine Jv ?_|refine Jw ?_|refine Jx ?_|refine Jy ?_|refine Jz ?_|refine JA ?_|refine JB ?_|refine JC ?_|refine JD ?_|refine JE ?_|refine JF ?_|refine JG ?_|refine JH ?_|refine JI ?_|refine JJ ?_|refine JK ?_|refine JL ?_|refine JM ?_|refine CW.skip (PW.code ?_)|refine RW.nil (PW.code ?_))
    refine RW.take [1, 2, 3, 0] ?_
    refine RW.callE (r := [_]) (scH bc bm fr y v) hS Try.call107 rfl (fun w2 F2 hw2 hF2 h1 _ => guard_ret (RS.callF hR hw2 hF2) (hgu.mono (ro_callF hw2 hF2)) hK h1 hbd) rfl rfl rfl fun z u hz hS => ?_
    exact RW.nil (PW.ret (rs := []) (vs := []) Try.results97 rfl ResOK.nil fun w hw => XP.ok (V := fun _ _ => .tuple #[]) u hS (hw.sub (List.sublist_append_left _ _)))
  rw [if_neg h2] at hS
  repeat (first|refine Ja ?_|refine Jb ?_|refine Jc ?_|refine Jd ?_|refine Je ?_|refine Jf ?_|refine Jg ?_|refine Jh ?_|refine Ji ?_|refine Jj ?_|refine Jk ?_|refine Jl ?_|refine Jm ?_|refine Jn ?_|refine Jo ?_|refine Jp ?_|refine Jq ?_|refine Jr ?_|refine Js ?_|refine Jt ?_|refine Ju ?_|refine Jv ?_|refine Jw ?_|refine Jx ?_|refine Jy ?_|refine Jz ?_|refine JA ?_|refine JB ?_|refine JC ?_|refine JD ?_|refine JE ?_|refine JF ?_|refine JG ?_|refine JH ?_|refine JI ?_|refine JJ ?_|refine JK ?_|refine JL ?_|refine JM ?_|refine CW.skip (PW.code ?_)|refine RW.nil (PW.code ?_))
  refine CW.ite rfl (fun h3 => ?_) (fun h3 => ?_)
  · rw [if_pos h3] at hS
    repeat (first|refine Ja ?_|refine Jb ?_|refine Jc ?_|refine Jd ?_|refine Je ?_|refine Jf ?_|refine Jg ?_|refine Jh ?_|refine Ji ?_|refine Jj ?_|refine Jk ?_|refine Jl ?_|refine Jm ?_|refine Jn ?_|refine Jo ?_|refine Jp ?_|refine Jq ?_|refine Jr ?_|refine Js ?_|refine Jt ?_|refine Ju ?_|refine Jv ?_|refine Jw ?_|refine Jx ?_|refine Jy ?_|refine Jz ?_|refine JA ?_|refine JB ?_|refine JC ?_|refine JD ?_|refine JE ?_|refine JF ?_|refine JG ?_|refine JH ?_|refine JI ?_|refine JJ ?_|refine JK ?_|refine JL ?_|refine JM ?_|refine CW.skip (PW.code ?_)|refine RW.nil (PW.code ?_))
    refine RW.take [1, 2, 3, 0] ?_
    refine RW.callE (r := [_]) (scH bc bm fr y v) hS Try.call108 rfl (fun w2 F2 hw2 hF2 h1 _ => unlike_ret (RS.callF hR hw2 hF2) h1 (by omega)) rfl rfl rfl fun z u hz hS => ?_
    have hn := unlikeD_len hz
    repeat (first|refine Ja ?_|refine Jb ?_|refine Jc ?_|refine Jd ?_|refine Je ?_|refine Jf ?_|refine Jg ?_|refine Jh ?_|refine Ji ?_|refine Jj ?_|refine Jk ?_|refine Jl ?_|refine Jm ?_|refine Jn ?_|refine Jo ?_|refine Jp ?_|refine Jq ?_|refine Jr ?_|refine Js ?_|refine Jt ?_|refine Ju ?_|refine Jv ?_|refine Jw ?_|refine Jx ?_|refine Jy ?_|refine Jz ?_|refine JA ?_|refine JB ?_|refine JC ?_|refine JD ?_|refine JE ?_|refine JF ?_|refine JG ?_|refine JH ?_|refine JI ?_|refine JJ ?_|refine JK ?_|refine JL ?_|refine JM ?_|refine CW.skip (PW.code ?_)|refine RW.nil (PW.code ?_))
    refine CW.region ?_
    repeat (first|refine Ja ?_|refine Jb ?_|refine Jc ?_|refine Jd ?_|refine Je ?_|refine Jf ?_|refine Jg ?_|refine Jh ?_|refine Ji ?_|refine Jj ?_|refine Jk ?_|refine Jl ?_|refine Jm ?_|refine Jn ?_|refine Jo ?_|refine Jp ?_|refine Jq ?_|refine Jr ?_|refine Js ?_|refine Jt ?_|refine Ju ?_|refine Jv ?_|refine Jw ?_|refine Jx ?_|refine Jy ?_|refine Jz ?_|refine JA ?_|refine JB ?_|refine JC ?_|refine JD ?_|refine JE ?_|refine JF ?_|refine JG ?_|refine JH ?_|refine JI ?_|refine JJ ?_|refine JK ?_|refine JL ?_|refine JM ?_|refine CW.skip (PW.code ?_)|refine RW.nil (PW.code ?_))
    refine RW.callE (r := [_]) (scH bc bm fr z u) hS Try.call108 rfl (fun w2 F2 hw2 hF2 h1 _ => unlike_ret (RS.callF hR hw2 hF2) h1 (by omega)) rfl rfl rfl fun z' u' hz' hS => ?_
    exact RW.nil (PW.ret (rs := []) (vs := []) Try.results97 rfl ResOK.nil fun w hw => XP.ok (V := fun _ _ => .tuple #[]) u' hS (hw.sub (List.sublist_append_left _ _)))
  rw [if_neg h3] at hS
  refine CW.region ?_
  repeat (first|refine Ja ?_|refine Jb ?_|refine Jc ?_|refine Jd ?_|refine Je ?_|refine Jf ?_|refine Jg ?_|refine Jh ?_|refine Ji ?_|refine Jj ?_|refine Jk ?_|refine Jl ?_|refine Jm ?_|refine Jn ?_|refine Jo ?_|refine Jp ?_|refine Jq ?_|refine Jr ?_|refine Js ?_|refine Jt ?_|refine Ju ?_|refine Jv ?_|refine Jw ?_|refine Jx ?_|refine Jy ?_|refine Jz ?_|refine JA ?_|refine JB ?_|refine JC ?_|refine JD ?_|refine JE ?_|refine JF ?_|refine JG ?_|refine JH ?_|refine JI ?_|refine JJ ?_|refine JK ?_|refine JL ?_|refine JM ?_|refine CW.skip (PW.code ?_)|refine RW.nil (PW.code ?_))
  refine RW.want hS rfl (rfl) (fun w hw => RS.at_cell hR hw) rfl rfl rfl fun hb _ => absurd hb (by decide)
def freeD (at_ : Int) (km : List (Str × Str)) (n : Str) : Ex Unit := bnd (wantD (decide (¬ (getM km n).getD ByteArray.empty = ByteArray.empty)) 86 at_) fun _ => .ok ()
def ruleD (s : kStat.V) (at_ : Int) (x : kRule.V) : Ex Sc :=
  bnd (foldX (premiseD s at_ false) ⟨[], []⟩ x.2.2.2.2.1) fun c =>
  bnd (literalD s at_ false c x.2.2.2.2.2.2) fun c =>
  bnd (allX (freeD at_ c.km) c.names) fun _ => .ok c
theorem Rd.ruleT {M : Mem} {cs : List Value} {p : kRule.V} (h : Rd kRule M cs p) : ∃ A c A1 c1, cs = [.string p.1, .string p.2.1, .int .i64 p.2.2.1, .int .i64 p.2.2.2.1, .slice A p.2.2.2.2.1.length c, .int .i64 p.2.2.2.2.2.1, .bool p.2.2.2.2.2.2.1, .string p.2.2.2.2.2.2.2.1, .slice A1 p.2.2.2.2.2.2.2.2.1.length c1, .bool p.2.2.2.2.2.2.2.2.2.1, .int .i64 p.2.2.2.2.2.2.2.2.2.2] ∧
    Rd kPrems M [.slice A p.2.2.2.2.1.length c] p.2.2.2.2.1 ∧ Rd kLitT M [.bool p.2.2.2.2.2.2.1, .string p.2.2.2.2.2.2.2.1, .slice A1 p.2.2.2.2.2.2.2.2.1.length c1, .bool p.2.2.2.2.2.2.2.2.2.1, .int .i64 p.2.2.2.2.2.2.2.2.2.2] p.2.2.2.2.2.2 := by
  obtain ⟨x1, x2, rfl, h1, x3, x4, rfl, h3, x5, x6, rfl, h5, x7, x8, rfl, h7, x9, x10, rfl, h9, x11, x12, rfl, h11, h12⟩ := h
  have h12' := h12
  obtain rfl := str_cell h1
  obtain rfl := str_cell h3
  obtain rfl := int_cell h5
  obtain rfl := int_cell h7
  obtain ⟨A, c, rfl⟩ := sl_cell h9
  obtain rfl := int_cell h11
  obtain ⟨A1, c1, rfl, _⟩ := Rd.litT h12
  exact ⟨A, c, A1, c1, rfl, h9, h12'⟩
set_option maxHeartbeats 8000000 in
theorem rule_ret {br : Nat} {s : kStat.V} {at_ : Int} {x : RC} {cs : List Value} {p : kRule.V} {w : World} (hR : RS w (fun b => ¬ No b) br s at_ x) (hl : Rd kRule (mem w (fun b => ¬ No b)) cs p) (hK : fourK s) (hB : p.2.2.2.2.1.length ≤ 16) :
    RetE Try.prog 42 [.pointer (some ⟨br, 0, none⟩), .agg cs.toArray] w No (ruleD s at_ p) (fun _ (q : Nat × Nat × Value) => .pointer (some ⟨q.1, 0, none⟩)) (fun y' q => scH q.1 q.2.1 false y' q.2.2) := by
  generalize hS : ruleD s at_ p = SP
  have hS := hS.symm
  unfold ruleD at hS
  obtain ⟨A, c, A1, c1, rfl, hbody, hhead⟩ := Rd.ruleT hl
  have hle : Mem.le (mem w (fun b => ¬ No b)) (mem w (fun b => ¬ No b)) := Mem.le_refl _
  refine Calls.enter Try.func42 rfl _ rfl rfl (S := No) (H := []) trivial ?_
  refine CW.seqR ?_
  refine RW.box_agg rfl rfl fun b3 _ => ?_
  repeat (first|refine Ja ?_|refine Jb ?_|refine Jc ?_|refine Jd ?_|refine Je ?_|refine Jf ?_|refine Jg ?_|refine Jh ?_|refine Ji ?_|refine Jj ?_|refine Jk ?_|refine Jl ?_|refine Jm ?_|refine Jn ?_|refine Jo ?_|refine Jp ?_|refine Jq ?_|refine Jr ?_|refine Js ?_|refine Jt ?_|refine Ju ?_|refine Jv ?_|refine Jw ?_|refine Jx ?_|refine Jy ?_|refine Jz ?_|refine JA ?_|refine JB ?_|refine JC ?_|refine JD ?_|refine JE ?_|refine JF ?_|refine JG ?_|refine JH ?_|refine JI ?_|refine JJ ?_|refine JK ?_|refine JL ?_|refine JM ?_|refine CW.skip (PW.code ?_)|refine RW.nil (PW.code ?_))
  refine RW.makeMap (κ := Str) (α := Str) strK strK .string (fun o ho => by cases ho) rfl fun bm => ?_
  refine RW.build (v := .agg #[.slice none 0 0, .map (some bm), .bool false]) rfl (fun w => by kernel_rfl) rfl ?_
  refine RW.box_agg (l := [.slice none 0 0, .map (some bm), .bool false]) rfl rfl fun bc _ => ?_
  refine RW.add_ (ownHP 9 1 (.slice none 0 0) []) (fun w _ => .inl ⟨rfl, rfl⟩) ?_
  repeat (first|refine Ja ?_|refine Jb ?_|refine Jc ?_|refine Jd ?_|refine Je ?_|refine Jf ?_|refine Jg ?_|refine Jh ?_|refine Ji ?_|refine Jj ?_|refine Jk ?_|refine Jl ?_|refine Jm ?_|refine Jn ?_|refine Jo ?_|refine Jp ?_|refine Jq ?_|refine Jr ?_|refine Js ?_|refine Jt ?_|refine Ju ?_|refine Jv ?_|refine Jw ?_|refine Jx ?_|refine Jy ?_|refine Jz ?_|refine JA ?_|refine JB ?_|refine JC ?_|refine JD ?_|refine JE ?_|refine JF ?_|refine JG ?_|refine JH ?_|refine JI ?_|refine JJ ?_|refine JK ?_|refine JL ?_|refine JM ?_|refine CW.skip (PW.code ?_)|refine RW.nil (PW.code ?_))
  refine CW.take [3, 1, 0, 2] ?_
  refine CW.seq ?_
  repeat (first|refine Ja ?_|refine Jb ?_|refine Jc ?_|refine Jd ?_|refine Je ?_|refine Jf ?_|refine Jg ?_|refine Jh ?_|refine Ji ?_|refine Jj ?_|refine Jk ?_|refine Jl ?_|refine Jm ?_|refine Jn ?_|refine Jo ?_|refine Jp ?_|refine Jq ?_|refine Jr ?_|refine Js ?_|refine Jt ?_|refine Ju ?_|refine Jv ?_|refine Jw ?_|refine Jx ?_|refine Jy ?_|refine Jz ?_|refine JA ?_|refine JB ?_|refine JC ?_|refine JD ?_|refine JE ?_|refine JF ?_|refine JG ?_|refine JH ?_|refine JI ?_|refine JJ ?_|refine JK ?_|refine JL ?_|refine JM ?_|refine CW.skip (PW.code ?_)|refine RW.nil (PW.code ?_))
  refine CW.block ?_
  refine CW.loop (ι := { q : Nat × Sc × Value // q.1 ≤ p.2.2.2.2.1.length ∧ q.2.1.names.length ≤ 64 * q.1 ∧ SP = bnd (foldX (premiseD s at_ false) q.2.1 (p.2.2.2.2.1.drop q.1)) _ }) (fun q => [(0, .pointer (some ⟨br, 0, none⟩)), (3, .pointer (some ⟨b3, 0, none⟩)), (5, .pointer (some ⟨bc, 0, none⟩)), (14, .slice A p.2.2.2.2.1.length c), (15, .int .i64 p.2.2.2.2.1.length), (16, .int .i64 q.1.1)])
    (fun q => blk b3 [.string p.1, .string p.2.1, .int .i64 p.2.2.1, .int .i64 p.2.2.2.1, .slice A p.2.2.2.2.1.length c, .int .i64 p.2.2.2.2.2.1, .bool p.2.2.2.2.2.2.1, .string p.2.2.2.2.2.2.2.1, .slice A1 p.2.2.2.2.2.2.2.2.1.length c1, .bool p.2.2.2.2.2.2.2.2.2.1, .int .i64 p.2.2.2.2.2.2.2.2.2.2] 56 :: scH bc bm false q.1.2.1 q.1.2.2) (fun q => p.2.2.2.2.1.length - q.1.1) ⟨(0, ⟨[], []⟩, .slice none 0 0), Nat.zero_le _, Nat.le_refl _, hS⟩ ⟨rfl, rfl, rfl, rfl, rfl, rfl, trivial⟩ (fun h => h) ?_
  intro ⟨⟨k, z, u⟩, hk, hn, hS⟩
  dsimp only at hS hk hn ⊢
  repeat (first|refine Ja ?_|refine Jb ?_|refine Jc ?_|refine Jd ?_|refine Je ?_|refine Jf ?_|refine Jg ?_|refine Jh ?_|refine Ji ?_|refine Jj ?_|refine Jk ?_|refine Jl ?_|refine Jm ?_|refine Jn ?_|refine Jo ?_|refine Jp ?_|refine Jq ?_|refine Jr ?_|refine Js ?_|refine Jt ?_|refine Ju ?_|refine Jv ?_|refine Jw ?_|refine Jx ?_|refine Jy ?_|refine Jz ?_|refine JA ?_|refine JB ?_|refine JC ?_|refine JD ?_|refine JE ?_|refine JF ?_|refine JG ?_|refine JH ?_|refine JI ?_|refine JJ ?_|refine JK ?_|refine JL ?_|refine JM ?_|refine CW.skip (PW.code ?_)|refine RW.nil (PW.code ?_))
  refine CW.seq ?_
  refine CW.ite rfl (fun hlt => ?_) (fun hge => ?_)
  · have hlt' : k < p.2.2.2.2.1.length := by simpa using hlt
    rw [foldX_step hlt'] at hS
    obtain ⟨B1, O1, es1, hA, hl1, hr, hm⟩ := sl_get hbody (List.getElem?_eq_getElem hlt')
    have hr' := hr
    obtain ⟨PA, pc, PA1, pc1, PA2, pc2, rfl, _⟩ := Rd.premT hr
    generalize hpr : p.2.2.2.2.1[k] = pr at *
    repeat (first|refine Ja ?_|refine Jb ?_|refine Jc ?_|refine Jd ?_|refine Je ?_|refine Jf ?_|refine Jg ?_|refine Jh ?_|refine Ji ?_|refine Jj ?_|refine Jk ?_|refine Jl ?_|refine Jm ?_|refine Jn ?_|refine Jo ?_|refine Jp ?_|refine Jq ?_|refine Jr ?_|refine Js ?_|refine Jt ?_|refine Ju ?_|refine Jv ?_|refine Jw ?_|refine Jx ?_|refine Jy ?_|refine Jz ?_|refine JA ?_|refine JB ?_|refine JC ?_|refine JD ?_|refine JE ?_|refine JF ?_|refine JG ?_|refine JH ?_|refine JI ?_|refine JJ ?_|refine JK ?_|refine JL ?_|refine JM ?_|refine CW.skip (PW.code ?_)|refine RW.nil (PW.code ?_))
    refine CW.seq ?_
    refine CW.block ?_
    repeat (first|refine Ja ?_|refine Jb ?_|refine Jc ?_|refine Jd ?_|refine Je ?_|refine Jf ?_|refine Jg ?_|refine Jh ?_|refine Ji ?_|refine Jj ?_|refine Jk ?_|refine Jl ?_|refine Jm ?_|refine Jn ?_|refine Jo ?_|refine Jp ?_|refine Jq ?_|refine Jr ?_|refine Js ?_|refine Jt ?_|refine Ju ?_|refine Jv ?_|refine Jw ?_|refine Jx ?_|refine Jy ?_|refine Jz ?_|refine JA ?_|refine JB ?_|refine JC ?_|refine JD ?_|refine JE ?_|refine JF ?_|refine JG ?_|refine JH ?_|refine JI ?_|refine JJ ?_|refine JK ?_|refine JL ?_|refine JM ?_|refine CW.skip (PW.code ?_)|refine RW.nil (PW.code ?_))
    refine RW.indexAddrE hA rfl rfl (by omega) hlt rfl ?_
    refine RW.load_ros rfl hle hm rfl rfl (Nat.zero_lt_succ _) rfl ?_
    refine RW.alloc rfl rfl fun b7 _ => ?_
    refine RW.store_whole [] rfl rfl rfl rfl rfl (by simp [Value.oneCell']) ?_
    refine RW.next ?_
    refine CW.region ?_
    repeat (first|refine Ja ?_|refine Jb ?_|refine Jc ?_|refine Jd ?_|refine Je ?_|refine Jf ?_|refine Jg ?_|refine Jh ?_|refine Ji ?_|refine Jj ?_|refine Jk ?_|refine Jl ?_|refine Jm ?_|refine Jn ?_|refine Jo ?_|refine Jp ?_|refine Jq ?_|refine Jr ?_|refine Js ?_|refine Jt ?_|refine Ju ?_|refine Jv ?_|refine Jw ?_|refine Jx ?_|refine Jy ?_|refine Jz ?_|refine JA ?_|refine JB ?_|refine JC ?_|refine JD ?_|refine JE ?_|refine JF ?_|refine JG ?_|refine JH ?_|refine JI ?_|refine JJ ?_|refine JK ?_|refine JL ?_|refine JM ?_|refine CW.skip (PW.code ?_)|refine RW.nil (PW.code ?_))
    refine RW.take [2, 3, 4, 1] ?_
    refine RW.callE (r := [_]) (scH bc bm false z u) hS Try.call97 rfl (fun w2 F2 hw2 hF2 h1 _ => premise_ret (RS.callF hR hw2 hF2) (hr'.mono (ro_callF hw2 hF2)) hK h1 (by omega)) rfl rfl rfl fun z' u' hz hS => ?_
    have hn' := premiseD_len hK hz
    refine RW.nil ?_
    refine PW.code ?_
    refine CW.region ?_
    refine RW.add rfl rfl (w64 (by omega) (by omega)) rfl ?_
    repeat (first|refine Ja ?_|refine Jb ?_|refine Jc ?_|refine Jd ?_|refine Je ?_|refine Jf ?_|refine Jg ?_|refine Jh ?_|refine Ji ?_|refine Jj ?_|refine Jk ?_|refine Jl ?_|refine Jm ?_|refine Jn ?_|refine Jo ?_|refine Jp ?_|refine Jq ?_|refine Jr ?_|refine Js ?_|refine Jt ?_|refine Ju ?_|refine Jv ?_|refine Jw ?_|refine Jx ?_|refine Jy ?_|refine Jz ?_|refine JA ?_|refine JB ?_|refine JC ?_|refine JD ?_|refine JE ?_|refine JF ?_|refine JG ?_|refine JH ?_|refine JI ?_|refine JJ ?_|refine JK ?_|refine JL ?_|refine JM ?_|refine CW.skip (PW.code ?_)|refine RW.nil (PW.code ?_))
    refine RW.nil ?_
    exact PW.againT ⟨(k + 1, z', u'), hlt', by show z'.names.length ≤ 64 * (k + 1); omega, hS⟩ [3, 0, 1, 2] ⟨rfl, rfl, rfl, rfl, rfl, rfl, trivial⟩ rfl (by show p.2.2.2.2.1.length - (k + 1) < p.2.2.2.2.1.length - k; omega)
  have hge' : p.2.2.2.2.1.length ≤ k := by simpa using hge
  rw [foldX_end hge'] at hS
  refine CW.exit rfl ?_
  refine PW.code ?_
  repeat (first|refine Ja ?_|refine Jb ?_|refine Jc ?_|refine Jd ?_|refine Je ?_|refine Jf ?_|refine Jg ?_|refine Jh ?_|refine Ji ?_|refine Jj ?_|refine Jk ?_|refine Jl ?_|refine Jm ?_|refine Jn ?_|refine Jo ?_|refine Jp ?_|refine Jq ?_|refine Jr ?_|refine Js ?_|refine Jt ?_|refine Ju ?_|refine Jv ?_|refine Jw ?_|refine Jx ?_|refine Jy ?_|refine Jz ?_|refine JA ?_|refine JB ?_|refine JC ?_|refine JD ?_|refine JE ?_|refine JF ?_|refine JG ?_|refine JH ?_|refine JI ?_|refine JJ ?_|refine JK ?_|refine JL ?_|refine JM ?_|refine CW.skip (PW.code ?_)|refine RW.nil (PW.code ?_))
  refine RW.load_part5 [] rfl rfl rfl rfl ?_
  refine RW.take [1, 2, 3, 0] ?_
  refine RW.callE (r := [_]) (scH bc bm false z u) hS Try.call98 rfl (fun w2 F2 hw2 hF2 h1 _ => literal_ret (RS.callF hR hw2 hF2) (hhead.mono (ro_callF hw2 hF2)) hK h1 (by omega)) rfl rfl rfl fun z' u' hz hS => ?_
  have hn' := literalD_len hK hz
  refine RW.have_ (φ := ∃ A c, u' = .slice A z'.names.length c ∧ (z'.names ≠ [] → ∃ B, A = some ⟨B, 0, none⟩)) (fun w hw => ?_) (fun ⟨NA, nc, hu, hNA⟩ => ?_)
  · rcases own_form (pre := [_]) hw with ⟨h1, h2⟩ | ⟨B, c, h1, _⟩
    · have : z'.names = [] := by simpa using h2
      exact ⟨none, 0, by rw [h1, this]; rfl, fun h => absurd this h⟩
    · rw [List.length_map] at h1
      exact ⟨_, c, h1, fun _ => ⟨B, rfl⟩⟩
  subst hu
  repeat (first|refine Ja ?_|refine Jb ?_|refine Jc ?_|refine Jd ?_|refine Je ?_|refine Jf ?_|refine Jg ?_|refine Jh ?_|refine Ji ?_|refine Jj ?_|refine Jk ?_|refine Jl ?_|refine Jm ?_|refine Jn ?_|refine Jo ?_|refine Jp ?_|refine Jq ?_|refine Jr ?_|refine Js ?_|refine Jt ?_|refine Ju ?_|refine Jv ?_|refine Jw ?_|refine Jx ?_|refine Jy ?_|refine Jz ?_|refine JA ?_|refine JB ?_|refine JC ?_|refine JD ?_|refine JE ?_|refine JF ?_|refine JG ?_|refine JH ?_|refine JI ?_|refine JJ ?_|refine JK ?_|refine JL ?_|refine JM ?_|refine CW.skip (PW.code ?_)|refine RW.nil (PW.code ?_))
  refine CW.seq ?_
  repeat (first|refine Ja ?_|refine Jb ?_|refine Jc ?_|refine Jd ?_|refine Je ?_|refine Jf ?_|refine Jg ?_|refine Jh ?_|refine Ji ?_|refine Jj ?_|refine Jk ?_|refine Jl ?_|refine Jm ?_|refine Jn ?_|refine Jo ?_|refine Jp ?_|refine Jq ?_|refine Jr ?_|refine Js ?_|refine Jt ?_|refine Ju ?_|refine Jv ?_|refine Jw ?_|refine Jx ?_|refine Jy ?_|refine Jz ?_|refine JA ?_|refine JB ?_|refine JC ?_|refine JD ?_|refine JE ?_|refine JF ?_|refine JG ?_|refine JH ?_|refine JI ?_|refine JJ ?_|refine JK ?_|refine JL ?_|refine JM ?_|refine CW.skip (PW.code ?_)|refine RW.nil (PW.code ?_))
  refine CW.block ?_
  refine CW.loop (ι := { k : Nat // k ≤ z'.names.length ∧ SP = bnd (allX (freeD at_ z'.km) (z'.names.drop k)) _ }) (fun k => [(0, .pointer (some ⟨br, 0, none⟩)), (5, .pointer (some ⟨bc, 0, none⟩)), (33, .slice NA z'.names.length nc), (34, .int .i64 z'.names.length), (35, .int .i64 k.1)])
    (fun k => scH bc bm false z' (.slice NA z'.names.length nc)) (fun k => z'.names.length - k.1) ⟨0, Nat.zero_le _, hS⟩ ⟨rfl, rfl, rfl, rfl, rfl, trivial⟩ (fun h => h.sub (List.sublist_append_left _ _)) ?_
  intro ⟨j, hj, hS⟩
  dsimp only
  repeat (first|refine Ja ?_|refine Jb ?_|refine Jc ?_|refine Jd ?_|refine Je ?_|refine Jf ?_|refine Jg ?_|refine Jh ?_|refine Ji ?_|refine Jj ?_|refine Jk ?_|refine Jl ?_|refine Jm ?_|refine Jn ?_|refine Jo ?_|refine Jp ?_|refine Jq ?_|refine Jr ?_|refine Js ?_|refine Jt ?_|refine Ju ?_|refine Jv ?_|refine Jw ?_|refine Jx ?_|refine Jy ?_|refine Jz ?_|refine JA ?_|refine JB ?_|refine JC ?_|refine JD ?_|refine JE ?_|refine JF ?_|refine JG ?_|refine JH ?_|refine JI ?_|refine JJ ?_|refine JK ?_|refine JL ?_|refine JM ?_|refine CW.skip (PW.code ?_)|refine RW.nil (PW.code ?_))
  refine CW.seq ?_
  refine CW.ite rfl (fun hlt => ?_) (fun hge => ?_)
  · have hlt' : j < z'.names.length := by simpa using hlt
    rw [foldX_step hlt', freeD, bnd_assoc] at hS
    obtain ⟨NB, rfl⟩ := hNA (by intro h; rw [h] at hlt'; simp at hlt')
    repeat (first|refine Ja ?_|refine Jb ?_|refine Jc ?_|refine Jd ?_|refine Je ?_|refine Jf ?_|refine Jg ?_|refine Jh ?_|refine Ji ?_|refine Jj ?_|refine Jk ?_|refine Jl ?_|refine Jm ?_|refine Jn ?_|refine Jo ?_|refine Jp ?_|refine Jq ?_|refine Jr ?_|refine Js ?_|refine Jt ?_|refine Ju ?_|refine Jv ?_|refine Jw ?_|refine Jx ?_|refine Jy ?_|refine Jz ?_|refine JA ?_|refine JB ?_|refine JC ?_|refine JD ?_|refine JE ?_|refine JF ?_|refine JG ?_|refine JH ?_|refine JI ?_|refine JJ ?_|refine JK ?_|refine JL ?_|refine JM ?_|refine CW.skip (PW.code ?_)|refine RW.nil (PW.code ?_))
    refine CW.seq ?_
    refine CW.block ?_
    repeat (first|refine Ja ?_|refine Jb ?_|refine Jc ?_|refine Jd ?_|refine Je ?_|refine Jf ?_|refine Jg ?_|refine Jh ?_|refine Ji ?_|refine Jj ?_|refine Jk ?_|refine Jl ?_|refine Jm ?_|refine Jn ?_|refine Jo ?_|refine Jp ?_|refine Jq ?_|refine Jr ?_|refine Js ?_|refine Jt ?_|refine Ju ?_|refine Jv ?_|refine Jw ?_|refine Jx ?_|refine Jy ?_|refine Jz ?_|refine JA ?_|refine JB ?_|refine JC ?_|refine JD ?_|refine JE ?_|refine JF ?_|refine JG ?_|refine JH ?_|refine JI ?_|refine JJ ?_|refine JK ?_|refine JL ?_|refine JM ?_|refine CW.skip (PW.code ?_)|refine RW.nil (PW.code ?_))
    refine RW.indexAddr rfl rfl (by omega) hlt rfl ?_
    refine RW.load_fact (v := .string z'.names[j]) rfl rfl rfl (fun w hw => ?_) ?_
    · have h1 := own_cells (pre := [_]) hw
      have h2 := flatten_at (sz := 1) (es := z'.names.map strE) (fun x hx => by obtain ⟨a, _, rfl⟩ := List.mem_map.1 hx; rfl) (i := j) (x := strE z'.names[j]) (by rw [List.getElem?_map, List.getElem?_eq_getElem hlt']; rfl) (j := 0) (v := .string z'.names[j]) rfl
      exact h1.at_ (j * 1 + 0) h2
    repeat (first|refine Ja ?_|refine Jb ?_|refine Jc ?_|refine Jd ?_|refine Je ?_|refine Jf ?_|refine Jg ?_|refine Jh ?_|refine Ji ?_|refine Jj ?_|refine Jk ?_|refine Jl ?_|refine Jm ?_|refine Jn ?_|refine Jo ?_|refine Jp ?_|refine Jq ?_|refine Jr ?_|refine Js ?_|refine Jt ?_|refine Ju ?_|refine Jv ?_|refine Jw ?_|refine Jx ?_|refine Jy ?_|refine Jz ?_|refine JA ?_|refine JB ?_|refine JC ?_|refine JD ?_|refine JE ?_|refine JF ?_|refine JG ?_|refine JH ?_|refine JI ?_|refine JJ ?_|refine JK ?_|refine JL ?_|refine JM ?_|refine CW.skip (PW.code ?_)|refine RW.nil (PW.code ?_))
    refine CW.region ?_
    repeat (first|refine Ja ?_|refine Jb ?_|refine Jc ?_|refine Jd ?_|refine Je ?_|refine Jf ?_|refine Jg ?_|refine Jh ?_|refine Ji ?_|refine Jj ?_|refine Jk ?_|refine Jl ?_|refine Jm ?_|refine Jn ?_|refine Jo ?_|refine Jp ?_|refine Jq ?_|refine Jr ?_|refine Js ?_|refine Jt ?_|refine Ju ?_|refine Jv ?_|refine Jw ?_|refine Jx ?_|refine Jy ?_|refine Jz ?_|refine JA ?_|refine JB ?_|refine JC ?_|refine JD ?_|refine JE ?_|refine JF ?_|refine JG ?_|refine JH ?_|refine JI ?_|refine JJ ?_|refine JK ?_|refine JL ?_|refine JM ?_|refine CW.skip (PW.code ?_)|refine RW.nil (PW.code ?_))
    refine RW.lookup [_, _] (a0 := ByteArray.empty) rfl rfl rfl rfl ?_
    repeat (first|refine Ja ?_|refine Jb ?_|refine Jc ?_|refine Jd ?_|refine Je ?_|refine Jf ?_|refine Jg ?_|refine Jh ?_|refine Ji ?_|refine Jj ?_|refine Jk ?_|refine Jl ?_|refine Jm ?_|refine Jn ?_|refine Jo ?_|refine Jp ?_|refine Jq ?_|refine Jr ?_|refine Js ?_|refine Jt ?_|refine Ju ?_|refine Jv ?_|refine Jw ?_|refine Jx ?_|refine Jy ?_|refine Jz ?_|refine JA ?_|refine JB ?_|refine JC ?_|refine JD ?_|refine JE ?_|refine JF ?_|refine JG ?_|refine JH ?_|refine JI ?_|refine JJ ?_|refine JK ?_|refine JL ?_|refine JM ?_|refine CW.skip (PW.code ?_)|refine RW.nil (PW.code ?_))
    refine RW.want hS rfl (rfl) (fun w hw => RS.at_cell hR hw) rfl rfl rfl fun hb hS => ?_
    refine RW.nil ?_
    refine PW.code ?_
    refine CW.region ?_
    refine RW.add rfl rfl (w64 (by omega) (by omega)) rfl ?_
    repeat (first|refine Ja ?_|refine Jb ?_|refine Jc ?_|refine Jd ?_|refine Je ?_|refine Jf ?_|refine Jg ?_|refine Jh ?_|refine Ji ?_|refine Jj ?_|refine Jk ?_|refine Jl ?_|refine Jm ?_|refine Jn ?_|refine Jo ?_|refine Jp ?_|refine Jq ?_|refine Jr ?_|refine Js ?_|refine Jt ?_|refine Ju ?_|refine Jv ?_|refine Jw ?_|refine Jx ?_|refine Jy ?_|refine Jz ?_|refine JA ?_|refine JB ?_|refine JC ?_|refine JD ?_|refine JE ?_|refine JF ?_|refine JG ?_|refine JH ?_|refine JI ?_|refine JJ ?_|refine JK ?_|refine JL ?_|refine JM ?_|refine CW.skip (PW.code ?_)|refine RW.nil (PW.code ?_))
    refine RW.nil ?_
    exact PW.again ⟨j + 1, hlt', hS⟩ ⟨rfl, rfl, rfl, rfl, rfl, trivial⟩ (fun h => h) (by show z'.names.length - (j + 1) < z'.names.length - j; omega)
  have hge' : z'.names.length ≤ j := by simpa using hge
  rw [foldX_end hge'] at hS
  refine CW.exit rfl ?_
  refine PW.code ?_
  repeat (first|refine Ja ?_|refine Jb ?_|refine Jc ?_|refine Jd ?_|refine Je ?_|refine Jf ?_|refine Jg ?_|refine Jh ?_|refine Ji ?_|refine Jj ?_|refine Jk ?_|refine Jl ?_|refine Jm ?_|refine Jn ?_|refine Jo ?_|refine Jp ?_|refine Jq ?_|refine Jr ?_|refine Js ?_|refine Jt ?_|refine Ju ?_|refine Jv ?_|refine Jw ?_|refine Jx ?_|refine Jy ?_|refine Jz ?_|refine JA ?_|refine JB ?_|refine JC ?_|refine JD ?_|refine JE ?_|refine JF ?_|refine JG ?_|refine JH ?_|refine JI ?_|refine JJ ?_|refine JK ?_|refine JL ?_|refine JM ?_|refine CW.skip (PW.code ?_)|refine RW.nil (PW.code ?_))
  exact CW.ret rfl (PW.ret (rs := [.tmp 4]) (vs := [_]) Try.results42 rfl (ResOK.tmp rfl ResOK.nil) fun w hw => XP.ok (V := fun _ (q : Nat × Nat × Value) => .pointer (some ⟨q.1, 0, none⟩)) (c := fun y' q => scH q.1 q.2.1 false y' q.2.2) (bc, bm, .slice NA z'.names.length nc) hS hw)
end Go.Proofs.Ytkfmlekomfnleaa
