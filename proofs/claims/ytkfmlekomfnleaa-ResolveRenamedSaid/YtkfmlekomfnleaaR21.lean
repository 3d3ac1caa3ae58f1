/- resolve.Vars, by the calculus. Conditions: none. -/
import Derived.Test.YtkfmlekomfnleaaR20
import Derived.Test.YtkfmlekomfnleaaP1
set_option linter.unusedVariables false
set_option linter.unusedSimpArgs false
set_option maxRecDepth 10000
namespace Go.Proofs.Ytkfmlekomfnleaa
open Go Go.RowKit Go.MapKept

theorem check_ok {s : kStat.V} (h : (checkD s).1 = 0) : ∃ n, itemsD s 0 = .ok n ∧ checkD s = (0, n) := by
  unfold checkD at h ⊢
  cases hi : itemsD s 0 with
  | ok n => exact ⟨n, rfl, rfl⟩
  | error e => rw [hi] at h; exact absurd h (nz_items e hi)
theorem Like.refl (s : kStat.V) : Like s s := ⟨rfl, rfl, rfl, rfl⟩
theorem items_rules {s : kStat.V} {n : Int} (ho : itemsD s 0 = .ok n) : fourK s ∧ ∀ x ∈ sRules s, x.2.2.2.2.1.length ≤ 16 ∧ ∃ c, ruleD s 0 x = .ok c := by
  obtain ⟨_, h0, ho⟩ := bnd_inv ho
  obtain ⟨z1, h1, ho⟩ := bnd_inv ho
  obtain ⟨z2, h2, ho⟩ := bnd_inv ho
  obtain ⟨z3, h3, ho⟩ := bnd_inv ho
  obtain ⟨z4, h4, ho⟩ := bnd_inv ho
  obtain ⟨z5, h5, ho⟩ := bnd_inv ho
  obtain ⟨z6, h6, ho⟩ := bnd_inv ho
  refine ⟨fourK_of h3, eachD_all (fun a i y x y' h => ?_) h6⟩
  obtain ⟨_, _, h⟩ := bnd_inv h
  obtain ⟨_, _, h⟩ := bnd_inv h
  obtain ⟨_, _, h⟩ := bnd_inv h
  obtain ⟨_, _, h⟩ := bnd_inv h
  obtain ⟨_, _, h⟩ := bnd_inv h
  obtain ⟨_, hw, h⟩ := bnd_inv h
  obtain ⟨c, hc, h⟩ := bnd_inv h
  have := of_decide_eq_true (want_inv hw)
  exact ⟨by omega, c, imp_rule (Like.refl s) _ hc⟩
theorem ruleD_len {s : kStat.V} {a : Int} {x : kRule.V} {c : Sc} (hK : fourK s) (hB : x.2.2.2.2.1.length ≤ 16) (h : ruleD s a x = .ok c) : c.names.length ≤ 1028 := by
  obtain ⟨c1, h1, h⟩ := bnd_inv h
  obtain ⟨c2, h2, h⟩ := bnd_inv h
  obtain ⟨_, _, h⟩ := bnd_inv h
  cases h
  have h3 := foldX_len (n := fun x => x.names.length) (d := 64) (fun _ _ _ h => premiseD_len hK h) h1
  have h4 := literalD_len hK h2
  simp at h3
  omega
section
variable {P : Program} {E : Env} {ops : Array Oper} {Q : Pst} {rest : List Oper} {G : List (Nat × Value)} {H : List HP}
variable {dst : Nat} {ty : TypeId} {pos : String} {af : Array Edge}
/-- A call that might unwind, and does not. -/
theorem RW.callOk {l : List Operand} {vs : List Value} {at_ : Array TypeId} {f : FuncId} {α β : Type} {sp : Ex α} {V : α → β → Value} {c : α → β → List HP} (x0 : α) (hsp : sp = .ok x0) (hcall : ∀ args w, (callFunc f args).run P w = .ok (.enter f args) w) (hl : evs G l = some vs)
    (hc : ∀ w, St E.w0 E.S H w → RetE P f vs w No sp V c) (hN : Nat.blt dst E.N = true)
    (kk : ∀ y, RW P E ops Q rest ((dst, V x0 y) :: G) (c x0 y ++ H)) : RW P E ops Q (⟨some dst, .call ⟨.value (.func f), l.toArray, at_⟩, ty, pos, af, none⟩ :: rest) G H :=
  RW.call_gen hcall hl (fun a w hf hw => (hc w hw).mono (by
    intro e w' he
    subst hsp
    obtain ⟨y, rfl, hx⟩ := he
    exact kk y _ _ (hf.put hN _) (St.turnF (F := No) hw.kp (fun b hb => hb.elim) (Sep.up (fun b hb => ⟨hb, fun k => k.elim⟩) hw.sep) hx)))
end
theorem map_atN {pre r : List HP} {b : Nat} {D : List (Str × Int)} {w : World} {A : Nat → Prop} (h : Sep (pre ++ mapHP strK intK .string b D :: r) w A) : MapOn w (fun b => ¬ No b) b D := by
  obtain ⟨F', hF', hp, _⟩ := Sep.pull h
  exact ⟨fun k => k, hp.2⟩
theorem RS.ofN {s : kStat.V} {x : RC} {r : List HP} {br : Nat} {w : World} {A : Nat → Prop} (hs : StatOn (mem w (fun b => ¬ No b)) s x) (h : Sep (blk br (x.cells s 0) 80 :: (mapsH s x ++ r)) w A) : RS w (fun b => ¬ No b) br s 0 x :=
  RD.rs ⟨hs, map_atN (pre := [_]) h, map_atN (pre := [_, _]) h, map_atN (pre := [_, _, _]) h, map_atN (pre := [_, _, _, _]) h, map_atN (pre := [_, _, _, _, _]) h, map_atN (pre := [_, _, _, _, _, _]) h⟩ (fun k => k) (Sep.blk_at h).2
attribute [local irreducible] RW CW
abbrev intE (x : Int) : List Value := [.int .i64 x]
/-- The number of a variable's kind. -/
def kindNo (s : kStat.V) (c : Sc) (v : Str) : Int := (getM (indexD (sKinds s)) ((getM c.km v).getD ByteArray.empty)).getD 0
def noRule : kRule.V := (ByteArray.empty, ByteArray.empty, (0 : Int), (0 : Int), ([] : List kPrem.V), (0 : Int), (false, ByteArray.empty, ([] : List Str), false, (0 : Int)))
def ruleAt (s : kStat.V) (n : Int) : kRule.V := ((sRules s)[n.toNat]?).getD noRule
/-- What Vars answers: names, kinds, an error. -/
def varsD (s : kStat.V) (n : Int) : List Str × List Int × Int :=
  if (checkD s).1 = 0 then
    if n < 0 ∨ (sRules s).length ≤ n then ([], [], 1)
    else match ruleD s 0 (ruleAt s n) with
      | .ok c => (c.names, c.names.map (kindNo s c), 0)
      | .error e => ([], [], e.1)
  else ([], [], (checkD s).1)
abbrev varsH (v : List Str × List Int × Int) (q : Value × Value) : List HP := [ownHP 9 1 q.1 (v.1.map strE), ownHP 3 1 q.2 (v.2.1.map intE)]
set_option maxHeartbeats 16000000 in
theorem vars_ret {s : kStat.V} {x : RC} {n : Int} {w : World} (hst : StatOn (mem w (fun b => ¬ No b)) s x) :
    RetC Try.prog 11 [.agg (x.stat s).toArray, .int .i64 n] w No (fun q : Value × Value => .tuple #[q.1, q.2, .int .i64 (varsD s n).2.2]) (varsH (varsD s n)) := by
  generalize hV : varsD s n = V
  unfold varsD at hV
  have nilH : ∀ (w2 : World) (H : List HP), St w No H w2 → St w No (varsH ([], [], 0) (.slice none 0 0, .slice none 0 0)) w2 := fun w2 H hw =>
    ⟨hw.kp, No, fun b hb => hb.elim, .inl ⟨rfl, rfl⟩, No, fun b hb => hb.elim, .inl ⟨rfl, rfl⟩, trivial⟩
  refine Calls.enter Try.func11 rfl _ rfl rfl (S := No) (H := []) trivial ?_
  refine CW.seqR ?_
  refine RW.box_agg (l := x.stat s) rfl rfl fun b2 _ => ?_
  repeat (first|refine Ja ?_|refine Jb ?_|refine Jc ?_|refine Jd ?_|refine Je ?_|refine Jf ?_|refine Jg ?_|refine Jh ?_|refine Ji ?_|refine Jj ?_|refine Jk ?_|refine Jl ?_|refine Jm ?_|refine Jn ?_|refine Jo ?_|refine Jp ?_|refine Jq ?_|refine Jr ?_|refine Js ?_|refine Jt ?_|refine Ju ?_|refine Jv ?_|refine Jw ?_|refine Jx ?_|refine Jy ?_|refine Jz ?_|refine JA ?_|refine JB ?_|refine JC ?_|refine JD ?_|refine JE ?_|refine JF ?_|refine JG ?_|refine JH ?_|refine JI ?_|refine JJ ?_|refine JK ?_|refine JL ?_|refine JM ?_|refine CW.skip (PW.code ?_)|refine RW.nil (PW.code ?_))
  refine CW.seq ?_
  repeat (first|refine Ja ?_|refine Jb ?_|refine Jc ?_|refine Jd ?_|refine Je ?_|refine Jf ?_|refine Jg ?_|refine Jh ?_|refine Ji ?_|refine Jj ?_|refine Jk ?_|refine Jl ?_|refine Jm ?_|refine Jn ?_|refine Jo ?_|refine Jp ?_|refine Jq ?_|refine Jr ?_|refine Js ?_|refine Jt ?_|refine Ju ?_|refine Jv ?_|refine Jw ?_|refine Jx ?_|refine Jy ?_|refine Jz ?_|refine JA ?_|refine JB ?_|refine JC ?_|refine JD ?_|refine JE ?_|refine JF ?_|refine JG ?_|refine JH ?_|refine JI ?_|refine JJ ?_|refine JK ?_|refine JL ?_|refine JM ?_|refine CW.skip (PW.code ?_)|refine RW.nil (PW.code ?_))
  refine RW.call Try.call8 rfl (fun w2 hw => check_ret (StatOn.mono hst (ro_call hw))) rfl ?_
  repeat (first|refine Ja ?_|refine Jb ?_|refine Jc ?_|refine Jd ?_|refine Je ?_|refine Jf ?_|refine Jg ?_|refine Jh ?_|refine Ji ?_|refine Jj ?_|refine Jk ?_|refine Jl ?_|refine Jm ?_|refine Jn ?_|refine Jo ?_|refine Jp ?_|refine Jq ?_|refine Jr ?_|refine Js ?_|refine Jt ?_|refine Ju ?_|refine Jv ?_|refine Jw ?_|refine Jx ?_|refine Jy ?_|refine Jz ?_|refine JA ?_|refine JB ?_|refine JC ?_|refine JD ?_|refine JE ?_|refine JF ?_|refine JG ?_|refine JH ?_|refine JI ?_|refine JJ ?_|refine JK ?_|refine JL ?_|refine JM ?_|refine CW.skip (PW.code ?_)|refine RW.nil (PW.code ?_))
  refine CW.ite rfl (fun h1 => ?_) (fun h1 => ?_)
  · rw [if_neg h1] at hV
    subst hV
    repeat (first|refine Ja ?_|refine Jb ?_|refine Jc ?_|refine Jd ?_|refine Je ?_|refine Jf ?_|refine Jg ?_|refine Jh ?_|refine Ji ?_|refine Jj ?_|refine Jk ?_|refine Jl ?_|refine Jm ?_|refine Jn ?_|refine Jo ?_|refine Jp ?_|refine Jq ?_|refine Jr ?_|refine Js ?_|refine Jt ?_|refine Ju ?_|refine Jv ?_|refine Jw ?_|refine Jx ?_|refine Jy ?_|refine Jz ?_|refine JA ?_|refine JB ?_|refine JC ?_|refine JD ?_|refine JE ?_|refine JF ?_|refine JG ?_|refine JH ?_|refine JI ?_|refine JJ ?_|refine JK ?_|refine JL ?_|refine JM ?_|refine CW.skip (PW.code ?_)|refine RW.nil (PW.code ?_))
    exact CW.rets (rs := [.tmp 4, .tmp 5, .tmp 6]) (vs := [_, _, _]) rfl Try.results11 rfl (ResOK.tmp rfl (ResOK.tmp rfl (ResOK.tmp rfl ResOK.nil))) fun w hw => ⟨(.slice none 0 0, .slice none 0 0), rfl, nilH w _ hw⟩
  have h1 : (checkD s).1 = 0 := Decidable.of_not_not h1
  rw [if_pos h1] at hV
  obtain ⟨m, hm, _⟩ := check_ok h1
  obtain ⟨hK, hrs⟩ := items_rules hm
  repeat (first|refine Ja ?_|refine Jb ?_|refine Jc ?_|refine Jd ?_|refine Je ?_|refine Jf ?_|refine Jg ?_|refine Jh ?_|refine Ji ?_|refine Jj ?_|refine Jk ?_|refine Jl ?_|refine Jm ?_|refine Jn ?_|refine Jo ?_|refine Jp ?_|refine Jq ?_|refine Jr ?_|refine Js ?_|refine Jt ?_|refine Ju ?_|refine Jv ?_|refine Jw ?_|refine Jx ?_|refine Jy ?_|refine Jz ?_|refine JA ?_|refine JB ?_|refine JC ?_|refine JD ?_|refine JE ?_|refine JF ?_|refine JG ?_|refine JH ?_|refine JI ?_|refine JJ ?_|refine JK ?_|refine JL ?_|refine JM ?_|refine CW.skip (PW.code ?_)|refine RW.nil (PW.code ?_))
  refine CW.seq ?_
  repeat (first|refine Ja ?_|refine Jb ?_|refine Jc ?_|refine Jd ?_|refine Je ?_|refine Jf ?_|refine Jg ?_|refine Jh ?_|refine Ji ?_|refine Jj ?_|refine Jk ?_|refine Jl ?_|refine Jm ?_|refine Jn ?_|refine Jo ?_|refine Jp ?_|refine Jq ?_|refine Jr ?_|refine Js ?_|refine Jt ?_|refine Ju ?_|refine Jv ?_|refine Jw ?_|refine Jx ?_|refine Jy ?_|refine Jz ?_|refine JA ?_|refine JB ?_|refine JC ?_|refine JD ?_|refine JE ?_|refine JF ?_|refine JG ?_|refine JH ?_|refine JI ?_|refine JJ ?_|refine JK ?_|refine JL ?_|refine JM ?_|refine CW.skip (PW.code ?_)|refine RW.nil (PW.code ?_))
  have hbad : n < 0 ∨ ((sRules s).length : Int) ≤ n → (([] : List Str), ([] : List Int), (1 : Int)) = V := fun h => by rw [if_pos h] at hV; exact hV
  refine RW.splitD 24 rfl (fun h2 => ?_) (fun h2 => ?_)
  · obtain rfl := hbad (.inl h2)
    repeat (first|refine Ja ?_|refine Jb ?_|refine Jc ?_|refine Jd ?_|refine Je ?_|refine Jf ?_|refine Jg ?_|refine Jh ?_|refine Ji ?_|refine Jj ?_|refine Jk ?_|refine Jl ?_|refine Jm ?_|refine Jn ?_|refine Jo ?_|refine Jp ?_|refine Jq ?_|refine Jr ?_|refine Js ?_|refine Jt ?_|refine Ju ?_|refine Jv ?_|refine Jw ?_|refine Jx ?_|refine Jy ?_|refine Jz ?_|refine JA ?_|refine JB ?_|refine JC ?_|refine JD ?_|refine JE ?_|refine JF ?_|refine JG ?_|refine JH ?_|refine JI ?_|refine JJ ?_|refine JK ?_|refine JL ?_|refine JM ?_|refine CW.skip (PW.code ?_)|refine RW.nil (PW.code ?_))
    refine CW.ct rfl ?_
    repeat (first|refine Ja ?_|refine Jb ?_|refine Jc ?_|refine Jd ?_|refine Je ?_|refine Jf ?_|refine Jg ?_|refine Jh ?_|refine Ji ?_|refine Jj ?_|refine Jk ?_|refine Jl ?_|refine Jm ?_|refine Jn ?_|refine Jo ?_|refine Jp ?_|refine Jq ?_|refine Jr ?_|refine Js ?_|refine Jt ?_|refine Ju ?_|refine Jv ?_|refine Jw ?_|refine Jx ?_|refine Jy ?_|refine Jz ?_|refine JA ?_|refine JB ?_|refine JC ?_|refine JD ?_|refine JE ?_|refine JF ?_|refine JG ?_|refine JH ?_|refine JI ?_|refine JJ ?_|refine JK ?_|refine JL ?_|refine JM ?_|refine CW.skip (PW.code ?_)|refine RW.nil (PW.code ?_))
    exact CW.rets (rs := [.tmp 4, .tmp 5, .tmp 6]) (vs := [_, _, _]) rfl Try.results11 rfl (ResOK.tmp rfl (ResOK.tmp rfl (ResOK.tmp rfl ResOK.nil))) fun w hw => ⟨(.slice none 0 0, .slice none 0 0), rfl, nilH w _ hw⟩
  repeat (first|refine Ja ?_|refine Jb ?_|refine Jc ?_|refine Jd ?_|refine Je ?_|refine Jf ?_|refine Jg ?_|refine Jh ?_|refine Ji ?_|refine Jj ?_|refine Jk ?_|refine Jl ?_|refine Jm ?_|refine Jn ?_|refine Jo ?_|refine Jp ?_|refine Jq ?_|refine Jr ?_|refine Js ?_|refine Jt ?_|refine Ju ?_|refine Jv ?_|refine Jw ?_|refine Jx ?_|refine Jy ?_|refine Jz ?_|refine JA ?_|refine JB ?_|refine JC ?_|refine JD ?_|refine JE ?_|refine JF ?_|refine JG ?_|refine JH ?_|refine JI ?_|refine JJ ?_|refine JK ?_|refine JL ?_|refine JM ?_|refine CW.skip (PW.code ?_)|refine RW.nil (PW.code ?_))
  refine CW.ite rfl (fun h3 => ?_) (fun h3 => ?_)
  · obtain rfl := hbad (.inr h3)
    repeat (first|refine Ja ?_|refine Jb ?_|refine Jc ?_|refine Jd ?_|refine Je ?_|refine Jf ?_|refine Jg ?_|refine Jh ?_|refine Ji ?_|refine Jj ?_|refine Jk ?_|refine Jl ?_|refine Jm ?_|refine Jn ?_|refine Jo ?_|refine Jp ?_|refine Jq ?_|refine Jr ?_|refine Js ?_|refine Jt ?_|refine Ju ?_|refine Jv ?_|refine Jw ?_|refine Jx ?_|refine Jy ?_|refine Jz ?_|refine JA ?_|refine JB ?_|refine JC ?_|refine JD ?_|refine JE ?_|refine JF ?_|refine JG ?_|refine JH ?_|refine JI ?_|refine JJ ?_|refine JK ?_|refine JL ?_|refine JM ?_|refine CW.skip (PW.code ?_)|refine RW.nil (PW.code ?_))
    exact CW.rets (rs := [.tmp 4, .tmp 5, .tmp 6]) (vs := [_, _, _]) rfl Try.results11 rfl (ResOK.tmp rfl (ResOK.tmp rfl (ResOK.tmp rfl ResOK.nil))) fun w hw => ⟨(.slice none 0 0, .slice none 0 0), rfl, nilH w _ hw⟩
  rw [if_neg (by omega)] at hV
  have hn : n.toNat < (sRules s).length := by omega
  have hat : (sRules s)[n.toNat]? = some (ruleAt s n) := by unfold ruleAt; rw [List.getElem?_eq_getElem hn]; rfl
  obtain ⟨hB, c, hc⟩ := hrs _ (List.mem_of_getElem? hat)
  rw [hc] at hV
  subst hV
  have hcl := ruleD_len hK hB hc
  have hsm := sl_small hst.rules
  unfold reach at hsm
  obtain ⟨B1, O1, cs, hA, hl1, hr, hmm⟩ := sl_get hst.rules hat
  have hle : Mem.le (mem w (fun b => ¬ No b)) (mem w (fun b => ¬ No b)) := Mem.le_refl _
  refine CW.skip ?_
  refine PW.code ?_
  repeat (first|refine Ja ?_|refine Jb ?_|refine Jc ?_|refine Jd ?_|refine Je ?_|refine Jf ?_|refine Jg ?_|refine Jh ?_|refine Ji ?_|refine Jj ?_|refine Jk ?_|refine Jl ?_|refine Jm ?_|refine Jn ?_|refine Jo ?_|refine Jp ?_|refine Jq ?_|refine Jr ?_|refine Js ?_|refine Jt ?_|refine Ju ?_|refine Jv ?_|refine Jw ?_|refine Jx ?_|refine Jy ?_|refine Jz ?_|refine JA ?_|refine JB ?_|refine JC ?_|refine JD ?_|refine JE ?_|refine JF ?_|refine JG ?_|refine JH ?_|refine JI ?_|refine JJ ?_|refine JK ?_|refine JL ?_|refine JM ?_|refine CW.skip (PW.code ?_)|refine RW.nil (PW.code ?_))
  refine RW.callN Try.call35 rfl (fun w2 hw => resolve_ret (StatOn.mono hst (ro_call hw))) rfl fun q => ?_
  obtain ⟨br, y⟩ := q
  refine RW.purely [_, _, _, _, _, _, _] (fun hy => ?_)
  dsimp only at hy ⊢
  have hst2 : StatOn (mem w (fun b => ¬ No b)) s y := by rw [hy]; exact hst.with _ _ _ _ _ _
  clear hy
  refine RW.take [7, 0, 1, 2, 3, 4, 5, 6] ?_
  repeat (first|refine Ja ?_|refine Jb ?_|refine Jc ?_|refine Jd ?_|refine Je ?_|refine Jf ?_|refine Jg ?_|refine Jh ?_|refine Ji ?_|refine Jj ?_|refine Jk ?_|refine Jl ?_|refine Jm ?_|refine Jn ?_|refine Jo ?_|refine Jp ?_|refine Jq ?_|refine Jr ?_|refine Js ?_|refine Jt ?_|refine Ju ?_|refine Jv ?_|refine Jw ?_|refine Jx ?_|refine Jy ?_|refine Jz ?_|refine JA ?_|refine JB ?_|refine JC ?_|refine JD ?_|refine JE ?_|refine JF ?_|refine JG ?_|refine JH ?_|refine JI ?_|refine JJ ?_|refine JK ?_|refine JL ?_|refine JM ?_|refine CW.skip (PW.code ?_)|refine RW.nil (PW.code ?_))
  refine RW.indexAddrE hA rfl rfl (by omega) (by omega) rfl ?_
  refine RW.load_ros rfl hle hmm rfl hl1 (by rw [hl1]; decide) rfl ?_
  refine RW.take [1, 2, 3, 4, 5, 6, 7, 0] ?_
  refine RW.callOk c hc Try.call42 rfl (fun w2 hw => rule_ret (RS.ofN (StatOn.mono (M := Env.ro ⟨Try.f11.ntmps, [], w, No⟩) hst2 (ro_call hw)) hw.sep) (hr.mono (ro_call (E := ⟨Try.f11.ntmps, [], w, No⟩) hw)) hK hB) rfl fun z => ?_
  obtain ⟨bc, bm, u⟩ := z
  dsimp only
  refine RW.have_ (φ := ∃ A c1, u = .slice A c.names.length c1 ∧ (c.names ≠ [] → ∃ B, A = some ⟨B, 0, none⟩)) (fun w hw => ?_) (fun ⟨NA, nc, hu, hNA⟩ => ?_)
  · rcases own_form (pre := [_]) hw with ⟨h1, h2⟩ | ⟨B, c1, h1, _⟩
    · have : c.names = [] := by simpa using h2
      exact ⟨none, 0, by rw [h1, this]; rfl, fun h => absurd this h⟩
    · rw [List.length_map] at h1
      exact ⟨_, c1, h1, fun _ => ⟨B, rfl⟩⟩
  subst hu
  refine RW.take [0, 1, 2, 3, 4] ?_
  refine RW.add_ (ownHP 3 1 (.slice none 0 0) []) (fun w _ => .inl ⟨rfl, rfl⟩) ?_
  refine RW.take [1, 2, 3, 4, 5, 0] ?_
  repeat (first|refine Ja ?_|refine Jb ?_|refine Jc ?_|refine Jd ?_|refine Je ?_|refine Jf ?_|refine Jg ?_|refine Jh ?_|refine Ji ?_|refine Jj ?_|refine Jk ?_|refine Jl ?_|refine Jm ?_|refine Jn ?_|refine Jo ?_|refine Jp ?_|refine Jq ?_|refine Jr ?_|refine Js ?_|refine Jt ?_|refine Ju ?_|refine Jv ?_|refine Jw ?_|refine Jx ?_|refine Jy ?_|refine Jz ?_|refine JA ?_|refine JB ?_|refine JC ?_|refine JD ?_|refine JE ?_|refine JF ?_|refine JG ?_|refine JH ?_|refine JI ?_|refine JJ ?_|refine JK ?_|refine JL ?_|refine JM ?_|refine CW.skip (PW.code ?_)|refine RW.nil (PW.code ?_))
  refine CW.seq ?_
  repeat (first|refine Ja ?_|refine Jb ?_|refine Jc ?_|refine Jd ?_|refine Je ?_|refine Jf ?_|refine Jg ?_|refine Jh ?_|refine Ji ?_|refine Jj ?_|refine Jk ?_|refine Jl ?_|refine Jm ?_|refine Jn ?_|refine Jo ?_|refine Jp ?_|refine Jq ?_|refine Jr ?_|refine Js ?_|refine Jt ?_|refine Ju ?_|refine Jv ?_|refine Jw ?_|refine Jx ?_|refine Jy ?_|refine Jz ?_|refine JA ?_|refine JB ?_|refine JC ?_|refine JD ?_|refine JE ?_|refine JF ?_|refine JG ?_|refine JH ?_|refine JI ?_|refine JJ ?_|refine JK ?_|refine JL ?_|refine JM ?_|refine CW.skip (PW.code ?_)|refine RW.nil (PW.code ?_))
  refine CW.block ?_
  refine CW.loop (ι := { q : Nat × Value // q.1 ≤ c.names.length }) (fun q => [(9, ptrV br), (10, ptrV bc), (11, q.1.2), (43, .slice NA c.names.length nc), (44, .int .i64 c.names.length), (45, .int .i64 q.1.1)])
    (fun q => scH bc bm false c (.slice NA c.names.length nc) ++ [blk br (y.cells s 0) 80, mapHP strK intK .string y.b1 (indexD (sKinds s)), ownHP 3 1 q.1.2 (((c.names.take q.1.1).map (kindNo s c)).map intE)]) (fun q => c.names.length - q.1.1) ⟨(0, .slice none 0 0), Nat.zero_le _⟩ ⟨rfl, rfl, rfl, rfl, rfl, rfl, trivial⟩ (fun h => h) ?_
  intro ⟨⟨j, v⟩, hj⟩
  dsimp only at hj ⊢
  repeat (first|refine Ja ?_|refine Jb ?_|refine Jc ?_|refine Jd ?_|refine Je ?_|refine Jf ?_|refine Jg ?_|refine Jh ?_|refine Ji ?_|refine Jj ?_|refine Jk ?_|refine Jl ?_|refine Jm ?_|refine Jn ?_|refine Jo ?_|refine Jp ?_|refine Jq ?_|refine Jr ?_|refine Js ?_|refine Jt ?_|refine Ju ?_|refine Jv ?_|refine Jw ?_|refine Jx ?_|refine Jy ?_|refine Jz ?_|refine JA ?_|refine JB ?_|refine JC ?_|refine JD ?_|refine JE ?_|refine JF ?_|refine JG ?_|refine JH ?_|refine JI ?_|refine JJ ?_|refine JK ?_|refine JL ?_|refine JM ?_|refine CW.skip (PW.code ?_)|refine RW.nil (PW.code ?_))
  refine CW.seq ?_
  refine CW.ite rfl (fun hlt => ?_) (fun hge => ?_)
  · have hlt' : j < c.names.length := by simpa using hlt
    obtain ⟨NB, rfl⟩ := hNA (by intro h; rw [h] at hlt'; simp at hlt')
    repeat (first|refine Ja ?_|refine Jb ?_|refine Jc ?_|refine Jd ?_|refine Je ?_|refine Jf ?_|refine Jg ?_|refine Jh ?_|refine Ji ?_|refine Jj ?_|refine Jk ?_|refine Jl ?_|refine Jm ?_|refine Jn ?_|refine Jo ?_|refine Jp ?_|refine Jq ?_|refine Jr ?_|refine Js ?_|refine Jt ?_|refine Ju ?_|refine Jv ?_|refine Jw ?_|refine Jx ?_|refine Jy ?_|refine Jz ?_|refine JA ?_|refine JB ?_|refine JC ?_|refine JD ?_|refine JE ?_|refine JF ?_|refine JG ?_|refine JH ?_|refine JI ?_|refine JJ ?_|refine JK ?_|refine JL ?_|refine JM ?_|refine CW.skip (PW.code ?_)|refine RW.nil (PW.code ?_))
    refine CW.seq ?_
    refine CW.block ?_
    repeat (first|refine Ja ?_|refine Jb ?_|refine Jc ?_|refine Jd ?_|refine Je ?_|refine Jf ?_|refine Jg ?_|refine Jh ?_|refine Ji ?_|refine Jj ?_|refine Jk ?_|refine Jl ?_|refine Jm ?_|refine Jn ?_|refine Jo ?_|refine Jp ?_|refine Jq ?_|refine Jr ?_|refine Js ?_|refine Jt ?_|refine Ju ?_|refine Jv ?_|refine Jw ?_|refine Jx ?_|refine Jy ?_|refine Jz ?_|refine JA ?_|refine JB ?_|refine JC ?_|refine JD ?_|refine JE ?_|refine JF ?_|refine JG ?_|refine JH ?_|refine JI ?_|refine JJ ?_|refine JK ?_|refine JL ?_|refine JM ?_|refine CW.skip (PW.code ?_)|refine RW.nil (PW.code ?_))
    refine RW.indexAddr rfl rfl (by omega) hlt rfl ?_
    refine RW.load_fact (v := .string c.names[j]) rfl rfl rfl (fun w hw => ?_) ?_
    · have h1 := own_cells (pre := [_]) hw
      have h2 := flatten_at (sz := 1) (es := c.names.map strE) (fun x hx => by obtain ⟨a, _, rfl⟩ := List.mem_map.1 hx; rfl) (i := j) (x := strE c.names[j]) (by rw [List.getElem?_map, List.getElem?_eq_getElem hlt']; rfl) (j := 0) (v := .string c.names[j]) rfl
      exact h1.at_ (j * 1 + 0) h2
    repeat (first|refine Ja ?_|refine Jb ?_|refine Jc ?_|refine Jd ?_|refine Je ?_|refine Jf ?_|refine Jg ?_|refine Jh ?_|refine Ji ?_|refine Jj ?_|refine Jk ?_|refine Jl ?_|refine Jm ?_|refine Jn ?_|refine Jo ?_|refine Jp ?_|refine Jq ?_|refine Jr ?_|refine Js ?_|refine Jt ?_|refine Ju ?_|refine Jv ?_|refine Jw ?_|refine Jx ?_|refine Jy ?_|refine Jz ?_|refine JA ?_|refine JB ?_|refine JC ?_|refine JD ?_|refine JE ?_|refine JF ?_|refine JG ?_|refine JH ?_|refine JI ?_|refine JJ ?_|refine JK ?_|refine JL ?_|refine JM ?_|refine CW.skip (PW.code ?_)|refine RW.nil (PW.code ?_))
    refine CW.anyV (by kernel_rfl) rfl ?_
    repeat (apply AW.val rfl; · intro Gx X; (first | refine RW.yes rfl ?_ | skip); (first|refine Jc ?_|refine Jd ?_|refine Je ?_|refine Jf ?_|refine Jg ?_|refine Jh ?_|refine Ji ?_|refine Jj ?_|refine Jk ?_|refine Jl ?_|refine Jm ?_|refine Jn ?_|refine Jo ?_|refine Jp ?_|refine Jq ?_|refine Jr ?_|refine Js ?_|refine Jt ?_|refine Ju ?_|refine Jv ?_|refine Jw ?_|refine Jx ?_|refine Jz ?_|refine JA ?_|refine JB ?_|refine JC ?_|refine JD ?_|refine JE ?_|refine JF ?_|refine JG ?_|refine JH ?_|refine JI ?_|refine JJ ?_|refine JK ?_|refine JL ?_); exact RW.done rfl)
    (apply AW.val rfl; · intro Gx X; (first | refine RW.yes rfl ?_ | skip); refine RW.lookup [_, _] (a0 := ByteArray.empty) rfl rfl rfl rfl ?_; exact RW.done rfl)
    (apply AW.val rfl; · intro Gx X; (first | refine RW.yes rfl ?_ | skip); refine RW.lookup [_, _, _, _] (a0 := (0 : Int)) rfl rfl rfl rfl ?_; exact RW.done rfl)
    (apply AW.gen (fun b => .slice (some ⟨b, 0, none⟩) 1 1) (fun b => blk b [.int .i64 (kindNo s c c.names[j])] 3) rfl; · intro Gx X; refine RW.buildSlice (e := 3) (c := [.int .i64 (kindNo s c c.names[j])]) rfl (fun w => by kernel_rfl) rfl fun b _ => ?_; exact RW.done_gen rfl)
    refine AW.stop (by kernel_rfl) (by kernel_rfl) fun bs => ?_
    refine RW.append [_, _, _, _, _] (e := 3) (sz := 1) (news := [[.int .i64 (kindNo s c c.names[j])]]) (zc := [.int .i64 0]) rfl rfl rfl rfl rfl (by simp) (by simp [Value.oneCell']) (fun w hw hn => ?_) ?_ ?_ rfl fun v' => ?_
    · exact ⟨bs 61, 0, rfl, CellsAt.of_blk (St.blk (pre := [_, _, _, _, _, _]) hw)⟩
    · simp only [List.length_map, List.length_take]; omega
    · simp only [List.length_map, List.length_take]; unfold maxN; omega
    repeat (first|refine Ja ?_|refine Jb ?_|refine Jc ?_|refine Jd ?_|refine Je ?_|refine Jf ?_|refine Jg ?_|refine Jh ?_|refine Ji ?_|refine Jj ?_|refine Jk ?_|refine Jl ?_|refine Jm ?_|refine Jn ?_|refine Jo ?_|refine Jp ?_|refine Jq ?_|refine Jr ?_|refine Js ?_|refine Jt ?_|refine Ju ?_|refine Jv ?_|refine Jw ?_|refine Jx ?_|refine Jy ?_|refine Jz ?_|refine JA ?_|refine JB ?_|refine JC ?_|refine JD ?_|refine JE ?_|refine JF ?_|refine JG ?_|refine JH ?_|refine JI ?_|refine JJ ?_|refine JK ?_|refine JL ?_|refine JM ?_|refine CW.skip (PW.code ?_)|refine RW.nil (PW.code ?_))
    refine CW.region ?_
    refine RW.add rfl rfl (w64 (by omega) (by omega)) rfl ?_
    repeat (first|refine Ja ?_|refine Jb ?_|refine Jc ?_|refine Jd ?_|refine Je ?_|refine Jf ?_|refine Jg ?_|refine Jh ?_|refine Ji ?_|refine Jj ?_|refine Jk ?_|refine Jl ?_|refine Jm ?_|refine Jn ?_|refine Jo ?_|refine Jp ?_|refine Jq ?_|refine Jr ?_|refine Js ?_|refine Jt ?_|refine Ju ?_|refine Jv ?_|refine Jw ?_|refine Jx ?_|refine Jy ?_|refine Jz ?_|refine JA ?_|refine JB ?_|refine JC ?_|refine JD ?_|refine JE ?_|refine JF ?_|refine JG ?_|refine JH ?_|refine JI ?_|refine JJ ?_|refine JK ?_|refine JL ?_|refine JM ?_|refine CW.skip (PW.code ?_)|refine RW.nil (PW.code ?_))
    refine RW.nil ?_
    refine PW.againT ⟨(j + 1, v'), hlt'⟩ [0, 1, 2, 3, 4, 5] ⟨rfl, rfl, rfl, rfl, rfl, rfl, trivial⟩ ?_ (by show c.names.length - (j + 1) < c.names.length - j; omega)
    dsimp only
    rw [List.take_succ_eq_append_getElem hlt', List.map_append, List.map_append]
    rfl
  have hge' : c.names.length ≤ j := by simpa using hge
  rw [List.take_of_length_le hge']
  refine CW.exit rfl ?_
  refine PW.code ?_
  repeat (first|refine Ja ?_|refine Jb ?_|refine Jc ?_|refine Jd ?_|refine Je ?_|refine Jf ?_|refine Jg ?_|refine Jh ?_|refine Ji ?_|refine Jj ?_|refine Jk ?_|refine Jl ?_|refine Jm ?_|refine Jn ?_|refine Jo ?_|refine Jp ?_|refine Jq ?_|refine Jr ?_|refine Js ?_|refine Jt ?_|refine Ju ?_|refine Jv ?_|refine Jw ?_|refine Jx ?_|refine Jy ?_|refine Jz ?_|refine JA ?_|refine JB ?_|refine JC ?_|refine JD ?_|refine JE ?_|refine JF ?_|refine JG ?_|refine JH ?_|refine JI ?_|refine JJ ?_|refine JK ?_|refine JL ?_|refine JM ?_|refine CW.skip (PW.code ?_)|refine RW.nil (PW.code ?_))
  exact CW.rets (rs := [.tmp 4, .tmp 5, .tmp 6]) (vs := [_, _, _]) rfl Try.results11 rfl (ResOK.tmp rfl (ResOK.tmp rfl (ResOK.tmp rfl ResOK.nil))) fun w hw => ⟨(_, v), rfl, hw.take [1, 5]⟩
end Go.Proofs.Ytkfmlekomfnleaa
