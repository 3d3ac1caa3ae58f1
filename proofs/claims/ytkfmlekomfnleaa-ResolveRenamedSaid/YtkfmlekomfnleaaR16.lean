/- The closures of the resolver's items, by the calculus. Conditions: none. -/
import Derived.Test.YtkfmlekomfnleaaR15
set_option linter.unusedVariables false
set_option linter.unusedSimpArgs false
set_option maxRecDepth 10000
namespace Go.Proofs.Ytkfmlekomfnleaa
open Go Go.RowKit

attribute [local irreducible] RW CW
theorem RS.no {w : World} {ok : Nat → Prop} {br : Nat} {s : kStat.V} {at_ : Int} {x : RC} (h : RS w ok br s at_ x) : RS w (fun b => ¬ No b) br s at_ x := h.to (Keeps.refl No w) (fun b hb _ => ⟨fun k => k, fun k => k⟩)
theorem mem_no {w : World} {ok : Nat → Prop} : Mem.le (mem w ok) (mem w (fun b => ¬ No b)) := mem_up fun b _ k => k
theorem RetE.up {P : Program} {f : FuncId} {args : List Value} {w : World} {F : Nat → Prop} {α : Type} {sp : Ex α} {V : α → Value} (h : RetE0 P f args w sp V) : RetE P f args w F sp (fun x (_ : Unit) => V x) (fun _ _ => []) := h.mono (by
  intro e w' he
  unfold XP at he ⊢
  cases sp with
  | error er => exact ⟨he.1, he.2.kp.mono (fun _ k => k.elim), trivial⟩
  | ok x => obtain ⟨y, h1, h2⟩ := he; exact ⟨y, h1, h2.kp.mono (fun _ k => k.elim), trivial⟩)
section
variable {br b2 : Nat} {s : kStat.V} {at_ i : Int} {x : RC} {w : World}
abbrev ptrV (b : Nat) : Value := .pointer (some ⟨b, 0, none⟩)
theorem items1_ret {k : Str} (hR : RS w (fun b => ¬ No b) br s at_ x) (h2 : mem w (fun b => ¬ No b) b2 0 (ptrV br)) :
    RetE0 Try.prog 71 [.string k, .int .i64 i, ptrV b2] w (kindItemD s at_ i () k) (fun _ => .tuple #[]) := by
  generalize hS : kindItemD s at_ i () k = SP
  have hS := hS.symm
  unfold kindItemD at hS
  have hle : Mem.le (mem w (fun b => ¬ No b)) (mem w (fun b => ¬ No b)) := Mem.le_refl _
  refine Calls.enter Try.func71 rfl _ rfl rfl (S := No) (H := []) trivial ?_
  refine CW.anyV (by kernel_rfl) rfl ?_
  (apply AW.val rfl; · intro Gx X; (first | refine RW.yes rfl ?_ | skip); refine RW.load_ro rfl hle h2 rfl rfl ?_; exact RW.done rfl)
  (apply AW.val rfl; · intro Gx X; (first | refine RW.yes rfl ?_ | skip); refine RW.load_ro rfl hle h2 rfl rfl ?_; exact RW.done rfl)
  repeat (apply AW.val rfl; · intro Gx X; (first | refine RW.yes rfl ?_ | skip); (first|refine Jc ?_|refine Jd ?_|refine Je ?_|refine Jf ?_|refine Jg ?_|refine Jh ?_|refine Ji ?_|refine Jj ?_|refine Jk ?_|refine Jl ?_|refine Jm ?_|refine Jn ?_|refine Jo ?_|refine Jp ?_|refine Jq ?_|refine Jr ?_|refine Js ?_|refine Jt ?_|refine Ju ?_|refine Jv ?_|refine Jw ?_|refine Jx ?_|refine Jz ?_|refine JA ?_|refine JB ?_|refine JC ?_|refine JD ?_|refine JE ?_|refine JF ?_|refine JG ?_|refine JH ?_|refine JI ?_|refine JJ ?_|refine JK ?_|refine JL ?_); exact RW.done rfl)
  (apply AW.val rfl; · intro Gx X; (first | refine RW.yes rfl ?_ | skip); refine RW.load_ro rfl hle (hR.cell 10 _ rfl) rfl rfl ?_; exact RW.done rfl)
  repeat (apply AW.val rfl; · intro Gx X; (first | refine RW.yes rfl ?_ | skip); (first|refine Jc ?_|refine Jd ?_|refine Je ?_|refine Jf ?_|refine Jg ?_|refine Jh ?_|refine Ji ?_|refine Jj ?_|refine Jk ?_|refine Jl ?_|refine Jm ?_|refine Jn ?_|refine Jo ?_|refine Jp ?_|refine Jq ?_|refine Jr ?_|refine Js ?_|refine Jt ?_|refine Ju ?_|refine Jv ?_|refine Jw ?_|refine Jx ?_|refine Jz ?_|refine JA ?_|refine JB ?_|refine JC ?_|refine JD ?_|refine JE ?_|refine JF ?_|refine JG ?_|refine JH ?_|refine JI ?_|refine JJ ?_|refine JK ?_|refine JL ?_); exact RW.done rfl)
  refine AW.stop (by kernel_rfl) (by kernel_rfl) fun bs => ?_
  refine RW.callE0 hS Try.call72 rfl (fun w hw => fresh_ret (RS.call hR hw) (RS.call hR hw).kinds) rfl rfl rfl fun _ _ hS => ?_
  exact RW.nil (PW.ret (rs := []) (vs := []) Try.results71 rfl ResOK.nil fun w hw => XP.ok () hS (hw.sub (List.nil_sublist _)))
theorem items2_ret {M : Mem} {p : kMember.V} {cs : List Value} (hR : RS w (fun b => ¬ No b) br s at_ x) (h2 : mem w (fun b => ¬ No b) b2 0 (ptrV br)) (hp : Rd kMember M cs p) :
    RetE0 Try.prog 74 [.agg cs.toArray, .int .i64 i, ptrV b2] w (memberItemD s at_ i () p) (fun _ => .tuple #[]) := by
  generalize hS : memberItemD s at_ i () p = SP
  have hS := hS.symm
  unfold memberItemD at hS
  obtain ⟨c1, c2, rfl, hp1, hp2⟩ := hp
  obtain rfl := str_cell hp1
  obtain rfl := str_cell hp2
  have hle : Mem.le (mem w (fun b => ¬ No b)) (mem w (fun b => ¬ No b)) := Mem.le_refl _
  refine Calls.enter Try.func74 rfl _ rfl rfl (S := No) (H := []) trivial ?_
  refine CW.seqR ?_
  refine RW.box_agg (l := [.string p.1, .string p.2]) rfl rfl fun b3 _ => ?_
  refine RW.next ?_
  refine CW.seqA (by kernel_rfl) rfl ?_
  (apply AW.val rfl; · intro Gx X; (first | refine RW.yes rfl ?_ | skip); refine RW.load_ro rfl hle h2 rfl rfl ?_; exact RW.done rfl)
  (apply AW.val rfl; · intro Gx X; (first | refine RW.yes rfl ?_ | skip); refine RW.load_ro rfl hle h2 rfl rfl ?_; exact RW.done rfl)
  repeat (apply AW.val rfl; · intro Gx X; (first | refine RW.yes rfl ?_ | skip); (first|refine Jc ?_|refine Jd ?_|refine Je ?_|refine Jf ?_|refine Jg ?_|refine Jh ?_|refine Ji ?_|refine Jj ?_|refine Jk ?_|refine Jl ?_|refine Jm ?_|refine Jn ?_|refine Jo ?_|refine Jp ?_|refine Jq ?_|refine Jr ?_|refine Js ?_|refine Jt ?_|refine Ju ?_|refine Jv ?_|refine Jw ?_|refine Jx ?_|refine Jz ?_|refine JA ?_|refine JB ?_|refine JC ?_|refine JD ?_|refine JE ?_|refine JF ?_|refine JG ?_|refine JH ?_|refine JI ?_|refine JJ ?_|refine JK ?_|refine JL ?_); exact RW.done rfl)
  (apply AW.val rfl; · intro Gx X; (first | refine RW.yes rfl ?_ | skip); refine RW.load_ro rfl hle (hR.cell 11 _ rfl) rfl rfl ?_; exact RW.done rfl)
  repeat (apply AW.val rfl; · intro Gx X; (first | refine RW.yes rfl ?_ | skip); (first|refine Jc ?_|refine Jd ?_|refine Je ?_|refine Jf ?_|refine Jg ?_|refine Jh ?_|refine Ji ?_|refine Jj ?_|refine Jk ?_|refine Jl ?_|refine Jm ?_|refine Jn ?_|refine Jo ?_|refine Jp ?_|refine Jq ?_|refine Jr ?_|refine Js ?_|refine Jt ?_|refine Ju ?_|refine Jv ?_|refine Jw ?_|refine Jx ?_|refine Jz ?_|refine JA ?_|refine JB ?_|refine JC ?_|refine JD ?_|refine JE ?_|refine JF ?_|refine JG ?_|refine JH ?_|refine JI ?_|refine JJ ?_|refine JK ?_|refine JL ?_); exact RW.done rfl)
  refine AW.stop (by kernel_rfl) (by kernel_rfl) fun bs => ?_
  refine RW.callE0 hS Try.call72 rfl (fun w hw => fresh_ret (RS.call hR hw) (RS.call hR hw).members) rfl rfl rfl fun _ _ hS => ?_
  refine RW.next ?_
  refine CW.region ?_
  refine RW.load_ro rfl hle h2 rfl rfl ?_
  repeat (first|refine Ja ?_|refine Jb ?_|refine Jc ?_|refine Jd ?_|refine Je ?_|refine Jf ?_|refine Jg ?_|refine Jh ?_|refine Ji ?_|refine Jj ?_|refine Jk ?_|refine Jl ?_|refine Jm ?_|refine Jn ?_|refine Jo ?_|refine Jp ?_|refine Jq ?_|refine Jr ?_|refine Js ?_|refine Jt ?_|refine Ju ?_|refine Jv ?_|refine Jw ?_|refine Jx ?_|refine Jy ?_|refine Jz ?_|refine JA ?_|refine JB ?_|refine JC ?_|refine JD ?_|refine JE ?_|refine JF ?_|refine JG ?_|refine JH ?_|refine JI ?_|refine JJ ?_|refine JK ?_|refine JL ?_|refine JM ?_|refine CW.skip (PW.code ?_)|refine RW.nil (PW.code ?_))
  refine RW.callE0 hS Try.call75 rfl (fun w hw => kind_ret (RS.call hR hw)) rfl rfl rfl fun _ _ hS => ?_
  exact RW.nil (PW.ret (rs := []) (vs := []) Try.results74 rfl ResOK.nil fun w hw => XP.ok () hS (hw.sub (List.nil_sublist _)))
theorem items3_ret {b3 bi c : Nat} {A : Option Addr} {l : List Str} {m : List (Str × Int)} {F : Nat → Prop} (hR : RS w (fun b => ¬ F b) br s at_ x) (h2 : mem w (fun b => ¬ F b) b2 0 (ptrV br)) (h3 : mem w (fun b => ¬ F b) b3 0 (.map (some bi))) (hl : Rd kStrs (mem w (fun b => ¬ F b)) [.slice A l.length c] l) (hH : Sep [mapHP strK intK .string bi m] w F) :
    RetE Try.prog 79 [.slice A l.length c, .int .i64 i, ptrV b2, ptrV b3] w F (classItemD s at_ i m l) (fun _ _ => .tuple #[]) (fun m' (_ : Unit) => [mapHP strK intK .string bi m']) := by
  generalize hS : classItemD s at_ i m l = SP
  have hS := hS.symm
  unfold classItemD at hS
  have hle : Mem.le (mem w (fun b => ¬ F b)) (mem w (fun b => ¬ F b)) := Mem.le_refl _
  refine Calls.enter Try.func79 rfl _ rfl rfl (S := F) (H := [mapHP strK intK .string bi m]) hH ?_
  refine CW.region ?_
  refine RW.load_ro rfl hle h2 rfl rfl ?_
  repeat (first|refine Ja ?_|refine Jb ?_|refine Jc ?_|refine Jd ?_|refine Je ?_|refine Jf ?_|refine Jg ?_|refine Jh ?_|refine Ji ?_|refine Jj ?_|refine Jk ?_|refine Jl ?_|refine Jm ?_|refine Jn ?_|refine Jo ?_|refine Jp ?_|refine Jq ?_|refine Jr ?_|refine Js ?_|refine Jt ?_|refine Ju ?_|refine Jv ?_|refine Jw ?_|refine Jx ?_|refine Jy ?_|refine Jz ?_|refine JA ?_|refine JB ?_|refine JC ?_|refine JD ?_|refine JE ?_|refine JF ?_|refine JG ?_|refine JH ?_|refine JI ?_|refine JJ ?_|refine JK ?_|refine JL ?_|refine JM ?_|refine CW.skip (PW.code ?_)|refine RW.nil (PW.code ?_))
  refine RW.load_ro rfl hle h3 rfl rfl ?_
  refine RW.callE (r := []) [mapHP strK intK .string bi m] hS Try.call80 rfl (fun w2 F2 hw2 hF2 h1 _ => class_ret (RS.callF hR hw2 hF2) (hl.mono (ro_callF hw2 hF2)) h1) rfl rfl rfl fun m' u hm hS => ?_
  exact RW.nil (PW.ret (rs := []) (vs := []) Try.results79 rfl ResOK.nil fun w hw => XP.ok (V := fun _ _ => .tuple #[]) () hS hw)
theorem items4_ret {M : Mem} {p : kSource.V} {cs : List Value} (hR : RS w (fun b => ¬ No b) br s at_ x) (h2 : mem w (fun b => ¬ No b) b2 0 (ptrV br)) (hp : Rd kSource M cs p) :
    RetE0 Try.prog 82 [.agg cs.toArray, .int .i64 i, ptrV b2] w (sourceItemD s at_ i () p) (fun _ => .tuple #[]) := by
  generalize hS : sourceItemD s at_ i () p = SP
  have hS := hS.symm
  unfold sourceItemD at hS
  obtain ⟨c1, c2, rfl, hp1, hp2⟩ := hp
  obtain rfl := str_cell hp1
  obtain rfl := int_cell hp2
  have hle : Mem.le (mem w (fun b => ¬ No b)) (mem w (fun b => ¬ No b)) := Mem.le_refl _
  refine Calls.enter Try.func82 rfl _ rfl rfl (S := No) (H := []) trivial ?_
  refine CW.seqR ?_
  refine RW.box_agg (l := [.string p.1, .int .i64 p.2]) rfl rfl fun b3 _ => ?_
  refine RW.next ?_
  refine CW.seqA (by kernel_rfl) rfl ?_
  (apply AW.val rfl; · intro Gx X; (first | refine RW.yes rfl ?_ | skip); refine RW.load_ro rfl hle h2 rfl rfl ?_; exact RW.done rfl)
  (apply AW.val rfl; · intro Gx X; (first | refine RW.yes rfl ?_ | skip); refine RW.load_ro rfl hle h2 rfl rfl ?_; exact RW.done rfl)
  repeat (apply AW.val rfl; · intro Gx X; (first | refine RW.yes rfl ?_ | skip); (first|refine Jc ?_|refine Jd ?_|refine Je ?_|refine Jf ?_|refine Jg ?_|refine Jh ?_|refine Ji ?_|refine Jj ?_|refine Jk ?_|refine Jl ?_|refine Jm ?_|refine Jn ?_|refine Jo ?_|refine Jp ?_|refine Jq ?_|refine Jr ?_|refine Js ?_|refine Jt ?_|refine Ju ?_|refine Jv ?_|refine Jw ?_|refine Jx ?_|refine Jz ?_|refine JA ?_|refine JB ?_|refine JC ?_|refine JD ?_|refine JE ?_|refine JF ?_|refine JG ?_|refine JH ?_|refine JI ?_|refine JJ ?_|refine JK ?_|refine JL ?_); exact RW.done rfl)
  (apply AW.val rfl; · intro Gx X; (first | refine RW.yes rfl ?_ | skip); refine RW.load_ro rfl hle (hR.cell 13 _ rfl) rfl rfl ?_; exact RW.done rfl)
  repeat (apply AW.val rfl; · intro Gx X; (first | refine RW.yes rfl ?_ | skip); (first|refine Jc ?_|refine Jd ?_|refine Je ?_|refine Jf ?_|refine Jg ?_|refine Jh ?_|refine Ji ?_|refine Jj ?_|refine Jk ?_|refine Jl ?_|refine Jm ?_|refine Jn ?_|refine Jo ?_|refine Jp ?_|refine Jq ?_|refine Jr ?_|refine Js ?_|refine Jt ?_|refine Ju ?_|refine Jv ?_|refine Jw ?_|refine Jx ?_|refine Jz ?_|refine JA ?_|refine JB ?_|refine JC ?_|refine JD ?_|refine JE ?_|refine JF ?_|refine JG ?_|refine JH ?_|refine JI ?_|refine JJ ?_|refine JK ?_|refine JL ?_); exact RW.done rfl)
  refine AW.stop (by kernel_rfl) (by kernel_rfl) fun bs => ?_
  refine RW.callE0 hS Try.call72 rfl (fun w hw => fresh_ret (RS.call hR hw) (RS.call hR hw).sources) rfl rfl rfl fun _ _ hS => ?_
  refine RW.next ?_
  refine CW.region ?_
  refine RW.load_ro rfl hle h2 rfl rfl ?_
  repeat (first|refine Ja ?_|refine Jb ?_|refine Jc ?_|refine Jd ?_|refine Je ?_|refine Jf ?_|refine Jg ?_|refine Jh ?_|refine Ji ?_|refine Jj ?_|refine Jk ?_|refine Jl ?_|refine Jm ?_|refine Jn ?_|refine Jo ?_|refine Jp ?_|refine Jq ?_|refine Jr ?_|refine Js ?_|refine Jt ?_|refine Ju ?_|refine Jv ?_|refine Jw ?_|refine Jx ?_|refine Jy ?_|refine Jz ?_|refine JA ?_|refine JB ?_|refine JC ?_|refine JD ?_|refine JE ?_|refine JF ?_|refine JG ?_|refine JH ?_|refine JI ?_|refine JJ ?_|refine JK ?_|refine JL ?_|refine JM ?_|refine CW.skip (PW.code ?_)|refine RW.nil (PW.code ?_))
  refine RW.splitD 18 rfl (fun h1 => ?_) (fun h1 => ?_)
  · repeat (first|refine Ja ?_|refine Jb ?_|refine Jc ?_|refine Jd ?_|refine Je ?_|refine Jf ?_|refine Jg ?_|refine Jh ?_|refine Ji ?_|refine Jj ?_|refine Jk ?_|refine Jl ?_|refine Jm ?_|refine Jn ?_|refine Jo ?_|refine Jp ?_|refine Jq ?_|refine Jr ?_|refine Js ?_|refine Jt ?_|refine Ju ?_|refine Jv ?_|refine Jw ?_|refine Jx ?_|refine Jy ?_|refine Jz ?_|refine JA ?_|refine JB ?_|refine JC ?_|refine JD ?_|refine JE ?_|refine JF ?_|refine JG ?_|refine JH ?_|refine JI ?_|refine JJ ?_|refine JK ?_|refine JL ?_|refine JM ?_|refine CW.skip (PW.code ?_)|refine RW.nil (PW.code ?_))
    refine RW.want hS rfl ((by rw [decide_eq_true h1, Bool.true_and])) (fun w hw => RS.at_cell hR hw) rfl rfl rfl fun hb hS => ?_
    exact RW.nil (PW.ret (rs := []) (vs := []) Try.results82 rfl ResOK.nil fun w hw => XP.ok () hS (hw.sub (List.nil_sublist _)))
  · repeat (first|refine Ja ?_|refine Jb ?_|refine Jc ?_|refine Jd ?_|refine Je ?_|refine Jf ?_|refine Jg ?_|refine Jh ?_|refine Ji ?_|refine Jj ?_|refine Jk ?_|refine Jl ?_|refine Jm ?_|refine Jn ?_|refine Jo ?_|refine Jp ?_|refine Jq ?_|refine Jr ?_|refine Js ?_|refine Jt ?_|refine Ju ?_|refine Jv ?_|refine Jw ?_|refine Jx ?_|refine Jy ?_|refine Jz ?_|refine JA ?_|refine JB ?_|refine JC ?_|refine JD ?_|refine JE ?_|refine JF ?_|refine JG ?_|refine JH ?_|refine JI ?_|refine JJ ?_|refine JK ?_|refine JL ?_|refine JM ?_|refine CW.skip (PW.code ?_)|refine RW.nil (PW.code ?_))
    refine RW.want hS rfl ((by rw [decide_eq_false h1, Bool.false_and])) (fun w hw => RS.at_cell hR hw) rfl rfl rfl fun hb _ => absurd hb (by decide)
end
end Go.Proofs.Ytkfmlekomfnleaa
