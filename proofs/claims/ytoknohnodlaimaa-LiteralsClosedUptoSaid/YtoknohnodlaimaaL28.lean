/- literals.Find, by the calculus; a walk begun anew at a later world. -/
import Derived.Test.YtoknohnodlaimaaL27
set_option linter.unusedVariables false
set_option linter.unusedSimpArgs false
set_option maxRecDepth 10000
namespace Go.Proofs.Ytoknohnodlaimaa
open Go Go.RowKit

/-- What is known of the heap is read for good from here on. -/
theorem CW.rebase {P : Program} {E : Env} {c : Code} {Q : Pst} {G : List (Nat × Value)} {H : List HP} (h : ∀ w1, St E.w0 E.S H w1 → CW P ⟨E.N, E.ds, w1, No⟩ c Q G []) : CW P E c Q G H := fun a w hf hw => h w hw a w hf ⟨Keeps.refl No w, Sep.nil⟩
theorem any_le {w0 w2 : World} {H : List HP} (hw2 : St w0 No H w2) : Mem.le (mem w0 Any) (mem w2 Any) := Mem.le_trans (any_ro (N := 0) (ds := [])) (ro_le' (E := ⟨0, [], w0, No⟩) hw2)
attribute [local irreducible] RW CW
theorem same1_ret {N : Mem} {cx cs : List Value} {x y : LitD} {B : Nat} {w : World} (hN : Mem.le N (mem w Any)) (hx : Rd kLit N cx (litV x)) (hy : Rd kLit N cs (litV y)) (hc : CellsAt w B 0 cx) : Ret Try.prog 40 [.agg cs.toArray, .pointer (some ⟨B, 0, none⟩)] w (.bool (decide (cmpLit x y = 0))) := by
  have h1 := Rd.len hx
  have h2 := Rd.len hy
  replace h1 : cx.length = 5 := h1
  replace h2 : cs.length = 5 := h2
  refine Calls.enter Try.func40 rfl _ rfl rfl (S := No) (H := []) trivial ?_
  refine CW.seqR ?_
  refine RW.box_agg rfl rfl fun b2 _ => ?_
  repeat (first|refine Ja ?_|refine Jb ?_|refine Jc ?_|refine Jd ?_|refine Je ?_|refine Jf ?_|refine Jg ?_|refine Jh ?_|refine Ji ?_|refine Jj ?_|refine Jk ?_|refine Jl ?_|refine Jm ?_|refine Jn ?_|refine Jo ?_|refine Jp ?_|refine Jq ?_|refine Jr ?_|refine Js ?_|refine Jt ?_|refine Ju ?_|refine Jv ?_|refine Jw ?_|refine Jx ?_|refine Jy ?_|refine Jz ?_|refine JA ?_|refine JB ?_|refine JC ?_|refine JD ?_|refine JE ?_|refine JF ?_|refine JG ?_|refine JH ?_|refine JI ?_|refine JJ ?_|refine JK ?_|refine JL ?_|refine JM ?_|refine CW.skip (PW.code ?_)|refine RW.nil (PW.code ?_))
  refine RW.load_olds rfl hc (fun k => k) rfl h1 rfl ?_
  refine RW.load_whole [] rfl h2 rfl rfl ?_
  refine RW.call Try.call8 rfl (fun w2 hw2 => litCompare_ret (M := N) (x := litV x) (y := litV y) (Mem.le_trans hN (any_le hw2)) hx hy) rfl ?_
  repeat (first|refine Ja ?_|refine Jb ?_|refine Jc ?_|refine Jd ?_|refine Je ?_|refine Jf ?_|refine Jg ?_|refine Jh ?_|refine Ji ?_|refine Jj ?_|refine Jk ?_|refine Jl ?_|refine Jm ?_|refine Jn ?_|refine Jo ?_|refine Jp ?_|refine Jq ?_|refine Jr ?_|refine Js ?_|refine Jt ?_|refine Ju ?_|refine Jv ?_|refine Jw ?_|refine Jx ?_|refine Jy ?_|refine Jz ?_|refine JA ?_|refine JB ?_|refine JC ?_|refine JD ?_|refine JE ?_|refine JF ?_|refine JG ?_|refine JH ?_|refine JI ?_|refine JJ ?_|refine JK ?_|refine JL ?_|refine JM ?_|refine CW.skip (PW.code ?_)|refine RW.nil (PW.code ?_))
  refine CW.ret1 rfl Try.results40 rfl rfl fun w hw => ⟨rfl, hw.kp⟩
theorem find_idx {C : List LitD} {x : LitD} (h : x ∈ C) : ∃ n : Nat, idxD (fun y => decide (cmpLit x y = 0)) C = n ∧ C[n]? = some x := by
  unfold idxD
  cases hf : C.findIdx? (fun y => decide (cmpLit x y = 0)) with
  | none =>
    rw [List.findIdx?_eq_none_iff] at hf
    have := hf x h
    rw [decide_eq_true (cmpLit_zero.2 rfl)] at this
    cases this
  | some n =>
    refine ⟨n, rfl, ?_⟩
    obtain ⟨hn, hp, _⟩ := List.findIdx?_eq_some_iff_getElem.1 hf
    rw [List.getElem?_eq_getElem hn, cmpLit_zero.1 (of_decide_eq_true hp)]
theorem find_ret {N : Mem} {D : Option Addr} {e n : Nat} {C : List LitD} {cs : List Value} {x : LitD} {w : World} (hN : Mem.le N (mem w Any)) (hls : Rd kLits N [.slice D C.length e] (C.map litV)) (h : Rd kLit N cs (litV x)) (hn : idxD (fun y => decide (cmpLit x y = 0)) C = n) :
    Ret Try.prog 20 [.slice D C.length e, .agg cs.toArray] w (.tuple #[.int .i64 n, .bool true]) := by
  have hlen := Rd.len h
  replace hlen : cs.length = 5 := hlen
  refine Calls.enter Try.func20 rfl _ rfl rfl (S := No) (H := []) trivial ?_
  refine CW.seqR ?_
  refine RW.box_agg rfl rfl fun b3 _ => ?_
  repeat (first|refine Ja ?_|refine Jb ?_|refine Jc ?_|refine Jd ?_|refine Je ?_|refine Jf ?_|refine Jg ?_|refine Jh ?_|refine Ji ?_|refine Jj ?_|refine Jk ?_|refine Jl ?_|refine Jm ?_|refine Jn ?_|refine Jo ?_|refine Jp ?_|refine Jq ?_|refine Jr ?_|refine Js ?_|refine Jt ?_|refine Ju ?_|refine Jv ?_|refine Jw ?_|refine Jx ?_|refine Jy ?_|refine Jz ?_|refine JA ?_|refine JB ?_|refine JC ?_|refine JD ?_|refine JE ?_|refine JF ?_|refine JG ?_|refine JH ?_|refine JI ?_|refine JJ ?_|refine JK ?_|refine JL ?_|refine JM ?_|refine CW.skip (PW.code ?_)|refine RW.nil (PW.code ?_))
  refine RW.call Try.call39 rfl (fun w2 hw2 => indexLit_ret (N := N) (caps := [.pointer (some ⟨b3, 0, none⟩)]) (p := fun y => decide (cmpLit x y = 0)) (Mem.le_trans hN (any_le hw2)) hls Try.call40 (fun w3 hk3 y _ cy hcy => same1_ret (N := N) (Mem.le_trans hN (Mem.le_trans (any_ro (N := 0) (ds := [])) (Mem.le_trans (mem_keeps (S := No) (hw2.kp.trans hk3 (fun _ hb => hb.elim))) (mem_up fun _ _ => trivial)))) h hcy ((CellsAt.of_blk (St.blk (pre := []) hw2)).keeps hk3 (fun k => k)))) rfl ?_
  rw [hn]
  repeat (first|refine Ja ?_|refine Jb ?_|refine Jc ?_|refine Jd ?_|refine Je ?_|refine Jf ?_|refine Jg ?_|refine Jh ?_|refine Ji ?_|refine Jj ?_|refine Jk ?_|refine Jl ?_|refine Jm ?_|refine Jn ?_|refine Jo ?_|refine Jp ?_|refine Jq ?_|refine Jr ?_|refine Js ?_|refine Jt ?_|refine Ju ?_|refine Jv ?_|refine Jw ?_|refine Jx ?_|refine Jy ?_|refine Jz ?_|refine JA ?_|refine JB ?_|refine JC ?_|refine JD ?_|refine JE ?_|refine JF ?_|refine JG ?_|refine JH ?_|refine JI ?_|refine JJ ?_|refine JK ?_|refine JL ?_|refine JM ?_|refine CW.skip (PW.code ?_)|refine RW.nil (PW.code ?_))
  refine CW.seq ?_
  repeat (first|refine Ja ?_|refine Jb ?_|refine Jc ?_|refine Jd ?_|refine Je ?_|refine Jf ?_|refine Jg ?_|refine Jh ?_|refine Ji ?_|refine Jj ?_|refine Jk ?_|refine Jl ?_|refine Jm ?_|refine Jn ?_|refine Jo ?_|refine Jp ?_|refine Jq ?_|refine Jr ?_|refine Js ?_|refine Jt ?_|refine Ju ?_|refine Jv ?_|refine Jw ?_|refine Jx ?_|refine Jy ?_|refine Jz ?_|refine JA ?_|refine JB ?_|refine JC ?_|refine JD ?_|refine JE ?_|refine JF ?_|refine JG ?_|refine JH ?_|refine JI ?_|refine JJ ?_|refine JK ?_|refine JL ?_|refine JM ?_|refine CW.skip (PW.code ?_)|refine RW.nil (PW.code ?_))
  refine CW.ite rfl (fun h1 => absurd h1 (by omega)) (fun _ => ?_)
  repeat (first|refine Ja ?_|refine Jb ?_|refine Jc ?_|refine Jd ?_|refine Je ?_|refine Jf ?_|refine Jg ?_|refine Jh ?_|refine Ji ?_|refine Jj ?_|refine Jk ?_|refine Jl ?_|refine Jm ?_|refine Jn ?_|refine Jo ?_|refine Jp ?_|refine Jq ?_|refine Jr ?_|refine Js ?_|refine Jt ?_|refine Ju ?_|refine Jv ?_|refine Jw ?_|refine Jx ?_|refine Jy ?_|refine Jz ?_|refine JA ?_|refine JB ?_|refine JC ?_|refine JD ?_|refine JE ?_|refine JF ?_|refine JG ?_|refine JH ?_|refine JI ?_|refine JJ ?_|refine JK ?_|refine JL ?_|refine JM ?_|refine CW.skip (PW.code ?_)|refine RW.nil (PW.code ?_))
  refine CW.rets (rs := [.tmp 4, .tmp 5]) (vs := [_, _]) rfl Try.results20 rfl (ResOK.tmp rfl (ResOK.tmp rfl ResOK.nil)) fun w hw => ⟨rfl, hw.kp⟩
end Go.Proofs.Ytoknohnodlaimaa
