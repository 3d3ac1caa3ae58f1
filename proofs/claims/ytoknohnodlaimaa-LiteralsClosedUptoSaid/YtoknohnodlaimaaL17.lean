/- lexpriorlaw09: num, page, alive, by the calculus. -/
import Derived.Test.YtoknohnodlaimaaL16
set_option linter.unusedVariables false
set_option linter.unusedSimpArgs false
set_option maxRecDepth 10000
namespace Go.Proofs.Ytoknohnodlaimaa
open Go Go.RowKit

attribute [local irreducible] RW CW
theorem num_ret (e : Int) (w : World) : Ret Try.prog 13 [.int .i64 e] w (.int .i64 e) := by
  refine Calls.enter Try.func13 rfl _ rfl rfl (S := No) (H := []) trivial ?_
  repeat (first|refine Ja ?_|refine Jb ?_|refine Jc ?_|refine Jd ?_|refine Je ?_|refine Jf ?_|refine Jg ?_|refine Jh ?_|refine Ji ?_|refine Jj ?_|refine Jk ?_|refine Jl ?_|refine Jm ?_|refine Jn ?_|refine Jo ?_|refine Jp ?_|refine Jq ?_|refine Jr ?_|refine Js ?_|refine Jt ?_|refine Ju ?_|refine Jv ?_|refine Jw ?_|refine Jx ?_|refine Jy ?_|refine Jz ?_|refine JA ?_|refine JB ?_|refine JC ?_|refine JD ?_|refine JE ?_|refine JF ?_|refine JG ?_|refine JH ?_|refine JI ?_|refine JJ ?_|refine JK ?_|refine JL ?_|refine JM ?_|refine CW.skip (PW.code ?_)|refine RW.nil (PW.code ?_))
  refine CW.ret1 rfl Try.results13 rfl rfl fun w hw => ⟨rfl, hw.kp⟩
theorem rd_pred_mk {M : Mem} {n : ByteArray} {s : Int} {A B : Option Addr} {c d : Nat} {kinds : List ByteArray} {vals : List Int} (hn : n.size ≤ reach) (hs : inR .i64 s) (hk : Rd (.sl 16 .str) M [.slice A kinds.length c] kinds) (hv : Rd kInts M [.slice B vals.length d] vals) :
    Rd kPred M [.string n, .int .i64 s, .slice A kinds.length c, .slice B vals.length d] (n, s, kinds, vals) :=
  ⟨[_], [_, _, _], rfl, ⟨rfl, hn⟩, [_], [_, _], rfl, ⟨rfl, hs⟩, [_], [_], rfl, hk, hv⟩
theorem rd_ints_own {e : TypeId} {N : Mem} {v : Value} {xs : List Int} {w : World} {F : Nat → Prop} (ho : (ownHP e 1 v (xs.map fun x => [.int .i64 x])).p w F) (hF : Mem.le (mem w F) N) (hx : (xs.all fun x => (Lit.int .i64 x).wf) = true) (hb : xs.length * 8 ≤ reach) : Rd kInts N [v] xs := by
  refine rd_of_own ho rfl hF ⟨by simp, fun i cs x h1 h2 => ?_⟩ hb
  rw [List.getElem?_map, h2] at h1
  cases h1
  exact ⟨rfl, List.all_eq_true.1 hx x (List.mem_of_getElem? h2)⟩
theorem rd_nil {M : Mem} {by_ : Nat} {t : K} : Rd (.sl by_ t) M [.slice none 0 0] ([] : List t.V) := ⟨none, 0, rfl, Nat.le_refl _, Nat.zero_le _, by show 0 * _ ≤ reach; omega, RowAt.nil⟩
def sPerson : ByteArray := ⟨#[112, 101, 114, 115, 111, 110]⟩
def sOld : ByteArray := ⟨#[111, 108, 100]⟩
def sHelp : ByteArray := ⟨#[104, 101, 108, 112]⟩
def sSingle : ByteArray := ⟨#[115, 105, 110, 103, 108, 101]⟩
def sMarried : ByteArray := ⟨#[109, 97, 114, 114, 105, 101, 100]⟩
def pageP : List kPred.V := [(sOld, 1, [sPerson], ([] : List Int)), (sHelp, 3, [sPerson], ([10, 20] : List Int)), (sSingle, 1, [sPerson], ([] : List Int)), (sMarried, 1, [sPerson], ([] : List Int))]
def pageC : List Int := [-1, -1, 0, 0]
def pageS : List Int := [1, 3, 1, 1]
set_option maxHeartbeats 2000000 in
theorem page_ret (w : World) : RetC Try.prog 21 [] w No (fun y : Value × Value × Value => .tuple #[y.1, y.2.1, y.2.2]) (fun y => [rdHP Mem.none kPreds [y.1] pageP, rdHP Mem.none kInts [y.2.1] pageC, rdHP Mem.none kInts [y.2.2] pageS]) := by
  refine Calls.enter Try.func21 rfl _ rfl rfl (S := No) (H := []) trivial ?_
  repeat (first|refine Ja ?_|refine Jb ?_|refine Jc ?_|refine Jd ?_|refine Je ?_|refine Jf ?_|refine Jg ?_|refine Jh ?_|refine Ji ?_|refine Jj ?_|refine Jk ?_|refine Jl ?_|refine Jm ?_|refine Jn ?_|refine Jo ?_|refine Jp ?_|refine Jq ?_|refine Jr ?_|refine Js ?_|refine Jt ?_|refine Ju ?_|refine Jv ?_|refine Jw ?_|refine Jx ?_|refine Jy ?_|refine Jz ?_|refine JA ?_|refine JB ?_|refine JC ?_|refine JD ?_|refine JE ?_|refine JF ?_|refine JG ?_|refine JH ?_|refine JI ?_|refine JJ ?_|refine JK ?_|refine JL ?_|refine JM ?_|refine CW.skip (PW.code ?_)|refine RW.nil (PW.code ?_))
  refine RW.buildOwn (e := 9) (sz := 1) [[.string sPerson]] rfl (fun w => by kernel_rfl) rfl (by simp) (by decide) rfl fun bk => ?_
  repeat (first|refine Ja ?_|refine Jb ?_|refine Jc ?_|refine Jd ?_|refine Je ?_|refine Jf ?_|refine Jg ?_|refine Jh ?_|refine Ji ?_|refine Jj ?_|refine Jk ?_|refine Jl ?_|refine Jm ?_|refine Jn ?_|refine Jo ?_|refine Jp ?_|refine Jq ?_|refine Jr ?_|refine Js ?_|refine Jt ?_|refine Ju ?_|refine Jv ?_|refine Jw ?_|refine Jx ?_|refine Jy ?_|refine Jz ?_|refine JA ?_|refine JB ?_|refine JC ?_|refine JD ?_|refine JE ?_|refine JF ?_|refine JG ?_|refine JH ?_|refine JI ?_|refine JJ ?_|refine JK ?_|refine JL ?_|refine JM ?_|refine CW.skip (PW.code ?_)|refine RW.nil (PW.code ?_))
  refine RW.build (v := .agg #[.string sOld, .int .i64 1, .slice (some ⟨bk, 0, none⟩) 1 1, .slice none 0 0]) rfl (fun w => by kernel_rfl) rfl ?_
  repeat (first|refine Ja ?_|refine Jb ?_|refine Jc ?_|refine Jd ?_|refine Je ?_|refine Jf ?_|refine Jg ?_|refine Jh ?_|refine Ji ?_|refine Jj ?_|refine Jk ?_|refine Jl ?_|refine Jm ?_|refine Jn ?_|refine Jo ?_|refine Jp ?_|refine Jq ?_|refine Jr ?_|refine Js ?_|refine Jt ?_|refine Ju ?_|refine Jv ?_|refine Jw ?_|refine Jx ?_|refine Jy ?_|refine Jz ?_|refine JA ?_|refine JB ?_|refine JC ?_|refine JD ?_|refine JE ?_|refine JF ?_|refine JG ?_|refine JH ?_|refine JI ?_|refine JJ ?_|refine JK ?_|refine JL ?_|refine JM ?_|refine CW.skip (PW.code ?_)|refine RW.nil (PW.code ?_))
  refine RW.buildOwn (e := 23) (sz := 1) [[.int .i64 10], [.int .i64 20]] rfl (fun w => by kernel_rfl) rfl (by simp) (by decide) rfl fun bv => ?_
  repeat (first|refine Ja ?_|refine Jb ?_|refine Jc ?_|refine Jd ?_|refine Je ?_|refine Jf ?_|refine Jg ?_|refine Jh ?_|refine Ji ?_|refine Jj ?_|refine Jk ?_|refine Jl ?_|refine Jm ?_|refine Jn ?_|refine Jo ?_|refine Jp ?_|refine Jq ?_|refine Jr ?_|refine Js ?_|refine Jt ?_|refine Ju ?_|refine Jv ?_|refine Jw ?_|refine Jx ?_|refine Jy ?_|refine Jz ?_|refine JA ?_|refine JB ?_|refine JC ?_|refine JD ?_|refine JE ?_|refine JF ?_|refine JG ?_|refine JH ?_|refine JI ?_|refine JJ ?_|refine JK ?_|refine JL ?_|refine JM ?_|refine CW.skip (PW.code ?_)|refine RW.nil (PW.code ?_))
  refine RW.build (v := .agg #[.string sHelp, .int .i64 3, .slice (some ⟨bk, 0, none⟩) 1 1, .slice (some ⟨bv, 0, none⟩) 2 2]) rfl (fun w => by kernel_rfl) rfl ?_
  repeat (first|refine Ja ?_|refine Jb ?_|refine Jc ?_|refine Jd ?_|refine Je ?_|refine Jf ?_|refine Jg ?_|refine Jh ?_|refine Ji ?_|refine Jj ?_|refine Jk ?_|refine Jl ?_|refine Jm ?_|refine Jn ?_|refine Jo ?_|refine Jp ?_|refine Jq ?_|refine Jr ?_|refine Js ?_|refine Jt ?_|refine Ju ?_|refine Jv ?_|refine Jw ?_|refine Jx ?_|refine Jy ?_|refine Jz ?_|refine JA ?_|refine JB ?_|refine JC ?_|refine JD ?_|refine JE ?_|refine JF ?_|refine JG ?_|refine JH ?_|refine JI ?_|refine JJ ?_|refine JK ?_|refine JL ?_|refine JM ?_|refine CW.skip (PW.code ?_)|refine RW.nil (PW.code ?_))
  refine RW.build (v := .agg #[.string sSingle, .int .i64 1, .slice (some ⟨bk, 0, none⟩) 1 1, .slice none 0 0]) rfl (fun w => by kernel_rfl) rfl ?_
  repeat (first|refine Ja ?_|refine Jb ?_|refine Jc ?_|refine Jd ?_|refine Je ?_|refine Jf ?_|refine Jg ?_|refine Jh ?_|refine Ji ?_|refine Jj ?_|refine Jk ?_|refine Jl ?_|refine Jm ?_|refine Jn ?_|refine Jo ?_|refine Jp ?_|refine Jq ?_|refine Jr ?_|refine Js ?_|refine Jt ?_|refine Ju ?_|refine Jv ?_|refine Jw ?_|refine Jx ?_|refine Jy ?_|refine Jz ?_|refine JA ?_|refine JB ?_|refine JC ?_|refine JD ?_|refine JE ?_|refine JF ?_|refine JG ?_|refine JH ?_|refine JI ?_|refine JJ ?_|refine JK ?_|refine JL ?_|refine JM ?_|refine CW.skip (PW.code ?_)|refine RW.nil (PW.code ?_))
  refine RW.build (v := .agg #[.string sMarried, .int .i64 1, .slice (some ⟨bk, 0, none⟩) 1 1, .slice none 0 0]) rfl (fun w => by kernel_rfl) rfl ?_
  refine RW.buildOwn (e := 49) (sz := 4) [[.string sOld, .int .i64 1, .slice (some ⟨bk, 0, none⟩) 1 1, .slice none 0 0], [.string sHelp, .int .i64 3, .slice (some ⟨bk, 0, none⟩) 1 1, .slice (some ⟨bv, 0, none⟩) 2 2], [.string sSingle, .int .i64 1, .slice (some ⟨bk, 0, none⟩) 1 1, .slice none 0 0], [.string sMarried, .int .i64 1, .slice (some ⟨bk, 0, none⟩) 1 1, .slice none 0 0]] rfl (fun w => by kernel_rfl) rfl (by simp) (by decide) rfl fun bp => ?_
  refine RW.buildOwn (e := 3) (sz := 1) (pageC.map fun x => [.int .i64 x]) rfl (fun w => by kernel_rfl) rfl (by simp) (by decide) rfl fun bc => ?_
  refine RW.buildOwn (e := 45) (sz := 1) (pageS.map fun x => [.int .i64 x]) rfl (fun w => by kernel_rfl) rfl (by simp) (by decide) rfl fun bs => ?_
  repeat (first|refine Ja ?_|refine Jb ?_|refine Jc ?_|refine Jd ?_|refine Je ?_|refine Jf ?_|refine Jg ?_|refine Jh ?_|refine Ji ?_|refine Jj ?_|refine Jk ?_|refine Jl ?_|refine Jm ?_|refine Jn ?_|refine Jo ?_|refine Jp ?_|refine Jq ?_|refine Jr ?_|refine Js ?_|refine Jt ?_|refine Ju ?_|refine Jv ?_|refine Jw ?_|refine Jx ?_|refine Jy ?_|refine Jz ?_|refine JA ?_|refine JB ?_|refine JC ?_|refine JD ?_|refine JE ?_|refine JF ?_|refine JG ?_|refine JH ?_|refine JI ?_|refine JJ ?_|refine JK ?_|refine JL ?_|refine JM ?_|refine CW.skip (PW.code ?_)|refine RW.nil (PW.code ?_))
  refine CW.rets (rs := [.tmp 0, .tmp 1, .tmp 2]) (vs := [_, _, _]) rfl Try.results21 rfl (ResOK.tmp rfl (ResOK.tmp rfl (ResOK.tmp rfl ResOK.nil))) fun w hw => ⟨(.slice (some ⟨bp, 0, none⟩) 4 4, .slice (some ⟨bc, 0, none⟩) 4 4, .slice (some ⟨bs, 0, none⟩) 4 4), rfl, ?_⟩
  have h1 := hw.take [3, 4, 2, 1, 0]
  have h2 := St.two (e := rdsHP Mem.none kPred [[.string sOld, .int .i64 1, .slice (some ⟨bk, 0, none⟩) 1 1, .slice none 0 0], [.string sHelp, .int .i64 3, .slice (some ⟨bk, 0, none⟩) 1 1, .slice (some ⟨bv, 0, none⟩) 2 2], [.string sSingle, .int .i64 1, .slice (some ⟨bk, 0, none⟩) 1 1, .slice none 0 0], [.string sMarried, .int .i64 1, .slice (some ⟨bk, 0, none⟩) 1 1, .slice none 0 0]] pageP) (fun F F2 g1 g2 => by
    have hk : Rd (.sl 16 .str) (Mem.none.or (mem w fun b => F b ∨ F2 b)) [.slice (some ⟨bk, 0, none⟩) 1 1] [sPerson] := rd_of_own g2 rfl (Mem.le_trans (mem_up fun b hb => .inr hb) (Mem.le_right _ _)) (All2.one ⟨rfl, by decide⟩) (by decide)
    have hv : Rd kInts (Mem.none.or (mem w fun b => F b ∨ F2 b)) [.slice (some ⟨bv, 0, none⟩) 2 2] ([10, 20] : List Int) := rd_ints_own (xs := [10, 20]) g1 (Mem.le_trans (mem_up fun b hb => .inl hb) (Mem.le_right _ _)) rfl (by decide)
    have q1 := rd_pred_mk (A := some ⟨bk, 0, none⟩) (c := 1) (kinds := [sPerson]) (n := sOld) (s := 1) (B := none) (d := 0) (vals := []) (by decide) rfl hk rd_nil
    have q2 := rd_pred_mk (A := some ⟨bk, 0, none⟩) (c := 1) (kinds := [sPerson]) (n := sHelp) (s := 3) (B := some ⟨bv, 0, none⟩) (d := 2) (vals := [10, 20]) (by decide) rfl hk hv
    have q3 := rd_pred_mk (A := some ⟨bk, 0, none⟩) (c := 1) (kinds := [sPerson]) (n := sSingle) (s := 1) (B := none) (d := 0) (vals := []) (by decide) rfl hk rd_nil
    have q4 := rd_pred_mk (A := some ⟨bk, 0, none⟩) (c := 1) (kinds := [sPerson]) (n := sMarried) (s := 1) (B := none) (d := 0) (vals := []) (by decide) rfl hk rd_nil
    exact All2.append (All2.one q1) (All2.append (All2.one q2) (All2.append (All2.one q3) (All2.one q4)))) h1
  have h3 := St.merge_own (by_ := 72) (h2.take [1, 0, 2, 3]) rfl (by decide)
  have h4 := St.change (pre := [_]) (d := rdHP Mem.none kInts [.slice (some ⟨bc, 0, none⟩) 4 4] pageC) h3 (fun F hp => rd_ints_own hp (Mem.le_right _ _) rfl (by decide))
  exact St.change (pre := [_, _]) (d := rdHP Mem.none kInts [.slice (some ⟨bs, 0, none⟩) 4 4] pageS) h4 (fun F hp => rd_ints_own hp (Mem.le_right _ _) rfl (by decide))
/-- What the page's example comes to. -/
def litA : LitD := ⟨false, 1, [0], 10, 0⟩
def litB : LitD := ⟨false, 0, [0], 0, 0⟩
def pagePD : List PredD := pageP.map predOf
def litsA : List LitD := [⟨true, 1, [0], 10, 0⟩, ⟨false, 1, [0], 20, 0⟩]
theorem mates_page : MatesD (pageP.map predOf) pageC litA = (litsA, 0) := by rfl
theorem close_page : closeD (pageP.map predOf) pageC [litB] = ([⟨false, 0, [0], 0, 0⟩, ⟨true, 0, [0], 0, 0⟩], 0) := by rfl
theorem foes_page : foesD pageC pageS [⟨false, 0, [0], 0, 0⟩, ⟨true, 0, [0], 0, 0⟩] = ([[1], [0]], 0) := by rfl
end Go.Proofs.Ytoknohnodlaimaa
