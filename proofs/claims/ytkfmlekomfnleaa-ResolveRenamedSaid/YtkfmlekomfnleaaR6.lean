/- A rule's scope: see, arg, args. Conditions: none. -/
import Derived.Test.YtkfmlekomfnleaaR5
set_option linter.unusedVariables false
set_option linter.unusedSimpArgs false
set_option maxRecDepth 10000
namespace Go.Proofs.Ytkfmlekomfnleaa
open Go Go.RowKit

attribute [local irreducible] RW CW
/-- A scope: its variables in their order; the kinds by name. -/
structure Sc where
  names : List Str
  km : List (Str × Str)
abbrev strE (x : Str) : List Value := [.string x]
abbrev scH (bc bm : Nat) (fr : Bool) (x : Sc) (v : Value) : List HP := [blk bc [v, .map (some bm), .bool fr] 92, ownHP 9 1 v (x.names.map strE), mapHP strK strK .string bm x.km]
def seeD (x : Sc) (a : Str) : Sc := match getM x.km a with
  | some _ => x
  | none => ⟨x.names ++ [a], putM x.km a ByteArray.empty⟩
theorem seeD_len (x : Sc) (a : Str) : (seeD x a).names.length ≤ x.names.length + 1 := by
  unfold seeD
  split
  · omega
  · simp
set_option maxHeartbeats 2000000 in
theorem see_ret {bc bm : Nat} {fr : Bool} {x : Sc} {v : Value} {a : Str} {w : World} {F : Nat → Prop} (hH : Sep (scH bc bm fr x v) w F) (hb : x.names.length ≤ 1000000) :
    RetC Try.prog 118 [.pointer (some ⟨bc, 0, none⟩), .string a] w F (fun _ : Value => .tuple #[]) (fun v' => scH bc bm fr (seeD x a) v') := by
  refine Calls.enter Try.func118 rfl _ rfl rfl (S := F) (H := scH bc bm fr x v) hH ?_
  repeat (first|refine Ja ?_|refine Jb ?_|refine Jc ?_|refine Jd ?_|refine Je ?_|refine Jf ?_|refine Jg ?_|refine Jh ?_|refine Ji ?_|refine Jj ?_|refine Jk ?_|refine Jl ?_|refine Jm ?_|refine Jn ?_|refine Jo ?_|refine Jp ?_|refine Jq ?_|refine Jr ?_|refine Js ?_|refine Jt ?_|refine Ju ?_|refine Jv ?_|refine Jw ?_|refine Jx ?_|refine Jy ?_|refine Jz ?_|refine JA ?_|refine JB ?_|refine JC ?_|refine JD ?_|refine JE ?_|refine JF ?_|refine JG ?_|refine JH ?_|refine JI ?_|refine JJ ?_|refine JK ?_|refine JL ?_|refine JM ?_|refine CW.skip (PW.code ?_)|refine RW.nil (PW.code ?_))
  refine RW.lookupOk [_, _] (a0 := ByteArray.empty) rfl rfl rfl rfl ?_
  repeat (first|refine Ja ?_|refine Jb ?_|refine Jc ?_|refine Jd ?_|refine Je ?_|refine Jf ?_|refine Jg ?_|refine Jh ?_|refine Ji ?_|refine Jj ?_|refine Jk ?_|refine Jl ?_|refine Jm ?_|refine Jn ?_|refine Jo ?_|refine Jp ?_|refine Jq ?_|refine Jr ?_|refine Js ?_|refine Jt ?_|refine Ju ?_|refine Jv ?_|refine Jw ?_|refine Jx ?_|refine Jy ?_|refine Jz ?_|refine JA ?_|refine JB ?_|refine JC ?_|refine JD ?_|refine JE ?_|refine JF ?_|refine JG ?_|refine JH ?_|refine JI ?_|refine JJ ?_|refine JK ?_|refine JL ?_|refine JM ?_|refine CW.skip (PW.code ?_)|refine RW.nil (PW.code ?_))
  cases hg : getM x.km a with
  | some u =>
    refine CW.cf rfl ?_
    refine CW.skip ?_
    refine PW.ret (rs := []) (vs := []) Try.results118 rfl ResOK.nil fun w hw => ⟨v, rfl, ?_⟩
    rw [show seeD x a = x by unfold seeD; rw [hg]]
    exact hw
  | none =>
    refine CW.ct rfl ?_
    repeat (first|refine Ja ?_|refine Jb ?_|refine Jc ?_|refine Jd ?_|refine Je ?_|refine Jf ?_|refine Jg ?_|refine Jh ?_|refine Ji ?_|refine Jj ?_|refine Jk ?_|refine Jl ?_|refine Jm ?_|refine Jn ?_|refine Jo ?_|refine Jp ?_|refine Jq ?_|refine Jr ?_|refine Js ?_|refine Jt ?_|refine Ju ?_|refine Jv ?_|refine Jw ?_|refine Jx ?_|refine Jy ?_|refine Jz ?_|refine JA ?_|refine JB ?_|refine JC ?_|refine JD ?_|refine JE ?_|refine JF ?_|refine JG ?_|refine JH ?_|refine JI ?_|refine JJ ?_|refine JK ?_|refine JL ?_|refine JM ?_|refine CW.skip (PW.code ?_)|refine RW.nil (PW.code ?_))
    refine RW.mapUpdate [_, _] (a := ByteArray.empty) rfl rfl rfl rfl ?_
    repeat (first|refine Ja ?_|refine Jb ?_|refine Jc ?_|refine Jd ?_|refine Je ?_|refine Jf ?_|refine Jg ?_|refine Jh ?_|refine Ji ?_|refine Jj ?_|refine Jk ?_|refine Jl ?_|refine Jm ?_|refine Jn ?_|refine Jo ?_|refine Jp ?_|refine Jq ?_|refine Jr ?_|refine Js ?_|refine Jt ?_|refine Ju ?_|refine Jv ?_|refine Jw ?_|refine Jx ?_|refine Jy ?_|refine Jz ?_|refine JA ?_|refine JB ?_|refine JC ?_|refine JD ?_|refine JE ?_|refine JF ?_|refine JG ?_|refine JH ?_|refine JI ?_|refine JJ ?_|refine JK ?_|refine JL ?_|refine JM ?_|refine CW.skip (PW.code ?_)|refine RW.nil (PW.code ?_))
    refine CW.region ?_
    repeat (first|refine Ja ?_|refine Jb ?_|refine Jc ?_|refine Jd ?_|refine Je ?_|refine Jf ?_|refine Jg ?_|refine Jh ?_|refine Ji ?_|refine Jj ?_|refine Jk ?_|refine Jl ?_|refine Jm ?_|refine Jn ?_|refine Jo ?_|refine Jp ?_|refine Jq ?_|refine Jr ?_|refine Js ?_|refine Jt ?_|refine Ju ?_|refine Jv ?_|refine Jw ?_|refine Jx ?_|refine Jy ?_|refine Jz ?_|refine JA ?_|refine JB ?_|refine JC ?_|refine JD ?_|refine JE ?_|refine JF ?_|refine JG ?_|refine JH ?_|refine JI ?_|refine JJ ?_|refine JK ?_|refine JL ?_|refine JM ?_|refine CW.skip (PW.code ?_)|refine RW.nil (PW.code ?_))
    refine RW.buildSlice (e := 9) (c := [.string a]) rfl (fun w => by kernel_rfl) rfl fun b28 _ => ?_
    refine RW.append [_, _] (e := 9) (sz := 1) (news := [[.string a]]) (zc := [.string ByteArray.empty]) rfl rfl rfl rfl rfl (by simp) (by simp [Value.oneCell']) (fun w hw hn => ?_) ?_ ?_ rfl fun v' => ?_
    · exact ⟨b28, 0, rfl, CellsAt.of_blk (St.blk (pre := []) hw)⟩
    · rw [List.length_map]; omega
    · rw [List.length_map]; unfold maxN; omega
    dsimp only [List.cons_append, List.nil_append]
    repeat (first|refine Ja ?_|refine Jb ?_|refine Jc ?_|refine Jd ?_|refine Je ?_|refine Jf ?_|refine Jg ?_|refine Jh ?_|refine Ji ?_|refine Jj ?_|refine Jk ?_|refine Jl ?_|refine Jm ?_|refine Jn ?_|refine Jo ?_|refine Jp ?_|refine Jq ?_|refine Jr ?_|refine Js ?_|refine Jt ?_|refine Ju ?_|refine Jv ?_|refine Jw ?_|refine Jx ?_|refine Jy ?_|refine Jz ?_|refine JA ?_|refine JB ?_|refine JC ?_|refine JD ?_|refine JE ?_|refine JF ?_|refine JG ?_|refine JH ?_|refine JI ?_|refine JJ ?_|refine JK ?_|refine JL ?_|refine JM ?_|refine CW.skip (PW.code ?_)|refine RW.nil (PW.code ?_))
    refine RW.have_ (φ := v'.cells = #[v'] ∧ v'.oneCell' = true) (fun w hw => ?_) (fun hv => ?_)
    · obtain ⟨F2, hp, _⟩ := St.get (pre := [_, _]) hw
      rcases hp with ⟨rfl, _⟩ | ⟨B, c, tl, rfl, _⟩ <;> exact ⟨rfl, rfl⟩
    refine RW.store_blk [_] rfl rfl rfl hv.1 hv.2 (by show 0 < _; simp) ?_
    refine RW.nil ?_
    refine PW.ret (rs := []) (vs := []) Try.results118 rfl ResOK.nil fun w hw => ⟨v', rfl, ?_⟩
    rw [show seeD x a = ⟨x.names ++ [a], putM x.km a ByteArray.empty⟩ by unfold seeD; rw [hg]]
    unfold scH
    rw [List.map_append]
    exact hw.sub (List.Sublist.cons _ (List.Sublist.refl _))
def mGet (s : kStat.V) (name : Str) : Option Int := getM (indexD ((sMembers s).map nameOf)) name
def memAt (s : kStat.V) (name : Str) : kMember.V := ((sMembers s)[((mGet s name).getD 0).toNat]?).getD (ByteArray.empty, ByteArray.empty)
theorem mGet_lt {s : kStat.V} {name : Str} {i : Int} (h : mGet s name = some i) : 0 ≤ i ∧ i < (sMembers s).length ∧ ((sMembers s)[i.toNat]?).map nameOf = some name := by
  unfold mGet at h
  rw [indexD_get] at h
  obtain ⟨h1, h2, h3⟩ := fst?_some h
  rw [List.getElem?_map] at h3
  exact ⟨h1, by simpa using h2, h3⟩
theorem memAt_get {s : kStat.V} {name : Str} (h : (mGet s name).isSome = true) : 0 ≤ (mGet s name).getD 0 ∧ (mGet s name).getD 0 < (sMembers s).length ∧ (sMembers s)[((mGet s name).getD 0).toNat]? = some (memAt s name) := by
  obtain ⟨i, hi⟩ := Option.isSome_iff_exists.1 h
  have := mGet_lt hi
  unfold memAt
  rw [hi]
  refine ⟨this.1, this.2.1, ?_⟩
  show (sMembers s)[i.toNat]? = some (((sMembers s)[i.toNat]?).getD _)
  rw [List.getElem?_eq_getElem (by omega)]; rfl
def argD (s : kStat.V) (at_ : Int) (fr : Bool) (x : Sc) (a kind : Str) : Ex Sc :=
  if isVarD a = true then
    bnd (wantD (!fr) 86 at_) fun _ =>
    bnd (wantD (decide ((getM (seeD x a).km a).getD ByteArray.empty = ByteArray.empty) || decide ((getM (seeD x a).km a).getD ByteArray.empty = kind)) 81 at_) fun _ => .ok ⟨(seeD x a).names, putM (seeD x a).km a kind⟩
  else
    bnd (wantD (isNameD a) 71 at_) fun _ =>
    bnd (wantD (mGet s a).isSome 82 at_) fun _ =>
    bnd (wantD (decide ((memAt s a).2 = kind)) 81 at_) fun _ => .ok x
theorem argD_len {s : kStat.V} {at_ : Int} {fr : Bool} {x x' : Sc} {a kind : Str} (h : argD s at_ fr x a kind = .ok x') : x'.names.length ≤ x.names.length + 1 := by
  unfold argD at h
  split at h
  · obtain ⟨_, _, h⟩ := bnd_inv h
    obtain ⟨_, _, h⟩ := bnd_inv h
    cases h
    exact seeD_len x a
  · obtain ⟨_, _, h⟩ := bnd_inv h
    obtain ⟨_, _, h⟩ := bnd_inv h
    obtain ⟨_, _, h⟩ := bnd_inv h
    cases h
    omega
set_option maxHeartbeats 4000000 in
theorem arg_ret {br bc bm : Nat} {s : kStat.V} {at_ : Int} {x : RC} {fr : Bool} {y : Sc} {v : Value} {a kind : Str} {w : World} {F : Nat → Prop} (hR : RS w (fun b => ¬ F b) br s at_ x) (hH : Sep (scH bc bm fr y v) w F) (hbd : y.names.length ≤ 1000000) :
    RetE Try.prog 119 [.pointer (some ⟨br, 0, none⟩), .pointer (some ⟨bc, 0, none⟩), .string a, .string kind] w F (argD s at_ fr y a kind) (fun _ _ => .tuple #[]) (fun y' (v' : Value) => scH bc bm fr y' v') := by
  generalize hS : argD s at_ fr y a kind = SP
  have hS := hS.symm
  unfold argD at hS
  have hle : Mem.le (mem w (fun b => ¬ F b)) (mem w (fun b => ¬ F b)) := Mem.le_refl _
  refine Calls.enter Try.func119 rfl _ rfl rfl (S := F) (H := scH bc bm fr y v) hH ?_
  refine CW.seq ?_
  repeat (first|refine Ja ?_|refine Jb ?_|refine Jc ?_|refine Jd ?_|refine Je ?_|refine Jf ?_|refine Jg ?_|refine Jh ?_|refine Ji ?_|refine Jj ?_|refine Jk ?_|refine Jl ?_|refine Jm ?_|refine Jn ?_|refine Jo ?_|refine Jp ?_|refine Jq ?_|refine Jr ?_|refine Js ?_|refine Jt ?_|refine Ju ?_|refine Jv ?_|refine Jw ?_|refine Jx ?_|refine Jy ?_|refine Jz ?_|refine JA ?_|refine JB ?_|refine JC ?_|refine JD ?_|refine JE ?_|refine JF ?_|refine JG ?_|refine JH ?_|refine JI ?_|refine JJ ?_|refine JK ?_|refine JL ?_|refine JM ?_|refine CW.skip (PW.code ?_)|refine RW.nil (PW.code ?_))
  refine RW.call Try.call15 rfl (fun w hw => IsVar_ret) rfl ?_
  repeat (first|refine Ja ?_|refine Jb ?_|refine Jc ?_|refine Jd ?_|refine Je ?_|refine Jf ?_|refine Jg ?_|refine Jh ?_|refine Ji ?_|refine Jj ?_|refine Jk ?_|refine Jl ?_|refine Jm ?_|refine Jn ?_|refine Jo ?_|refine Jp ?_|refine Jq ?_|refine Jr ?_|refine Js ?_|refine Jt ?_|refine Ju ?_|refine Jv ?_|refine Jw ?_|refine Jx ?_|refine Jy ?_|refine Jz ?_|refine JA ?_|refine JB ?_|refine JC ?_|refine JD ?_|refine JE ?_|refine JF ?_|refine JG ?_|refine JH ?_|refine JI ?_|refine JJ ?_|refine JK ?_|refine JL ?_|refine JM ?_|refine CW.skip (PW.code ?_)|refine RW.nil (PW.code ?_))
  refine CW.cond rfl (fun h1 => ?_) (fun h1 => ?_)
  · rw [if_pos h1] at hS
    repeat (first|refine Ja ?_|refine Jb ?_|refine Jc ?_|refine Jd ?_|refine Je ?_|refine Jf ?_|refine Jg ?_|refine Jh ?_|refine Ji ?_|refine Jj ?_|refine Jk ?_|refine Jl ?_|refine Jm ?_|refine Jn ?_|refine Jo ?_|refine Jp ?_|refine Jq ?_|refine Jr ?_|refine Js ?_|refine Jt ?_|refine Ju ?_|refine Jv ?_|refine Jw ?_|refine Jx ?_|refine Jy ?_|refine Jz ?_|refine JA ?_|refine JB ?_|refine JC ?_|refine JD ?_|refine JE ?_|refine JF ?_|refine JG ?_|refine JH ?_|refine JI ?_|refine JJ ?_|refine JK ?_|refine JL ?_|refine JM ?_|refine CW.skip (PW.code ?_)|refine RW.nil (PW.code ?_))
    refine RW.want hS rfl (rfl) (fun w hw => RS.at_cell hR hw) rfl rfl rfl fun hb hS => ?_
    repeat (first|refine Ja ?_|refine Jb ?_|refine Jc ?_|refine Jd ?_|refine Je ?_|refine Jf ?_|refine Jg ?_|refine Jh ?_|refine Ji ?_|refine Jj ?_|refine Jk ?_|refine Jl ?_|refine Jm ?_|refine Jn ?_|refine Jo ?_|refine Jp ?_|refine Jq ?_|refine Jr ?_|refine Js ?_|refine Jt ?_|refine Ju ?_|refine Jv ?_|refine Jw ?_|refine Jx ?_|refine Jy ?_|refine Jz ?_|refine JA ?_|refine JB ?_|refine JC ?_|refine JD ?_|refine JE ?_|refine JF ?_|refine JG ?_|refine JH ?_|refine JI ?_|refine JJ ?_|refine JK ?_|refine JL ?_|refine JM ?_|refine CW.skip (PW.code ?_)|refine RW.nil (PW.code ?_))
    refine RW.callD (r := []) (scH bc bm fr y v) Try.call118 rfl (fun w2 F2 _ h1 _ => see_ret h1 hbd) rfl fun v' => ?_
    generalize hz : seeD y a = z at *
    repeat (first|refine Ja ?_|refine Jb ?_|refine Jc ?_|refine Jd ?_|refine Je ?_|refine Jf ?_|refine Jg ?_|refine Jh ?_|refine Ji ?_|refine Jj ?_|refine Jk ?_|refine Jl ?_|refine Jm ?_|refine Jn ?_|refine Jo ?_|refine Jp ?_|refine Jq ?_|refine Jr ?_|refine Js ?_|refine Jt ?_|refine Ju ?_|refine Jv ?_|refine Jw ?_|refine Jx ?_|refine Jy ?_|refine Jz ?_|refine JA ?_|refine JB ?_|refine JC ?_|refine JD ?_|refine JE ?_|refine JF ?_|refine JG ?_|refine JH ?_|refine JI ?_|refine JJ ?_|refine JK ?_|refine JL ?_|refine JM ?_|refine CW.skip (PW.code ?_)|refine RW.nil (PW.code ?_))
    refine RW.lookup [_, _] (a0 := ByteArray.empty) rfl rfl rfl rfl ?_
    repeat (first|refine Ja ?_|refine Jb ?_|refine Jc ?_|refine Jd ?_|refine Je ?_|refine Jf ?_|refine Jg ?_|refine Jh ?_|refine Ji ?_|refine Jj ?_|refine Jk ?_|refine Jl ?_|refine Jm ?_|refine Jn ?_|refine Jo ?_|refine Jp ?_|refine Jq ?_|refine Jr ?_|refine Js ?_|refine Jt ?_|refine Ju ?_|refine Jv ?_|refine Jw ?_|refine Jx ?_|refine Jy ?_|refine Jz ?_|refine JA ?_|refine JB ?_|refine JC ?_|refine JD ?_|refine JE ?_|refine JF ?_|refine JG ?_|refine JH ?_|refine JI ?_|refine JJ ?_|refine JK ?_|refine JL ?_|refine JM ?_|refine CW.skip (PW.code ?_)|refine RW.nil (PW.code ?_))
    refine RW.splitD 30 rfl (fun h2 => ?_) (fun h2 => ?_)
    · repeat (first|refine Ja ?_|refine Jb ?_|refine Jc ?_|refine Jd ?_|refine Je ?_|refine Jf ?_|refine Jg ?_|refine Jh ?_|refine Ji ?_|refine Jj ?_|refine Jk ?_|refine Jl ?_|refine Jm ?_|refine Jn ?_|refine Jo ?_|refine Jp ?_|refine Jq ?_|refine Jr ?_|refine Js ?_|refine Jt ?_|refine Ju ?_|refine Jv ?_|refine Jw ?_|refine Jx ?_|refine Jy ?_|refine Jz ?_|refine JA ?_|refine JB ?_|refine JC ?_|refine JD ?_|refine JE ?_|refine JF ?_|refine JG ?_|refine JH ?_|refine JI ?_|refine JJ ?_|refine JK ?_|refine JL ?_|refine JM ?_|refine CW.skip (PW.code ?_)|refine RW.nil (PW.code ?_))
      refine RW.want hS rfl ((by rw [decide_eq_true (show (getM z.km a).getD ByteArray.empty = ByteArray.empty from h2), Bool.true_or])) (fun w hw => RS.at_cell hR hw) rfl rfl rfl fun hb hS => ?_
      repeat (first|refine Ja ?_|refine Jb ?_|refine Jc ?_|refine Jd ?_|refine Je ?_|refine Jf ?_|refine Jg ?_|refine Jh ?_|refine Ji ?_|refine Jj ?_|refine Jk ?_|refine Jl ?_|refine Jm ?_|refine Jn ?_|refine Jo ?_|refine Jp ?_|refine Jq ?_|refine Jr ?_|refine Js ?_|refine Jt ?_|refine Ju ?_|refine Jv ?_|refine Jw ?_|refine Jx ?_|refine Jy ?_|refine Jz ?_|refine JA ?_|refine JB ?_|refine JC ?_|refine JD ?_|refine JE ?_|refine JF ?_|refine JG ?_|refine JH ?_|refine JI ?_|refine JJ ?_|refine JK ?_|refine JL ?_|refine JM ?_|refine CW.skip (PW.code ?_)|refine RW.nil (PW.code ?_))
      refine RW.mapUpdate [_, _] (a := kind) rfl rfl rfl rfl ?_
      repeat (first|refine Ja ?_|refine Jb ?_|refine Jc ?_|refine Jd ?_|refine Je ?_|refine Jf ?_|refine Jg ?_|refine Jh ?_|refine Ji ?_|refine Jj ?_|refine Jk ?_|refine Jl ?_|refine Jm ?_|refine Jn ?_|refine Jo ?_|refine Jp ?_|refine Jq ?_|refine Jr ?_|refine Js ?_|refine Jt ?_|refine Ju ?_|refine Jv ?_|refine Jw ?_|refine Jx ?_|refine Jy ?_|refine Jz ?_|refine JA ?_|refine JB ?_|refine JC ?_|refine JD ?_|refine JE ?_|refine JF ?_|refine JG ?_|refine JH ?_|refine JI ?_|refine JJ ?_|refine JK ?_|refine JL ?_|refine JM ?_|refine CW.skip (PW.code ?_)|refine RW.nil (PW.code ?_))
      exact CW.ret rfl (PW.ret (rs := []) (vs := []) Try.results119 rfl ResOK.nil fun w hw => XP.ok (V := fun _ _ => .tuple #[]) v' hS hw)
    · repeat (first|refine Ja ?_|refine Jb ?_|refine Jc ?_|refine Jd ?_|refine Je ?_|refine Jf ?_|refine Jg ?_|refine Jh ?_|refine Ji ?_|refine Jj ?_|refine Jk ?_|refine Jl ?_|refine Jm ?_|refine Jn ?_|refine Jo ?_|refine Jp ?_|refine Jq ?_|refine Jr ?_|refine Js ?_|refine Jt ?_|refine Ju ?_|refine Jv ?_|refine Jw ?_|refine Jx ?_|refine Jy ?_|refine Jz ?_|refine JA ?_|refine JB ?_|refine JC ?_|refine JD ?_|refine JE ?_|refine JF ?_|refine JG ?_|refine JH ?_|refine JI ?_|refine JJ ?_|refine JK ?_|refine JL ?_|refine JM ?_|refine CW.skip (PW.code ?_)|refine RW.nil (PW.code ?_))
      refine RW.lookup [_, _] (a0 := ByteArray.empty) rfl rfl rfl rfl ?_
      repeat (first|refine Ja ?_|refine Jb ?_|refine Jc ?_|refine Jd ?_|refine Je ?_|refine Jf ?_|refine Jg ?_|refine Jh ?_|refine Ji ?_|refine Jj ?_|refine Jk ?_|refine Jl ?_|refine Jm ?_|refine Jn ?_|refine Jo ?_|refine Jp ?_|refine Jq ?_|refine Jr ?_|refine Js ?_|refine Jt ?_|refine Ju ?_|refine Jv ?_|refine Jw ?_|refine Jx ?_|refine Jy ?_|refine Jz ?_|refine JA ?_|refine JB ?_|refine JC ?_|refine JD ?_|refine JE ?_|refine JF ?_|refine JG ?_|refine JH ?_|refine JI ?_|refine JJ ?_|refine JK ?_|refine JL ?_|refine JM ?_|refine CW.skip (PW.code ?_)|refine RW.nil (PW.code ?_))
      refine RW.want hS rfl ((by rw [decide_eq_false (show ¬ (getM z.km a).getD ByteArray.empty = ByteArray.empty from h2), Bool.false_or])) (fun w hw => RS.at_cell hR hw) rfl rfl rfl fun hb hS => ?_
      repeat (first|refine Ja ?_|refine Jb ?_|refine Jc ?_|refine Jd ?_|refine Je ?_|refine Jf ?_|refine Jg ?_|refine Jh ?_|refine Ji ?_|refine Jj ?_|refine Jk ?_|refine Jl ?_|refine Jm ?_|refine Jn ?_|refine Jo ?_|refine Jp ?_|refine Jq ?_|refine Jr ?_|refine Js ?_|refine Jt ?_|refine Ju ?_|refine Jv ?_|refine Jw ?_|refine Jx ?_|refine Jy ?_|refine Jz ?_|refine JA ?_|refine JB ?_|refine JC ?_|refine JD ?_|refine JE ?_|refine JF ?_|refine JG ?_|refine JH ?_|refine JI ?_|refine JJ ?_|refine JK ?_|refine JL ?_|refine JM ?_|refine CW.skip (PW.code ?_)|refine RW.nil (PW.code ?_))
      refine RW.mapUpdate [_, _] (a := kind) rfl rfl rfl rfl ?_
      repeat (first|refine Ja ?_|refine Jb ?_|refine Jc ?_|refine Jd ?_|refine Je ?_|refine Jf ?_|refine Jg ?_|refine Jh ?_|refine Ji ?_|refine Jj ?_|refine Jk ?_|refine Jl ?_|refine Jm ?_|refine Jn ?_|refine Jo ?_|refine Jp ?_|refine Jq ?_|refine Jr ?_|refine Js ?_|refine Jt ?_|refine Ju ?_|refine Jv ?_|refine Jw ?_|refine Jx ?_|refine Jy ?_|refine Jz ?_|refine JA ?_|refine JB ?_|refine JC ?_|refine JD ?_|refine JE ?_|refine JF ?_|refine JG ?_|refine JH ?_|refine JI ?_|refine JJ ?_|refine JK ?_|refine JL ?_|refine JM ?_|refine CW.skip (PW.code ?_)|refine RW.nil (PW.code ?_))
      exact CW.ret rfl (PW.ret (rs := []) (vs := []) Try.results119 rfl ResOK.nil fun w hw => XP.ok (V := fun _ _ => .tuple #[]) v' hS hw)
  · rw [if_neg (by simp [h1])] at hS
    repeat (first|refine Ja ?_|refine Jb ?_|refine Jc ?_|refine Jd ?_|refine Je ?_|refine Jf ?_|refine Jg ?_|refine Jh ?_|refine Ji ?_|refine Jj ?_|refine Jk ?_|refine Jl ?_|refine Jm ?_|refine Jn ?_|refine Jo ?_|refine Jp ?_|refine Jq ?_|refine Jr ?_|refine Js ?_|refine Jt ?_|refine Ju ?_|refine Jv ?_|refine Jw ?_|refine Jx ?_|refine Jy ?_|refine Jz ?_|refine JA ?_|refine JB ?_|refine JC ?_|refine JD ?_|refine JE ?_|refine JF ?_|refine JG ?_|refine JH ?_|refine JI ?_|refine JJ ?_|refine JK ?_|refine JL ?_|refine JM ?_|refine CW.skip (PW.code ?_)|refine RW.nil (PW.code ?_))
    refine RW.call Try.call100 rfl (fun w hw => IsName_ret) rfl ?_
    refine RW.want hS rfl (rfl) (fun w hw => RS.at_cell hR hw) rfl rfl rfl fun hb hS => ?_
    repeat (first|refine Ja ?_|refine Jb ?_|refine Jc ?_|refine Jd ?_|refine Je ?_|refine Jf ?_|refine Jg ?_|refine Jh ?_|refine Ji ?_|refine Jj ?_|refine Jk ?_|refine Jl ?_|refine Jm ?_|refine Jn ?_|refine Jo ?_|refine Jp ?_|refine Jq ?_|refine Jr ?_|refine Js ?_|refine Jt ?_|refine Ju ?_|refine Jv ?_|refine Jw ?_|refine Jx ?_|refine Jy ?_|refine Jz ?_|refine JA ?_|refine JB ?_|refine JC ?_|refine JD ?_|refine JE ?_|refine JF ?_|refine JG ?_|refine JH ?_|refine JI ?_|refine JJ ?_|refine JK ?_|refine JL ?_|refine JM ?_|refine CW.skip (PW.code ?_)|refine RW.nil (PW.code ?_))
    refine RW.load_ro rfl hle (hR.cell 11 _ rfl) rfl rfl ?_
    repeat (first|refine Ja ?_|refine Jb ?_|refine Jc ?_|refine Jd ?_|refine Je ?_|refine Jf ?_|refine Jg ?_|refine Jh ?_|refine Ji ?_|refine Jj ?_|refine Jk ?_|refine Jl ?_|refine Jm ?_|refine Jn ?_|refine Jo ?_|refine Jp ?_|refine Jq ?_|refine Jr ?_|refine Js ?_|refine Jt ?_|refine Ju ?_|refine Jv ?_|refine Jw ?_|refine Jx ?_|refine Jy ?_|refine Jz ?_|refine JA ?_|refine JB ?_|refine JC ?_|refine JD ?_|refine JE ?_|refine JF ?_|refine JG ?_|refine JH ?_|refine JI ?_|refine JJ ?_|refine JK ?_|refine JL ?_|refine JM ?_|refine CW.skip (PW.code ?_)|refine RW.nil (PW.code ?_))
    refine RW.lookupMOk (D := indexD ((sMembers s).map nameOf)) hR.members rfl rfl rfl rfl ?_
    repeat (first|refine Ja ?_|refine Jb ?_|refine Jc ?_|refine Jd ?_|refine Je ?_|refine Jf ?_|refine Jg ?_|refine Jh ?_|refine Ji ?_|refine Jj ?_|refine Jk ?_|refine Jl ?_|refine Jm ?_|refine Jn ?_|refine Jo ?_|refine Jp ?_|refine Jq ?_|refine Jr ?_|refine Js ?_|refine Jt ?_|refine Ju ?_|refine Jv ?_|refine Jw ?_|refine Jx ?_|refine Jy ?_|refine Jz ?_|refine JA ?_|refine JB ?_|refine JC ?_|refine JD ?_|refine JE ?_|refine JF ?_|refine JG ?_|refine JH ?_|refine JI ?_|refine JJ ?_|refine JK ?_|refine JL ?_|refine JM ?_|refine CW.skip (PW.code ?_)|refine RW.nil (PW.code ?_))
    refine RW.want hS rfl (rfl) (fun w hw => RS.at_cell hR hw) rfl rfl rfl fun hb hS => ?_
    obtain ⟨hi0, hi1, hg⟩ := memAt_get (s := s) (name := a) hb
    obtain ⟨B2, O2, es2, hA2, _, hr2, hm2⟩ := sl_get hR.stat.members hg
    obtain ⟨c1, c2, rfl, h5, h6⟩ := hr2
    obtain rfl := str_cell h5
    obtain rfl := str_cell h6
    generalize hmm : memAt s a = mm at *
    repeat (first|refine Ja ?_|refine Jb ?_|refine Jc ?_|refine Jd ?_|refine Je ?_|refine Jf ?_|refine Jg ?_|refine Jh ?_|refine Ji ?_|refine Jj ?_|refine Jk ?_|refine Jl ?_|refine Jm ?_|refine Jn ?_|refine Jo ?_|refine Jp ?_|refine Jq ?_|refine Jr ?_|refine Js ?_|refine Jt ?_|refine Ju ?_|refine Jv ?_|refine Jw ?_|refine Jx ?_|refine Jy ?_|refine Jz ?_|refine JA ?_|refine JB ?_|refine JC ?_|refine JD ?_|refine JE ?_|refine JF ?_|refine JG ?_|refine JH ?_|refine JI ?_|refine JJ ?_|refine JK ?_|refine JL ?_|refine JM ?_|refine CW.skip (PW.code ?_)|refine RW.nil (PW.code ?_))
    refine CW.region ?_
    repeat (first|refine Ja ?_|refine Jb ?_|refine Jc ?_|refine Jd ?_|refine Je ?_|refine Jf ?_|refine Jg ?_|refine Jh ?_|refine Ji ?_|refine Jj ?_|refine Jk ?_|refine Jl ?_|refine Jm ?_|refine Jn ?_|refine Jo ?_|refine Jp ?_|refine Jq ?_|refine Jr ?_|refine Js ?_|refine Jt ?_|refine Ju ?_|refine Jv ?_|refine Jw ?_|refine Jx ?_|refine Jy ?_|refine Jz ?_|refine JA ?_|refine JB ?_|refine JC ?_|refine JD ?_|refine JE ?_|refine JF ?_|refine JG ?_|refine JH ?_|refine JI ?_|refine JJ ?_|refine JK ?_|refine JL ?_|refine JM ?_|refine CW.skip (PW.code ?_)|refine RW.nil (PW.code ?_))
    refine RW.load_ro rfl hle (hR.cell 2 _ rfl) rfl rfl ?_
    repeat (first|refine Ja ?_|refine Jb ?_|refine Jc ?_|refine Jd ?_|refine Je ?_|refine Jf ?_|refine Jg ?_|refine Jh ?_|refine Ji ?_|refine Jj ?_|refine Jk ?_|refine Jl ?_|refine Jm ?_|refine Jn ?_|refine Jo ?_|refine Jp ?_|refine Jq ?_|refine Jr ?_|refine Js ?_|refine Jt ?_|refine Ju ?_|refine Jv ?_|refine Jw ?_|refine Jx ?_|refine Jy ?_|refine Jz ?_|refine JA ?_|refine JB ?_|refine JC ?_|refine JD ?_|refine JE ?_|refine JF ?_|refine JG ?_|refine JH ?_|refine JI ?_|refine JJ ?_|refine JK ?_|refine JL ?_|refine JM ?_|refine CW.skip (PW.code ?_)|refine RW.nil (PW.code ?_))
    refine RW.indexAddrE hA2 rfl rfl hi0 hi1 rfl ?_
    repeat (first|refine Ja ?_|refine Jb ?_|refine Jc ?_|refine Jd ?_|refine Je ?_|refine Jf ?_|refine Jg ?_|refine Jh ?_|refine Ji ?_|refine Jj ?_|refine Jk ?_|refine Jl ?_|refine Jm ?_|refine Jn ?_|refine Jo ?_|refine Jp ?_|refine Jq ?_|refine Jr ?_|refine Js ?_|refine Jt ?_|refine Ju ?_|refine Jv ?_|refine Jw ?_|refine Jx ?_|refine Jy ?_|refine Jz ?_|refine JA ?_|refine JB ?_|refine JC ?_|refine JD ?_|refine JE ?_|refine JF ?_|refine JG ?_|refine JH ?_|refine JI ?_|refine JJ ?_|refine JK ?_|refine JL ?_|refine JM ?_|refine CW.skip (PW.code ?_)|refine RW.nil (PW.code ?_))
    refine RW.load_ro rfl hle (hm2 1 _ rfl) rfl rfl ?_
    repeat (first|refine Ja ?_|refine Jb ?_|refine Jc ?_|refine Jd ?_|refine Je ?_|refine Jf ?_|refine Jg ?_|refine Jh ?_|refine Ji ?_|refine Jj ?_|refine Jk ?_|refine Jl ?_|refine Jm ?_|refine Jn ?_|refine Jo ?_|refine Jp ?_|refine Jq ?_|refine Jr ?_|refine Js ?_|refine Jt ?_|refine Ju ?_|refine Jv ?_|refine Jw ?_|refine Jx ?_|refine Jy ?_|refine Jz ?_|refine JA ?_|refine JB ?_|refine JC ?_|refine JD ?_|refine JE ?_|refine JF ?_|refine JG ?_|refine JH ?_|refine JI ?_|refine JJ ?_|refine JK ?_|refine JL ?_|refine JM ?_|refine CW.skip (PW.code ?_)|refine RW.nil (PW.code ?_))
    refine RW.want hS rfl (rfl) (fun w hw => RS.at_cell hR hw) rfl rfl rfl fun hb hS => ?_
    refine RW.nil ?_
    exact PW.ret (rs := []) (vs := []) Try.results119 rfl ResOK.nil fun w hw => XP.ok (V := fun _ _ => .tuple #[]) v hS hw
def argsD (s : kStat.V) (at_ : Int) (fr : Bool) (x : Sc) (l : List Str) (p : kPredT.V) : Ex Sc :=
  bnd (wantD (decide ((l.length : Int) = p.2.2.1.length)) 83 at_) fun _ => bnd (foldX (fun x (a : Str × Str) => argD s at_ fr x a.1 a.2) x (l.zip p.2.2.1)) .ok
theorem foldX_len {σ α : Type} {f : σ → α → Ex σ} {n : σ → Nat} {d : Nat} (h : ∀ x a x', f x a = .ok x' → n x' ≤ n x + d) : ∀ {l : List α} {x x' : σ}, foldX f x l = .ok x' → n x' ≤ n x + d * l.length := by
  intro l
  induction l with
  | nil => intro x x' hx; cases hx; omega
  | cons a r ih =>
    intro x x' hx
    obtain ⟨x1, h1, h2⟩ := bnd_inv hx
    have := h _ _ _ h1
    have := ih h2
    rw [List.length_cons, Nat.mul_add]
    omega
theorem argsD_len {s : kStat.V} {at_ : Int} {fr : Bool} {x x' : Sc} {l : List Str} {p : kPredT.V} (h : argsD s at_ fr x l p = .ok x') : x'.names.length ≤ x.names.length + p.2.2.1.length := by
  obtain ⟨_, h1, h⟩ := bnd_inv h
  obtain ⟨_, h2, h⟩ := bnd_inv h
  cases h
  have h3 := foldX_len (n := fun x => x.names.length) (d := 1) (fun _ _ _ h => argD_len h) h2
  rw [List.length_zip] at h3
  omega
set_option maxHeartbeats 4000000 in
theorem args_ret {br bc bm : Nat} {s : kStat.V} {at_ : Int} {x : RC} {fr : Bool} {y : Sc} {v : Value} {A : Option Addr} {c : Nat} {l : List Str} {cs : List Value} {p : kPredT.V} {w : World} {F : Nat → Prop} (hR : RS w (fun b => ¬ F b) br s at_ x) (hl : Rd kStrs (mem w (fun b => ¬ F b)) [.slice A l.length c] l) (hp : Rd kPredT (mem w (fun b => ¬ F b)) cs p)
    (hH : Sep (scH bc bm fr y v) w F) (hbd : y.names.length + p.2.2.1.length ≤ 1000000) :
    RetE Try.prog 109 [.pointer (some ⟨br, 0, none⟩), .pointer (some ⟨bc, 0, none⟩), .slice A l.length c, .agg cs.toArray] w F (argsD s at_ fr y l p) (fun _ _ => .tuple #[]) (fun y' (v' : Value) => scH bc bm fr y' v') := by
  generalize hS : argsD s at_ fr y l p = SP
  have hS := hS.symm
  unfold argsD at hS
  obtain ⟨PA, pc, PB, pd, rfl, hkd, hvd⟩ := Rd.predT hp
  have hl1 := sl_small hl
  unfold reach at hl1
  have hle : Mem.le (mem w (fun b => ¬ F b)) (mem w (fun b => ¬ F b)) := Mem.le_refl _
  refine Calls.enter Try.func109 rfl _ rfl rfl (S := F) (H := scH bc bm fr y v) hH ?_
  refine CW.seqR ?_
  refine RW.box_agg rfl rfl fun b7 _ => ?_
  repeat (first|refine Ja ?_|refine Jb ?_|refine Jc ?_|refine Jd ?_|refine Je ?_|refine Jf ?_|refine Jg ?_|refine Jh ?_|refine Ji ?_|refine Jj ?_|refine Jk ?_|refine Jl ?_|refine Jm ?_|refine Jn ?_|refine Jo ?_|refine Jp ?_|refine Jq ?_|refine Jr ?_|refine Js ?_|refine Jt ?_|refine Ju ?_|refine Jv ?_|refine Jw ?_|refine Jx ?_|refine Jy ?_|refine Jz ?_|refine JA ?_|refine JB ?_|refine JC ?_|refine JD ?_|refine JE ?_|refine JF ?_|refine JG ?_|refine JH ?_|refine JI ?_|refine JJ ?_|refine JK ?_|refine JL ?_|refine JM ?_|refine CW.skip (PW.code ?_)|refine RW.nil (PW.code ?_))
  refine RW.want hS rfl (rfl) (fun w hw => RS.at_cell hR hw) rfl rfl rfl fun hb hS => ?_
  have hlen : l.length = p.2.2.1.length := by have := of_decide_eq_true hb; omega
  repeat (first|refine Ja ?_|refine Jb ?_|refine Jc ?_|refine Jd ?_|refine Je ?_|refine Jf ?_|refine Jg ?_|refine Jh ?_|refine Ji ?_|refine Jj ?_|refine Jk ?_|refine Jl ?_|refine Jm ?_|refine Jn ?_|refine Jo ?_|refine Jp ?_|refine Jq ?_|refine Jr ?_|refine Js ?_|refine Jt ?_|refine Ju ?_|refine Jv ?_|refine Jw ?_|refine Jx ?_|refine Jy ?_|refine Jz ?_|refine JA ?_|refine JB ?_|refine JC ?_|refine JD ?_|refine JE ?_|refine JF ?_|refine JG ?_|refine JH ?_|refine JI ?_|refine JJ ?_|refine JK ?_|refine JL ?_|refine JM ?_|refine CW.skip (PW.code ?_)|refine RW.nil (PW.code ?_))
  refine CW.block ?_
  refine CW.loop (ι := { q : Nat × Sc × Value // q.1 ≤ l.length ∧ q.2.1.names.length ≤ y.names.length + q.1 ∧ SP = bnd (foldX (fun x (a : Str × Str) => argD s at_ fr x a.1 a.2) q.2.1 ((l.zip p.2.2.1).drop q.1)) _ }) (fun q => [(0, .pointer (some ⟨br, 0, none⟩)), (1, .pointer (some ⟨bc, 0, none⟩)), (7, .pointer (some ⟨b7, 0, none⟩)), (18, .slice A l.length c), (19, .int .i64 l.length), (20, .int .i64 q.1.1)])
    (fun q => blk b7 [.string p.1, .int .i64 p.2.1, .slice PA p.2.2.1.length pc, .slice PB p.2.2.2.length pd] 95 :: scH bc bm fr q.1.2.1 q.1.2.2) (fun q => l.length - q.1.1) ⟨(0, y, v), Nat.zero_le _, Nat.le_refl _, hS⟩ ⟨rfl, rfl, rfl, rfl, rfl, rfl, trivial⟩ (fun h => h) ?_
  intro ⟨⟨k, z, u⟩, hk, hn, hS⟩
  dsimp only at hS hk hn ⊢
  repeat (first|refine Ja ?_|refine Jb ?_|refine Jc ?_|refine Jd ?_|refine Je ?_|refine Jf ?_|refine Jg ?_|refine Jh ?_|refine Ji ?_|refine Jj ?_|refine Jk ?_|refine Jl ?_|refine Jm ?_|refine Jn ?_|refine Jo ?_|refine Jp ?_|refine Jq ?_|refine Jr ?_|refine Js ?_|refine Jt ?_|refine Ju ?_|refine Jv ?_|refine Jw ?_|refine Jx ?_|refine Jy ?_|refine Jz ?_|refine JA ?_|refine JB ?_|refine JC ?_|refine JD ?_|refine JE ?_|refine JF ?_|refine JG ?_|refine JH ?_|refine JI ?_|refine JJ ?_|refine JK ?_|refine JL ?_|refine JM ?_|refine CW.skip (PW.code ?_)|refine RW.nil (PW.code ?_))
  refine CW.seq ?_
  refine CW.ite rfl (fun hlt => ?_) (fun hge => ?_)
  · have hlt' : k < l.length := by simpa using hlt
    have hlt2 : k < p.2.2.1.length := by omega
    have hlt3 : k < (l.zip p.2.2.1).length := by rw [List.length_zip]; omega
    rw [foldX_step hlt3, List.getElem_zip] at hS
    obtain ⟨B1, O1, es1, hA, hl1, hr, hm⟩ := sl_get hl (List.getElem?_eq_getElem hlt')
    obtain rfl := str_cell hr
    obtain ⟨B2, O2, es2, hA2, hl2, hr2, hm2⟩ := sl_get hkd (List.getElem?_eq_getElem hlt2)
    obtain rfl := str_cell hr2
    repeat (first|refine Ja ?_|refine Jb ?_|refine Jc ?_|refine Jd ?_|refine Je ?_|refine Jf ?_|refine Jg ?_|refine Jh ?_|refine Ji ?_|refine Jj ?_|refine Jk ?_|refine Jl ?_|refine Jm ?_|refine Jn ?_|refine Jo ?_|refine Jp ?_|refine Jq ?_|refine Jr ?_|refine Js ?_|refine Jt ?_|refine Ju ?_|refine Jv ?_|refine Jw ?_|refine Jx ?_|refine Jy ?_|refine Jz ?_|refine JA ?_|refine JB ?_|refine JC ?_|refine JD ?_|refine JE ?_|refine JF ?_|refine JG ?_|refine JH ?_|refine JI ?_|refine JJ ?_|refine JK ?_|refine JL ?_|refine JM ?_|refine CW.skip (PW.code ?_)|refine RW.nil (PW.code ?_))
    refine CW.seq ?_
    refine CW.block ?_
    repeat (first|refine Ja ?_|refine Jb ?_|refine Jc ?_|refine Jd ?_|refine Je ?_|refine Jf ?_|refine Jg ?_|refine Jh ?_|refine Ji ?_|refine Jj ?_|refine Jk ?_|refine Jl ?_|refine Jm ?_|refine Jn ?_|refine Jo ?_|refine Jp ?_|refine Jq ?_|refine Jr ?_|refine Js ?_|refine Jt ?_|refine Ju ?_|refine Jv ?_|refine Jw ?_|refine Jx ?_|refine Jy ?_|refine Jz ?_|refine JA ?_|refine JB ?_|refine JC ?_|refine JD ?_|refine JE ?_|refine JF ?_|refine JG ?_|refine JH ?_|refine JI ?_|refine JJ ?_|refine JK ?_|refine JL ?_|refine JM ?_|refine CW.skip (PW.code ?_)|refine RW.nil (PW.code ?_))
    refine RW.indexAddrE hA rfl rfl (by omega) hlt rfl ?_
    repeat (first|refine Ja ?_|refine Jb ?_|refine Jc ?_|refine Jd ?_|refine Je ?_|refine Jf ?_|refine Jg ?_|refine Jh ?_|refine Ji ?_|refine Jj ?_|refine Jk ?_|refine Jl ?_|refine Jm ?_|refine Jn ?_|refine Jo ?_|refine Jp ?_|refine Jq ?_|refine Jr ?_|refine Js ?_|refine Jt ?_|refine Ju ?_|refine Jv ?_|refine Jw ?_|refine Jx ?_|refine Jy ?_|refine Jz ?_|refine JA ?_|refine JB ?_|refine JC ?_|refine JD ?_|refine JE ?_|refine JF ?_|refine JG ?_|refine JH ?_|refine JI ?_|refine JJ ?_|refine JK ?_|refine JL ?_|refine JM ?_|refine CW.skip (PW.code ?_)|refine RW.nil (PW.code ?_))
    refine RW.load_ro rfl hle (hm 0 _ rfl) rfl rfl ?_
    repeat (first|refine Ja ?_|refine Jb ?_|refine Jc ?_|refine Jd ?_|refine Je ?_|refine Jf ?_|refine Jg ?_|refine Jh ?_|refine Ji ?_|refine Jj ?_|refine Jk ?_|refine Jl ?_|refine Jm ?_|refine Jn ?_|refine Jo ?_|refine Jp ?_|refine Jq ?_|refine Jr ?_|refine Js ?_|refine Jt ?_|refine Ju ?_|refine Jv ?_|refine Jw ?_|refine Jx ?_|refine Jy ?_|refine Jz ?_|refine JA ?_|refine JB ?_|refine JC ?_|refine JD ?_|refine JE ?_|refine JF ?_|refine JG ?_|refine JH ?_|refine JI ?_|refine JJ ?_|refine JK ?_|refine JL ?_|refine JM ?_|refine CW.skip (PW.code ?_)|refine RW.nil (PW.code ?_))
    refine CW.region ?_
    repeat (first|refine Ja ?_|refine Jb ?_|refine Jc ?_|refine Jd ?_|refine Je ?_|refine Jf ?_|refine Jg ?_|refine Jh ?_|refine Ji ?_|refine Jj ?_|refine Jk ?_|refine Jl ?_|refine Jm ?_|refine Jn ?_|refine Jo ?_|refine Jp ?_|refine Jq ?_|refine Jr ?_|refine Js ?_|refine Jt ?_|refine Ju ?_|refine Jv ?_|refine Jw ?_|refine Jx ?_|refine Jy ?_|refine Jz ?_|refine JA ?_|refine JB ?_|refine JC ?_|refine JD ?_|refine JE ?_|refine JF ?_|refine JG ?_|refine JH ?_|refine JI ?_|refine JJ ?_|refine JK ?_|refine JL ?_|refine JM ?_|refine CW.skip (PW.code ?_)|refine RW.nil (PW.code ?_))
    refine RW.indexAddrE hA2 rfl rfl (by omega) (by omega) rfl ?_
    repeat (first|refine Ja ?_|refine Jb ?_|refine Jc ?_|refine Jd ?_|refine Je ?_|refine Jf ?_|refine Jg ?_|refine Jh ?_|refine Ji ?_|refine Jj ?_|refine Jk ?_|refine Jl ?_|refine Jm ?_|refine Jn ?_|refine Jo ?_|refine Jp ?_|refine Jq ?_|refine Jr ?_|refine Js ?_|refine Jt ?_|refine Ju ?_|refine Jv ?_|refine Jw ?_|refine Jx ?_|refine Jy ?_|refine Jz ?_|refine JA ?_|refine JB ?_|refine JC ?_|refine JD ?_|refine JE ?_|refine JF ?_|refine JG ?_|refine JH ?_|refine JI ?_|refine JJ ?_|refine JK ?_|refine JL ?_|refine JM ?_|refine CW.skip (PW.code ?_)|refine RW.nil (PW.code ?_))
    refine RW.load_ro rfl hle (hm2 0 _ rfl) rfl rfl ?_
    refine RW.take [1, 2, 3, 0] ?_
    refine RW.callE (r := [_]) (scH bc bm fr z u) hS Try.call119 rfl (fun w2 F2 hw2 hF2 h1 _ => arg_ret (RS.callF hR hw2 hF2) h1 (by omega)) rfl rfl rfl fun z' u' hz hS => ?_
    have hn' := argD_len hz
    refine RW.nil ?_
    refine PW.code ?_
    refine CW.region ?_
    refine RW.add rfl rfl (w64 (by omega) (by omega)) rfl ?_
    repeat (first|refine Ja ?_|refine Jb ?_|refine Jc ?_|refine Jd ?_|refine Je ?_|refine Jf ?_|refine Jg ?_|refine Jh ?_|refine Ji ?_|refine Jj ?_|refine Jk ?_|refine Jl ?_|refine Jm ?_|refine Jn ?_|refine Jo ?_|refine Jp ?_|refine Jq ?_|refine Jr ?_|refine Js ?_|refine Jt ?_|refine Ju ?_|refine Jv ?_|refine Jw ?_|refine Jx ?_|refine Jy ?_|refine Jz ?_|refine JA ?_|refine JB ?_|refine JC ?_|refine JD ?_|refine JE ?_|refine JF ?_|refine JG ?_|refine JH ?_|refine JI ?_|refine JJ ?_|refine JK ?_|refine JL ?_|refine JM ?_|refine CW.skip (PW.code ?_)|refine RW.nil (PW.code ?_))
    refine RW.nil ?_
    exact PW.againT ⟨(k + 1, z', u'), hlt', by show z'.names.length ≤ _; omega, hS⟩ [3, 0, 1, 2] ⟨rfl, rfl, rfl, rfl, rfl, rfl, trivial⟩ rfl (by show l.length - (k + 1) < l.length - k; omega)
  · have hge' : l.length ≤ k := by simpa using hge
    rw [foldX_end (by rw [List.length_zip]; omega)] at hS
    refine CW.exit rfl ?_
    exact PW.ret (rs := []) (vs := []) Try.results109 rfl ResOK.nil fun w hw => XP.ok (V := fun _ _ => .tuple #[]) u hS (hw.sub (List.Sublist.cons _ (List.Sublist.refl _)))
end Go.Proofs.Ytkfmlekomfnleaa
