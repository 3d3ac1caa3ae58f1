/- literals.Foes, by the calculus. -/
import Derived.Test.YtoknohnodlaimaaL15
import Derived.Test.YtoknohnodlaimaaL10
set_option linter.unusedVariables false
set_option linter.unusedSimpArgs false
set_option maxRecDepth 10000
namespace Go.Proofs.Ytoknohnodlaimaa
open Go Go.RowKit

attribute [local irreducible] RW CW
abbrev kIntss : K := .sl 24 kInts
def risingD (ls : List LitD) : Bool := (List.range (ls.length - 1)).all fun j => match ls[j]?, ls[j + 1]? with
  | some a, some b => decide (cmpLit a b < 0)
  | _, _ => true
theorem risingD_iff {ls : List LitD} : risingD ls = true ↔ ∀ (j : Nat) (h : j + 1 < ls.length), cmpLit (ls[j]'(by omega)) ls[j + 1] < 0 := by
  rw [risingD, List.all_eq_true]
  constructor
  · intro k j h
    have := k j (by simp; omega)
    rw [List.getElem?_eq_getElem (by omega), List.getElem?_eq_getElem h] at this
    simpa using this
  · intro k j h
    simp only [List.mem_range] at h
    rw [List.getElem?_eq_getElem (by omega), List.getElem?_eq_getElem (by omega)]
    simpa using k j (by omega)
def hitD (cl so : List Int) (x : LitD) (ls : List LitD) (k : Nat) : Bool := match ls[k]? with
  | some y => conflictD cl so x y
  | none => false
def hitsD (cl so : List Int) (x : LitD) (ls : List LitD) (n : Nat) : List Nat := (List.range n).filter (hitD cl so x ls)
def rowD (cl so : List Int) (ls : List LitD) (x : LitD) : List Int := (hitsD cl so x ls ls.length).map (fun (k : Nat) => (k : Int))
def foesD (cl so : List Int) (ls : List LitD) : List (List Int) × Int := if risingD ls then (ls.map (rowD cl so ls), 0) else ([], 7)
theorem hitsD_succ {cl so : List Int} {x : LitD} {ls : List LitD} {k : Nat} : hitsD cl so x ls (k + 1) = if hitD cl so x ls k then hitsD cl so x ls k ++ [k] else hitsD cl so x ls k := by
  unfold hitsD
  rw [List.range_succ, List.filter_append]
  split
  · rename_i h; simp [h]
  · rename_i h; simp [h]
theorem hitsD_len {cl so : List Int} {x : LitD} {ls : List LitD} {k : Nat} : (hitsD cl so x ls k).length ≤ k := by
  unfold hitsD
  exact Nat.le_trans (List.length_filter_le _ _) (by simp)
theorem hitsD_lt {cl so : List Int} {x : LitD} {ls : List LitD} {k j : Nat} (h : j ∈ hitsD cl so x ls k) : j < k := by
  unfold hitsD at h
  simpa using (List.mem_filter.1 h).1
abbrev natCells (row : List Nat) : List (List Value) := row.map fun (j : Nat) => [Value.int .i64 j]
theorem natCells_rd {M : Mem} {row : List Nat} (h : ∀ j ∈ row, j ≤ 140737488351232) : All2 (fun cs x => Rd kInt M cs x) (natCells row) (row.map fun (k : Nat) => (k : Int)) := by
  refine ⟨by simp, fun i cs x h1 h2 => ?_⟩
  rw [List.getElem?_map] at h1 h2
  cases hr : row[i]? with
  | none => rw [hr] at h1; cases h1
  | some j =>
    rw [hr] at h1 h2
    cases h1; cases h2
    have := h j (List.mem_of_getElem? hr)
    exact ⟨rfl, inR_i64 (by show _ ≤ (j : Int); omega) (by show (j : Int) ≤ _; omega)⟩
theorem natCells_succ {cl so : List Int} {x : LitD} {ls : List LitD} {k : Nat} (h : hitD cl so x ls k = true) : natCells (hitsD cl so x ls (k + 1)) = natCells (hitsD cl so x ls k) ++ [[.int .i64 k]] := by
  rw [hitsD_succ, if_pos h, natCells, List.map_append]; rfl
theorem natCells_same {cl so : List Int} {x : LitD} {ls : List LitD} {k : Nat} (h : hitD cl so x ls k = false) : natCells (hitsD cl so x ls (k + 1)) = natCells (hitsD cl so x ls k) := by
  rw [hitsD_succ, if_neg (by rw [h]; decide)]
theorem flatten_one (vs : List Value) : (vs.map fun v => [v]).flatten = vs := by
  induction vs with
  | nil => rfl
  | cons v vs ih => rw [List.map_cons, List.flatten_cons, ih]; rfl
theorem reach_eq : reach = 140737488351232 := rfl
set_option maxHeartbeats 8000000 in
theorem Foes_ret {N : Mem} {A B D : Option Addr} {c d e : Nat} {cl so : List Int} {ls : List LitD} {w : World} (hN : Mem.le N (mem w Any)) (hcl : Rd kInts N [.slice A cl.length c] cl) (hso : Rd kInts N [.slice B so.length d] so) (hls : Rd kLits N [.slice D ls.length e] (ls.map litV)) :
    RetC Try.prog 19 [.slice A cl.length c, .slice B so.length d, .slice D ls.length e] w No (fun v : Value => .tuple #[v, .int .i64 (foesD cl so ls).2]) (fun v => [rdHP Mem.none kIntss [v] (foesD cl so ls).1]) := by
  have hle : ∀ {H : List HP} {w2 : World}, St w No H w2 → Mem.le (mem w Any) (mem w2 Any) := fun hw2 => Mem.le_trans (any_ro (N := 0) (ds := [])) (ro_le' (E := ⟨0, [], w, No⟩) hw2)
  obtain ⟨D', e', he, _, _, hsz, hx⟩ := Rd.lits hls
  cases he
  rw [reach_eq] at hsz
  refine Calls.enter Try.func19 rfl _ rfl rfl (S := No) (H := []) trivial ?_
  repeat (first|refine Ja ?_|refine Jb ?_|refine Jc ?_|refine Jd ?_|refine Je ?_|refine Jf ?_|refine Jg ?_|refine Jh ?_|refine Ji ?_|refine Jj ?_|refine Jk ?_|refine Jl ?_|refine Jm ?_|refine Jn ?_|refine Jo ?_|refine Jp ?_|refine Jq ?_|refine Jr ?_|refine Js ?_|refine Jt ?_|refine Ju ?_|refine Jv ?_|refine Jw ?_|refine Jx ?_|refine Jy ?_|refine Jz ?_|refine JA ?_|refine JB ?_|refine JC ?_|refine JD ?_|refine JE ?_|refine JF ?_|refine JG ?_|refine JH ?_|refine JI ?_|refine JJ ?_|refine JK ?_|refine JL ?_|refine JM ?_|refine CW.skip (PW.code ?_)|refine RW.nil (PW.code ?_))
  refine CW.seq ?_
  repeat (first|refine Ja ?_|refine Jb ?_|refine Jc ?_|refine Jd ?_|refine Je ?_|refine Jf ?_|refine Jg ?_|refine Jh ?_|refine Ji ?_|refine Jj ?_|refine Jk ?_|refine Jl ?_|refine Jm ?_|refine Jn ?_|refine Jo ?_|refine Jp ?_|refine Jq ?_|refine Jr ?_|refine Js ?_|refine Jt ?_|refine Ju ?_|refine Jv ?_|refine Jw ?_|refine Jx ?_|refine Jy ?_|refine Jz ?_|refine JA ?_|refine JB ?_|refine JC ?_|refine JD ?_|refine JE ?_|refine JF ?_|refine JG ?_|refine JH ?_|refine JI ?_|refine JJ ?_|refine JK ?_|refine JL ?_|refine JM ?_|refine CW.skip (PW.code ?_)|refine RW.nil (PW.code ?_))
  refine CW.block ?_
  refine CW.loop (ι := { i : Nat // 1 ≤ i ∧ (i ≤ ls.length ∨ i = 1) ∧ ∀ (j : Nat) (h : j + 1 < ls.length), j + 1 < i → cmpLit (ls[j]'(by omega)) ls[j + 1] < 0 })
    (fun i => [(0, .slice A cl.length c), (1, .slice B so.length d), (2, .slice D ls.length e), (8, .int .i64 i.1)]) (fun _ => []) (fun i => ls.length - i.1) ⟨1, Nat.le_refl _, .inr rfl, fun j h k => absurd k (by omega)⟩ ⟨rfl, rfl, rfl, rfl, trivial⟩ (fun h => h) ?_
  intro ⟨i, hi1, hi2, hi3⟩
  dsimp only
  refine CW.seq ?_
  repeat (first|refine Ja ?_|refine Jb ?_|refine Jc ?_|refine Jd ?_|refine Je ?_|refine Jf ?_|refine Jg ?_|refine Jh ?_|refine Ji ?_|refine Jj ?_|refine Jk ?_|refine Jl ?_|refine Jm ?_|refine Jn ?_|refine Jo ?_|refine Jp ?_|refine Jq ?_|refine Jr ?_|refine Js ?_|refine Jt ?_|refine Ju ?_|refine Jv ?_|refine Jw ?_|refine Jx ?_|refine Jy ?_|refine Jz ?_|refine JA ?_|refine JB ?_|refine JC ?_|refine JD ?_|refine JE ?_|refine JF ?_|refine JG ?_|refine JH ?_|refine JI ?_|refine JJ ?_|refine JK ?_|refine JL ?_|refine JM ?_|refine CW.skip (PW.code ?_)|refine RW.nil (PW.code ?_))
  refine CW.ite rfl (fun hlt => ?_) (fun hge => ?_)
  · have hlt' : i < ls.length := by omega
    obtain ⟨i0, rfl⟩ : ∃ i0, i = i0 + 1 := ⟨i - 1, by omega⟩
    obtain ⟨B1, O1, es1, hD1, hl1, hr1, hm1⟩ := hx i0 ls[i0] (List.getElem?_eq_getElem (by omega))
    obtain ⟨B2, O2, es2, hD2, hl2, hr2, hm2⟩ := hx (i0 + 1) ls[i0 + 1] (List.getElem?_eq_getElem hlt')
    subst hD1
    cases hD2
    have hback : ∀ (j : Nat) (h : j + 1 < ls.length), j + 1 < i0 + 1 + 1 → cmpLit ls[i0] ls[i0 + 1] < 0 → cmpLit (ls[j]'(by omega)) ls[j + 1] < 0 := fun j h h2 h3 => by
      by_cases hj : j = i0
      · subst hj; exact h3
      · exact hi3 j h (by omega)
    have hno : ¬ cmpLit ls[i0] ls[i0 + 1] < 0 → risingD ls = false := fun h => by
      cases hr : risingD ls with
      | false => rfl
      | true => exact absurd (risingD_iff.1 hr i0 hlt') h
    generalize hga : ls[i0] = a at hr1 hno
    generalize hgb : ls[i0 + 1] = b at hr2 hno
    repeat (first|refine Ja ?_|refine Jb ?_|refine Jc ?_|refine Jd ?_|refine Je ?_|refine Jf ?_|refine Jg ?_|refine Jh ?_|refine Ji ?_|refine Jj ?_|refine Jk ?_|refine Jl ?_|refine Jm ?_|refine Jn ?_|refine Jo ?_|refine Jp ?_|refine Jq ?_|refine Jr ?_|refine Js ?_|refine Jt ?_|refine Ju ?_|refine Jv ?_|refine Jw ?_|refine Jx ?_|refine Jy ?_|refine Jz ?_|refine JA ?_|refine JB ?_|refine JC ?_|refine JD ?_|refine JE ?_|refine JF ?_|refine JG ?_|refine JH ?_|refine JI ?_|refine JJ ?_|refine JK ?_|refine JL ?_|refine JM ?_|refine CW.skip (PW.code ?_)|refine RW.nil (PW.code ?_))
    refine CW.seq ?_
    refine CW.block ?_
    refine CW.seqA (by kernel_rfl) rfl ?_
    repeat (apply AW.val rfl; · intro Gx X; (first | refine RW.yes rfl ?_ | skip); (first|refine Jc ?_|refine Jd ?_|refine Je ?_|refine Jg ?_|refine Jh ?_|refine Ji ?_|refine Jj ?_|refine Jk ?_|refine Jl ?_|refine Jm ?_|refine Jn ?_|refine Jo ?_|refine Jp ?_|refine Jq ?_|refine Jr ?_|refine Js ?_|refine Jt ?_|refine Ju ?_|refine Jv ?_|refine Jw ?_|refine Jx ?_|refine Jz ?_|refine JA ?_|refine JB ?_|refine JC ?_|refine JD ?_|refine JE ?_|refine JF ?_|refine JG ?_|refine JH ?_|refine JI ?_|refine JJ ?_|refine JK ?_|refine JL ?_); exact RW.done rfl)
    (apply AW.val rfl; · intro Gx X; (first | refine RW.yes rfl ?_ | skip); refine RW.sub (c := (i0 : Int)) rfl rfl (by rw [w64 (by omega) (by omega)]; omega) rfl ?_; exact RW.done rfl)
    (apply AW.val rfl; · intro Gx X; (first | refine RW.yes rfl ?_ | skip); refine RW.indexAddr rfl rfl (by omega) (by omega) rfl ?_; exact RW.done rfl)
    (apply AW.val rfl; · intro Gx X; (first | refine RW.yes rfl ?_ | skip); refine RW.load_ros rfl (Mem.le_trans hN any_ro) hm1 rfl hl1 (by omega) rfl ?_; exact RW.done rfl)
    repeat (apply AW.val rfl; · intro Gx X; (first | refine RW.yes rfl ?_ | skip); (first|refine Jc ?_|refine Jd ?_|refine Je ?_|refine Jg ?_|refine Jh ?_|refine Ji ?_|refine Jj ?_|refine Jk ?_|refine Jl ?_|refine Jm ?_|refine Jn ?_|refine Jo ?_|refine Jp ?_|refine Jq ?_|refine Jr ?_|refine Js ?_|refine Jt ?_|refine Ju ?_|refine Jv ?_|refine Jw ?_|refine Jx ?_|refine Jz ?_|refine JA ?_|refine JB ?_|refine JC ?_|refine JD ?_|refine JE ?_|refine JF ?_|refine JG ?_|refine JH ?_|refine JI ?_|refine JJ ?_|refine JK ?_|refine JL ?_); exact RW.done rfl)
    (apply AW.val rfl; · intro Gx X; (first | refine RW.yes rfl ?_ | skip); refine RW.indexAddr rfl rfl (by omega) hlt rfl ?_; exact RW.done rfl)
    (apply AW.val rfl; · intro Gx X; (first | refine RW.yes rfl ?_ | skip); refine RW.load_ros rfl (Mem.le_trans hN any_ro) hm2 rfl hl2 (by omega) rfl ?_; exact RW.done rfl)
    (apply AW.val rfl; · intro Gx X; (first | refine RW.yes rfl ?_ | skip); refine RW.call Try.call8 rfl (fun w2 hw2 => litCompare_ret (M := N) (x := litV a) (y := litV b) (Mem.le_trans hN (hle hw2)) hr1 hr2) rfl ?_; exact RW.done rfl)
    repeat (apply AW.val rfl; · intro Gx X; (first | refine RW.yes rfl ?_ | skip); (first|refine Jc ?_|refine Jd ?_|refine Je ?_|refine Jg ?_|refine Jh ?_|refine Ji ?_|refine Jj ?_|refine Jk ?_|refine Jl ?_|refine Jm ?_|refine Jn ?_|refine Jo ?_|refine Jp ?_|refine Jq ?_|refine Jr ?_|refine Js ?_|refine Jt ?_|refine Ju ?_|refine Jv ?_|refine Jw ?_|refine Jx ?_|refine Jz ?_|refine JA ?_|refine JB ?_|refine JC ?_|refine JD ?_|refine JE ?_|refine JF ?_|refine JG ?_|refine JH ?_|refine JI ?_|refine JJ ?_|refine JK ?_|refine JL ?_); exact RW.done rfl)
    refine AW.stop (by kernel_rfl) (by kernel_rfl) fun bs => ?_
    repeat (first|refine Ja ?_|refine Jb ?_|refine Jc ?_|refine Jd ?_|refine Je ?_|refine Jf ?_|refine Jg ?_|refine Jh ?_|refine Ji ?_|refine Jj ?_|refine Jk ?_|refine Jl ?_|refine Jm ?_|refine Jn ?_|refine Jo ?_|refine Jp ?_|refine Jq ?_|refine Jr ?_|refine Js ?_|refine Jt ?_|refine Ju ?_|refine Jv ?_|refine Jw ?_|refine Jx ?_|refine Jy ?_|refine Jz ?_|refine JA ?_|refine JB ?_|refine JC ?_|refine JD ?_|refine JE ?_|refine JF ?_|refine JG ?_|refine JH ?_|refine JI ?_|refine JJ ?_|refine JK ?_|refine JL ?_|refine JM ?_|refine CW.skip (PW.code ?_)|refine RW.nil (PW.code ?_))
    refine CW.ite rfl (fun h6 => ?_) (fun h6 => ?_)
    · rw [litOf_V, litOf_V] at h6
      have hris := hno (by omega)
      repeat (first|refine Ja ?_|refine Jb ?_|refine Jc ?_|refine Jd ?_|refine Je ?_|refine Jf ?_|refine Jg ?_|refine Jh ?_|refine Ji ?_|refine Jj ?_|refine Jk ?_|refine Jl ?_|refine Jm ?_|refine Jn ?_|refine Jo ?_|refine Jp ?_|refine Jq ?_|refine Jr ?_|refine Js ?_|refine Jt ?_|refine Ju ?_|refine Jv ?_|refine Jw ?_|refine Jx ?_|refine Jy ?_|refine Jz ?_|refine JA ?_|refine JB ?_|refine JC ?_|refine JD ?_|refine JE ?_|refine JF ?_|refine JG ?_|refine JH ?_|refine JI ?_|refine JJ ?_|refine JK ?_|refine JL ?_|refine JM ?_|refine CW.skip (PW.code ?_)|refine RW.nil (PW.code ?_))
      refine CW.rets (rs := [.tmp 6, .tmp 7]) (vs := [_, _]) rfl Try.results19 rfl (ResOK.tmp rfl (ResOK.tmp rfl ResOK.nil)) fun w hw => ⟨.slice none 0 0, ?_, ?_⟩
      · rw [foesD, hris]; rfl
      · rw [foesD, hris]
        exact ⟨hw.kp, No, fun b hb => hb.elim, ⟨none, 0, rfl, Nat.le_refl _, Nat.zero_le _, by show 0 * _ ≤ reach; omega, RowAt.nil⟩, trivial⟩
    · rw [litOf_V, litOf_V] at h6
      repeat (first|refine Ja ?_|refine Jb ?_|refine Jc ?_|refine Jd ?_|refine Je ?_|refine Jf ?_|refine Jg ?_|refine Jh ?_|refine Ji ?_|refine Jj ?_|refine Jk ?_|refine Jl ?_|refine Jm ?_|refine Jn ?_|refine Jo ?_|refine Jp ?_|refine Jq ?_|refine Jr ?_|refine Js ?_|refine Jt ?_|refine Ju ?_|refine Jv ?_|refine Jw ?_|refine Jx ?_|refine Jy ?_|refine Jz ?_|refine JA ?_|refine JB ?_|refine JC ?_|refine JD ?_|refine JE ?_|refine JF ?_|refine JG ?_|refine JH ?_|refine JI ?_|refine JJ ?_|refine JK ?_|refine JL ?_|refine JM ?_|refine CW.skip (PW.code ?_)|refine RW.nil (PW.code ?_))
      refine CW.region ?_
      repeat (first|refine Ja ?_|refine Jb ?_|refine Jc ?_|refine Jd ?_|refine Je ?_|refine Jf ?_|refine Jg ?_|refine Jh ?_|refine Ji ?_|refine Jj ?_|refine Jk ?_|refine Jl ?_|refine Jm ?_|refine Jn ?_|refine Jo ?_|refine Jp ?_|refine Jq ?_|refine Jr ?_|refine Js ?_|refine Jt ?_|refine Ju ?_|refine Jv ?_|refine Jw ?_|refine Jx ?_|refine Jy ?_|refine Jz ?_|refine JA ?_|refine JB ?_|refine JC ?_|refine JD ?_|refine JE ?_|refine JF ?_|refine JG ?_|refine JH ?_|refine JI ?_|refine JJ ?_|refine JK ?_|refine JL ?_|refine JM ?_|refine CW.skip (PW.code ?_)|refine RW.nil (PW.code ?_))
      refine RW.add rfl rfl (w64 (by omega) (by omega)) rfl ?_
      repeat (first|refine Ja ?_|refine Jb ?_|refine Jc ?_|refine Jd ?_|refine Je ?_|refine Jf ?_|refine Jg ?_|refine Jh ?_|refine Ji ?_|refine Jj ?_|refine Jk ?_|refine Jl ?_|refine Jm ?_|refine Jn ?_|refine Jo ?_|refine Jp ?_|refine Jq ?_|refine Jr ?_|refine Js ?_|refine Jt ?_|refine Ju ?_|refine Jv ?_|refine Jw ?_|refine Jx ?_|refine Jy ?_|refine Jz ?_|refine JA ?_|refine JB ?_|refine JC ?_|refine JD ?_|refine JE ?_|refine JF ?_|refine JG ?_|refine JH ?_|refine JI ?_|refine JJ ?_|refine JK ?_|refine JL ?_|refine JM ?_|refine CW.skip (PW.code ?_)|refine RW.nil (PW.code ?_))
      refine RW.nil ?_
      refine PW.again ⟨i0 + 1 + 1, by omega, .inl hlt', fun j h h2 => hback j h h2 (by rw [hga, hgb]; omega)⟩ ⟨rfl, rfl, rfl, rfl, trivial⟩ (fun h => h) (by show ls.length - (i0 + 1 + 1) < ls.length - (i0 + 1); omega)
  have hris : risingD ls = true := risingD_iff.2 fun j h => hi3 j h (by omega)
  have hD' : foesD cl so ls = (ls.map (rowD cl so ls), 0) := by rw [foesD, hris]; rfl
  refine CW.exit rfl ?_
  refine PW.code ?_
  repeat (first|refine Ja ?_|refine Jb ?_|refine Jc ?_|refine Jd ?_|refine Je ?_|refine Jf ?_|refine Jg ?_|refine Jh ?_|refine Ji ?_|refine Jj ?_|refine Jk ?_|refine Jl ?_|refine Jm ?_|refine Jn ?_|refine Jo ?_|refine Jp ?_|refine Jq ?_|refine Jr ?_|refine Js ?_|refine Jt ?_|refine Ju ?_|refine Jv ?_|refine Jw ?_|refine Jx ?_|refine Jy ?_|refine Jz ?_|refine JA ?_|refine JB ?_|refine JC ?_|refine JD ?_|refine JE ?_|refine JF ?_|refine JG ?_|refine JH ?_|refine JI ?_|refine JJ ?_|refine JK ?_|refine JL ?_|refine JM ?_|refine CW.skip (PW.code ?_)|refine RW.nil (PW.code ?_))
  refine RW.make (e := 22) (sz := 1) (by_ := 24) (n := ls.length) (zc := [.slice none 0 0]) rfl rfl rfl rfl rfl (by unfold maxN; omega) (by omega) rfl fun Bo => ?_
  refine RW.open_ [] (fun i : { tl : List Value // tl = [] } => blk Bo (List.replicate ls.length (.slice none 0 0) ++ i.1) 22) (fun w F2 hp => ?_) (fun ⟨tl, htl⟩ => ?_)
  · rcases hp with ⟨hp, _⟩ | ⟨B', c', tl, h1, h2, h3, h4, h5, _⟩
    · cases hp
    · simp only [Value.slice.injEq, Option.some.injEq, Addr.mk.injEq] at h1
      obtain ⟨⟨rfl, _⟩, _, rfl⟩ := h1
      have hfl : (List.replicate ls.length [Value.slice none 0 0]).flatten = List.replicate ls.length (Value.slice none 0 0) := by
        generalize ls.length = n
        induction n with
        | zero => rfl
        | succ n ih => rw [List.replicate_succ, List.replicate_succ, List.flatten_cons, ih]; rfl
      rw [hfl] at h3 h5
      rw [List.length_replicate] at h5
      exact ⟨⟨tl, List.eq_nil_of_length_eq_zero (by omega)⟩, h2, h3⟩
  subst htl
  dsimp only
  rw [List.append_nil]
  repeat (first|refine Ja ?_|refine Jb ?_|refine Jc ?_|refine Jd ?_|refine Je ?_|refine Jf ?_|refine Jg ?_|refine Jh ?_|refine Ji ?_|refine Jj ?_|refine Jk ?_|refine Jl ?_|refine Jm ?_|refine Jn ?_|refine Jo ?_|refine Jp ?_|refine Jq ?_|refine Jr ?_|refine Js ?_|refine Jt ?_|refine Ju ?_|refine Jv ?_|refine Jw ?_|refine Jx ?_|refine Jy ?_|refine Jz ?_|refine JA ?_|refine JB ?_|refine JC ?_|refine JD ?_|refine JE ?_|refine JF ?_|refine JG ?_|refine JH ?_|refine JI ?_|refine JJ ?_|refine JK ?_|refine JL ?_|refine JM ?_|refine CW.skip (PW.code ?_)|refine RW.nil (PW.code ?_))
  refine CW.seq ?_
  repeat (first|refine Ja ?_|refine Jb ?_|refine Jc ?_|refine Jd ?_|refine Je ?_|refine Jf ?_|refine Jg ?_|refine Jh ?_|refine Ji ?_|refine Jj ?_|refine Jk ?_|refine Jl ?_|refine Jm ?_|refine Jn ?_|refine Jo ?_|refine Jp ?_|refine Jq ?_|refine Jr ?_|refine Js ?_|refine Jt ?_|refine Ju ?_|refine Jv ?_|refine Jw ?_|refine Jx ?_|refine Jy ?_|refine Jz ?_|refine JA ?_|refine JB ?_|refine JC ?_|refine JD ?_|refine JE ?_|refine JF ?_|refine JG ?_|refine JH ?_|refine JI ?_|refine JJ ?_|refine JK ?_|refine JL ?_|refine JM ?_|refine CW.skip (PW.code ?_)|refine RW.nil (PW.code ?_))
  refine CW.add_ (rdsHP Mem.none kInts (([] : List Value).map fun v => [v]) []) (fun w _ => All2.nil) ?_
  refine CW.block ?_
  refine CW.loop (ι := { q : Nat × List Value // q.1 ≤ ls.length ∧ q.2.length = q.1 })
    (fun q => [(0, .slice A cl.length c), (1, .slice B so.length d), (2, .slice D ls.length e), (9, .slice (some ⟨Bo, 0, none⟩) ls.length ls.length), (34, .slice D ls.length e), (35, .int .i64 ls.length), (36, .int .i64 q.1.1)])
    (fun q => [rdsHP Mem.none kInts (q.1.2.map fun v => [v]) ((ls.take q.1.1).map (rowD cl so ls)), blk Bo (q.1.2 ++ List.replicate (ls.length - q.1.1) (Value.slice none 0 0)) 22])
    (fun q => ls.length - q.1.1) ⟨(0, []), Nat.zero_le _, rfl⟩ ⟨rfl, rfl, rfl, rfl, rfl, rfl, rfl, trivial⟩ (fun h => h) ?_
  intro ⟨(k, vs), hk, hvs⟩
  dsimp only
  replace hk : k ≤ ls.length := hk
  replace hvs : vs.length = k := hvs
  repeat (first|refine Ja ?_|refine Jb ?_|refine Jc ?_|refine Jd ?_|refine Je ?_|refine Jf ?_|refine Jg ?_|refine Jh ?_|refine Ji ?_|refine Jj ?_|refine Jk ?_|refine Jl ?_|refine Jm ?_|refine Jn ?_|refine Jo ?_|refine Jp ?_|refine Jq ?_|refine Jr ?_|refine Js ?_|refine Jt ?_|refine Ju ?_|refine Jv ?_|refine Jw ?_|refine Jx ?_|refine Jy ?_|refine Jz ?_|refine JA ?_|refine JB ?_|refine JC ?_|refine JD ?_|refine JE ?_|refine JF ?_|refine JG ?_|refine JH ?_|refine JI ?_|refine JJ ?_|refine JK ?_|refine JL ?_|refine JM ?_|refine CW.skip (PW.code ?_)|refine RW.nil (PW.code ?_))
  refine CW.seq ?_
  refine CW.ite rfl (fun hlt => ?_) (fun hge => ?_)
  · have hlt' : k < ls.length := by omega
    obtain ⟨B1, O1, esx, hD1, hlx, hrx, hmx⟩ := hx k ls[k] (List.getElem?_eq_getElem hlt')
    subst hD1
    have htk : ls.take (k + 1) = ls.take k ++ [ls[k]] := List.take_succ_eq_append_getElem hlt'
    generalize ls[k] = x at hrx htk
    have hox := Rd.one hrx
    have hrep : List.replicate (ls.length - k) (Value.slice none 0 0) = .slice none 0 0 :: List.replicate (ls.length - (k + 1)) (.slice none 0 0) := by
      rw [show ls.length - k = ls.length - (k + 1) + 1 by omega, List.replicate_succ]
    rw [hrep]
    repeat (first|refine Ja ?_|refine Jb ?_|refine Jc ?_|refine Jd ?_|refine Je ?_|refine Jf ?_|refine Jg ?_|refine Jh ?_|refine Ji ?_|refine Jj ?_|refine Jk ?_|refine Jl ?_|refine Jm ?_|refine Jn ?_|refine Jo ?_|refine Jp ?_|refine Jq ?_|refine Jr ?_|refine Js ?_|refine Jt ?_|refine Ju ?_|refine Jv ?_|refine Jw ?_|refine Jx ?_|refine Jy ?_|refine Jz ?_|refine JA ?_|refine JB ?_|refine JC ?_|refine JD ?_|refine JE ?_|refine JF ?_|refine JG ?_|refine JH ?_|refine JI ?_|refine JJ ?_|refine JK ?_|refine JL ?_|refine JM ?_|refine CW.skip (PW.code ?_)|refine RW.nil (PW.code ?_))
    refine CW.seq ?_
    refine CW.block ?_
    repeat (first|refine Ja ?_|refine Jb ?_|refine Jc ?_|refine Jd ?_|refine Je ?_|refine Jf ?_|refine Jg ?_|refine Jh ?_|refine Ji ?_|refine Jj ?_|refine Jk ?_|refine Jl ?_|refine Jm ?_|refine Jn ?_|refine Jo ?_|refine Jp ?_|refine Jq ?_|refine Jr ?_|refine Js ?_|refine Jt ?_|refine Ju ?_|refine Jv ?_|refine Jw ?_|refine Jx ?_|refine Jy ?_|refine Jz ?_|refine JA ?_|refine JB ?_|refine JC ?_|refine JD ?_|refine JE ?_|refine JF ?_|refine JG ?_|refine JH ?_|refine JI ?_|refine JJ ?_|refine JK ?_|refine JL ?_|refine JM ?_|refine CW.skip (PW.code ?_)|refine RW.nil (PW.code ?_))
    refine RW.indexAddr rfl rfl (by omega) hlt rfl ?_
    refine RW.load_ros rfl (Mem.le_trans hN any_ro) hmx rfl hlx (by omega) rfl ?_
    refine RW.alloc rfl rfl fun b11 _ => ?_
    repeat (first|refine Ja ?_|refine Jb ?_|refine Jc ?_|refine Jd ?_|refine Je ?_|refine Jf ?_|refine Jg ?_|refine Jh ?_|refine Ji ?_|refine Jj ?_|refine Jk ?_|refine Jl ?_|refine Jm ?_|refine Jn ?_|refine Jo ?_|refine Jp ?_|refine Jq ?_|refine Jr ?_|refine Js ?_|refine Jt ?_|refine Ju ?_|refine Jv ?_|refine Jw ?_|refine Jx ?_|refine Jy ?_|refine Jz ?_|refine JA ?_|refine JB ?_|refine JC ?_|refine JD ?_|refine JE ?_|refine JF ?_|refine JG ?_|refine JH ?_|refine JI ?_|refine JJ ?_|refine JK ?_|refine JL ?_|refine JM ?_|refine CW.skip (PW.code ?_)|refine RW.nil (PW.code ?_))
    refine RW.store_whole [] rfl rfl rfl hlx hlx hox ?_
    repeat (first|refine Ja ?_|refine Jb ?_|refine Jc ?_|refine Jd ?_|refine Je ?_|refine Jf ?_|refine Jg ?_|refine Jh ?_|refine Ji ?_|refine Jj ?_|refine Jk ?_|refine Jl ?_|refine Jm ?_|refine Jn ?_|refine Jo ?_|refine Jp ?_|refine Jq ?_|refine Jr ?_|refine Js ?_|refine Jt ?_|refine Ju ?_|refine Jv ?_|refine Jw ?_|refine Jx ?_|refine Jy ?_|refine Jz ?_|refine JA ?_|refine JB ?_|refine JC ?_|refine JD ?_|refine JE ?_|refine JF ?_|refine JG ?_|refine JH ?_|refine JI ?_|refine JJ ?_|refine JK ?_|refine JL ?_|refine JM ?_|refine CW.skip (PW.code ?_)|refine RW.nil (PW.code ?_))
    refine CW.add_ (ownHP 3 1 (.slice none 0 0) (natCells (hitsD cl so x ls 0))) (fun w _ => .inl ⟨rfl, rfl⟩) ?_
    refine CW.block ?_
    refine CW.loop (ι := { q : Nat × Value // q.1 ≤ ls.length })
      (fun q => [(0, .slice A cl.length c), (1, .slice B so.length d), (2, .slice (some ⟨B1, O1, none⟩) ls.length e), (9, .slice (some ⟨Bo, 0, none⟩) ls.length ls.length), (10, .int .i64 k), (11, .pointer (some ⟨b11, 0, none⟩)), (34, .slice (some ⟨B1, O1, none⟩) ls.length e), (35, .int .i64 ls.length), (36, .int .i64 k), (41, .slice (some ⟨B1, O1, none⟩) ls.length e), (42, .int .i64 ls.length), (43, .int .i64 q.1.1)])
      (fun q => [ownHP 3 1 q.1.2 (natCells (hitsD cl so x ls q.1.1)), blk b11 esx 27, rdsHP Mem.none kInts (vs.map fun v => [v]) ((ls.take k).map (rowD cl so ls)), blk Bo (vs ++ q.1.2 :: List.replicate (ls.length - (k + 1)) (.slice none 0 0)) 22])
      (fun q => ls.length - q.1.1) ⟨(0, .slice none 0 0), Nat.zero_le _⟩ ⟨rfl, rfl, rfl, rfl, rfl, rfl, rfl, rfl, rfl, rfl, rfl, rfl, trivial⟩ (fun h => h) ?_
    intro ⟨(j, vi), hj⟩
    dsimp only
    replace hj : j ≤ ls.length := hj
    have hatv : (vs ++ vi :: List.replicate (ls.length - (k + 1)) (Value.slice none 0 0))[k]? = some vi := by
      rw [List.getElem?_append_right (by omega), hvs, Nat.sub_self]; rfl
    repeat (first|refine Ja ?_|refine Jb ?_|refine Jc ?_|refine Jd ?_|refine Je ?_|refine Jf ?_|refine Jg ?_|refine Jh ?_|refine Ji ?_|refine Jj ?_|refine Jk ?_|refine Jl ?_|refine Jm ?_|refine Jn ?_|refine Jo ?_|refine Jp ?_|refine Jq ?_|refine Jr ?_|refine Js ?_|refine Jt ?_|refine Ju ?_|refine Jv ?_|refine Jw ?_|refine Jx ?_|refine Jy ?_|refine Jz ?_|refine JA ?_|refine JB ?_|refine JC ?_|refine JD ?_|refine JE ?_|refine JF ?_|refine JG ?_|refine JH ?_|refine JI ?_|refine JJ ?_|refine JK ?_|refine JL ?_|refine JM ?_|refine CW.skip (PW.code ?_)|refine RW.nil (PW.code ?_))
    refine CW.seq ?_
    refine CW.ite rfl (fun hjlt => ?_) (fun hjge => ?_)
    · have hjlt' : j < ls.length := by omega
      obtain ⟨B2, O2, esy, hD2, hly, hry, hmy⟩ := hx j ls[j] (List.getElem?_eq_getElem hjlt')
      cases hD2
      have hhit : hitD cl so x ls j = conflictD cl so x ls[j] := by rw [hitD, List.getElem?_eq_getElem hjlt']
      generalize ls[j] = y at hry hhit
      have hoy := Rd.one hry
      repeat (first|refine Ja ?_|refine Jb ?_|refine Jc ?_|refine Jd ?_|refine Je ?_|refine Jf ?_|refine Jg ?_|refine Jh ?_|refine Ji ?_|refine Jj ?_|refine Jk ?_|refine Jl ?_|refine Jm ?_|refine Jn ?_|refine Jo ?_|refine Jp ?_|refine Jq ?_|refine Jr ?_|refine Js ?_|refine Jt ?_|refine Ju ?_|refine Jv ?_|refine Jw ?_|refine Jx ?_|refine Jy ?_|refine Jz ?_|refine JA ?_|refine JB ?_|refine JC ?_|refine JD ?_|refine JE ?_|refine JF ?_|refine JG ?_|refine JH ?_|refine JI ?_|refine JJ ?_|refine JK ?_|refine JL ?_|refine JM ?_|refine CW.skip (PW.code ?_)|refine RW.nil (PW.code ?_))
      refine CW.seq ?_
      refine CW.block ?_
      repeat (first|refine Ja ?_|refine Jb ?_|refine Jc ?_|refine Jd ?_|refine Je ?_|refine Jf ?_|refine Jg ?_|refine Jh ?_|refine Ji ?_|refine Jj ?_|refine Jk ?_|refine Jl ?_|refine Jm ?_|refine Jn ?_|refine Jo ?_|refine Jp ?_|refine Jq ?_|refine Jr ?_|refine Js ?_|refine Jt ?_|refine Ju ?_|refine Jv ?_|refine Jw ?_|refine Jx ?_|refine Jy ?_|refine Jz ?_|refine JA ?_|refine JB ?_|refine JC ?_|refine JD ?_|refine JE ?_|refine JF ?_|refine JG ?_|refine JH ?_|refine JI ?_|refine JJ ?_|refine JK ?_|refine JL ?_|refine JM ?_|refine CW.skip (PW.code ?_)|refine RW.nil (PW.code ?_))
      refine RW.indexAddr rfl rfl (by omega) hjlt rfl ?_
      refine RW.load_ros rfl (Mem.le_trans hN any_ro) hmy rfl hly (by omega) rfl ?_
      refine RW.alloc rfl rfl fun b13 _ => ?_
      repeat (first|refine Ja ?_|refine Jb ?_|refine Jc ?_|refine Jd ?_|refine Je ?_|refine Jf ?_|refine Jg ?_|refine Jh ?_|refine Ji ?_|refine Jj ?_|refine Jk ?_|refine Jl ?_|refine Jm ?_|refine Jn ?_|refine Jo ?_|refine Jp ?_|refine Jq ?_|refine Jr ?_|refine Js ?_|refine Jt ?_|refine Ju ?_|refine Jv ?_|refine Jw ?_|refine Jx ?_|refine Jy ?_|refine Jz ?_|refine JA ?_|refine JB ?_|refine JC ?_|refine JD ?_|refine JE ?_|refine JF ?_|refine JG ?_|refine JH ?_|refine JI ?_|refine JJ ?_|refine JK ?_|refine JL ?_|refine JM ?_|refine CW.skip (PW.code ?_)|refine RW.nil (PW.code ?_))
      refine RW.store_whole [] rfl rfl rfl hly hly hoy ?_
      repeat (first|refine Ja ?_|refine Jb ?_|refine Jc ?_|refine Jd ?_|refine Je ?_|refine Jf ?_|refine Jg ?_|refine Jh ?_|refine Ji ?_|refine Jj ?_|refine Jk ?_|refine Jl ?_|refine Jm ?_|refine Jn ?_|refine Jo ?_|refine Jp ?_|refine Jq ?_|refine Jr ?_|refine Js ?_|refine Jt ?_|refine Ju ?_|refine Jv ?_|refine Jw ?_|refine Jx ?_|refine Jy ?_|refine Jz ?_|refine JA ?_|refine JB ?_|refine JC ?_|refine JD ?_|refine JE ?_|refine JF ?_|refine JG ?_|refine JH ?_|refine JI ?_|refine JJ ?_|refine JK ?_|refine JL ?_|refine JM ?_|refine CW.skip (PW.code ?_)|refine RW.nil (PW.code ?_))
      refine RW.load_whole [_, _] rfl hlx rfl rfl ?_
      refine RW.load_whole [] rfl hly rfl rfl ?_
      refine RW.call Try.call16 rfl (fun w2 hw2 => conflict_ret (M := N) (a := x) (b := y) (Mem.le_trans hN (hle hw2)) (Mem.le_trans hN (hle hw2)) hcl hso hrx hry) rfl ?_
      repeat (first|refine Ja ?_|refine Jb ?_|refine Jc ?_|refine Jd ?_|refine Je ?_|refine Jf ?_|refine Jg ?_|refine Jh ?_|refine Ji ?_|refine Jj ?_|refine Jk ?_|refine Jl ?_|refine Jm ?_|refine Jn ?_|refine Jo ?_|refine Jp ?_|refine Jq ?_|refine Jr ?_|refine Js ?_|refine Jt ?_|refine Ju ?_|refine Jv ?_|refine Jw ?_|refine Jx ?_|refine Jy ?_|refine Jz ?_|refine JA ?_|refine JB ?_|refine JC ?_|refine JD ?_|refine JE ?_|refine JF ?_|refine JG ?_|refine JH ?_|refine JI ?_|refine JJ ?_|refine JK ?_|refine JL ?_|refine JM ?_|refine CW.skip (PW.code ?_)|refine RW.nil (PW.code ?_))
      refine CW.cond rfl (fun h7 => ?_) (fun h7 => ?_)
      · have hsucc := natCells_succ (hhit.trans h7)
        have hoff : 0 + (k : Int).toNat * 1 = k := by omega
        have hset : ∀ v', (vs ++ vi :: List.replicate (ls.length - (k + 1)) (Value.slice none 0 0)).set k v' = vs ++ v' :: List.replicate (ls.length - (k + 1)) (.slice none 0 0) := fun v' => by
          rw [List.set_append_right _ _ (by omega), hvs, Nat.sub_self]; rfl
        have hrl := hitsD_len (cl := cl) (so := so) (x := x) (ls := ls) (k := j)
        refine CW.region ?_
        repeat (first|refine Ja ?_|refine Jb ?_|refine Jc ?_|refine Jd ?_|refine Je ?_|refine Jf ?_|refine Jg ?_|refine Jh ?_|refine Ji ?_|refine Jj ?_|refine Jk ?_|refine Jl ?_|refine Jm ?_|refine Jn ?_|refine Jo ?_|refine Jp ?_|refine Jq ?_|refine Jr ?_|refine Js ?_|refine Jt ?_|refine Ju ?_|refine Jv ?_|refine Jw ?_|refine Jx ?_|refine Jy ?_|refine Jz ?_|refine JA ?_|refine JB ?_|refine JC ?_|refine JD ?_|refine JE ?_|refine JF ?_|refine JG ?_|refine JH ?_|refine JI ?_|refine JJ ?_|refine JK ?_|refine JL ?_|refine JM ?_|refine CW.skip (PW.code ?_)|refine RW.nil (PW.code ?_))
        refine RW.indexAddr rfl rfl (by omega) hlt rfl ?_
        refine RW.load_blk [_, _, _, _] rfl (by rw [hoff]; exact hatv) rfl rfl ?_
        repeat (first|refine Ja ?_|refine Jb ?_|refine Jc ?_|refine Jd ?_|refine Je ?_|refine Jf ?_|refine Jg ?_|refine Jh ?_|refine Ji ?_|refine Jj ?_|refine Jk ?_|refine Jl ?_|refine Jm ?_|refine Jn ?_|refine Jo ?_|refine Jp ?_|refine Jq ?_|refine Jr ?_|refine Js ?_|refine Jt ?_|refine Ju ?_|refine Jv ?_|refine Jw ?_|refine Jx ?_|refine Jy ?_|refine Jz ?_|refine JA ?_|refine JB ?_|refine JC ?_|refine JD ?_|refine JE ?_|refine JF ?_|refine JG ?_|refine JH ?_|refine JI ?_|refine JJ ?_|refine JK ?_|refine JL ?_|refine JM ?_|refine CW.skip (PW.code ?_)|refine RW.nil (PW.code ?_))
        refine RW.buildOwn (e := 3) (sz := 1) [[.int .i64 j]] rfl (fun w => by kernel_rfl) rfl (by simp) (by decide) rfl fun nb => ?_
        refine RW.pull [_, _] ?_
        refine RW.append [] (e := 3) (sz := 1) (news := [[.int .i64 j]]) (zc := [.int .i64 0]) rfl rfl rfl rfl rfl (by simp) (by simp [Value.oneCell']) (fun w hw hn => ?_) ?_ ?_ rfl fun v' => ?_
        · exact ⟨nb, 0, rfl, own_cells (pre := []) (hw.take [1])⟩
        · rw [natCells, List.length_map]; omega
        · rw [natCells, List.length_map]; unfold maxN; omega
        rw [← hsucc]
        refine RW.have_ (φ := v'.oneCell' = true ∧ v'.cells = #[v']) (fun w hw => ?_) (fun ⟨hv1, hv2⟩ => ?_)
        · rcases own_form (pre := []) hw with ⟨rfl, _⟩ | ⟨B, c, rfl, _⟩
          · exact ⟨rfl, rfl⟩
          · exact ⟨rfl, rfl⟩
        refine RW.take [5, 0, 3, 4] ?_
        refine RW.indexAddr rfl rfl (by omega) hlt rfl ?_
        refine RW.store_blk [] rfl rfl rfl hv2 hv1 (by rw [hoff, List.length_append, List.length_cons]; omega) ?_
        rw [hoff, hset]
        repeat (first|refine Ja ?_|refine Jb ?_|refine Jc ?_|refine Jd ?_|refine Je ?_|refine Jf ?_|refine Jg ?_|refine Jh ?_|refine Ji ?_|refine Jj ?_|refine Jk ?_|refine Jl ?_|refine Jm ?_|refine Jn ?_|refine Jo ?_|refine Jp ?_|refine Jq ?_|refine Jr ?_|refine Js ?_|refine Jt ?_|refine Ju ?_|refine Jv ?_|refine Jw ?_|refine Jx ?_|refine Jy ?_|refine Jz ?_|refine JA ?_|refine JB ?_|refine JC ?_|refine JD ?_|refine JE ?_|refine JF ?_|refine JG ?_|refine JH ?_|refine JI ?_|refine JJ ?_|refine JK ?_|refine JL ?_|refine JM ?_|refine CW.skip (PW.code ?_)|refine RW.nil (PW.code ?_))
        refine CW.region ?_
        refine RW.add rfl rfl (w64 (by omega) (by omega)) rfl ?_
        repeat (first|refine Ja ?_|refine Jb ?_|refine Jc ?_|refine Jd ?_|refine Je ?_|refine Jf ?_|refine Jg ?_|refine Jh ?_|refine Ji ?_|refine Jj ?_|refine Jk ?_|refine Jl ?_|refine Jm ?_|refine Jn ?_|refine Jo ?_|refine Jp ?_|refine Jq ?_|refine Jr ?_|refine Js ?_|refine Jt ?_|refine Ju ?_|refine Jv ?_|refine Jw ?_|refine Jx ?_|refine Jy ?_|refine Jz ?_|refine JA ?_|refine JB ?_|refine JC ?_|refine JD ?_|refine JE ?_|refine JF ?_|refine JG ?_|refine JH ?_|refine JI ?_|refine JJ ?_|refine JK ?_|refine JL ?_|refine JM ?_|refine CW.skip (PW.code ?_)|refine RW.nil (PW.code ?_))
        refine RW.nil ?_
        refine PW.againT ⟨(j + 1, v'), hjlt'⟩ [1, 2, 3, 0] ⟨rfl, rfl, rfl, rfl, rfl, rfl, rfl, rfl, rfl, rfl, rfl, rfl, trivial⟩ rfl (by show ls.length - (j + 1) < ls.length - j; omega)
      · repeat (first|refine Ja ?_|refine Jb ?_|refine Jc ?_|refine Jd ?_|refine Je ?_|refine Jf ?_|refine Jg ?_|refine Jh ?_|refine Ji ?_|refine Jj ?_|refine Jk ?_|refine Jl ?_|refine Jm ?_|refine Jn ?_|refine Jo ?_|refine Jp ?_|refine Jq ?_|refine Jr ?_|refine Js ?_|refine Jt ?_|refine Ju ?_|refine Jv ?_|refine Jw ?_|refine Jx ?_|refine Jy ?_|refine Jz ?_|refine JA ?_|refine JB ?_|refine JC ?_|refine JD ?_|refine JE ?_|refine JF ?_|refine JG ?_|refine JH ?_|refine JI ?_|refine JJ ?_|refine JK ?_|refine JL ?_|refine JM ?_|refine CW.skip (PW.code ?_)|refine RW.nil (PW.code ?_))
        rw [← natCells_same (hhit.trans h7)]
        refine CW.region ?_
        refine RW.add rfl rfl (w64 (by omega) (by omega)) rfl ?_
        repeat (first|refine Ja ?_|refine Jb ?_|refine Jc ?_|refine Jd ?_|refine Je ?_|refine Jf ?_|refine Jg ?_|refine Jh ?_|refine Ji ?_|refine Jj ?_|refine Jk ?_|refine Jl ?_|refine Jm ?_|refine Jn ?_|refine Jo ?_|refine Jp ?_|refine Jq ?_|refine Jr ?_|refine Js ?_|refine Jt ?_|refine Ju ?_|refine Jv ?_|refine Jw ?_|refine Jx ?_|refine Jy ?_|refine Jz ?_|refine JA ?_|refine JB ?_|refine JC ?_|refine JD ?_|refine JE ?_|refine JF ?_|refine JG ?_|refine JH ?_|refine JI ?_|refine JJ ?_|refine JK ?_|refine JL ?_|refine JM ?_|refine CW.skip (PW.code ?_)|refine RW.nil (PW.code ?_))
        refine RW.nil ?_
        refine PW.againT ⟨(j + 1, vi), hjlt'⟩ [1, 2, 3, 4] ⟨rfl, rfl, rfl, rfl, rfl, rfl, rfl, rfl, rfl, rfl, rfl, rfl, trivial⟩ rfl (by show ls.length - (j + 1) < ls.length - j; omega)
    · have hje : j = ls.length := by omega
      subst hje
      refine CW.exit rfl ?_
      refine PW.code ?_
      refine CW.region ?_
      refine RW.add rfl rfl (w64 (by omega) (by omega)) rfl ?_
      repeat (first|refine Ja ?_|refine Jb ?_|refine Jc ?_|refine Jd ?_|refine Je ?_|refine Jf ?_|refine Jg ?_|refine Jh ?_|refine Ji ?_|refine Jj ?_|refine Jk ?_|refine Jl ?_|refine Jm ?_|refine Jn ?_|refine Jo ?_|refine Jp ?_|refine Jq ?_|refine Jr ?_|refine Js ?_|refine Jt ?_|refine Ju ?_|refine Jv ?_|refine Jw ?_|refine Jx ?_|refine Jy ?_|refine Jz ?_|refine JA ?_|refine JB ?_|refine JC ?_|refine JD ?_|refine JE ?_|refine JF ?_|refine JG ?_|refine JH ?_|refine JI ?_|refine JJ ?_|refine JK ?_|refine JL ?_|refine JM ?_|refine CW.skip (PW.code ?_)|refine RW.nil (PW.code ?_))
      refine RW.nil ?_
      rw [show vs ++ vi :: List.replicate (ls.length - (k + 1)) (Value.slice none 0 0) = (vs ++ [vi]) ++ List.replicate (ls.length - (k + 1)) (.slice none 0 0) by simp]
      refine PW.take [2, 0, 3] ?_
      refine PW.two (rdsHP Mem.none kInts ((vs ++ [vi]).map fun v => [v]) ((ls.take (k + 1)).map (rowD cl so ls))) ?_ ?_
      · intro w F F2 g1 g2
        rw [htk, List.map_append, List.map_append]
        refine rds_append g1 (All2.one ?_)
        refine rd_of_own g2 rfl (Mem.le_right _ _) (natCells_rd fun i hi => ?_) ?_
        · have := hitsD_lt hi
          omega
        · have := hitsD_len (cl := cl) (so := so) (x := x) (ls := ls) (k := ls.length)
          rw [rowD, List.length_map, reach_eq]
          omega
      refine PW.againT ⟨(k + 1, vs ++ [vi]), hlt', by rw [List.length_append, hvs]; rfl⟩ [0, 1] ⟨rfl, rfl, rfl, rfl, rfl, rfl, rfl, trivial⟩ rfl (by show ls.length - (k + 1) < ls.length - k; omega)
  · have hke : k = ls.length := by omega
    subst hke
    refine CW.exit rfl ?_
    refine PW.code ?_
    repeat (first|refine Ja ?_|refine Jb ?_|refine Jc ?_|refine Jd ?_|refine Je ?_|refine Jf ?_|refine Jg ?_|refine Jh ?_|refine Ji ?_|refine Jj ?_|refine Jk ?_|refine Jl ?_|refine Jm ?_|refine Jn ?_|refine Jo ?_|refine Jp ?_|refine Jq ?_|refine Jr ?_|refine Js ?_|refine Jt ?_|refine Ju ?_|refine Jv ?_|refine Jw ?_|refine Jx ?_|refine Jy ?_|refine Jz ?_|refine JA ?_|refine JB ?_|refine JC ?_|refine JD ?_|refine JE ?_|refine JF ?_|refine JG ?_|refine JH ?_|refine JI ?_|refine JJ ?_|refine JK ?_|refine JL ?_|refine JM ?_|refine CW.skip (PW.code ?_)|refine RW.nil (PW.code ?_))
    refine CW.rets (rs := [.tmp 6, .tmp 7]) (vs := [_, _]) rfl Try.results19 rfl (ResOK.tmp rfl (ResOK.tmp rfl ResOK.nil)) fun w hw => ⟨.slice (some ⟨Bo, 0, none⟩) ls.length ls.length, ?_, ?_⟩
    · rw [hD']; rfl
    · rw [hD']
      rw [List.take_length, Nat.sub_self, List.replicate_zero, List.append_nil] at hw
      have h2 := St.change (pre := [_]) (d := ownHP 22 1 (.slice (some ⟨Bo, 0, none⟩) ls.length ls.length) (vs.map fun v => [v])) hw (fun F hp => own_of_blk hp [] (by rw [flatten_one, List.append_nil]) (by rw [List.length_map, hvs]) (by simp) (by rw [hvs]; omega) (Nat.le_refl _) (by unfold maxN; omega))
      exact St.merge_own (h2.take [1, 0]) rfl (by rw [List.length_map, reach_eq]; omega)
end Go.Proofs.Ytoknohnodlaimaa
