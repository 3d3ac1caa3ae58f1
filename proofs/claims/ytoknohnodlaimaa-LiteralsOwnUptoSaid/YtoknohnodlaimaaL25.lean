/- lexpriorplain: CopyInts, CopyAtom, CopyLit, CopyLits, SameLits, by the calculus. -/
import Derived.Test.YtoknohnodlaimaaL18
import Derived.Test.YtoknohnodlaimaaL3
set_option linter.unusedVariables false
set_option linter.unusedSimpArgs false
set_option maxRecDepth 10000
namespace Go.Proofs.Ytoknohnodlaimaa
open Go Go.RowKit

attribute [local irreducible] RW CW
abbrev intCells (xs : List Int) : List (List Value) := xs.map fun x => [Value.int .i64 x]
theorem intCells_succ {xs : List Int} {k : Nat} (hk : k < xs.length) : intCells (xs.take (k + 1)) = intCells (xs.take k) ++ [[.int .i64 xs[k]]] := by
  rw [List.take_succ_eq_append_getElem hk, intCells, List.map_append]; rfl
theorem rd_ints_of {e : TypeId} {N : Mem} {v : Value} {xs : List Int} {w : World} {F : Nat → Prop} (ho : (ownHP e 1 v (intCells xs)).p w F) (hF : Mem.le (mem w F) N) (hx : ∀ x ∈ xs, inR .i64 x) (hb : xs.length * 8 ≤ reach) : Rd kInts N [v] xs := by
  refine rd_of_own ho rfl hF ⟨by simp, fun i cs x h1 h2 => ?_⟩ hb
  rw [List.getElem?_map, h2] at h1
  cases h1
  exact ⟨rfl, hx x (List.mem_of_getElem? h2)⟩
theorem copyInts_ret {N : Mem} {A : Option Addr} {c : Nat} {xs : List Int} {w : World} (hN : Mem.le N (mem w Any)) (h : Rd kInts N [.slice A xs.length c] xs) : RetC Try.prog 54 [.slice A xs.length c] w No (fun v : Value => v) (fun v => [rdHP Mem.none kInts [v] xs]) := by
  obtain ⟨A', c', he, h2, h3, h4, hx⟩ := Rd.ints h
  cases he
  have hl : xs.length ≤ reach := by omega
  rw [reach_eq] at hl
  have hin : ∀ x ∈ xs, inR .i64 x := fun x hm => by
    obtain ⟨i, hi⟩ := List.mem_iff_getElem?.1 hm
    exact (hx i x hi).1
  refine Calls.enter Try.func54 rfl _ rfl rfl (S := No) (H := []) trivial ?_
  repeat (first|refine Ja ?_|refine Jb ?_|refine Jc ?_|refine Jd ?_|refine Je ?_|refine Jf ?_|refine Jg ?_|refine Jh ?_|refine Ji ?_|refine Jj ?_|refine Jk ?_|refine Jl ?_|refine Jm ?_|refine Jn ?_|refine Jo ?_|refine Jp ?_|refine Jq ?_|refine Jr ?_|refine Js ?_|refine Jt ?_|refine Ju ?_|refine Jv ?_|refine Jw ?_|refine Jx ?_|refine Jy ?_|refine Jz ?_|refine JA ?_|refine JB ?_|refine JC ?_|refine JD ?_|refine JE ?_|refine JF ?_|refine JG ?_|refine JH ?_|refine JI ?_|refine JJ ?_|refine JK ?_|refine JL ?_|refine JM ?_|refine CW.skip (PW.code ?_)|refine RW.nil (PW.code ?_))
  refine CW.seq ?_
  repeat (first|refine Ja ?_|refine Jb ?_|refine Jc ?_|refine Jd ?_|refine Je ?_|refine Jf ?_|refine Jg ?_|refine Jh ?_|refine Ji ?_|refine Jj ?_|refine Jk ?_|refine Jl ?_|refine Jm ?_|refine Jn ?_|refine Jo ?_|refine Jp ?_|refine Jq ?_|refine Jr ?_|refine Js ?_|refine Jt ?_|refine Ju ?_|refine Jv ?_|refine Jw ?_|refine Jx ?_|refine Jy ?_|refine Jz ?_|refine JA ?_|refine JB ?_|refine JC ?_|refine JD ?_|refine JE ?_|refine JF ?_|refine JG ?_|refine JH ?_|refine JI ?_|refine JJ ?_|refine JK ?_|refine JL ?_|refine JM ?_|refine CW.skip (PW.code ?_)|refine RW.nil (PW.code ?_))
  refine CW.add_ (ownHP 3 1 (.slice none 0 0) (intCells (xs.take 0))) (fun w _ => .inl ⟨rfl, rfl⟩) ?_
  refine CW.block ?_
  refine CW.loop (ι := { q : Nat × Value // q.1 ≤ xs.length }) (fun q => [(0, .slice A xs.length c), (3, q.1.2), (4, .int .i64 q.1.1)]) (fun q => [ownHP 3 1 q.1.2 (intCells (xs.take q.1.1))]) (fun q => xs.length - q.1.1) ⟨(0, .slice none 0 0), Nat.zero_le _⟩ ⟨rfl, rfl, rfl, trivial⟩ (fun h => h) ?_
  intro ⟨(k, v), hk⟩
  dsimp only
  replace hk : k ≤ xs.length := hk
  refine CW.seq ?_
  repeat (first|refine Ja ?_|refine Jb ?_|refine Jc ?_|refine Jd ?_|refine Je ?_|refine Jf ?_|refine Jg ?_|refine Jh ?_|refine Ji ?_|refine Jj ?_|refine Jk ?_|refine Jl ?_|refine Jm ?_|refine Jn ?_|refine Jo ?_|refine Jp ?_|refine Jq ?_|refine Jr ?_|refine Js ?_|refine Jt ?_|refine Ju ?_|refine Jv ?_|refine Jw ?_|refine Jx ?_|refine Jy ?_|refine Jz ?_|refine JA ?_|refine JB ?_|refine JC ?_|refine JD ?_|refine JE ?_|refine JF ?_|refine JG ?_|refine JH ?_|refine JI ?_|refine JJ ?_|refine JK ?_|refine JL ?_|refine JM ?_|refine CW.skip (PW.code ?_)|refine RW.nil (PW.code ?_))
  refine CW.ite rfl (fun hlt => ?_) (fun hge => ?_)
  · have hlt' : k < xs.length := by omega
    obtain ⟨hr, B1, O1, rfl, hm⟩ := hx k xs[k] (List.getElem?_eq_getElem hlt')
    have hsucc := intCells_succ hlt'
    have hlk : (intCells (xs.take k)).length = k := by simp [Nat.min_eq_left hk]
    generalize xs[k] = x at hr hm hsucc
    repeat (first|refine Ja ?_|refine Jb ?_|refine Jc ?_|refine Jd ?_|refine Je ?_|refine Jf ?_|refine Jg ?_|refine Jh ?_|refine Ji ?_|refine Jj ?_|refine Jk ?_|refine Jl ?_|refine Jm ?_|refine Jn ?_|refine Jo ?_|refine Jp ?_|refine Jq ?_|refine Jr ?_|refine Js ?_|refine Jt ?_|refine Ju ?_|refine Jv ?_|refine Jw ?_|refine Jx ?_|refine Jy ?_|refine Jz ?_|refine JA ?_|refine JB ?_|refine JC ?_|refine JD ?_|refine JE ?_|refine JF ?_|refine JG ?_|refine JH ?_|refine JI ?_|refine JJ ?_|refine JK ?_|refine JL ?_|refine JM ?_|refine CW.skip (PW.code ?_)|refine RW.nil (PW.code ?_))
    refine CW.seq ?_
    refine CW.block ?_
    refine CW.region ?_
    repeat (first|refine Ja ?_|refine Jb ?_|refine Jc ?_|refine Jd ?_|refine Je ?_|refine Jf ?_|refine Jg ?_|refine Jh ?_|refine Ji ?_|refine Jj ?_|refine Jk ?_|refine Jl ?_|refine Jm ?_|refine Jn ?_|refine Jo ?_|refine Jp ?_|refine Jq ?_|refine Jr ?_|refine Js ?_|refine Jt ?_|refine Ju ?_|refine Jv ?_|refine Jw ?_|refine Jx ?_|refine Jy ?_|refine Jz ?_|refine JA ?_|refine JB ?_|refine JC ?_|refine JD ?_|refine JE ?_|refine JF ?_|refine JG ?_|refine JH ?_|refine JI ?_|refine JJ ?_|refine JK ?_|refine JL ?_|refine JM ?_|refine CW.skip (PW.code ?_)|refine RW.nil (PW.code ?_))
    refine RW.indexAddr rfl rfl (by omega) hlt rfl ?_
    refine RW.load_ro rfl (Mem.le_trans hN any_ro) hm rfl rfl ?_
    refine RW.buildOwn (e := 3) (sz := 1) [[.int .i64 x]] rfl (fun w => by kernel_rfl) rfl (by simp) (by decide) rfl fun nb => ?_
    refine RW.pull [_] ?_
    refine RW.append [] (e := 3) (sz := 1) (news := [[.int .i64 x]]) (zc := [.int .i64 0]) rfl rfl rfl rfl rfl (by simp) (by simp [Value.oneCell']) (fun w hw hn => ?_) ?_ ?_ rfl fun v' => ?_
    · exact ⟨nb, 0, rfl, own_cells (pre := []) (hw.take [1])⟩
    · rw [hlk]; rw [reach_eq] at h4; omega
    · rw [hlk]; unfold maxN; omega
    rw [← hsucc]
    repeat (first|refine Ja ?_|refine Jb ?_|refine Jc ?_|refine Jd ?_|refine Je ?_|refine Jf ?_|refine Jg ?_|refine Jh ?_|refine Ji ?_|refine Jj ?_|refine Jk ?_|refine Jl ?_|refine Jm ?_|refine Jn ?_|refine Jo ?_|refine Jp ?_|refine Jq ?_|refine Jr ?_|refine Js ?_|refine Jt ?_|refine Ju ?_|refine Jv ?_|refine Jw ?_|refine Jx ?_|refine Jy ?_|refine Jz ?_|refine JA ?_|refine JB ?_|refine JC ?_|refine JD ?_|refine JE ?_|refine JF ?_|refine JG ?_|refine JH ?_|refine JI ?_|refine JJ ?_|refine JK ?_|refine JL ?_|refine JM ?_|refine CW.skip (PW.code ?_)|refine RW.nil (PW.code ?_))
    refine CW.region ?_
    repeat (first|refine Ja ?_|refine Jb ?_|refine Jc ?_|refine Jd ?_|refine Je ?_|refine Jf ?_|refine Jg ?_|refine Jh ?_|refine Ji ?_|refine Jj ?_|refine Jk ?_|refine Jl ?_|refine Jm ?_|refine Jn ?_|refine Jo ?_|refine Jp ?_|refine Jq ?_|refine Jr ?_|refine Js ?_|refine Jt ?_|refine Ju ?_|refine Jv ?_|refine Jw ?_|refine Jx ?_|refine Jy ?_|refine Jz ?_|refine JA ?_|refine JB ?_|refine JC ?_|refine JD ?_|refine JE ?_|refine JF ?_|refine JG ?_|refine JH ?_|refine JI ?_|refine JJ ?_|refine JK ?_|refine JL ?_|refine JM ?_|refine CW.skip (PW.code ?_)|refine RW.nil (PW.code ?_))
    refine RW.add rfl rfl (w64 (by omega) (by omega)) rfl ?_
    repeat (first|refine Ja ?_|refine Jb ?_|refine Jc ?_|refine Jd ?_|refine Je ?_|refine Jf ?_|refine Jg ?_|refine Jh ?_|refine Ji ?_|refine Jj ?_|refine Jk ?_|refine Jl ?_|refine Jm ?_|refine Jn ?_|refine Jo ?_|refine Jp ?_|refine Jq ?_|refine Jr ?_|refine Js ?_|refine Jt ?_|refine Ju ?_|refine Jv ?_|refine Jw ?_|refine Jx ?_|refine Jy ?_|refine Jz ?_|refine JA ?_|refine JB ?_|refine JC ?_|refine JD ?_|refine JE ?_|refine JF ?_|refine JG ?_|refine JH ?_|refine JI ?_|refine JJ ?_|refine JK ?_|refine JL ?_|refine JM ?_|refine CW.skip (PW.code ?_)|refine RW.nil (PW.code ?_))
    refine RW.nil ?_
    refine PW.againT ⟨(k + 1, v'), hlt'⟩ [0] ⟨rfl, rfl, rfl, trivial⟩ rfl (by show xs.length - (k + 1) < xs.length - k; omega)
  · have hke : k = xs.length := by omega
    subst hke
    refine CW.exit rfl ?_
    refine PW.code ?_
    repeat (first|refine Ja ?_|refine Jb ?_|refine Jc ?_|refine Jd ?_|refine Je ?_|refine Jf ?_|refine Jg ?_|refine Jh ?_|refine Ji ?_|refine Jj ?_|refine Jk ?_|refine Jl ?_|refine Jm ?_|refine Jn ?_|refine Jo ?_|refine Jp ?_|refine Jq ?_|refine Jr ?_|refine Js ?_|refine Jt ?_|refine Ju ?_|refine Jv ?_|refine Jw ?_|refine Jx ?_|refine Jy ?_|refine Jz ?_|refine JA ?_|refine JB ?_|refine JC ?_|refine JD ?_|refine JE ?_|refine JF ?_|refine JG ?_|refine JH ?_|refine JI ?_|refine JJ ?_|refine JK ?_|refine JL ?_|refine JM ?_|refine CW.skip (PW.code ?_)|refine RW.nil (PW.code ?_))
    refine CW.ret1 rfl Try.results54 rfl rfl fun w hw => ⟨v, rfl, ?_⟩
    rw [List.take_length] at hw
    exact St.change (pre := []) hw (fun F hp => rd_ints_of hp (Mem.le_right _ _) hin h4)
theorem copyAtom_ret {N : Mem} {A : Option Addr} {c : Nat} {xs : List Int} {p v : Int} {w : World} (hN : Mem.le N (mem w Any)) (h : Rd kInts N [.slice A xs.length c] xs) :
    RetC Try.prog 44 [.agg #[.int .i64 p, .slice A xs.length c, .int .i64 v]] w No (fun x : Option Addr × Nat => .agg #[.int .i64 p, .slice x.1 xs.length x.2, .int .i64 v]) (fun x => [rdHP Mem.none kInts [.slice x.1 xs.length x.2] xs]) := by
  have hle : ∀ {H : List HP} {w2 : World}, St w No H w2 → Mem.le (mem w Any) (mem w2 Any) := fun hw2 => Mem.le_trans (any_ro (N := 0) (ds := [])) (ro_le' (E := ⟨0, [], w, No⟩) hw2)
  refine Calls.enter Try.func44 rfl _ rfl rfl (S := No) (H := []) trivial ?_
  refine CW.seqR ?_
  refine RW.box_agg rfl rfl fun b1 _ => ?_
  refine RW.alloc rfl rfl fun b2 _ => ?_
  repeat (first|refine Ja ?_|refine Jb ?_|refine Jc ?_|refine Jd ?_|refine Je ?_|refine Jf ?_|refine Jg ?_|refine Jh ?_|refine Ji ?_|refine Jj ?_|refine Jk ?_|refine Jl ?_|refine Jm ?_|refine Jn ?_|refine Jo ?_|refine Jp ?_|refine Jq ?_|refine Jr ?_|refine Js ?_|refine Jt ?_|refine Ju ?_|refine Jv ?_|refine Jw ?_|refine Jx ?_|refine Jy ?_|refine Jz ?_|refine JA ?_|refine JB ?_|refine JC ?_|refine JD ?_|refine JE ?_|refine JF ?_|refine JG ?_|refine JH ?_|refine JI ?_|refine JJ ?_|refine JK ?_|refine JL ?_|refine JM ?_|refine CW.skip (PW.code ?_)|refine RW.nil (PW.code ?_))
  refine RW.callN Try.call54 rfl (fun w2 hw2 => copyInts_ret (Mem.le_trans hN (hle hw2)) h) rfl fun y => ?_
  refine RW.have_ (φ := ∃ A c, y = .slice A xs.length c) (fun w hw => sl_form (pre := []) hw) (fun ⟨A2, c2, hy⟩ => ?_)
  subst hy
  repeat (first|refine Ja ?_|refine Jb ?_|refine Jc ?_|refine Jd ?_|refine Je ?_|refine Jf ?_|refine Jg ?_|refine Jh ?_|refine Ji ?_|refine Jj ?_|refine Jk ?_|refine Jl ?_|refine Jm ?_|refine Jn ?_|refine Jo ?_|refine Jp ?_|refine Jq ?_|refine Jr ?_|refine Js ?_|refine Jt ?_|refine Ju ?_|refine Jv ?_|refine Jw ?_|refine Jx ?_|refine Jy ?_|refine Jz ?_|refine JA ?_|refine JB ?_|refine JC ?_|refine JD ?_|refine JE ?_|refine JF ?_|refine JG ?_|refine JH ?_|refine JI ?_|refine JJ ?_|refine JK ?_|refine JL ?_|refine JM ?_|refine CW.skip (PW.code ?_)|refine RW.nil (PW.code ?_))
  refine RW.store_blk [_, _] rfl rfl rfl rfl rfl (by simp) ?_
  repeat (first|refine Ja ?_|refine Jb ?_|refine Jc ?_|refine Jd ?_|refine Je ?_|refine Jf ?_|refine Jg ?_|refine Jh ?_|refine Ji ?_|refine Jj ?_|refine Jk ?_|refine Jl ?_|refine Jm ?_|refine Jn ?_|refine Jo ?_|refine Jp ?_|refine Jq ?_|refine Jr ?_|refine Js ?_|refine Jt ?_|refine Ju ?_|refine Jv ?_|refine Jw ?_|refine Jx ?_|refine Jy ?_|refine Jz ?_|refine JA ?_|refine JB ?_|refine JC ?_|refine JD ?_|refine JE ?_|refine JF ?_|refine JG ?_|refine JH ?_|refine JI ?_|refine JJ ?_|refine JK ?_|refine JL ?_|refine JM ?_|refine CW.skip (PW.code ?_)|refine RW.nil (PW.code ?_))
  refine RW.store_whole [_] rfl rfl rfl rfl rfl (by simp [Value.oneCell']) ?_
  repeat (first|refine Ja ?_|refine Jb ?_|refine Jc ?_|refine Jd ?_|refine Je ?_|refine Jf ?_|refine Jg ?_|refine Jh ?_|refine Ji ?_|refine Jj ?_|refine Jk ?_|refine Jl ?_|refine Jm ?_|refine Jn ?_|refine Jo ?_|refine Jp ?_|refine Jq ?_|refine Jr ?_|refine Js ?_|refine Jt ?_|refine Ju ?_|refine Jv ?_|refine Jw ?_|refine Jx ?_|refine Jy ?_|refine Jz ?_|refine JA ?_|refine JB ?_|refine JC ?_|refine JD ?_|refine JE ?_|refine JF ?_|refine JG ?_|refine JH ?_|refine JI ?_|refine JJ ?_|refine JK ?_|refine JL ?_|refine JM ?_|refine CW.skip (PW.code ?_)|refine RW.nil (PW.code ?_))
  refine CW.rets (rs := [.cell 2 25]) (vs := [_]) rfl Try.results44 rfl (ResOK.cell [_] rfl rfl rfl ResOK.nil) fun w hw => ⟨(A2, c2), rfl, hw.take [0]⟩
theorem copyLit_ret {N : Mem} {cs : List Value} {l : LitD} {w : World} (hN : Mem.le N (mem w Any)) (h : Rd kLit N cs (litV l)) :
    RetC Try.prog 28 [.agg cs.toArray] w No (fun x : Option Addr × Nat => .agg (l.V x.1 x.2).toArray) (fun x => [rdHP Mem.none kLit (l.V x.1 x.2) (litV l)]) := by
  have hle : ∀ {H : List HP} {w2 : World}, St w No H w2 → Mem.le (mem w Any) (mem w2 Any) := fun hw2 => Mem.le_trans (any_ro (N := 0) (ds := [])) (ro_le' (E := ⟨0, [], w, No⟩) hw2)
  obtain ⟨A, c, rfl, hx, h1, h2, h3⟩ := Rd.lit h
  rw [litOf_V] at *
  clear h
  unfold LitD.V
  refine Calls.enter Try.func28 rfl _ rfl rfl (S := No) (H := []) trivial ?_
  refine CW.seqR ?_
  refine RW.box_agg rfl rfl fun b1 _ => ?_
  refine RW.alloc rfl rfl fun b2 _ => ?_
  repeat (first|refine Ja ?_|refine Jb ?_|refine Jc ?_|refine Jd ?_|refine Je ?_|refine Jf ?_|refine Jg ?_|refine Jh ?_|refine Ji ?_|refine Jj ?_|refine Jk ?_|refine Jl ?_|refine Jm ?_|refine Jn ?_|refine Jo ?_|refine Jp ?_|refine Jq ?_|refine Jr ?_|refine Js ?_|refine Jt ?_|refine Ju ?_|refine Jv ?_|refine Jw ?_|refine Jx ?_|refine Jy ?_|refine Jz ?_|refine JA ?_|refine JB ?_|refine JC ?_|refine JD ?_|refine JE ?_|refine JF ?_|refine JG ?_|refine JH ?_|refine JI ?_|refine JJ ?_|refine JK ?_|refine JL ?_|refine JM ?_|refine CW.skip (PW.code ?_)|refine RW.nil (PW.code ?_))
  refine RW.callN Try.call44 rfl (fun w2 hw2 => copyAtom_ret (Mem.le_trans hN (hle hw2)) hx) rfl fun y => ?_
  obtain ⟨A2, c2⟩ := y
  repeat (first|refine Ja ?_|refine Jb ?_|refine Jc ?_|refine Jd ?_|refine Je ?_|refine Jf ?_|refine Jg ?_|refine Jh ?_|refine Ji ?_|refine Jj ?_|refine Jk ?_|refine Jl ?_|refine Jm ?_|refine Jn ?_|refine Jo ?_|refine Jp ?_|refine Jq ?_|refine Jr ?_|refine Js ?_|refine Jt ?_|refine Ju ?_|refine Jv ?_|refine Jw ?_|refine Jx ?_|refine Jy ?_|refine Jz ?_|refine JA ?_|refine JB ?_|refine JC ?_|refine JD ?_|refine JE ?_|refine JF ?_|refine JG ?_|refine JH ?_|refine JI ?_|refine JJ ?_|refine JK ?_|refine JL ?_|refine JM ?_|refine CW.skip (PW.code ?_)|refine RW.nil (PW.code ?_))
  refine RW.store_part [_, _] (vs := [.int .i64 l.pred, .slice A2 l.args.length c2, .int .i64 l.value]) rfl rfl rfl rfl (by simp [Value.oneCell']) (by simp) ?_
  repeat (first|refine Ja ?_|refine Jb ?_|refine Jc ?_|refine Jd ?_|refine Je ?_|refine Jf ?_|refine Jg ?_|refine Jh ?_|refine Ji ?_|refine Jj ?_|refine Jk ?_|refine Jl ?_|refine Jm ?_|refine Jn ?_|refine Jo ?_|refine Jp ?_|refine Jq ?_|refine Jr ?_|refine Js ?_|refine Jt ?_|refine Ju ?_|refine Jv ?_|refine Jw ?_|refine Jx ?_|refine Jy ?_|refine Jz ?_|refine JA ?_|refine JB ?_|refine JC ?_|refine JD ?_|refine JE ?_|refine JF ?_|refine JG ?_|refine JH ?_|refine JI ?_|refine JJ ?_|refine JK ?_|refine JL ?_|refine JM ?_|refine CW.skip (PW.code ?_)|refine RW.nil (PW.code ?_))
  refine RW.store_whole [_] (vs := [.bool l.neg, .int .i64 l.pred, .slice A2 l.args.length c2, .int .i64 l.value, .int .i64 l.guard]) rfl rfl rfl rfl rfl (by simp [Value.oneCell']) ?_
  repeat (first|refine Ja ?_|refine Jb ?_|refine Jc ?_|refine Jd ?_|refine Je ?_|refine Jf ?_|refine Jg ?_|refine Jh ?_|refine Ji ?_|refine Jj ?_|refine Jk ?_|refine Jl ?_|refine Jm ?_|refine Jn ?_|refine Jo ?_|refine Jp ?_|refine Jq ?_|refine Jr ?_|refine Js ?_|refine Jt ?_|refine Ju ?_|refine Jv ?_|refine Jw ?_|refine Jx ?_|refine Jy ?_|refine Jz ?_|refine JA ?_|refine JB ?_|refine JC ?_|refine JD ?_|refine JE ?_|refine JF ?_|refine JG ?_|refine JH ?_|refine JI ?_|refine JJ ?_|refine JK ?_|refine JL ?_|refine JM ?_|refine CW.skip (PW.code ?_)|refine RW.nil (PW.code ?_))
  refine CW.rets (rs := [.cell 2 27]) (vs := [_]) rfl Try.results28 rfl (ResOK.cell [_] rfl rfl rfl ResOK.nil) fun w hw => ⟨(A2, c2), rfl, ?_⟩
  exact St.change (pre := []) (hw.take [0]) (fun F hp => Rd.lit_mk hp h1 h2 h3)
set_option maxHeartbeats 1000000 in
theorem copyLits_ret {N : Mem} {D : Option Addr} {e : Nat} {ls : List LitD} {w : World} (hN : Mem.le N (mem w Any)) (h : Rd kLits N [.slice D ls.length e] (ls.map litV)) :
    RetC Try.prog 10 [.slice D ls.length e] w No (fun y : Value × List (List Value) => y.1) (fun y => litsH y.1 y.2 ls) := by
  have hle : ∀ {H : List HP} {w2 : World}, St w No H w2 → Mem.le (mem w Any) (mem w2 Any) := fun hw2 => Mem.le_trans (any_ro (N := 0) (ds := [])) (ro_le' (E := ⟨0, [], w, No⟩) hw2)
  obtain ⟨D', e', he, _, _, hsz, hx⟩ := Rd.lits h
  cases he
  rw [reach_eq] at hsz
  refine Calls.enter Try.func10 rfl _ rfl rfl (S := No) (H := []) trivial ?_
  repeat (first|refine Ja ?_|refine Jb ?_|refine Jc ?_|refine Jd ?_|refine Je ?_|refine Jf ?_|refine Jg ?_|refine Jh ?_|refine Ji ?_|refine Jj ?_|refine Jk ?_|refine Jl ?_|refine Jm ?_|refine Jn ?_|refine Jo ?_|refine Jp ?_|refine Jq ?_|refine Jr ?_|refine Js ?_|refine Jt ?_|refine Ju ?_|refine Jv ?_|refine Jw ?_|refine Jx ?_|refine Jy ?_|refine Jz ?_|refine JA ?_|refine JB ?_|refine JC ?_|refine JD ?_|refine JE ?_|refine JF ?_|refine JG ?_|refine JH ?_|refine JI ?_|refine JJ ?_|refine JK ?_|refine JL ?_|refine JM ?_|refine CW.skip (PW.code ?_)|refine RW.nil (PW.code ?_))
  refine CW.seq ?_
  repeat (first|refine Ja ?_|refine Jb ?_|refine Jc ?_|refine Jd ?_|refine Je ?_|refine Jf ?_|refine Jg ?_|refine Jh ?_|refine Ji ?_|refine Jj ?_|refine Jk ?_|refine Jl ?_|refine Jm ?_|refine Jn ?_|refine Jo ?_|refine Jp ?_|refine Jq ?_|refine Jr ?_|refine Js ?_|refine Jt ?_|refine Ju ?_|refine Jv ?_|refine Jw ?_|refine Jx ?_|refine Jy ?_|refine Jz ?_|refine JA ?_|refine JB ?_|refine JC ?_|refine JD ?_|refine JE ?_|refine JF ?_|refine JG ?_|refine JH ?_|refine JI ?_|refine JJ ?_|refine JK ?_|refine JL ?_|refine JM ?_|refine CW.skip (PW.code ?_)|refine RW.nil (PW.code ?_))
  refine CW.add_ (rdsHP Mem.none kLit [] ((ls.take 0).map litV)) (fun w _ => All2.nil) ?_
  refine CW.add_ (ownHP 27 5 (.slice none 0 0) []) (fun w _ => .inl ⟨rfl, rfl⟩) ?_
  refine CW.block ?_
  refine CW.loop (ι := { q : Nat × Value × List (List Value) // q.1 ≤ ls.length }) (fun q => [(0, .slice D ls.length e), (3, q.1.2.1), (4, .int .i64 q.1.1)]) (fun q => [ownHP 27 5 q.1.2.1 q.1.2.2, rdsHP Mem.none kLit q.1.2.2 ((ls.take q.1.1).map litV)]) (fun q => ls.length - q.1.1) ⟨(0, .slice none 0 0, []), Nat.zero_le _⟩ ⟨rfl, rfl, rfl, trivial⟩ (fun h => h) ?_
  intro ⟨(k, v, es), hk⟩
  dsimp only
  replace hk : k ≤ ls.length := hk
  refine CW.seq ?_
  repeat (first|refine Ja ?_|refine Jb ?_|refine Jc ?_|refine Jd ?_|refine Je ?_|refine Jf ?_|refine Jg ?_|refine Jh ?_|refine Ji ?_|refine Jj ?_|refine Jk ?_|refine Jl ?_|refine Jm ?_|refine Jn ?_|refine Jo ?_|refine Jp ?_|refine Jq ?_|refine Jr ?_|refine Js ?_|refine Jt ?_|refine Ju ?_|refine Jv ?_|refine Jw ?_|refine Jx ?_|refine Jy ?_|refine Jz ?_|refine JA ?_|refine JB ?_|refine JC ?_|refine JD ?_|refine JE ?_|refine JF ?_|refine JG ?_|refine JH ?_|refine JI ?_|refine JJ ?_|refine JK ?_|refine JL ?_|refine JM ?_|refine CW.skip (PW.code ?_)|refine RW.nil (PW.code ?_))
  refine CW.ite rfl (fun hlt => ?_) (fun hge => ?_)
  · have hlt' : k < ls.length := by omega
    obtain ⟨B1, O1, es1, rfl, hl1, hr, hm⟩ := hx k ls[k] (List.getElem?_eq_getElem hlt')
    have htk : ls.take (k + 1) = ls.take k ++ [ls[k]] := List.take_succ_eq_append_getElem hlt'
    generalize ls[k] = x at hr htk
    refine CW.have_ (φ := es.length = k) (fun w hw => ?_) (fun hlk => ?_)
    · obtain ⟨F, hp, _⟩ := St.get (pre := [_]) hw
      rw [hp.1, List.length_map, List.length_take, Nat.min_eq_left hk]
    repeat (first|refine Ja ?_|refine Jb ?_|refine Jc ?_|refine Jd ?_|refine Je ?_|refine Jf ?_|refine Jg ?_|refine Jh ?_|refine Ji ?_|refine Jj ?_|refine Jk ?_|refine Jl ?_|refine Jm ?_|refine Jn ?_|refine Jo ?_|refine Jp ?_|refine Jq ?_|refine Jr ?_|refine Js ?_|refine Jt ?_|refine Ju ?_|refine Jv ?_|refine Jw ?_|refine Jx ?_|refine Jy ?_|refine Jz ?_|refine JA ?_|refine JB ?_|refine JC ?_|refine JD ?_|refine JE ?_|refine JF ?_|refine JG ?_|refine JH ?_|refine JI ?_|refine JJ ?_|refine JK ?_|refine JL ?_|refine JM ?_|refine CW.skip (PW.code ?_)|refine RW.nil (PW.code ?_))
    refine CW.seq ?_
    refine CW.block ?_
    refine CW.region ?_
    repeat (first|refine Ja ?_|refine Jb ?_|refine Jc ?_|refine Jd ?_|refine Je ?_|refine Jf ?_|refine Jg ?_|refine Jh ?_|refine Ji ?_|refine Jj ?_|refine Jk ?_|refine Jl ?_|refine Jm ?_|refine Jn ?_|refine Jo ?_|refine Jp ?_|refine Jq ?_|refine Jr ?_|refine Js ?_|refine Jt ?_|refine Ju ?_|refine Jv ?_|refine Jw ?_|refine Jx ?_|refine Jy ?_|refine Jz ?_|refine JA ?_|refine JB ?_|refine JC ?_|refine JD ?_|refine JE ?_|refine JF ?_|refine JG ?_|refine JH ?_|refine JI ?_|refine JJ ?_|refine JK ?_|refine JL ?_|refine JM ?_|refine CW.skip (PW.code ?_)|refine RW.nil (PW.code ?_))
    refine RW.indexAddr rfl rfl (by omega) hlt rfl ?_
    refine RW.load_ros rfl (Mem.le_trans hN any_ro) hm rfl hl1 (by omega) rfl ?_
    refine RW.callN Try.call28 rfl (fun w2 hw2 => copyLit_ret (Mem.le_trans hN (hle hw2)) hr) rfl fun y => ?_
    obtain ⟨A2, c2⟩ := y
    refine RW.buildOwn (e := 27) (sz := 5) [x.V A2 c2] rfl (fun w => by kernel_rfl) rfl (by simp [LitD.V]) (by decide) rfl fun nb => ?_
    refine RW.take [2, 0, 1, 3] ?_
    refine RW.append [] (e := 27) (sz := 5) (es := es) (v := v) (news := [x.V A2 c2]) (zc := [.bool false, .int .i64 0, .slice none 0 0, .int .i64 0, .int .i64 0]) rfl rfl rfl rfl rfl (by simp [LitD.V]) (by simp [LitD.V, Value.oneCell']) (fun w hw hn => ?_) ?_ ?_ rfl fun v' => ?_
    · exact ⟨nb, 0, rfl, own_cells (pre := []) (hw.take [1])⟩
    · rw [hlk]; omega
    · rw [hlk]; unfold maxN; omega
    repeat (first|refine Ja ?_|refine Jb ?_|refine Jc ?_|refine Jd ?_|refine Je ?_|refine Jf ?_|refine Jg ?_|refine Jh ?_|refine Ji ?_|refine Jj ?_|refine Jk ?_|refine Jl ?_|refine Jm ?_|refine Jn ?_|refine Jo ?_|refine Jp ?_|refine Jq ?_|refine Jr ?_|refine Js ?_|refine Jt ?_|refine Ju ?_|refine Jv ?_|refine Jw ?_|refine Jx ?_|refine Jy ?_|refine Jz ?_|refine JA ?_|refine JB ?_|refine JC ?_|refine JD ?_|refine JE ?_|refine JF ?_|refine JG ?_|refine JH ?_|refine JI ?_|refine JJ ?_|refine JK ?_|refine JL ?_|refine JM ?_|refine CW.skip (PW.code ?_)|refine RW.nil (PW.code ?_))
    refine CW.take [3, 2, 0] ?_
    refine CW.two (rdsHP Mem.none kLit (es ++ [x.V A2 c2]) ((ls.take (k + 1)).map litV)) (fun w F F2 g1 g2 => ?_) ?_
    · rw [htk, List.map_append]
      exact rds_append g1 (All2.one g2)
    refine CW.region ?_
    repeat (first|refine Ja ?_|refine Jb ?_|refine Jc ?_|refine Jd ?_|refine Je ?_|refine Jf ?_|refine Jg ?_|refine Jh ?_|refine Ji ?_|refine Jj ?_|refine Jk ?_|refine Jl ?_|refine Jm ?_|refine Jn ?_|refine Jo ?_|refine Jp ?_|refine Jq ?_|refine Jr ?_|refine Js ?_|refine Jt ?_|refine Ju ?_|refine Jv ?_|refine Jw ?_|refine Jx ?_|refine Jy ?_|refine Jz ?_|refine JA ?_|refine JB ?_|refine JC ?_|refine JD ?_|refine JE ?_|refine JF ?_|refine JG ?_|refine JH ?_|refine JI ?_|refine JJ ?_|refine JK ?_|refine JL ?_|refine JM ?_|refine CW.skip (PW.code ?_)|refine RW.nil (PW.code ?_))
    refine RW.add rfl rfl (w64 (by omega) (by omega)) rfl ?_
    repeat (first|refine Ja ?_|refine Jb ?_|refine Jc ?_|refine Jd ?_|refine Je ?_|refine Jf ?_|refine Jg ?_|refine Jh ?_|refine Ji ?_|refine Jj ?_|refine Jk ?_|refine Jl ?_|refine Jm ?_|refine Jn ?_|refine Jo ?_|refine Jp ?_|refine Jq ?_|refine Jr ?_|refine Js ?_|refine Jt ?_|refine Ju ?_|refine Jv ?_|refine Jw ?_|refine Jx ?_|refine Jy ?_|refine Jz ?_|refine JA ?_|refine JB ?_|refine JC ?_|refine JD ?_|refine JE ?_|refine JF ?_|refine JG ?_|refine JH ?_|refine JI ?_|refine JJ ?_|refine JK ?_|refine JL ?_|refine JM ?_|refine CW.skip (PW.code ?_)|refine RW.nil (PW.code ?_))
    refine RW.nil ?_
    refine PW.againT ⟨(k + 1, v', es ++ [x.V A2 c2]), hlt'⟩ [1, 0] ⟨rfl, rfl, rfl, trivial⟩ rfl (by show ls.length - (k + 1) < ls.length - k; omega)
  · have hke : k = ls.length := by omega
    subst hke
    refine CW.exit rfl ?_
    refine PW.code ?_
    repeat (first|refine Ja ?_|refine Jb ?_|refine Jc ?_|refine Jd ?_|refine Je ?_|refine Jf ?_|refine Jg ?_|refine Jh ?_|refine Ji ?_|refine Jj ?_|refine Jk ?_|refine Jl ?_|refine Jm ?_|refine Jn ?_|refine Jo ?_|refine Jp ?_|refine Jq ?_|refine Jr ?_|refine Js ?_|refine Jt ?_|refine Ju ?_|refine Jv ?_|refine Jw ?_|refine Jx ?_|refine Jy ?_|refine Jz ?_|refine JA ?_|refine JB ?_|refine JC ?_|refine JD ?_|refine JE ?_|refine JF ?_|refine JG ?_|refine JH ?_|refine JI ?_|refine JJ ?_|refine JK ?_|refine JL ?_|refine JM ?_|refine CW.skip (PW.code ?_)|refine RW.nil (PW.code ?_))
    refine CW.ret1 rfl Try.results10 rfl rfl fun w hw => ⟨(v, es), rfl, ?_⟩
    rw [List.take_length] at hw
    exact hw
theorem sameLits_ret {N : Mem} {A B : Option Addr} {c d : Nat} {ls : List LitD} {w : World} (hN : Mem.le N (mem w Any)) (h : Rd kLits N [.slice A ls.length c] (ls.map litV)) (h' : Rd kLits N [.slice B ls.length d] (ls.map litV)) :
    Ret Try.prog 15 [.slice A ls.length c, .slice B ls.length d] w (.bool true) := by
  have hle : ∀ {H : List HP} {w2 : World}, St w No H w2 → Mem.le (mem w Any) (mem w2 Any) := fun hw2 => Mem.le_trans (any_ro (N := 0) (ds := [])) (ro_le' (E := ⟨0, [], w, No⟩) hw2)
  obtain ⟨A', c', he, _, _, hsz, hx⟩ := Rd.lits h
  cases he
  obtain ⟨B', d', he, _, _, _, hy⟩ := Rd.lits h'
  cases he
  rw [reach_eq] at hsz
  refine Calls.enter Try.func15 rfl _ rfl rfl (S := No) (H := []) trivial ?_
  repeat (first|refine Ja ?_|refine Jb ?_|refine Jc ?_|refine Jd ?_|refine Je ?_|refine Jf ?_|refine Jg ?_|refine Jh ?_|refine Ji ?_|refine Jj ?_|refine Jk ?_|refine Jl ?_|refine Jm ?_|refine Jn ?_|refine Jo ?_|refine Jp ?_|refine Jq ?_|refine Jr ?_|refine Js ?_|refine Jt ?_|refine Ju ?_|refine Jv ?_|refine Jw ?_|refine Jx ?_|refine Jy ?_|refine Jz ?_|refine JA ?_|refine JB ?_|refine JC ?_|refine JD ?_|refine JE ?_|refine JF ?_|refine JG ?_|refine JH ?_|refine JI ?_|refine JJ ?_|refine JK ?_|refine JL ?_|refine JM ?_|refine CW.skip (PW.code ?_)|refine RW.nil (PW.code ?_))
  refine CW.seq ?_
  repeat (first|refine Ja ?_|refine Jb ?_|refine Jc ?_|refine Jd ?_|refine Je ?_|refine Jf ?_|refine Jg ?_|refine Jh ?_|refine Ji ?_|refine Jj ?_|refine Jk ?_|refine Jl ?_|refine Jm ?_|refine Jn ?_|refine Jo ?_|refine Jp ?_|refine Jq ?_|refine Jr ?_|refine Js ?_|refine Jt ?_|refine Ju ?_|refine Jv ?_|refine Jw ?_|refine Jx ?_|refine Jy ?_|refine Jz ?_|refine JA ?_|refine JB ?_|refine JC ?_|refine JD ?_|refine JE ?_|refine JF ?_|refine JG ?_|refine JH ?_|refine JI ?_|refine JJ ?_|refine JK ?_|refine JL ?_|refine JM ?_|refine CW.skip (PW.code ?_)|refine RW.nil (PW.code ?_))
  refine CW.ite rfl (fun h1 => absurd rfl h1) (fun _ => ?_)
  repeat (first|refine Ja ?_|refine Jb ?_|refine Jc ?_|refine Jd ?_|refine Je ?_|refine Jf ?_|refine Jg ?_|refine Jh ?_|refine Ji ?_|refine Jj ?_|refine Jk ?_|refine Jl ?_|refine Jm ?_|refine Jn ?_|refine Jo ?_|refine Jp ?_|refine Jq ?_|refine Jr ?_|refine Js ?_|refine Jt ?_|refine Ju ?_|refine Jv ?_|refine Jw ?_|refine Jx ?_|refine Jy ?_|refine Jz ?_|refine JA ?_|refine JB ?_|refine JC ?_|refine JD ?_|refine JE ?_|refine JF ?_|refine JG ?_|refine JH ?_|refine JI ?_|refine JJ ?_|refine JK ?_|refine JL ?_|refine JM ?_|refine CW.skip (PW.code ?_)|refine RW.nil (PW.code ?_))
  refine CW.seq ?_
  repeat (first|refine Ja ?_|refine Jb ?_|refine Jc ?_|refine Jd ?_|refine Je ?_|refine Jf ?_|refine Jg ?_|refine Jh ?_|refine Ji ?_|refine Jj ?_|refine Jk ?_|refine Jl ?_|refine Jm ?_|refine Jn ?_|refine Jo ?_|refine Jp ?_|refine Jq ?_|refine Jr ?_|refine Js ?_|refine Jt ?_|refine Ju ?_|refine Jv ?_|refine Jw ?_|refine Jx ?_|refine Jy ?_|refine Jz ?_|refine JA ?_|refine JB ?_|refine JC ?_|refine JD ?_|refine JE ?_|refine JF ?_|refine JG ?_|refine JH ?_|refine JI ?_|refine JJ ?_|refine JK ?_|refine JL ?_|refine JM ?_|refine CW.skip (PW.code ?_)|refine RW.nil (PW.code ?_))
  refine CW.block ?_
  refine CW.loop (ι := { k : Nat // k ≤ ls.length }) (fun k => [(0, .slice A ls.length c), (1, .slice B ls.length d), (5, .int .i64 k.1)]) (fun _ => []) (fun k => ls.length - k.1) ⟨0, Nat.zero_le _⟩ ⟨rfl, rfl, rfl, trivial⟩ (fun h => h) ?_
  intro ⟨k, hk⟩
  dsimp only
  refine CW.seq ?_
  repeat (first|refine Ja ?_|refine Jb ?_|refine Jc ?_|refine Jd ?_|refine Je ?_|refine Jf ?_|refine Jg ?_|refine Jh ?_|refine Ji ?_|refine Jj ?_|refine Jk ?_|refine Jl ?_|refine Jm ?_|refine Jn ?_|refine Jo ?_|refine Jp ?_|refine Jq ?_|refine Jr ?_|refine Js ?_|refine Jt ?_|refine Ju ?_|refine Jv ?_|refine Jw ?_|refine Jx ?_|refine Jy ?_|refine Jz ?_|refine JA ?_|refine JB ?_|refine JC ?_|refine JD ?_|refine JE ?_|refine JF ?_|refine JG ?_|refine JH ?_|refine JI ?_|refine JJ ?_|refine JK ?_|refine JL ?_|refine JM ?_|refine CW.skip (PW.code ?_)|refine RW.nil (PW.code ?_))
  refine CW.ite rfl (fun hlt => ?_) (fun hge => ?_)
  · have hlt' : k < ls.length := by omega
    obtain ⟨B1, O1, es1, rfl, hl1, hr1, hm1⟩ := hx k ls[k] (List.getElem?_eq_getElem hlt')
    obtain ⟨B2, O2, es2, rfl, hl2, hr2, hm2⟩ := hy k ls[k] (List.getElem?_eq_getElem hlt')
    generalize ls[k] = x at hr1 hr2
    repeat (first|refine Ja ?_|refine Jb ?_|refine Jc ?_|refine Jd ?_|refine Je ?_|refine Jf ?_|refine Jg ?_|refine Jh ?_|refine Ji ?_|refine Jj ?_|refine Jk ?_|refine Jl ?_|refine Jm ?_|refine Jn ?_|refine Jo ?_|refine Jp ?_|refine Jq ?_|refine Jr ?_|refine Js ?_|refine Jt ?_|refine Ju ?_|refine Jv ?_|refine Jw ?_|refine Jx ?_|refine Jy ?_|refine Jz ?_|refine JA ?_|refine JB ?_|refine JC ?_|refine JD ?_|refine JE ?_|refine JF ?_|refine JG ?_|refine JH ?_|refine JI ?_|refine JJ ?_|refine JK ?_|refine JL ?_|refine JM ?_|refine CW.skip (PW.code ?_)|refine RW.nil (PW.code ?_))
    refine CW.seq ?_
    refine CW.block ?_
    refine CW.seqA (by kernel_rfl) rfl ?_
    repeat (apply AW.val rfl; · intro Gx X; (first | refine RW.yes rfl ?_ | skip); (first|refine Jc ?_|refine Jd ?_|refine Je ?_|refine Jg ?_|refine Jh ?_|refine Ji ?_|refine Jj ?_|refine Jk ?_|refine Jl ?_|refine Jm ?_|refine Jn ?_|refine Jo ?_|refine Jp ?_|refine Jq ?_|refine Jr ?_|refine Js ?_|refine Jt ?_|refine Ju ?_|refine Jv ?_|refine Jw ?_|refine Jx ?_|refine Jz ?_|refine JA ?_|refine JB ?_|refine JC ?_|refine JD ?_|refine JE ?_|refine JF ?_|refine JG ?_|refine JH ?_|refine JI ?_|refine JJ ?_|refine JK ?_|refine JL ?_); exact RW.done rfl)
    (apply AW.val rfl; · intro Gx X; (first | refine RW.yes rfl ?_ | skip); refine RW.indexAddr rfl rfl (by omega) hlt rfl ?_; exact RW.done rfl)
    (apply AW.val rfl; · intro Gx X; (first | refine RW.yes rfl ?_ | skip); refine RW.load_ros rfl (Mem.le_trans hN any_ro) hm1 rfl hl1 (by omega) rfl ?_; exact RW.done rfl)
    repeat (apply AW.val rfl; · intro Gx X; (first | refine RW.yes rfl ?_ | skip); (first|refine Jc ?_|refine Jd ?_|refine Je ?_|refine Jg ?_|refine Jh ?_|refine Ji ?_|refine Jj ?_|refine Jk ?_|refine Jl ?_|refine Jm ?_|refine Jn ?_|refine Jo ?_|refine Jp ?_|refine Jq ?_|refine Jr ?_|refine Js ?_|refine Jt ?_|refine Ju ?_|refine Jv ?_|refine Jw ?_|refine Jx ?_|refine Jz ?_|refine JA ?_|refine JB ?_|refine JC ?_|refine JD ?_|refine JE ?_|refine JF ?_|refine JG ?_|refine JH ?_|refine JI ?_|refine JJ ?_|refine JK ?_|refine JL ?_); exact RW.done rfl)
    (apply AW.val rfl; · intro Gx X; (first | refine RW.yes rfl ?_ | skip); refine RW.indexAddr rfl rfl (by omega) hlt rfl ?_; exact RW.done rfl)
    (apply AW.val rfl; · intro Gx X; (first | refine RW.yes rfl ?_ | skip); refine RW.load_ros rfl (Mem.le_trans hN any_ro) hm2 rfl hl2 (by omega) rfl ?_; exact RW.done rfl)
    (apply AW.val rfl; · intro Gx X; (first | refine RW.yes rfl ?_ | skip); refine RW.call Try.call9 rfl (fun w2 hw2 => sameLit_ret (M := N) (x := litV x) (y := litV x) (Mem.le_trans hN (hle hw2)) hr1 hr2) rfl ?_; exact RW.done rfl)
    repeat (apply AW.val rfl; · intro Gx X; (first | refine RW.yes rfl ?_ | skip); (first|refine Jc ?_|refine Jd ?_|refine Je ?_|refine Jg ?_|refine Jh ?_|refine Ji ?_|refine Jj ?_|refine Jk ?_|refine Jl ?_|refine Jm ?_|refine Jn ?_|refine Jo ?_|refine Jp ?_|refine Jq ?_|refine Jr ?_|refine Js ?_|refine Jt ?_|refine Ju ?_|refine Jv ?_|refine Jw ?_|refine Jx ?_|refine Jz ?_|refine JA ?_|refine JB ?_|refine JC ?_|refine JD ?_|refine JE ?_|refine JF ?_|refine JG ?_|refine JH ?_|refine JI ?_|refine JJ ?_|refine JK ?_|refine JL ?_); exact RW.done rfl)
    refine AW.stop (by kernel_rfl) (by kernel_rfl) fun bs => ?_
    repeat (first|refine Ja ?_|refine Jb ?_|refine Jc ?_|refine Jd ?_|refine Je ?_|refine Jf ?_|refine Jg ?_|refine Jh ?_|refine Ji ?_|refine Jj ?_|refine Jk ?_|refine Jl ?_|refine Jm ?_|refine Jn ?_|refine Jo ?_|refine Jp ?_|refine Jq ?_|refine Jr ?_|refine Js ?_|refine Jt ?_|refine Ju ?_|refine Jv ?_|refine Jw ?_|refine Jx ?_|refine Jy ?_|refine Jz ?_|refine JA ?_|refine JB ?_|refine JC ?_|refine JD ?_|refine JE ?_|refine JF ?_|refine JG ?_|refine JH ?_|refine JI ?_|refine JJ ?_|refine JK ?_|refine JL ?_|refine JM ?_|refine CW.skip (PW.code ?_)|refine RW.nil (PW.code ?_))
    rw [decide_eq_true rfl]
    refine CW.cf rfl ?_
    repeat (first|refine Ja ?_|refine Jb ?_|refine Jc ?_|refine Jd ?_|refine Je ?_|refine Jf ?_|refine Jg ?_|refine Jh ?_|refine Ji ?_|refine Jj ?_|refine Jk ?_|refine Jl ?_|refine Jm ?_|refine Jn ?_|refine Jo ?_|refine Jp ?_|refine Jq ?_|refine Jr ?_|refine Js ?_|refine Jt ?_|refine Ju ?_|refine Jv ?_|refine Jw ?_|refine Jx ?_|refine Jy ?_|refine Jz ?_|refine JA ?_|refine JB ?_|refine JC ?_|refine JD ?_|refine JE ?_|refine JF ?_|refine JG ?_|refine JH ?_|refine JI ?_|refine JJ ?_|refine JK ?_|refine JL ?_|refine JM ?_|refine CW.skip (PW.code ?_)|refine RW.nil (PW.code ?_))
    refine CW.region ?_
    repeat (first|refine Ja ?_|refine Jb ?_|refine Jc ?_|refine Jd ?_|refine Je ?_|refine Jf ?_|refine Jg ?_|refine Jh ?_|refine Ji ?_|refine Jj ?_|refine Jk ?_|refine Jl ?_|refine Jm ?_|refine Jn ?_|refine Jo ?_|refine Jp ?_|refine Jq ?_|refine Jr ?_|refine Js ?_|refine Jt ?_|refine Ju ?_|refine Jv ?_|refine Jw ?_|refine Jx ?_|refine Jy ?_|refine Jz ?_|refine JA ?_|refine JB ?_|refine JC ?_|refine JD ?_|refine JE ?_|refine JF ?_|refine JG ?_|refine JH ?_|refine JI ?_|refine JJ ?_|refine JK ?_|refine JL ?_|refine JM ?_|refine CW.skip (PW.code ?_)|refine RW.nil (PW.code ?_))
    refine RW.add rfl rfl (w64 (by omega) (by omega)) rfl ?_
    repeat (first|refine Ja ?_|refine Jb ?_|refine Jc ?_|refine Jd ?_|refine Je ?_|refine Jf ?_|refine Jg ?_|refine Jh ?_|refine Ji ?_|refine Jj ?_|refine Jk ?_|refine Jl ?_|refine Jm ?_|refine Jn ?_|refine Jo ?_|refine Jp ?_|refine Jq ?_|refine Jr ?_|refine Js ?_|refine Jt ?_|refine Ju ?_|refine Jv ?_|refine Jw ?_|refine Jx ?_|refine Jy ?_|refine Jz ?_|refine JA ?_|refine JB ?_|refine JC ?_|refine JD ?_|refine JE ?_|refine JF ?_|refine JG ?_|refine JH ?_|refine JI ?_|refine JJ ?_|refine JK ?_|refine JL ?_|refine JM ?_|refine CW.skip (PW.code ?_)|refine RW.nil (PW.code ?_))
    refine RW.nil ?_
    refine PW.again ⟨k + 1, hlt'⟩ ⟨rfl, rfl, rfl, trivial⟩ (fun h => h) (by show ls.length - (k + 1) < ls.length - k; omega)
  · refine CW.exit rfl ?_
    refine PW.code ?_
    repeat (first|refine Ja ?_|refine Jb ?_|refine Jc ?_|refine Jd ?_|refine Je ?_|refine Jf ?_|refine Jg ?_|refine Jh ?_|refine Ji ?_|refine Jj ?_|refine Jk ?_|refine Jl ?_|refine Jm ?_|refine Jn ?_|refine Jo ?_|refine Jp ?_|refine Jq ?_|refine Jr ?_|refine Js ?_|refine Jt ?_|refine Ju ?_|refine Jv ?_|refine Jw ?_|refine Jx ?_|refine Jy ?_|refine Jz ?_|refine JA ?_|refine JB ?_|refine JC ?_|refine JD ?_|refine JE ?_|refine JF ?_|refine JG ?_|refine JH ?_|refine JI ?_|refine JJ ?_|refine JK ?_|refine JL ?_|refine JM ?_|refine CW.skip (PW.code ?_)|refine RW.nil (PW.code ?_))
    refine CW.ret1 rfl Try.results15 rfl rfl fun w hw => ⟨rfl, hw.kp⟩
end Go.Proofs.Ytoknohnodlaimaa
