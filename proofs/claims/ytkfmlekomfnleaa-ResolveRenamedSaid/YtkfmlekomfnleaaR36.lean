/- The copies of lexpriorplain: deep data of one's own. Conditions: none. -/
import Derived.Test.YtkfmlekomfnleaaR24
import Derived.Test.YtkfmlekomfnleaaW
set_option linter.unusedVariables false
set_option linter.unusedSimpArgs false
set_option maxRecDepth 10000
namespace Go.Proofs.Ytkfmlekomfnleaa
open Go Go.RowKit Go.MapKept

def K.flat : K → Bool
  | .sl _ _ => false
  | .pr a b => a.flat && b.flat
  | _ => true
theorem own_of_flat : ∀ {t : K} {M : Mem} {w : World} {F : Nat → Prop} {cs : List Value} {x : t.V}, t.flat = true → Rd t M cs x → OwnD t w F cs x := by
  intro t
  induction t with
  | int k => intro _ _ _ _ _ _ h; exact h
  | bool => intro _ _ _ _ _ _ h; exact h
  | str => intro _ _ _ _ _ _ h; exact h
  | sl e t ih => intro _ _ _ _ _ h; cases h
  | pr a b iha ihb =>
    intro M w F cs x hf h
    have hf2 : (a.flat && b.flat) = true := hf
    rw [Bool.and_eq_true] at hf2
    obtain ⟨c1, c2, rfl, h1, h2⟩ := h
    exact ⟨c1, c2, fun _ => False, rfl, fun _ h => h.elim, iha hf2.1 h1, ihb hf2.2 h2⟩
theorem Sep.addp {c : HP} {r : List HP} {w : World} {A : Nat → Prop} (hc : c.p w No) (h : Sep r w A) : Sep (c :: r) w A := ⟨No, fun b hb => hb.elim, hc, Sep.up (fun b hb => ⟨hb, fun k => k.elim⟩) h⟩
theorem own_kept {t : K} {cs : List Value} {x : t.V} {pre r : List HP} {w0 w : World} {S : Nat → Prop} (h : St w0 S (pre ++ ownDHP t cs x :: r) w) : ∃ M : Mem, Rd t M cs x := by
  obtain ⟨F, hp, _⟩ := h.get
  exact ⟨_, OwnD.rd hp⟩
attribute [local irreducible] RW CW
set_option maxHeartbeats 4000000 in
theorem copyStrs_ret {A : Option Addr} {c : Nat} {xs : List Str} {w : World} (h : Rd (.sl 16 K.str) (mem w (fun b => ¬ No b)) [.slice A xs.length c] xs) : RetC Try.prog 89 [.slice A xs.length c] w No (fun v : Value => v) (fun v => [ownDHP (.sl 16 K.str) [v] xs]) := by
  have hsm := sl_small h
  have hsm2 := hsm
  unfold reach at hsm
  have hle : Mem.le (mem w (fun b => ¬ No b)) (mem w (fun b => ¬ No b)) := Mem.le_refl _
  refine Calls.enter Try.func89 rfl _ rfl rfl (S := No) (H := []) trivial ?_
  refine CW.add_ (elemsHP none K.str [] []) (fun w _ => elems_nil) ?_
  refine CW.add_ (ownHP 9 1 (.slice none 0 0) []) (fun w _ => .inl ⟨rfl, rfl⟩) ?_
  repeat (first|refine Ja ?_|refine Jb ?_|refine Jc ?_|refine Jd ?_|refine Je ?_|refine Jf ?_|refine Jg ?_|refine Jh ?_|refine Ji ?_|refine Jj ?_|refine Jk ?_|refine Jl ?_|refine Jm ?_|refine Jn ?_|refine Jo ?_|refine Jp ?_|refine Jq ?_|refine Jr ?_|refine Js ?_|refine Jt ?_|refine Ju ?_|refine Jv ?_|refine Jw ?_|refine Jx ?_|refine Jy ?_|refine Jz ?_|refine JA ?_|refine JB ?_|refine JC ?_|refine JD ?_|refine JE ?_|refine JF ?_|refine JG ?_|refine JH ?_|refine JI ?_|refine JJ ?_|refine JK ?_|refine JL ?_|refine JM ?_|refine CW.skip (PW.code ?_)|refine RW.nil (PW.code ?_))
  refine CW.seq ?_
  repeat (first|refine Ja ?_|refine Jb ?_|refine Jc ?_|refine Jd ?_|refine Je ?_|refine Jf ?_|refine Jg ?_|refine Jh ?_|refine Ji ?_|refine Jj ?_|refine Jk ?_|refine Jl ?_|refine Jm ?_|refine Jn ?_|refine Jo ?_|refine Jp ?_|refine Jq ?_|refine Jr ?_|refine Js ?_|refine Jt ?_|refine Ju ?_|refine Jv ?_|refine Jw ?_|refine Jx ?_|refine Jy ?_|refine Jz ?_|refine JA ?_|refine JB ?_|refine JC ?_|refine JD ?_|refine JE ?_|refine JF ?_|refine JG ?_|refine JH ?_|refine JI ?_|refine JJ ?_|refine JK ?_|refine JL ?_|refine JM ?_|refine CW.skip (PW.code ?_)|refine RW.nil (PW.code ?_))
  refine CW.block ?_
  refine CW.loop (ι := { q : Nat × Value × List (List Value) // q.1 ≤ xs.length ∧ q.2.2.length = q.1 }) (fun q => [(0, .slice A xs.length c), (3, q.1.2.1), (4, .int .i64 q.1.1)]) (fun q => [ownHP 9 1 q.1.2.1 q.1.2.2, elemsHP none K.str q.1.2.2 (xs.take q.1.1)]) (fun q => xs.length - q.1.1) ⟨(0, .slice none 0 0, []), Nat.zero_le _, rfl⟩ ⟨rfl, rfl, rfl, trivial⟩ (fun h => h) ?_
  intro ⟨⟨j, v, es⟩, hj, hel⟩
  dsimp only at hj hel ⊢
  refine CW.seq ?_
  repeat (first|refine Ja ?_|refine Jb ?_|refine Jc ?_|refine Jd ?_|refine Je ?_|refine Jf ?_|refine Jg ?_|refine Jh ?_|refine Ji ?_|refine Jj ?_|refine Jk ?_|refine Jl ?_|refine Jm ?_|refine Jn ?_|refine Jo ?_|refine Jp ?_|refine Jq ?_|refine Jr ?_|refine Js ?_|refine Jt ?_|refine Ju ?_|refine Jv ?_|refine Jw ?_|refine Jx ?_|refine Jy ?_|refine Jz ?_|refine JA ?_|refine JB ?_|refine JC ?_|refine JD ?_|refine JE ?_|refine JF ?_|refine JG ?_|refine JH ?_|refine JI ?_|refine JJ ?_|refine JK ?_|refine JL ?_|refine JM ?_|refine CW.skip (PW.code ?_)|refine RW.nil (PW.code ?_))
  refine CW.ite rfl (fun hlt => ?_) (fun hge => ?_)
  rotate_left
  · have hge' : xs.length ≤ j := by simpa using hge
    rw [List.take_of_length_le hge']
    refine CW.exit rfl ?_
    refine PW.code ?_
    repeat (first|refine Ja ?_|refine Jb ?_|refine Jc ?_|refine Jd ?_|refine Je ?_|refine Jf ?_|refine Jg ?_|refine Jh ?_|refine Ji ?_|refine Jj ?_|refine Jk ?_|refine Jl ?_|refine Jm ?_|refine Jn ?_|refine Jo ?_|refine Jp ?_|refine Jq ?_|refine Jr ?_|refine Js ?_|refine Jt ?_|refine Ju ?_|refine Jv ?_|refine Jw ?_|refine Jx ?_|refine Jy ?_|refine Jz ?_|refine JA ?_|refine JB ?_|refine JC ?_|refine JD ?_|refine JE ?_|refine JF ?_|refine JG ?_|refine JH ?_|refine JI ?_|refine JJ ?_|refine JK ?_|refine JL ?_|refine JM ?_|refine CW.skip (PW.code ?_)|refine RW.nil (PW.code ?_))
    exact CW.ret1 rfl Try.results89 rfl rfl fun w hw => ⟨v, rfl, St.sep_map hw (fun w A h => slice_close rfl hsm2 h)⟩
  have hlt' : j < xs.length := by simpa using hlt
  obtain ⟨B1, O1, cs, hA, hl1, hr, hm⟩ := sl_get h (List.getElem?_eq_getElem hlt')
  have hts : xs.take (j + 1) = xs.take j ++ [xs[j]] := List.take_succ_eq_append_getElem hlt'
  generalize hx : xs[j] = x at *
  have hr0 := hr
  obtain rfl := str_cell hr
  refine CW.skip ?_
  refine PW.code ?_
  refine CW.seq ?_
  refine CW.block ?_
  refine CW.region ?_
  repeat (first|refine Ja ?_|refine Jb ?_|refine Jc ?_|refine Jd ?_|refine Je ?_|refine Jf ?_|refine Jg ?_|refine Jh ?_|refine Ji ?_|refine Jj ?_|refine Jk ?_|refine Jl ?_|refine Jm ?_|refine Jn ?_|refine Jo ?_|refine Jp ?_|refine Jq ?_|refine Jr ?_|refine Js ?_|refine Jt ?_|refine Ju ?_|refine Jv ?_|refine Jw ?_|refine Jx ?_|refine Jy ?_|refine Jz ?_|refine JA ?_|refine JB ?_|refine JC ?_|refine JD ?_|refine JE ?_|refine JF ?_|refine JG ?_|refine JH ?_|refine JI ?_|refine JJ ?_|refine JK ?_|refine JL ?_|refine JM ?_|refine CW.skip (PW.code ?_)|refine RW.nil (PW.code ?_))
  refine RW.indexAddrE hA rfl rfl (by omega) hlt rfl ?_
  refine RW.load_ro rfl hle (hm 0 _ rfl) rfl rfl ?_
  refine RW.add_ (ownDHP K.str [.string x] x) (fun w hw => own_of_flat rfl hr0) ?_
  refine RW.buildSlice (e := 9) (c := [.string x]) rfl (fun w => by kernel_rfl) rfl fun b16 _ => ?_
  refine RW.append [_, _] (e := 9) (sz := 1) (news := [[.string x]]) (zc := [.string ByteArray.empty]) rfl rfl rfl rfl rfl (by simp) (by simp [Value.oneCell']) (fun w hw hn => ?_) ?_ ?_ rfl fun v' => ?_
  · exact ⟨b16, 0, rfl, CellsAt.of_blk (St.blk (pre := []) hw)⟩
  · rw [hel]; omega
  · rw [hel]; unfold maxN; omega
  refine RW.take [2, 3, 1] ?_
  refine RW.sep [ownHP 9 1 v' (es ++ [[.string x]]), elemsHP none K.str (es ++ [[.string x]]) (xs.take j ++ [x])] (fun w A h => ?_) ?_
  · exact Sep.cons_perm (r := [elemsHP none K.str es (xs.take j), ownDHP K.str [.string x] x]) (fun A h => elems_append h) h
  rw [← hts]
  repeat (first|refine Ja ?_|refine Jb ?_|refine Jc ?_|refine Jd ?_|refine Je ?_|refine Jf ?_|refine Jg ?_|refine Jh ?_|refine Ji ?_|refine Jj ?_|refine Jk ?_|refine Jl ?_|refine Jm ?_|refine Jn ?_|refine Jo ?_|refine Jp ?_|refine Jq ?_|refine Jr ?_|refine Js ?_|refine Jt ?_|refine Ju ?_|refine Jv ?_|refine Jw ?_|refine Jx ?_|refine Jy ?_|refine Jz ?_|refine JA ?_|refine JB ?_|refine JC ?_|refine JD ?_|refine JE ?_|refine JF ?_|refine JG ?_|refine JH ?_|refine JI ?_|refine JJ ?_|refine JK ?_|refine JL ?_|refine JM ?_|refine CW.skip (PW.code ?_)|refine RW.nil (PW.code ?_))
  refine CW.region ?_
  repeat (first|refine Ja ?_|refine Jb ?_|refine Jc ?_|refine Jd ?_|refine Je ?_|refine Jf ?_|refine Jg ?_|refine Jh ?_|refine Ji ?_|refine Jj ?_|refine Jk ?_|refine Jl ?_|refine Jm ?_|refine Jn ?_|refine Jo ?_|refine Jp ?_|refine Jq ?_|refine Jr ?_|refine Js ?_|refine Jt ?_|refine Ju ?_|refine Jv ?_|refine Jw ?_|refine Jx ?_|refine Jy ?_|refine Jz ?_|refine JA ?_|refine JB ?_|refine JC ?_|refine JD ?_|refine JE ?_|refine JF ?_|refine JG ?_|refine JH ?_|refine JI ?_|refine JJ ?_|refine JK ?_|refine JL ?_|refine JM ?_|refine CW.skip (PW.code ?_)|refine RW.nil (PW.code ?_))
  refine RW.add rfl rfl (w64 (by omega) (by omega)) rfl ?_
  repeat (first|refine Ja ?_|refine Jb ?_|refine Jc ?_|refine Jd ?_|refine Je ?_|refine Jf ?_|refine Jg ?_|refine Jh ?_|refine Ji ?_|refine Jj ?_|refine Jk ?_|refine Jl ?_|refine Jm ?_|refine Jn ?_|refine Jo ?_|refine Jp ?_|refine Jq ?_|refine Jr ?_|refine Js ?_|refine Jt ?_|refine Ju ?_|refine Jv ?_|refine Jw ?_|refine Jx ?_|refine Jy ?_|refine Jz ?_|refine JA ?_|refine JB ?_|refine JC ?_|refine JD ?_|refine JE ?_|refine JF ?_|refine JG ?_|refine JH ?_|refine JI ?_|refine JJ ?_|refine JK ?_|refine JL ?_|refine JM ?_|refine CW.skip (PW.code ?_)|refine RW.nil (PW.code ?_))
  refine RW.nil ?_
  exact PW.again ⟨(j + 1, v', es ++ [[.string x]]), hlt', by rw [List.length_append, hel]; rfl⟩ ⟨rfl, rfl, rfl, trivial⟩ (fun h => h) (by show xs.length - (j + 1) < xs.length - j; omega)
set_option maxHeartbeats 4000000 in
theorem copyInts_ret {A : Option Addr} {c : Nat} {xs : List Int} {w : World} (h : Rd (.sl 8 kI) (mem w (fun b => ¬ No b)) [.slice A xs.length c] xs) : RetC Try.prog 113 [.slice A xs.length c] w No (fun v : Value => v) (fun v => [ownDHP (.sl 8 kI) [v] xs]) := by
  have hsm := sl_small h
  have hsm2 := hsm
  unfold reach at hsm
  have hle : Mem.le (mem w (fun b => ¬ No b)) (mem w (fun b => ¬ No b)) := Mem.le_refl _
  refine Calls.enter Try.func113 rfl _ rfl rfl (S := No) (H := []) trivial ?_
  refine CW.add_ (elemsHP none kI [] []) (fun w _ => elems_nil) ?_
  refine CW.add_ (ownHP 52 1 (.slice none 0 0) []) (fun w _ => .inl ⟨rfl, rfl⟩) ?_
  repeat (first|refine Ja ?_|refine Jb ?_|refine Jc ?_|refine Jd ?_|refine Je ?_|refine Jf ?_|refine Jg ?_|refine Jh ?_|refine Ji ?_|refine Jj ?_|refine Jk ?_|refine Jl ?_|refine Jm ?_|refine Jn ?_|refine Jo ?_|refine Jp ?_|refine Jq ?_|refine Jr ?_|refine Js ?_|refine Jt ?_|refine Ju ?_|refine Jv ?_|refine Jw ?_|refine Jx ?_|refine Jy ?_|refine Jz ?_|refine JA ?_|refine JB ?_|refine JC ?_|refine JD ?_|refine JE ?_|refine JF ?_|refine JG ?_|refine JH ?_|refine JI ?_|refine JJ ?_|refine JK ?_|refine JL ?_|refine JM ?_|refine CW.skip (PW.code ?_)|refine RW.nil (PW.code ?_))
  refine CW.seq ?_
  repeat (first|refine Ja ?_|refine Jb ?_|refine Jc ?_|refine Jd ?_|refine Je ?_|refine Jf ?_|refine Jg ?_|refine Jh ?_|refine Ji ?_|refine Jj ?_|refine Jk ?_|refine Jl ?_|refine Jm ?_|refine Jn ?_|refine Jo ?_|refine Jp ?_|refine Jq ?_|refine Jr ?_|refine Js ?_|refine Jt ?_|refine Ju ?_|refine Jv ?_|refine Jw ?_|refine Jx ?_|refine Jy ?_|refine Jz ?_|refine JA ?_|refine JB ?_|refine JC ?_|refine JD ?_|refine JE ?_|refine JF ?_|refine JG ?_|refine JH ?_|refine JI ?_|refine JJ ?_|refine JK ?_|refine JL ?_|refine JM ?_|refine CW.skip (PW.code ?_)|refine RW.nil (PW.code ?_))
  refine CW.block ?_
  refine CW.loop (ι := { q : Nat × Value × List (List Value) // q.1 ≤ xs.length ∧ q.2.2.length = q.1 }) (fun q => [(0, .slice A xs.length c), (3, q.1.2.1), (4, .int .i64 q.1.1)]) (fun q => [ownHP 52 1 q.1.2.1 q.1.2.2, elemsHP none kI q.1.2.2 (xs.take q.1.1)]) (fun q => xs.length - q.1.1) ⟨(0, .slice none 0 0, []), Nat.zero_le _, rfl⟩ ⟨rfl, rfl, rfl, trivial⟩ (fun h => h) ?_
  intro ⟨⟨j, v, es⟩, hj, hel⟩
  dsimp only at hj hel ⊢
  refine CW.seq ?_
  repeat (first|refine Ja ?_|refine Jb ?_|refine Jc ?_|refine Jd ?_|refine Je ?_|refine Jf ?_|refine Jg ?_|refine Jh ?_|refine Ji ?_|refine Jj ?_|refine Jk ?_|refine Jl ?_|refine Jm ?_|refine Jn ?_|refine Jo ?_|refine Jp ?_|refine Jq ?_|refine Jr ?_|refine Js ?_|refine Jt ?_|refine Ju ?_|refine Jv ?_|refine Jw ?_|refine Jx ?_|refine Jy ?_|refine Jz ?_|refine JA ?_|refine JB ?_|refine JC ?_|refine JD ?_|refine JE ?_|refine JF ?_|refine JG ?_|refine JH ?_|refine JI ?_|refine JJ ?_|refine JK ?_|refine JL ?_|refine JM ?_|refine CW.skip (PW.code ?_)|refine RW.nil (PW.code ?_))
  refine CW.ite rfl (fun hlt => ?_) (fun hge => ?_)
  rotate_left
  · have hge' : xs.length ≤ j := by simpa using hge
    rw [List.take_of_length_le hge']
    refine CW.exit rfl ?_
    refine PW.code ?_
    repeat (first|refine Ja ?_|refine Jb ?_|refine Jc ?_|refine Jd ?_|refine Je ?_|refine Jf ?_|refine Jg ?_|refine Jh ?_|refine Ji ?_|refine Jj ?_|refine Jk ?_|refine Jl ?_|refine Jm ?_|refine Jn ?_|refine Jo ?_|refine Jp ?_|refine Jq ?_|refine Jr ?_|refine Js ?_|refine Jt ?_|refine Ju ?_|refine Jv ?_|refine Jw ?_|refine Jx ?_|refine Jy ?_|refine Jz ?_|refine JA ?_|refine JB ?_|refine JC ?_|refine JD ?_|refine JE ?_|refine JF ?_|refine JG ?_|refine JH ?_|refine JI ?_|refine JJ ?_|refine JK ?_|refine JL ?_|refine JM ?_|refine CW.skip (PW.code ?_)|refine RW.nil (PW.code ?_))
    exact CW.ret1 rfl Try.results113 rfl rfl fun w hw => ⟨v, rfl, St.sep_map hw (fun w A h => slice_close rfl hsm2 h)⟩
  have hlt' : j < xs.length := by simpa using hlt
  obtain ⟨B1, O1, cs, hA, hl1, hr, hm⟩ := sl_get h (List.getElem?_eq_getElem hlt')
  have hts : xs.take (j + 1) = xs.take j ++ [xs[j]] := List.take_succ_eq_append_getElem hlt'
  generalize hx : xs[j] = x at *
  have hr0 := hr
  obtain rfl := int_cell hr
  refine CW.skip ?_
  refine PW.code ?_
  refine CW.seq ?_
  refine CW.block ?_
  refine CW.region ?_
  repeat (first|refine Ja ?_|refine Jb ?_|refine Jc ?_|refine Jd ?_|refine Je ?_|refine Jf ?_|refine Jg ?_|refine Jh ?_|refine Ji ?_|refine Jj ?_|refine Jk ?_|refine Jl ?_|refine Jm ?_|refine Jn ?_|refine Jo ?_|refine Jp ?_|refine Jq ?_|refine Jr ?_|refine Js ?_|refine Jt ?_|refine Ju ?_|refine Jv ?_|refine Jw ?_|refine Jx ?_|refine Jy ?_|refine Jz ?_|refine JA ?_|refine JB ?_|refine JC ?_|refine JD ?_|refine JE ?_|refine JF ?_|refine JG ?_|refine JH ?_|refine JI ?_|refine JJ ?_|refine JK ?_|refine JL ?_|refine JM ?_|refine CW.skip (PW.code ?_)|refine RW.nil (PW.code ?_))
  refine RW.indexAddrE hA rfl rfl (by omega) hlt rfl ?_
  refine RW.load_ro rfl hle (hm 0 _ rfl) rfl rfl ?_
  refine RW.add_ (ownDHP kI [.int .i64 x] x) (fun w hw => own_of_flat rfl hr0) ?_
  refine RW.buildSlice (e := 52) (c := [.int .i64 x]) rfl (fun w => by kernel_rfl) rfl fun b16 _ => ?_
  refine RW.append [_, _] (e := 52) (sz := 1) (news := [[.int .i64 x]]) (zc := [.int .i64 0]) rfl rfl rfl rfl rfl (by simp) (by simp [Value.oneCell']) (fun w hw hn => ?_) ?_ ?_ rfl fun v' => ?_
  · exact ⟨b16, 0, rfl, CellsAt.of_blk (St.blk (pre := []) hw)⟩
  · rw [hel]; omega
  · rw [hel]; unfold maxN; omega
  refine RW.take [2, 3, 1] ?_
  refine RW.sep [ownHP 52 1 v' (es ++ [[.int .i64 x]]), elemsHP none kI (es ++ [[.int .i64 x]]) (xs.take j ++ [x])] (fun w A h => ?_) ?_
  · exact Sep.cons_perm (r := [elemsHP none kI es (xs.take j), ownDHP kI [.int .i64 x] x]) (fun A h => elems_append h) h
  rw [← hts]
  repeat (first|refine Ja ?_|refine Jb ?_|refine Jc ?_|refine Jd ?_|refine Je ?_|refine Jf ?_|refine Jg ?_|refine Jh ?_|refine Ji ?_|refine Jj ?_|refine Jk ?_|refine Jl ?_|refine Jm ?_|refine Jn ?_|refine Jo ?_|refine Jp ?_|refine Jq ?_|refine Jr ?_|refine Js ?_|refine Jt ?_|refine Ju ?_|refine Jv ?_|refine Jw ?_|refine Jx ?_|refine Jy ?_|refine Jz ?_|refine JA ?_|refine JB ?_|refine JC ?_|refine JD ?_|refine JE ?_|refine JF ?_|refine JG ?_|refine JH ?_|refine JI ?_|refine JJ ?_|refine JK ?_|refine JL ?_|refine JM ?_|refine CW.skip (PW.code ?_)|refine RW.nil (PW.code ?_))
  refine CW.region ?_
  repeat (first|refine Ja ?_|refine Jb ?_|refine Jc ?_|refine Jd ?_|refine Je ?_|refine Jf ?_|refine Jg ?_|refine Jh ?_|refine Ji ?_|refine Jj ?_|refine Jk ?_|refine Jl ?_|refine Jm ?_|refine Jn ?_|refine Jo ?_|refine Jp ?_|refine Jq ?_|refine Jr ?_|refine Js ?_|refine Jt ?_|refine Ju ?_|refine Jv ?_|refine Jw ?_|refine Jx ?_|refine Jy ?_|refine Jz ?_|refine JA ?_|refine JB ?_|refine JC ?_|refine JD ?_|refine JE ?_|refine JF ?_|refine JG ?_|refine JH ?_|refine JI ?_|refine JJ ?_|refine JK ?_|refine JL ?_|refine JM ?_|refine CW.skip (PW.code ?_)|refine RW.nil (PW.code ?_))
  refine RW.add rfl rfl (w64 (by omega) (by omega)) rfl ?_
  repeat (first|refine Ja ?_|refine Jb ?_|refine Jc ?_|refine Jd ?_|refine Je ?_|refine Jf ?_|refine Jg ?_|refine Jh ?_|refine Ji ?_|refine Jj ?_|refine Jk ?_|refine Jl ?_|refine Jm ?_|refine Jn ?_|refine Jo ?_|refine Jp ?_|refine Jq ?_|refine Jr ?_|refine Js ?_|refine Jt ?_|refine Ju ?_|refine Jv ?_|refine Jw ?_|refine Jx ?_|refine Jy ?_|refine Jz ?_|refine JA ?_|refine JB ?_|refine JC ?_|refine JD ?_|refine JE ?_|refine JF ?_|refine JG ?_|refine JH ?_|refine JI ?_|refine JJ ?_|refine JK ?_|refine JL ?_|refine JM ?_|refine CW.skip (PW.code ?_)|refine RW.nil (PW.code ?_))
  refine RW.nil ?_
  exact PW.again ⟨(j + 1, v', es ++ [[.int .i64 x]]), hlt', by rw [List.length_append, hel]; rfl⟩ ⟨rfl, rfl, rfl, trivial⟩ (fun h => h) (by show xs.length - (j + 1) < xs.length - j; omega)
set_option maxHeartbeats 4000000 in
theorem copyMembers_ret {A : Option Addr} {c : Nat} {xs : List kMember.V} {w : World} (h : Rd (.sl 32 kMember) (mem w (fun b => ¬ No b)) [.slice A xs.length c] xs) : RetC Try.prog 90 [.slice A xs.length c] w No (fun v : Value => v) (fun v => [ownDHP (.sl 32 kMember) [v] xs]) := by
  have hsm := sl_small h
  have hsm2 := hsm
  unfold reach at hsm
  have hle : Mem.le (mem w (fun b => ¬ No b)) (mem w (fun b => ¬ No b)) := Mem.le_refl _
  refine Calls.enter Try.func90 rfl _ rfl rfl (S := No) (H := []) trivial ?_
  refine CW.add_ (elemsHP none kMember [] []) (fun w _ => elems_nil) ?_
  refine CW.add_ (ownHP 38 2 (.slice none 0 0) []) (fun w _ => .inl ⟨rfl, rfl⟩) ?_
  repeat (first|refine Ja ?_|refine Jb ?_|refine Jc ?_|refine Jd ?_|refine Je ?_|refine Jf ?_|refine Jg ?_|refine Jh ?_|refine Ji ?_|refine Jj ?_|refine Jk ?_|refine Jl ?_|refine Jm ?_|refine Jn ?_|refine Jo ?_|refine Jp ?_|refine Jq ?_|refine Jr ?_|refine Js ?_|refine Jt ?_|refine Ju ?_|refine Jv ?_|refine Jw ?_|refine Jx ?_|refine Jy ?_|refine Jz ?_|refine JA ?_|refine JB ?_|refine JC ?_|refine JD ?_|refine JE ?_|refine JF ?_|refine JG ?_|refine JH ?_|refine JI ?_|refine JJ ?_|refine JK ?_|refine JL ?_|refine JM ?_|refine CW.skip (PW.code ?_)|refine RW.nil (PW.code ?_))
  refine CW.seq ?_
  repeat (first|refine Ja ?_|refine Jb ?_|refine Jc ?_|refine Jd ?_|refine Je ?_|refine Jf ?_|refine Jg ?_|refine Jh ?_|refine Ji ?_|refine Jj ?_|refine Jk ?_|refine Jl ?_|refine Jm ?_|refine Jn ?_|refine Jo ?_|refine Jp ?_|refine Jq ?_|refine Jr ?_|refine Js ?_|refine Jt ?_|refine Ju ?_|refine Jv ?_|refine Jw ?_|refine Jx ?_|refine Jy ?_|refine Jz ?_|refine JA ?_|refine JB ?_|refine JC ?_|refine JD ?_|refine JE ?_|refine JF ?_|refine JG ?_|refine JH ?_|refine JI ?_|refine JJ ?_|refine JK ?_|refine JL ?_|refine JM ?_|refine CW.skip (PW.code ?_)|refine RW.nil (PW.code ?_))
  refine CW.block ?_
  refine CW.loop (ι := { q : Nat × Value × List (List Value) // q.1 ≤ xs.length ∧ q.2.2.length = q.1 }) (fun q => [(0, .slice A xs.length c), (3, q.1.2.1), (4, .int .i64 q.1.1)]) (fun q => [ownHP 38 2 q.1.2.1 q.1.2.2, elemsHP none kMember q.1.2.2 (xs.take q.1.1)]) (fun q => xs.length - q.1.1) ⟨(0, .slice none 0 0, []), Nat.zero_le _, rfl⟩ ⟨rfl, rfl, rfl, trivial⟩ (fun h => h) ?_
  intro ⟨⟨j, v, es⟩, hj, hel⟩
  dsimp only at hj hel ⊢
  refine CW.seq ?_
  repeat (first|refine Ja ?_|refine Jb ?_|refine Jc ?_|refine Jd ?_|refine Je ?_|refine Jf ?_|refine Jg ?_|refine Jh ?_|refine Ji ?_|refine Jj ?_|refine Jk ?_|refine Jl ?_|refine Jm ?_|refine Jn ?_|refine Jo ?_|refine Jp ?_|refine Jq ?_|refine Jr ?_|refine Js ?_|refine Jt ?_|refine Ju ?_|refine Jv ?_|refine Jw ?_|refine Jx ?_|refine Jy ?_|refine Jz ?_|refine JA ?_|refine JB ?_|refine JC ?_|refine JD ?_|refine JE ?_|refine JF ?_|refine JG ?_|refine JH ?_|refine JI ?_|refine JJ ?_|refine JK ?_|refine JL ?_|refine JM ?_|refine CW.skip (PW.code ?_)|refine RW.nil (PW.code ?_))
  refine CW.ite rfl (fun hlt => ?_) (fun hge => ?_)
  rotate_left
  · have hge' : xs.length ≤ j := by simpa using hge
    rw [List.take_of_length_le hge']
    refine CW.exit rfl ?_
    refine PW.code ?_
    repeat (first|refine Ja ?_|refine Jb ?_|refine Jc ?_|refine Jd ?_|refine Je ?_|refine Jf ?_|refine Jg ?_|refine Jh ?_|refine Ji ?_|refine Jj ?_|refine Jk ?_|refine Jl ?_|refine Jm ?_|refine Jn ?_|refine Jo ?_|refine Jp ?_|refine Jq ?_|refine Jr ?_|refine Js ?_|refine Jt ?_|refine Ju ?_|refine Jv ?_|refine Jw ?_|refine Jx ?_|refine Jy ?_|refine Jz ?_|refine JA ?_|refine JB ?_|refine JC ?_|refine JD ?_|refine JE ?_|refine JF ?_|refine JG ?_|refine JH ?_|refine JI ?_|refine JJ ?_|refine JK ?_|refine JL ?_|refine JM ?_|refine CW.skip (PW.code ?_)|refine RW.nil (PW.code ?_))
    exact CW.ret1 rfl Try.results90 rfl rfl fun w hw => ⟨v, rfl, St.sep_map hw (fun w A h => slice_close rfl hsm2 h)⟩
  have hlt' : j < xs.length := by simpa using hlt
  obtain ⟨B1, O1, cs, hA, hl1, hr, hm⟩ := sl_get h (List.getElem?_eq_getElem hlt')
  have hts : xs.take (j + 1) = xs.take j ++ [xs[j]] := List.take_succ_eq_append_getElem hlt'
  generalize hx : xs[j] = x at *
  have hr0 := hr
  obtain ⟨_, _, rfl, r1, r2⟩ := hr
  obtain rfl := str_cell r1
  obtain rfl := str_cell r2
  refine CW.skip ?_
  refine PW.code ?_
  refine CW.seq ?_
  refine CW.block ?_
  refine CW.region ?_
  repeat (first|refine Ja ?_|refine Jb ?_|refine Jc ?_|refine Jd ?_|refine Je ?_|refine Jf ?_|refine Jg ?_|refine Jh ?_|refine Ji ?_|refine Jj ?_|refine Jk ?_|refine Jl ?_|refine Jm ?_|refine Jn ?_|refine Jo ?_|refine Jp ?_|refine Jq ?_|refine Jr ?_|refine Js ?_|refine Jt ?_|refine Ju ?_|refine Jv ?_|refine Jw ?_|refine Jx ?_|refine Jy ?_|refine Jz ?_|refine JA ?_|refine JB ?_|refine JC ?_|refine JD ?_|refine JE ?_|refine JF ?_|refine JG ?_|refine JH ?_|refine JI ?_|refine JJ ?_|refine JK ?_|refine JL ?_|refine JM ?_|refine CW.skip (PW.code ?_)|refine RW.nil (PW.code ?_))
  refine RW.indexAddrE hA rfl rfl (by omega) hlt rfl ?_
  refine RW.load_ros rfl hle hm rfl hl1 (by rw [hl1]; decide) rfl ?_
  refine RW.add_ (ownDHP kMember [.string x.1, .string x.2] x) (fun w hw => own_of_flat rfl hr0) ?_
  refine RW.buildSlice (e := 38) (c := [.string x.1, .string x.2]) rfl (fun w => by kernel_rfl) rfl fun b16 _ => ?_
  refine RW.append [_, _] (e := 38) (sz := 2) (news := [[.string x.1, .string x.2]]) (zc := [.string ByteArray.empty, .string ByteArray.empty]) rfl rfl rfl rfl rfl (by simp) (by simp [Value.oneCell']) (fun w hw hn => ?_) ?_ ?_ rfl fun v' => ?_
  · exact ⟨b16, 0, rfl, CellsAt.of_blk (St.blk (pre := []) hw)⟩
  · rw [hel]; omega
  · rw [hel]; unfold maxN; omega
  refine RW.take [2, 3, 1] ?_
  refine RW.sep [ownHP 38 2 v' (es ++ [[.string x.1, .string x.2]]), elemsHP none kMember (es ++ [[.string x.1, .string x.2]]) (xs.take j ++ [x])] (fun w A h => ?_) ?_
  · exact Sep.cons_perm (r := [elemsHP none kMember es (xs.take j), ownDHP kMember [.string x.1, .string x.2] x]) (fun A h => elems_append h) h
  rw [← hts]
  repeat (first|refine Ja ?_|refine Jb ?_|refine Jc ?_|refine Jd ?_|refine Je ?_|refine Jf ?_|refine Jg ?_|refine Jh ?_|refine Ji ?_|refine Jj ?_|refine Jk ?_|refine Jl ?_|refine Jm ?_|refine Jn ?_|refine Jo ?_|refine Jp ?_|refine Jq ?_|refine Jr ?_|refine Js ?_|refine Jt ?_|refine Ju ?_|refine Jv ?_|refine Jw ?_|refine Jx ?_|refine Jy ?_|refine Jz ?_|refine JA ?_|refine JB ?_|refine JC ?_|refine JD ?_|refine JE ?_|refine JF ?_|refine JG ?_|refine JH ?_|refine JI ?_|refine JJ ?_|refine JK ?_|refine JL ?_|refine JM ?_|refine CW.skip (PW.code ?_)|refine RW.nil (PW.code ?_))
  refine CW.region ?_
  repeat (first|refine Ja ?_|refine Jb ?_|refine Jc ?_|refine Jd ?_|refine Je ?_|refine Jf ?_|refine Jg ?_|refine Jh ?_|refine Ji ?_|refine Jj ?_|refine Jk ?_|refine Jl ?_|refine Jm ?_|refine Jn ?_|refine Jo ?_|refine Jp ?_|refine Jq ?_|refine Jr ?_|refine Js ?_|refine Jt ?_|refine Ju ?_|refine Jv ?_|refine Jw ?_|refine Jx ?_|refine Jy ?_|refine Jz ?_|refine JA ?_|refine JB ?_|refine JC ?_|refine JD ?_|refine JE ?_|refine JF ?_|refine JG ?_|refine JH ?_|refine JI ?_|refine JJ ?_|refine JK ?_|refine JL ?_|refine JM ?_|refine CW.skip (PW.code ?_)|refine RW.nil (PW.code ?_))
  refine RW.add rfl rfl (w64 (by omega) (by omega)) rfl ?_
  repeat (first|refine Ja ?_|refine Jb ?_|refine Jc ?_|refine Jd ?_|refine Je ?_|refine Jf ?_|refine Jg ?_|refine Jh ?_|refine Ji ?_|refine Jj ?_|refine Jk ?_|refine Jl ?_|refine Jm ?_|refine Jn ?_|refine Jo ?_|refine Jp ?_|refine Jq ?_|refine Jr ?_|refine Js ?_|refine Jt ?_|refine Ju ?_|refine Jv ?_|refine Jw ?_|refine Jx ?_|refine Jy ?_|refine Jz ?_|refine JA ?_|refine JB ?_|refine JC ?_|refine JD ?_|refine JE ?_|refine JF ?_|refine JG ?_|refine JH ?_|refine JI ?_|refine JJ ?_|refine JK ?_|refine JL ?_|refine JM ?_|refine CW.skip (PW.code ?_)|refine RW.nil (PW.code ?_))
  refine RW.nil ?_
  exact PW.again ⟨(j + 1, v', es ++ [[.string x.1, .string x.2]]), hlt', by rw [List.length_append, hel]; rfl⟩ ⟨rfl, rfl, rfl, trivial⟩ (fun h => h) (by show xs.length - (j + 1) < xs.length - j; omega)
set_option maxHeartbeats 4000000 in
theorem copySources_ret {A : Option Addr} {c : Nat} {xs : List kSource.V} {w : World} (h : Rd (.sl 24 kSource) (mem w (fun b => ¬ No b)) [.slice A xs.length c] xs) : RetC Try.prog 93 [.slice A xs.length c] w No (fun v : Value => v) (fun v => [ownDHP (.sl 24 kSource) [v] xs]) := by
  have hsm := sl_small h
  have hsm2 := hsm
  unfold reach at hsm
  have hle : Mem.le (mem w (fun b => ¬ No b)) (mem w (fun b => ¬ No b)) := Mem.le_refl _
  refine Calls.enter Try.func93 rfl _ rfl rfl (S := No) (H := []) trivial ?_
  refine CW.add_ (elemsHP none kSource [] []) (fun w _ => elems_nil) ?_
  refine CW.add_ (ownHP 103 2 (.slice none 0 0) []) (fun w _ => .inl ⟨rfl, rfl⟩) ?_
  repeat (first|refine Ja ?_|refine Jb ?_|refine Jc ?_|refine Jd ?_|refine Je ?_|refine Jf ?_|refine Jg ?_|refine Jh ?_|refine Ji ?_|refine Jj ?_|refine Jk ?_|refine Jl ?_|refine Jm ?_|refine Jn ?_|refine Jo ?_|refine Jp ?_|refine Jq ?_|refine Jr ?_|refine Js ?_|refine Jt ?_|refine Ju ?_|refine Jv ?_|refine Jw ?_|refine Jx ?_|refine Jy ?_|refine Jz ?_|refine JA ?_|refine JB ?_|refine JC ?_|refine JD ?_|refine JE ?_|refine JF ?_|refine JG ?_|refine JH ?_|refine JI ?_|refine JJ ?_|refine JK ?_|refine JL ?_|refine JM ?_|refine CW.skip (PW.code ?_)|refine RW.nil (PW.code ?_))
  refine CW.seq ?_
  repeat (first|refine Ja ?_|refine Jb ?_|refine Jc ?_|refine Jd ?_|refine Je ?_|refine Jf ?_|refine Jg ?_|refine Jh ?_|refine Ji ?_|refine Jj ?_|refine Jk ?_|refine Jl ?_|refine Jm ?_|refine Jn ?_|refine Jo ?_|refine Jp ?_|refine Jq ?_|refine Jr ?_|refine Js ?_|refine Jt ?_|refine Ju ?_|refine Jv ?_|refine Jw ?_|refine Jx ?_|refine Jy ?_|refine Jz ?_|refine JA ?_|refine JB ?_|refine JC ?_|refine JD ?_|refine JE ?_|refine JF ?_|refine JG ?_|refine JH ?_|refine JI ?_|refine JJ ?_|refine JK ?_|refine JL ?_|refine JM ?_|refine CW.skip (PW.code ?_)|refine RW.nil (PW.code ?_))
  refine CW.block ?_
  refine CW.loop (ι := { q : Nat × Value × List (List Value) // q.1 ≤ xs.length ∧ q.2.2.length = q.1 }) (fun q => [(0, .slice A xs.length c), (3, q.1.2.1), (4, .int .i64 q.1.1)]) (fun q => [ownHP 103 2 q.1.2.1 q.1.2.2, elemsHP none kSource q.1.2.2 (xs.take q.1.1)]) (fun q => xs.length - q.1.1) ⟨(0, .slice none 0 0, []), Nat.zero_le _, rfl⟩ ⟨rfl, rfl, rfl, trivial⟩ (fun h => h) ?_
  intro ⟨⟨j, v, es⟩, hj, hel⟩
  dsimp only at hj hel ⊢
  refine CW.seq ?_
  repeat (first|refine Ja ?_|refine Jb ?_|refine Jc ?_|refine Jd ?_|refine Je ?_|refine Jf ?_|refine Jg ?_|refine Jh ?_|refine Ji ?_|refine Jj ?_|refine Jk ?_|refine Jl ?_|refine Jm ?_|refine Jn ?_|refine Jo ?_|refine Jp ?_|refine Jq ?_|refine Jr ?_|refine Js ?_|refine Jt ?_|refine Ju ?_|refine Jv ?_|refine Jw ?_|refine Jx ?_|refine Jy ?_|refine Jz ?_|refine JA ?_|refine JB ?_|refine JC ?_|refine JD ?_|refine JE ?_|refine JF ?_|refine JG ?_|refine JH ?_|refine JI ?_|refine JJ ?_|refine JK ?_|refine JL ?_|refine JM ?_|refine CW.skip (PW.code ?_)|refine RW.nil (PW.code ?_))
  refine CW.ite rfl (fun hlt => ?_) (fun hge => ?_)
  rotate_left
  · have hge' : xs.length ≤ j := by simpa using hge
    rw [List.take_of_length_le hge']
    refine CW.exit rfl ?_
    refine PW.code ?_
    repeat (first|refine Ja ?_|refine Jb ?_|refine Jc ?_|refine Jd ?_|refine Je ?_|refine Jf ?_|refine Jg ?_|refine Jh ?_|refine Ji ?_|refine Jj ?_|refine Jk ?_|refine Jl ?_|refine Jm ?_|refine Jn ?_|refine Jo ?_|refine Jp ?_|refine Jq ?_|refine Jr ?_|refine Js ?_|refine Jt ?_|refine Ju ?_|refine Jv ?_|refine Jw ?_|refine Jx ?_|refine Jy ?_|refine Jz ?_|refine JA ?_|refine JB ?_|refine JC ?_|refine JD ?_|refine JE ?_|refine JF ?_|refine JG ?_|refine JH ?_|refine JI ?_|refine JJ ?_|refine JK ?_|refine JL ?_|refine JM ?_|refine CW.skip (PW.code ?_)|refine RW.nil (PW.code ?_))
    exact CW.ret1 rfl Try.results93 rfl rfl fun w hw => ⟨v, rfl, St.sep_map hw (fun w A h => slice_close rfl hsm2 h)⟩
  have hlt' : j < xs.length := by simpa using hlt
  obtain ⟨B1, O1, cs, hA, hl1, hr, hm⟩ := sl_get h (List.getElem?_eq_getElem hlt')
  have hts : xs.take (j + 1) = xs.take j ++ [xs[j]] := List.take_succ_eq_append_getElem hlt'
  generalize hx : xs[j] = x at *
  have hr0 := hr
  obtain ⟨_, _, rfl, r1, r2⟩ := hr
  obtain rfl := str_cell r1
  obtain rfl := int_cell r2
  refine CW.skip ?_
  refine PW.code ?_
  refine CW.seq ?_
  refine CW.block ?_
  refine CW.region ?_
  repeat (first|refine Ja ?_|refine Jb ?_|refine Jc ?_|refine Jd ?_|refine Je ?_|refine Jf ?_|refine Jg ?_|refine Jh ?_|refine Ji ?_|refine Jj ?_|refine Jk ?_|refine Jl ?_|refine Jm ?_|refine Jn ?_|refine Jo ?_|refine Jp ?_|refine Jq ?_|refine Jr ?_|refine Js ?_|refine Jt ?_|refine Ju ?_|refine Jv ?_|refine Jw ?_|refine Jx ?_|refine Jy ?_|refine Jz ?_|refine JA ?_|refine JB ?_|refine JC ?_|refine JD ?_|refine JE ?_|refine JF ?_|refine JG ?_|refine JH ?_|refine JI ?_|refine JJ ?_|refine JK ?_|refine JL ?_|refine JM ?_|refine CW.skip (PW.code ?_)|refine RW.nil (PW.code ?_))
  refine RW.indexAddrE hA rfl rfl (by omega) hlt rfl ?_
  refine RW.load_ros rfl hle hm rfl hl1 (by rw [hl1]; decide) rfl ?_
  refine RW.add_ (ownDHP kSource [.string x.1, .int .i64 x.2] x) (fun w hw => own_of_flat rfl hr0) ?_
  refine RW.buildSlice (e := 103) (c := [.string x.1, .int .i64 x.2]) rfl (fun w => by kernel_rfl) rfl fun b16 _ => ?_
  refine RW.append [_, _] (e := 103) (sz := 2) (news := [[.string x.1, .int .i64 x.2]]) (zc := [.string ByteArray.empty, .int .i64 0]) rfl rfl rfl rfl rfl (by simp) (by simp [Value.oneCell']) (fun w hw hn => ?_) ?_ ?_ rfl fun v' => ?_
  · exact ⟨b16, 0, rfl, CellsAt.of_blk (St.blk (pre := []) hw)⟩
  · rw [hel]; omega
  · rw [hel]; unfold maxN; omega
  refine RW.take [2, 3, 1] ?_
  refine RW.sep [ownHP 103 2 v' (es ++ [[.string x.1, .int .i64 x.2]]), elemsHP none kSource (es ++ [[.string x.1, .int .i64 x.2]]) (xs.take j ++ [x])] (fun w A h => ?_) ?_
  · exact Sep.cons_perm (r := [elemsHP none kSource es (xs.take j), ownDHP kSource [.string x.1, .int .i64 x.2] x]) (fun A h => elems_append h) h
  rw [← hts]
  repeat (first|refine Ja ?_|refine Jb ?_|refine Jc ?_|refine Jd ?_|refine Je ?_|refine Jf ?_|refine Jg ?_|refine Jh ?_|refine Ji ?_|refine Jj ?_|refine Jk ?_|refine Jl ?_|refine Jm ?_|refine Jn ?_|refine Jo ?_|refine Jp ?_|refine Jq ?_|refine Jr ?_|refine Js ?_|refine Jt ?_|refine Ju ?_|refine Jv ?_|refine Jw ?_|refine Jx ?_|refine Jy ?_|refine Jz ?_|refine JA ?_|refine JB ?_|refine JC ?_|refine JD ?_|refine JE ?_|refine JF ?_|refine JG ?_|refine JH ?_|refine JI ?_|refine JJ ?_|refine JK ?_|refine JL ?_|refine JM ?_|refine CW.skip (PW.code ?_)|refine RW.nil (PW.code ?_))
  refine CW.region ?_
  repeat (first|refine Ja ?_|refine Jb ?_|refine Jc ?_|refine Jd ?_|refine Je ?_|refine Jf ?_|refine Jg ?_|refine Jh ?_|refine Ji ?_|refine Jj ?_|refine Jk ?_|refine Jl ?_|refine Jm ?_|refine Jn ?_|refine Jo ?_|refine Jp ?_|refine Jq ?_|refine Jr ?_|refine Js ?_|refine Jt ?_|refine Ju ?_|refine Jv ?_|refine Jw ?_|refine Jx ?_|refine Jy ?_|refine Jz ?_|refine JA ?_|refine JB ?_|refine JC ?_|refine JD ?_|refine JE ?_|refine JF ?_|refine JG ?_|refine JH ?_|refine JI ?_|refine JJ ?_|refine JK ?_|refine JL ?_|refine JM ?_|refine CW.skip (PW.code ?_)|refine RW.nil (PW.code ?_))
  refine RW.add rfl rfl (w64 (by omega) (by omega)) rfl ?_
  repeat (first|refine Ja ?_|refine Jb ?_|refine Jc ?_|refine Jd ?_|refine Je ?_|refine Jf ?_|refine Jg ?_|refine Jh ?_|refine Ji ?_|refine Jj ?_|refine Jk ?_|refine Jl ?_|refine Jm ?_|refine Jn ?_|refine Jo ?_|refine Jp ?_|refine Jq ?_|refine Jr ?_|refine Js ?_|refine Jt ?_|refine Ju ?_|refine Jv ?_|refine Jw ?_|refine Jx ?_|refine Jy ?_|refine Jz ?_|refine JA ?_|refine JB ?_|refine JC ?_|refine JD ?_|refine JE ?_|refine JF ?_|refine JG ?_|refine JH ?_|refine JI ?_|refine JJ ?_|refine JK ?_|refine JL ?_|refine JM ?_|refine CW.skip (PW.code ?_)|refine RW.nil (PW.code ?_))
  refine RW.nil ?_
  exact PW.again ⟨(j + 1, v', es ++ [[.string x.1, .int .i64 x.2]]), hlt', by rw [List.length_append, hel]; rfl⟩ ⟨rfl, rfl, rfl, trivial⟩ (fun h => h) (by show xs.length - (j + 1) < xs.length - j; omega)
set_option maxHeartbeats 4000000 in
theorem copyExcepts_ret {A : Option Addr} {c : Nat} {xs : List kExc.V} {w : World} (h : Rd (.sl 32 kExc) (mem w (fun b => ¬ No b)) [.slice A xs.length c] xs) : RetC Try.prog 95 [.slice A xs.length c] w No (fun v : Value => v) (fun v => [ownDHP (.sl 32 kExc) [v] xs]) := by
  have hsm := sl_small h
  have hsm2 := hsm
  unfold reach at hsm
  have hle : Mem.le (mem w (fun b => ¬ No b)) (mem w (fun b => ¬ No b)) := Mem.le_refl _
  refine Calls.enter Try.func95 rfl _ rfl rfl (S := No) (H := []) trivial ?_
  refine CW.add_ (elemsHP none kExc [] []) (fun w _ => elems_nil) ?_
  refine CW.add_ (ownHP 138 2 (.slice none 0 0) []) (fun w _ => .inl ⟨rfl, rfl⟩) ?_
  repeat (first|refine Ja ?_|refine Jb ?_|refine Jc ?_|refine Jd ?_|refine Je ?_|refine Jf ?_|refine Jg ?_|refine Jh ?_|refine Ji ?_|refine Jj ?_|refine Jk ?_|refine Jl ?_|refine Jm ?_|refine Jn ?_|refine Jo ?_|refine Jp ?_|refine Jq ?_|refine Jr ?_|refine Js ?_|refine Jt ?_|refine Ju ?_|refine Jv ?_|refine Jw ?_|refine Jx ?_|refine Jy ?_|refine Jz ?_|refine JA ?_|refine JB ?_|refine JC ?_|refine JD ?_|refine JE ?_|refine JF ?_|refine JG ?_|refine JH ?_|refine JI ?_|refine JJ ?_|refine JK ?_|refine JL ?_|refine JM ?_|refine CW.skip (PW.code ?_)|refine RW.nil (PW.code ?_))
  refine CW.seq ?_
  repeat (first|refine Ja ?_|refine Jb ?_|refine Jc ?_|refine Jd ?_|refine Je ?_|refine Jf ?_|refine Jg ?_|refine Jh ?_|refine Ji ?_|refine Jj ?_|refine Jk ?_|refine Jl ?_|refine Jm ?_|refine Jn ?_|refine Jo ?_|refine Jp ?_|refine Jq ?_|refine Jr ?_|refine Js ?_|refine Jt ?_|refine Ju ?_|refine Jv ?_|refine Jw ?_|refine Jx ?_|refine Jy ?_|refine Jz ?_|refine JA ?_|refine JB ?_|refine JC ?_|refine JD ?_|refine JE ?_|refine JF ?_|refine JG ?_|refine JH ?_|refine JI ?_|refine JJ ?_|refine JK ?_|refine JL ?_|refine JM ?_|refine CW.skip (PW.code ?_)|refine RW.nil (PW.code ?_))
  refine CW.block ?_
  refine CW.loop (ι := { q : Nat × Value × List (List Value) // q.1 ≤ xs.length ∧ q.2.2.length = q.1 }) (fun q => [(0, .slice A xs.length c), (3, q.1.2.1), (4, .int .i64 q.1.1)]) (fun q => [ownHP 138 2 q.1.2.1 q.1.2.2, elemsHP none kExc q.1.2.2 (xs.take q.1.1)]) (fun q => xs.length - q.1.1) ⟨(0, .slice none 0 0, []), Nat.zero_le _, rfl⟩ ⟨rfl, rfl, rfl, trivial⟩ (fun h => h) ?_
  intro ⟨⟨j, v, es⟩, hj, hel⟩
  dsimp only at hj hel ⊢
  refine CW.seq ?_
  repeat (first|refine Ja ?_|refine Jb ?_|refine Jc ?_|refine Jd ?_|refine Je ?_|refine Jf ?_|refine Jg ?_|refine Jh ?_|refine Ji ?_|refine Jj ?_|refine Jk ?_|refine Jl ?_|refine Jm ?_|refine Jn ?_|refine Jo ?_|refine Jp ?_|refine Jq ?_|refine Jr ?_|refine Js ?_|refine Jt ?_|refine Ju ?_|refine Jv ?_|refine Jw ?_|refine Jx ?_|refine Jy ?_|refine Jz ?_|refine JA ?_|refine JB ?_|refine JC ?_|refine JD ?_|refine JE ?_|refine JF ?_|refine JG ?_|refine JH ?_|refine JI ?_|refine JJ ?_|refine JK ?_|refine JL ?_|refine JM ?_|refine CW.skip (PW.code ?_)|refine RW.nil (PW.code ?_))
  refine CW.ite rfl (fun hlt => ?_) (fun hge => ?_)
  rotate_left
  · have hge' : xs.length ≤ j := by simpa using hge
    rw [List.take_of_length_le hge']
    refine CW.exit rfl ?_
    refine PW.code ?_
    repeat (first|refine Ja ?_|refine Jb ?_|refine Jc ?_|refine Jd ?_|refine Je ?_|refine Jf ?_|refine Jg ?_|refine Jh ?_|refine Ji ?_|refine Jj ?_|refine Jk ?_|refine Jl ?_|refine Jm ?_|refine Jn ?_|refine Jo ?_|refine Jp ?_|refine Jq ?_|refine Jr ?_|refine Js ?_|refine Jt ?_|refine Ju ?_|refine Jv ?_|refine Jw ?_|refine Jx ?_|refine Jy ?_|refine Jz ?_|refine JA ?_|refine JB ?_|refine JC ?_|refine JD ?_|refine JE ?_|refine JF ?_|refine JG ?_|refine JH ?_|refine JI ?_|refine JJ ?_|refine JK ?_|refine JL ?_|refine JM ?_|refine CW.skip (PW.code ?_)|refine RW.nil (PW.code ?_))
    exact CW.ret1 rfl Try.results95 rfl rfl fun w hw => ⟨v, rfl, St.sep_map hw (fun w A h => slice_close rfl hsm2 h)⟩
  have hlt' : j < xs.length := by simpa using hlt
  obtain ⟨B1, O1, cs, hA, hl1, hr, hm⟩ := sl_get h (List.getElem?_eq_getElem hlt')
  have hts : xs.take (j + 1) = xs.take j ++ [xs[j]] := List.take_succ_eq_append_getElem hlt'
  generalize hx : xs[j] = x at *
  have hr0 := hr
  obtain ⟨_, _, rfl, r1, r2⟩ := hr
  obtain rfl := str_cell r1
  obtain rfl := str_cell r2
  refine CW.skip ?_
  refine PW.code ?_
  refine CW.seq ?_
  refine CW.block ?_
  refine CW.region ?_
  repeat (first|refine Ja ?_|refine Jb ?_|refine Jc ?_|refine Jd ?_|refine Je ?_|refine Jf ?_|refine Jg ?_|refine Jh ?_|refine Ji ?_|refine Jj ?_|refine Jk ?_|refine Jl ?_|refine Jm ?_|refine Jn ?_|refine Jo ?_|refine Jp ?_|refine Jq ?_|refine Jr ?_|refine Js ?_|refine Jt ?_|refine Ju ?_|refine Jv ?_|refine Jw ?_|refine Jx ?_|refine Jy ?_|refine Jz ?_|refine JA ?_|refine JB ?_|refine JC ?_|refine JD ?_|refine JE ?_|refine JF ?_|refine JG ?_|refine JH ?_|refine JI ?_|refine JJ ?_|refine JK ?_|refine JL ?_|refine JM ?_|refine CW.skip (PW.code ?_)|refine RW.nil (PW.code ?_))
  refine RW.indexAddrE hA rfl rfl (by omega) hlt rfl ?_
  refine RW.load_ros rfl hle hm rfl hl1 (by rw [hl1]; decide) rfl ?_
  refine RW.add_ (ownDHP kExc [.string x.1, .string x.2] x) (fun w hw => own_of_flat rfl hr0) ?_
  refine RW.buildSlice (e := 138) (c := [.string x.1, .string x.2]) rfl (fun w => by kernel_rfl) rfl fun b16 _ => ?_
  refine RW.append [_, _] (e := 138) (sz := 2) (news := [[.string x.1, .string x.2]]) (zc := [.string ByteArray.empty, .string ByteArray.empty]) rfl rfl rfl rfl rfl (by simp) (by simp [Value.oneCell']) (fun w hw hn => ?_) ?_ ?_ rfl fun v' => ?_
  · exact ⟨b16, 0, rfl, CellsAt.of_blk (St.blk (pre := []) hw)⟩
  · rw [hel]; omega
  · rw [hel]; unfold maxN; omega
  refine RW.take [2, 3, 1] ?_
  refine RW.sep [ownHP 138 2 v' (es ++ [[.string x.1, .string x.2]]), elemsHP none kExc (es ++ [[.string x.1, .string x.2]]) (xs.take j ++ [x])] (fun w A h => ?_) ?_
  · exact Sep.cons_perm (r := [elemsHP none kExc es (xs.take j), ownDHP kExc [.string x.1, .string x.2] x]) (fun A h => elems_append h) h
  rw [← hts]
  repeat (first|refine Ja ?_|refine Jb ?_|refine Jc ?_|refine Jd ?_|refine Je ?_|refine Jf ?_|refine Jg ?_|refine Jh ?_|refine Ji ?_|refine Jj ?_|refine Jk ?_|refine Jl ?_|refine Jm ?_|refine Jn ?_|refine Jo ?_|refine Jp ?_|refine Jq ?_|refine Jr ?_|refine Js ?_|refine Jt ?_|refine Ju ?_|refine Jv ?_|refine Jw ?_|refine Jx ?_|refine Jy ?_|refine Jz ?_|refine JA ?_|refine JB ?_|refine JC ?_|refine JD ?_|refine JE ?_|refine JF ?_|refine JG ?_|refine JH ?_|refine JI ?_|refine JJ ?_|refine JK ?_|refine JL ?_|refine JM ?_|refine CW.skip (PW.code ?_)|refine RW.nil (PW.code ?_))
  refine CW.region ?_
  repeat (first|refine Ja ?_|refine Jb ?_|refine Jc ?_|refine Jd ?_|refine Je ?_|refine Jf ?_|refine Jg ?_|refine Jh ?_|refine Ji ?_|refine Jj ?_|refine Jk ?_|refine Jl ?_|refine Jm ?_|refine Jn ?_|refine Jo ?_|refine Jp ?_|refine Jq ?_|refine Jr ?_|refine Js ?_|refine Jt ?_|refine Ju ?_|refine Jv ?_|refine Jw ?_|refine Jx ?_|refine Jy ?_|refine Jz ?_|refine JA ?_|refine JB ?_|refine JC ?_|refine JD ?_|refine JE ?_|refine JF ?_|refine JG ?_|refine JH ?_|refine JI ?_|refine JJ ?_|refine JK ?_|refine JL ?_|refine JM ?_|refine CW.skip (PW.code ?_)|refine RW.nil (PW.code ?_))
  refine RW.add rfl rfl (w64 (by omega) (by omega)) rfl ?_
  repeat (first|refine Ja ?_|refine Jb ?_|refine Jc ?_|refine Jd ?_|refine Je ?_|refine Jf ?_|refine Jg ?_|refine Jh ?_|refine Ji ?_|refine Jj ?_|refine Jk ?_|refine Jl ?_|refine Jm ?_|refine Jn ?_|refine Jo ?_|refine Jp ?_|refine Jq ?_|refine Jr ?_|refine Js ?_|refine Jt ?_|refine Ju ?_|refine Jv ?_|refine Jw ?_|refine Jx ?_|refine Jy ?_|refine Jz ?_|refine JA ?_|refine JB ?_|refine JC ?_|refine JD ?_|refine JE ?_|refine JF ?_|refine JG ?_|refine JH ?_|refine JI ?_|refine JJ ?_|refine JK ?_|refine JL ?_|refine JM ?_|refine CW.skip (PW.code ?_)|refine RW.nil (PW.code ?_))
  refine RW.nil ?_
  exact PW.again ⟨(j + 1, v', es ++ [[.string x.1, .string x.2]]), hlt', by rw [List.length_append, hel]; rfl⟩ ⟨rfl, rfl, rfl, trivial⟩ (fun h => h) (by show xs.length - (j + 1) < xs.length - j; omega)
set_option maxHeartbeats 4000000 in
theorem copyTerm_ret {x : kTerm.V} {cs : List Value} {w : World} (h : Rd kTerm (mem w (fun b => ¬ No b)) cs x) : RetC Try.prog 125 [.agg cs.toArray] w No (fun cs' : List Value => .agg cs'.toArray) (fun cs' => [ownDHP kTerm cs' x]) := by
  obtain ⟨_, _, _, f0, _, _, _, f1, _, _, _, f2, f3⟩ := id h
  obtain ⟨A1, c1, rfl, h2⟩ := Rd.termT h
  have p0 := f0.2
  have p1 := f1.2
  have p3 := f3.2
  clear h
  refine Calls.enter Try.func125 rfl _ rfl rfl (S := No) (H := []) trivial ?_
  refine CW.seqR ?_
  refine RW.box_agg (l := [.int .i64 x.1, .string x.2.1, .slice A1 (x.2.2.1).length c1, .int .i64 x.2.2.2]) rfl rfl fun b1 _ => ?_
  refine RW.alloc (c := [.int .i64 0, .string ByteArray.empty, .slice none 0 0, .int .i64 0]) rfl rfl fun b2 _ => ?_
  refine RW.take [1, 0] ?_
  repeat (first|refine Ja ?_|refine Jb ?_|refine Jc ?_|refine Jd ?_|refine Je ?_|refine Jf ?_|refine Jg ?_|refine Jh ?_|refine Ji ?_|refine Jj ?_|refine Jk ?_|refine Jl ?_|refine Jm ?_|refine Jn ?_|refine Jo ?_|refine Jp ?_|refine Jq ?_|refine Jr ?_|refine Js ?_|refine Jt ?_|refine Ju ?_|refine Jv ?_|refine Jw ?_|refine Jx ?_|refine Jy ?_|refine Jz ?_|refine JA ?_|refine JB ?_|refine JC ?_|refine JD ?_|refine JE ?_|refine JF ?_|refine JG ?_|refine JH ?_|refine JI ?_|refine JJ ?_|refine JK ?_|refine JL ?_|refine JM ?_|refine CW.skip (PW.code ?_)|refine RW.nil (PW.code ?_))
  refine RW.callN Try.call89 rfl (fun w2 hw => copyStrs_ret (h2.mono (ro_call hw))) rfl fun v2 => ?_
  refine RW.have_ (φ := ∃ B d, v2 = .slice B (x.2.2.1).length d) (fun w hw => ?_) (fun ⟨D2, d2, e2⟩ => ?_)
  · obtain ⟨M, hM⟩ := own_kept (pre := []) hw
    obtain ⟨A, c, e⟩ := sl_cell hM
    exact ⟨A, c, (List.cons.inj e).1⟩
  subst e2
  refine RW.take [1, 2, 0] ?_
  repeat (first|refine Ja ?_|refine Jb ?_|refine Jc ?_|refine Jd ?_|refine Je ?_|refine Jf ?_|refine Jg ?_|refine Jh ?_|refine Ji ?_|refine Jj ?_|refine Jk ?_|refine Jl ?_|refine Jm ?_|refine Jn ?_|refine Jo ?_|refine Jp ?_|refine Jq ?_|refine Jr ?_|refine Js ?_|refine Jt ?_|refine Ju ?_|refine Jv ?_|refine Jw ?_|refine Jx ?_|refine Jy ?_|refine Jz ?_|refine JA ?_|refine JB ?_|refine JC ?_|refine JD ?_|refine JE ?_|refine JF ?_|refine JG ?_|refine JH ?_|refine JI ?_|refine JJ ?_|refine JK ?_|refine JL ?_|refine JM ?_|refine CW.skip (PW.code ?_)|refine RW.nil (PW.code ?_))
  refine RW.store_blk [] rfl rfl rfl rfl rfl (by show 2 < 4; omega) ?_
  refine RW.change [] (blk b1 [.int .i64 x.1, .string x.2.1, .slice D2 (x.2.2.1).length d2, .int .i64 x.2.2.2] 86) (fun w F hp => hp) ?_
  repeat (first|refine Ja ?_|refine Jb ?_|refine Jc ?_|refine Jd ?_|refine Je ?_|refine Jf ?_|refine Jg ?_|refine Jh ?_|refine Ji ?_|refine Jj ?_|refine Jk ?_|refine Jl ?_|refine Jm ?_|refine Jn ?_|refine Jo ?_|refine Jp ?_|refine Jq ?_|refine Jr ?_|refine Js ?_|refine Jt ?_|refine Ju ?_|refine Jv ?_|refine Jw ?_|refine Jx ?_|refine Jy ?_|refine Jz ?_|refine JA ?_|refine JB ?_|refine JC ?_|refine JD ?_|refine JE ?_|refine JF ?_|refine JG ?_|refine JH ?_|refine JI ?_|refine JJ ?_|refine JK ?_|refine JL ?_|refine JM ?_|refine CW.skip (PW.code ?_)|refine RW.nil (PW.code ?_))
  refine RW.store_whole [_] rfl rfl (vs := [.int .i64 x.1, .string x.2.1, .slice D2 (x.2.2.1).length d2, .int .i64 x.2.2.2]) rfl rfl rfl (by simp [Value.oneCell']) ?_
  repeat (first|refine Ja ?_|refine Jb ?_|refine Jc ?_|refine Jd ?_|refine Je ?_|refine Jf ?_|refine Jg ?_|refine Jh ?_|refine Ji ?_|refine Jj ?_|refine Jk ?_|refine Jl ?_|refine Jm ?_|refine Jn ?_|refine Jo ?_|refine Jp ?_|refine Jq ?_|refine Jr ?_|refine Js ?_|refine Jt ?_|refine Ju ?_|refine Jv ?_|refine Jw ?_|refine Jx ?_|refine Jy ?_|refine Jz ?_|refine JA ?_|refine JB ?_|refine JC ?_|refine JD ?_|refine JE ?_|refine JF ?_|refine JG ?_|refine JH ?_|refine JI ?_|refine JJ ?_|refine JK ?_|refine JL ?_|refine JM ?_|refine CW.skip (PW.code ?_)|refine RW.nil (PW.code ?_))
  refine CW.rets (rs := [.cell 2 86]) (vs := [_]) rfl Try.results125 rfl (ResOK.cell [_] rfl rfl rfl ResOK.nil) fun w hw => ⟨[.int .i64 x.1, .string x.2.1, .slice D2 (x.2.2.1).length d2, .int .i64 x.2.2.2], rfl, ?_⟩
  exact St.sep_map (hw.take [2]) (fun w A h => pr_close (Sep.addp (own_int_pure p0) (pr_close (Sep.addp (own_str_pure p1) (pr_close (Sep.cons_perm (fun A h => Sep.addp (own_int_pure p3) h) h))))))
set_option maxHeartbeats 4000000 in
theorem copyTerms_ret {A : Option Addr} {c : Nat} {xs : List kTerm.V} {w : World} (h : Rd (.sl 56 kTerm) (mem w (fun b => ¬ No b)) [.slice A xs.length c] xs) : RetC Try.prog 124 [.slice A xs.length c] w No (fun v : Value => v) (fun v => [ownDHP (.sl 56 kTerm) [v] xs]) := by
  have hsm := sl_small h
  have hsm2 := hsm
  unfold reach at hsm
  have hle : Mem.le (mem w (fun b => ¬ No b)) (mem w (fun b => ¬ No b)) := Mem.le_refl _
  refine Calls.enter Try.func124 rfl _ rfl rfl (S := No) (H := []) trivial ?_
  refine CW.add_ (elemsHP none kTerm [] []) (fun w _ => elems_nil) ?_
  refine CW.add_ (ownHP 86 4 (.slice none 0 0) []) (fun w _ => .inl ⟨rfl, rfl⟩) ?_
  repeat (first|refine Ja ?_|refine Jb ?_|refine Jc ?_|refine Jd ?_|refine Je ?_|refine Jf ?_|refine Jg ?_|refine Jh ?_|refine Ji ?_|refine Jj ?_|refine Jk ?_|refine Jl ?_|refine Jm ?_|refine Jn ?_|refine Jo ?_|refine Jp ?_|refine Jq ?_|refine Jr ?_|refine Js ?_|refine Jt ?_|refine Ju ?_|refine Jv ?_|refine Jw ?_|refine Jx ?_|refine Jy ?_|refine Jz ?_|refine JA ?_|refine JB ?_|refine JC ?_|refine JD ?_|refine JE ?_|refine JF ?_|refine JG ?_|refine JH ?_|refine JI ?_|refine JJ ?_|refine JK ?_|refine JL ?_|refine JM ?_|refine CW.skip (PW.code ?_)|refine RW.nil (PW.code ?_))
  refine CW.seq ?_
  repeat (first|refine Ja ?_|refine Jb ?_|refine Jc ?_|refine Jd ?_|refine Je ?_|refine Jf ?_|refine Jg ?_|refine Jh ?_|refine Ji ?_|refine Jj ?_|refine Jk ?_|refine Jl ?_|refine Jm ?_|refine Jn ?_|refine Jo ?_|refine Jp ?_|refine Jq ?_|refine Jr ?_|refine Js ?_|refine Jt ?_|refine Ju ?_|refine Jv ?_|refine Jw ?_|refine Jx ?_|refine Jy ?_|refine Jz ?_|refine JA ?_|refine JB ?_|refine JC ?_|refine JD ?_|refine JE ?_|refine JF ?_|refine JG ?_|refine JH ?_|refine JI ?_|refine JJ ?_|refine JK ?_|refine JL ?_|refine JM ?_|refine CW.skip (PW.code ?_)|refine RW.nil (PW.code ?_))
  refine CW.block ?_
  refine CW.loop (ι := { q : Nat × Value × List (List Value) // q.1 ≤ xs.length ∧ q.2.2.length = q.1 }) (fun q => [(0, .slice A xs.length c), (3, q.1.2.1), (4, .int .i64 q.1.1)]) (fun q => [ownHP 86 4 q.1.2.1 q.1.2.2, elemsHP none kTerm q.1.2.2 (xs.take q.1.1)]) (fun q => xs.length - q.1.1) ⟨(0, .slice none 0 0, []), Nat.zero_le _, rfl⟩ ⟨rfl, rfl, rfl, trivial⟩ (fun h => h) ?_
  intro ⟨⟨j, v, es⟩, hj, hel⟩
  dsimp only at hj hel ⊢
  refine CW.seq ?_
  repeat (first|refine Ja ?_|refine Jb ?_|refine Jc ?_|refine Jd ?_|refine Je ?_|refine Jf ?_|refine Jg ?_|refine Jh ?_|refine Ji ?_|refine Jj ?_|refine Jk ?_|refine Jl ?_|refine Jm ?_|refine Jn ?_|refine Jo ?_|refine Jp ?_|refine Jq ?_|refine Jr ?_|refine Js ?_|refine Jt ?_|refine Ju ?_|refine Jv ?_|refine Jw ?_|refine Jx ?_|refine Jy ?_|refine Jz ?_|refine JA ?_|refine JB ?_|refine JC ?_|refine JD ?_|refine JE ?_|refine JF ?_|refine JG ?_|refine JH ?_|refine JI ?_|refine JJ ?_|refine JK ?_|refine JL ?_|refine JM ?_|refine CW.skip (PW.code ?_)|refine RW.nil (PW.code ?_))
  refine CW.ite rfl (fun hlt => ?_) (fun hge => ?_)
  rotate_left
  · have hge' : xs.length ≤ j := by simpa using hge
    rw [List.take_of_length_le hge']
    refine CW.exit rfl ?_
    refine PW.code ?_
    repeat (first|refine Ja ?_|refine Jb ?_|refine Jc ?_|refine Jd ?_|refine Je ?_|refine Jf ?_|refine Jg ?_|refine Jh ?_|refine Ji ?_|refine Jj ?_|refine Jk ?_|refine Jl ?_|refine Jm ?_|refine Jn ?_|refine Jo ?_|refine Jp ?_|refine Jq ?_|refine Jr ?_|refine Js ?_|refine Jt ?_|refine Ju ?_|refine Jv ?_|refine Jw ?_|refine Jx ?_|refine Jy ?_|refine Jz ?_|refine JA ?_|refine JB ?_|refine JC ?_|refine JD ?_|refine JE ?_|refine JF ?_|refine JG ?_|refine JH ?_|refine JI ?_|refine JJ ?_|refine JK ?_|refine JL ?_|refine JM ?_|refine CW.skip (PW.code ?_)|refine RW.nil (PW.code ?_))
    exact CW.ret1 rfl Try.results124 rfl rfl fun w hw => ⟨v, rfl, St.sep_map hw (fun w A h => slice_close rfl hsm2 h)⟩
  have hlt' : j < xs.length := by simpa using hlt
  obtain ⟨B1, O1, cs, hA, hl1, hr, hm⟩ := sl_get h (List.getElem?_eq_getElem hlt')
  have hts : xs.take (j + 1) = xs.take j ++ [xs[j]] := List.take_succ_eq_append_getElem hlt'
  generalize hx : xs[j] = x at *
  refine CW.skip ?_
  refine PW.code ?_
  refine CW.seq ?_
  refine CW.block ?_
  refine CW.region ?_
  repeat (first|refine Ja ?_|refine Jb ?_|refine Jc ?_|refine Jd ?_|refine Je ?_|refine Jf ?_|refine Jg ?_|refine Jh ?_|refine Ji ?_|refine Jj ?_|refine Jk ?_|refine Jl ?_|refine Jm ?_|refine Jn ?_|refine Jo ?_|refine Jp ?_|refine Jq ?_|refine Jr ?_|refine Js ?_|refine Jt ?_|refine Ju ?_|refine Jv ?_|refine Jw ?_|refine Jx ?_|refine Jy ?_|refine Jz ?_|refine JA ?_|refine JB ?_|refine JC ?_|refine JD ?_|refine JE ?_|refine JF ?_|refine JG ?_|refine JH ?_|refine JI ?_|refine JJ ?_|refine JK ?_|refine JL ?_|refine JM ?_|refine CW.skip (PW.code ?_)|refine RW.nil (PW.code ?_))
  refine RW.indexAddrE hA rfl rfl (by omega) hlt rfl ?_
  refine RW.load_ros rfl hle hm rfl hl1 (by rw [hl1]; decide) rfl ?_
  refine RW.callN Try.call125 rfl (fun w2 hw => copyTerm_ret (hr.mono (ro_call hw))) rfl fun cs2 => ?_
  refine RW.have_ (φ := ∃ B1 d1, cs2 = [.int .i64 x.1, .string x.2.1, .slice B1 (x.2.2.1).length d1, .int .i64 x.2.2.2]) (fun w hw => ?_) (fun ⟨B1, d1, e1⟩ => ?_)
  · obtain ⟨M, hM⟩ := own_kept (pre := []) hw
    obtain ⟨A1, c1, e, _⟩ := Rd.termT hM
    exact ⟨_, _, e⟩
  subst e1
  refine RW.buildSlice (e := 86) (c := [.int .i64 x.1, .string x.2.1, .slice B1 (x.2.2.1).length d1, .int .i64 x.2.2.2]) rfl (fun w => by kernel_rfl) rfl fun b16 _ => ?_
  refine RW.append [_, _] (e := 86) (sz := 4) (news := [[.int .i64 x.1, .string x.2.1, .slice B1 (x.2.2.1).length d1, .int .i64 x.2.2.2]]) (zc := [.int .i64 0, .string ByteArray.empty, .slice none 0 0, .int .i64 0]) rfl rfl rfl rfl rfl (by simp) (by simp [Value.oneCell']) (fun w hw hn => ?_) ?_ ?_ rfl fun v' => ?_
  · exact ⟨b16, 0, rfl, CellsAt.of_blk (St.blk (pre := []) hw)⟩
  · rw [hel]; omega
  · rw [hel]; unfold maxN; omega
  refine RW.take [2, 3, 1] ?_
  refine RW.sep [ownHP 86 4 v' (es ++ [[.int .i64 x.1, .string x.2.1, .slice B1 (x.2.2.1).length d1, .int .i64 x.2.2.2]]), elemsHP none kTerm (es ++ [[.int .i64 x.1, .string x.2.1, .slice B1 (x.2.2.1).length d1, .int .i64 x.2.2.2]]) (xs.take j ++ [x])] (fun w A h => ?_) ?_
  · exact Sep.cons_perm (r := [elemsHP none kTerm es (xs.take j), ownDHP kTerm [.int .i64 x.1, .string x.2.1, .slice B1 (x.2.2.1).length d1, .int .i64 x.2.2.2] x]) (fun A h => elems_append h) h
  rw [← hts]
  repeat (first|refine Ja ?_|refine Jb ?_|refine Jc ?_|refine Jd ?_|refine Je ?_|refine Jf ?_|refine Jg ?_|refine Jh ?_|refine Ji ?_|refine Jj ?_|refine Jk ?_|refine Jl ?_|refine Jm ?_|refine Jn ?_|refine Jo ?_|refine Jp ?_|refine Jq ?_|refine Jr ?_|refine Js ?_|refine Jt ?_|refine Ju ?_|refine Jv ?_|refine Jw ?_|refine Jx ?_|refine Jy ?_|refine Jz ?_|refine JA ?_|refine JB ?_|refine JC ?_|refine JD ?_|refine JE ?_|refine JF ?_|refine JG ?_|refine JH ?_|refine JI ?_|refine JJ ?_|refine JK ?_|refine JL ?_|refine JM ?_|refine CW.skip (PW.code ?_)|refine RW.nil (PW.code ?_))
  refine CW.region ?_
  repeat (first|refine Ja ?_|refine Jb ?_|refine Jc ?_|refine Jd ?_|refine Je ?_|refine Jf ?_|refine Jg ?_|refine Jh ?_|refine Ji ?_|refine Jj ?_|refine Jk ?_|refine Jl ?_|refine Jm ?_|refine Jn ?_|refine Jo ?_|refine Jp ?_|refine Jq ?_|refine Jr ?_|refine Js ?_|refine Jt ?_|refine Ju ?_|refine Jv ?_|refine Jw ?_|refine Jx ?_|refine Jy ?_|refine Jz ?_|refine JA ?_|refine JB ?_|refine JC ?_|refine JD ?_|refine JE ?_|refine JF ?_|refine JG ?_|refine JH ?_|refine JI ?_|refine JJ ?_|refine JK ?_|refine JL ?_|refine JM ?_|refine CW.skip (PW.code ?_)|refine RW.nil (PW.code ?_))
  refine RW.add rfl rfl (w64 (by omega) (by omega)) rfl ?_
  repeat (first|refine Ja ?_|refine Jb ?_|refine Jc ?_|refine Jd ?_|refine Je ?_|refine Jf ?_|refine Jg ?_|refine Jh ?_|refine Ji ?_|refine Jj ?_|refine Jk ?_|refine Jl ?_|refine Jm ?_|refine Jn ?_|refine Jo ?_|refine Jp ?_|refine Jq ?_|refine Jr ?_|refine Js ?_|refine Jt ?_|refine Ju ?_|refine Jv ?_|refine Jw ?_|refine Jx ?_|refine Jy ?_|refine Jz ?_|refine JA ?_|refine JB ?_|refine JC ?_|refine JD ?_|refine JE ?_|refine JF ?_|refine JG ?_|refine JH ?_|refine JI ?_|refine JJ ?_|refine JK ?_|refine JL ?_|refine JM ?_|refine CW.skip (PW.code ?_)|refine RW.nil (PW.code ?_))
  refine RW.nil ?_
  exact PW.again ⟨(j + 1, v', es ++ [[.int .i64 x.1, .string x.2.1, .slice B1 (x.2.2.1).length d1, .int .i64 x.2.2.2]]), hlt', by rw [List.length_append, hel]; rfl⟩ ⟨rfl, rfl, rfl, trivial⟩ (fun h => h) (by show xs.length - (j + 1) < xs.length - j; omega)
set_option maxHeartbeats 4000000 in
theorem copyGuard_ret {x : kGuard.V} {cs : List Value} {w : World} (h : Rd kGuard (mem w (fun b => ¬ No b)) cs x) : RetC Try.prog 123 [.agg cs.toArray] w No (fun cs' : List Value => .agg cs'.toArray) (fun cs' => [ownDHP kGuard cs' x]) := by
  obtain ⟨_, _, _, f0, _, _, _, f1, f2⟩ := id h
  obtain ⟨A1, c1, A2, c2, rfl, h0, h2⟩ := Rd.guardT h
  have p1 := f1.2
  clear h
  refine Calls.enter Try.func123 rfl _ rfl rfl (S := No) (H := []) trivial ?_
  refine CW.seqR ?_
  refine RW.box_agg (l := [.slice A1 (x.1).length c1, .int .i64 x.2.1, .slice A2 (x.2.2).length c2]) rfl rfl fun b1 _ => ?_
  refine RW.alloc (c := [.slice none 0 0, .int .i64 0, .slice none 0 0]) rfl rfl fun b2 _ => ?_
  refine RW.take [1, 0] ?_
  repeat (first|refine Ja ?_|refine Jb ?_|refine Jc ?_|refine Jd ?_|refine Je ?_|refine Jf ?_|refine Jg ?_|refine Jh ?_|refine Ji ?_|refine Jj ?_|refine Jk ?_|refine Jl ?_|refine Jm ?_|refine Jn ?_|refine Jo ?_|refine Jp ?_|refine Jq ?_|refine Jr ?_|refine Js ?_|refine Jt ?_|refine Ju ?_|refine Jv ?_|refine Jw ?_|refine Jx ?_|refine Jy ?_|refine Jz ?_|refine JA ?_|refine JB ?_|refine JC ?_|refine JD ?_|refine JE ?_|refine JF ?_|refine JG ?_|refine JH ?_|refine JI ?_|refine JJ ?_|refine JK ?_|refine JL ?_|refine JM ?_|refine CW.skip (PW.code ?_)|refine RW.nil (PW.code ?_))
  refine RW.callN Try.call124 rfl (fun w2 hw => copyTerms_ret (h0.mono (ro_call hw))) rfl fun v0 => ?_
  refine RW.have_ (φ := ∃ B d, v0 = .slice B (x.1).length d) (fun w hw => ?_) (fun ⟨D0, d0, e0⟩ => ?_)
  · obtain ⟨M, hM⟩ := own_kept (pre := []) hw
    obtain ⟨A, c, e⟩ := sl_cell hM
    exact ⟨A, c, (List.cons.inj e).1⟩
  subst e0
  refine RW.take [1, 2, 0] ?_
  repeat (first|refine Ja ?_|refine Jb ?_|refine Jc ?_|refine Jd ?_|refine Je ?_|refine Jf ?_|refine Jg ?_|refine Jh ?_|refine Ji ?_|refine Jj ?_|refine Jk ?_|refine Jl ?_|refine Jm ?_|refine Jn ?_|refine Jo ?_|refine Jp ?_|refine Jq ?_|refine Jr ?_|refine Js ?_|refine Jt ?_|refine Ju ?_|refine Jv ?_|refine Jw ?_|refine Jx ?_|refine Jy ?_|refine Jz ?_|refine JA ?_|refine JB ?_|refine JC ?_|refine JD ?_|refine JE ?_|refine JF ?_|refine JG ?_|refine JH ?_|refine JI ?_|refine JJ ?_|refine JK ?_|refine JL ?_|refine JM ?_|refine CW.skip (PW.code ?_)|refine RW.nil (PW.code ?_))
  refine RW.store_blk [] rfl rfl rfl rfl rfl (by show 0 < 3; omega) ?_
  refine RW.change [] (blk b1 [.slice D0 (x.1).length d0, .int .i64 x.2.1, .slice A2 (x.2.2).length c2] 62) (fun w F hp => hp) ?_
  repeat (first|refine Ja ?_|refine Jb ?_|refine Jc ?_|refine Jd ?_|refine Je ?_|refine Jf ?_|refine Jg ?_|refine Jh ?_|refine Ji ?_|refine Jj ?_|refine Jk ?_|refine Jl ?_|refine Jm ?_|refine Jn ?_|refine Jo ?_|refine Jp ?_|refine Jq ?_|refine Jr ?_|refine Js ?_|refine Jt ?_|refine Ju ?_|refine Jv ?_|refine Jw ?_|refine Jx ?_|refine Jy ?_|refine Jz ?_|refine JA ?_|refine JB ?_|refine JC ?_|refine JD ?_|refine JE ?_|refine JF ?_|refine JG ?_|refine JH ?_|refine JI ?_|refine JJ ?_|refine JK ?_|refine JL ?_|refine JM ?_|refine CW.skip (PW.code ?_)|refine RW.nil (PW.code ?_))
  refine RW.callN Try.call124 rfl (fun w2 hw => copyTerms_ret (h2.mono (ro_call hw))) rfl fun v2 => ?_
  refine RW.have_ (φ := ∃ B d, v2 = .slice B (x.2.2).length d) (fun w hw => ?_) (fun ⟨D2, d2, e2⟩ => ?_)
  · obtain ⟨M, hM⟩ := own_kept (pre := []) hw
    obtain ⟨A, c, e⟩ := sl_cell hM
    exact ⟨A, c, (List.cons.inj e).1⟩
  subst e2
  refine RW.take [1, 2, 3, 0] ?_
  repeat (first|refine Ja ?_|refine Jb ?_|refine Jc ?_|refine Jd ?_|refine Je ?_|refine Jf ?_|refine Jg ?_|refine Jh ?_|refine Ji ?_|refine Jj ?_|refine Jk ?_|refine Jl ?_|refine Jm ?_|refine Jn ?_|refine Jo ?_|refine Jp ?_|refine Jq ?_|refine Jr ?_|refine Js ?_|refine Jt ?_|refine Ju ?_|refine Jv ?_|refine Jw ?_|refine Jx ?_|refine Jy ?_|refine Jz ?_|refine JA ?_|refine JB ?_|refine JC ?_|refine JD ?_|refine JE ?_|refine JF ?_|refine JG ?_|refine JH ?_|refine JI ?_|refine JJ ?_|refine JK ?_|refine JL ?_|refine JM ?_|refine CW.skip (PW.code ?_)|refine RW.nil (PW.code ?_))
  refine RW.store_blk [] rfl rfl rfl rfl rfl (by show 2 < 3; omega) ?_
  refine RW.change [] (blk b1 [.slice D0 (x.1).length d0, .int .i64 x.2.1, .slice D2 (x.2.2).length d2] 62) (fun w F hp => hp) ?_
  repeat (first|refine Ja ?_|refine Jb ?_|refine Jc ?_|refine Jd ?_|refine Je ?_|refine Jf ?_|refine Jg ?_|refine Jh ?_|refine Ji ?_|refine Jj ?_|refine Jk ?_|refine Jl ?_|refine Jm ?_|refine Jn ?_|refine Jo ?_|refine Jp ?_|refine Jq ?_|refine Jr ?_|refine Js ?_|refine Jt ?_|refine Ju ?_|refine Jv ?_|refine Jw ?_|refine Jx ?_|refine Jy ?_|refine Jz ?_|refine JA ?_|refine JB ?_|refine JC ?_|refine JD ?_|refine JE ?_|refine JF ?_|refine JG ?_|refine JH ?_|refine JI ?_|refine JJ ?_|refine JK ?_|refine JL ?_|refine JM ?_|refine CW.skip (PW.code ?_)|refine RW.nil (PW.code ?_))
  refine RW.store_whole [_] rfl rfl (vs := [.slice D0 (x.1).length d0, .int .i64 x.2.1, .slice D2 (x.2.2).length d2]) rfl rfl rfl (by simp [Value.oneCell']) ?_
  repeat (first|refine Ja ?_|refine Jb ?_|refine Jc ?_|refine Jd ?_|refine Je ?_|refine Jf ?_|refine Jg ?_|refine Jh ?_|refine Ji ?_|refine Jj ?_|refine Jk ?_|refine Jl ?_|refine Jm ?_|refine Jn ?_|refine Jo ?_|refine Jp ?_|refine Jq ?_|refine Jr ?_|refine Js ?_|refine Jt ?_|refine Ju ?_|refine Jv ?_|refine Jw ?_|refine Jx ?_|refine Jy ?_|refine Jz ?_|refine JA ?_|refine JB ?_|refine JC ?_|refine JD ?_|refine JE ?_|refine JF ?_|refine JG ?_|refine JH ?_|refine JI ?_|refine JJ ?_|refine JK ?_|refine JL ?_|refine JM ?_|refine CW.skip (PW.code ?_)|refine RW.nil (PW.code ?_))
  refine CW.rets (rs := [.cell 2 62]) (vs := [_]) rfl Try.results123 rfl (ResOK.cell [_] rfl rfl rfl ResOK.nil) fun w hw => ⟨[.slice D0 (x.1).length d0, .int .i64 x.2.1, .slice D2 (x.2.2).length d2], rfl, ?_⟩
  exact St.sep_map (hw.take [2, 3]) (fun w A h => pr_close (Sep.cons_perm (fun A h => pr_close (Sep.addp (own_int_pure p1) (h))) h))
set_option maxHeartbeats 4000000 in
theorem copyLit_ret {x : kLitT.V} {cs : List Value} {w : World} (h : Rd kLitT (mem w (fun b => ¬ No b)) cs x) : RetC Try.prog 115 [.agg cs.toArray] w No (fun cs' : List Value => .agg cs'.toArray) (fun cs' => [ownDHP kLitT cs' x]) := by
  obtain ⟨_, _, _, f0, _, _, _, f1, _, _, _, f2, _, _, _, f3, f4⟩ := id h
  obtain ⟨A1, c1, rfl, h2⟩ := Rd.litT h
  have p1 := f1.2
  have p4 := f4.2
  clear h
  refine Calls.enter Try.func115 rfl _ rfl rfl (S := No) (H := []) trivial ?_
  refine CW.seqR ?_
  refine RW.box_agg (l := [.bool x.1, .string x.2.1, .slice A1 (x.2.2.1).length c1, .bool x.2.2.2.1, .int .i64 x.2.2.2.2]) rfl rfl fun b1 _ => ?_
  refine RW.alloc (c := [.bool false, .string ByteArray.empty, .slice none 0 0, .bool false, .int .i64 0]) rfl rfl fun b2 _ => ?_
  refine RW.take [1, 0] ?_
  repeat (first|refine Ja ?_|refine Jb ?_|refine Jc ?_|refine Jd ?_|refine Je ?_|refine Jf ?_|refine Jg ?_|refine Jh ?_|refine Ji ?_|refine Jj ?_|refine Jk ?_|refine Jl ?_|refine Jm ?_|refine Jn ?_|refine Jo ?_|refine Jp ?_|refine Jq ?_|refine Jr ?_|refine Js ?_|refine Jt ?_|refine Ju ?_|refine Jv ?_|refine Jw ?_|refine Jx ?_|refine Jy ?_|refine Jz ?_|refine JA ?_|refine JB ?_|refine JC ?_|refine JD ?_|refine JE ?_|refine JF ?_|refine JG ?_|refine JH ?_|refine JI ?_|refine JJ ?_|refine JK ?_|refine JL ?_|refine JM ?_|refine CW.skip (PW.code ?_)|refine RW.nil (PW.code ?_))
  refine RW.callN Try.call89 rfl (fun w2 hw => copyStrs_ret (h2.mono (ro_call hw))) rfl fun v2 => ?_
  refine RW.have_ (φ := ∃ B d, v2 = .slice B (x.2.2.1).length d) (fun w hw => ?_) (fun ⟨D2, d2, e2⟩ => ?_)
  · obtain ⟨M, hM⟩ := own_kept (pre := []) hw
    obtain ⟨A, c, e⟩ := sl_cell hM
    exact ⟨A, c, (List.cons.inj e).1⟩
  subst e2
  refine RW.take [1, 2, 0] ?_
  repeat (first|refine Ja ?_|refine Jb ?_|refine Jc ?_|refine Jd ?_|refine Je ?_|refine Jf ?_|refine Jg ?_|refine Jh ?_|refine Ji ?_|refine Jj ?_|refine Jk ?_|refine Jl ?_|refine Jm ?_|refine Jn ?_|refine Jo ?_|refine Jp ?_|refine Jq ?_|refine Jr ?_|refine Js ?_|refine Jt ?_|refine Ju ?_|refine Jv ?_|refine Jw ?_|refine Jx ?_|refine Jy ?_|refine Jz ?_|refine JA ?_|refine JB ?_|refine JC ?_|refine JD ?_|refine JE ?_|refine JF ?_|refine JG ?_|refine JH ?_|refine JI ?_|refine JJ ?_|refine JK ?_|refine JL ?_|refine JM ?_|refine CW.skip (PW.code ?_)|refine RW.nil (PW.code ?_))
  refine RW.store_blk [] rfl rfl rfl rfl rfl (by show 2 < 5; omega) ?_
  refine RW.change [] (blk b1 [.bool x.1, .string x.2.1, .slice D2 (x.2.2.1).length d2, .bool x.2.2.2.1, .int .i64 x.2.2.2.2] 54) (fun w F hp => hp) ?_
  repeat (first|refine Ja ?_|refine Jb ?_|refine Jc ?_|refine Jd ?_|refine Je ?_|refine Jf ?_|refine Jg ?_|refine Jh ?_|refine Ji ?_|refine Jj ?_|refine Jk ?_|refine Jl ?_|refine Jm ?_|refine Jn ?_|refine Jo ?_|refine Jp ?_|refine Jq ?_|refine Jr ?_|refine Js ?_|refine Jt ?_|refine Ju ?_|refine Jv ?_|refine Jw ?_|refine Jx ?_|refine Jy ?_|refine Jz ?_|refine JA ?_|refine JB ?_|refine JC ?_|refine JD ?_|refine JE ?_|refine JF ?_|refine JG ?_|refine JH ?_|refine JI ?_|refine JJ ?_|refine JK ?_|refine JL ?_|refine JM ?_|refine CW.skip (PW.code ?_)|refine RW.nil (PW.code ?_))
  refine RW.store_whole [_] rfl rfl (vs := [.bool x.1, .string x.2.1, .slice D2 (x.2.2.1).length d2, .bool x.2.2.2.1, .int .i64 x.2.2.2.2]) rfl rfl rfl (by simp [Value.oneCell']) ?_
  repeat (first|refine Ja ?_|refine Jb ?_|refine Jc ?_|refine Jd ?_|refine Je ?_|refine Jf ?_|refine Jg ?_|refine Jh ?_|refine Ji ?_|refine Jj ?_|refine Jk ?_|refine Jl ?_|refine Jm ?_|refine Jn ?_|refine Jo ?_|refine Jp ?_|refine Jq ?_|refine Jr ?_|refine Js ?_|refine Jt ?_|refine Ju ?_|refine Jv ?_|refine Jw ?_|refine Jx ?_|refine Jy ?_|refine Jz ?_|refine JA ?_|refine JB ?_|refine JC ?_|refine JD ?_|refine JE ?_|refine JF ?_|refine JG ?_|refine JH ?_|refine JI ?_|refine JJ ?_|refine JK ?_|refine JL ?_|refine JM ?_|refine CW.skip (PW.code ?_)|refine RW.nil (PW.code ?_))
  refine CW.rets (rs := [.cell 2 54]) (vs := [_]) rfl Try.results115 rfl (ResOK.cell [_] rfl rfl rfl ResOK.nil) fun w hw => ⟨[.bool x.1, .string x.2.1, .slice D2 (x.2.2.1).length d2, .bool x.2.2.2.1, .int .i64 x.2.2.2.2], rfl, ?_⟩
  exact St.sep_map (hw.take [2]) (fun w A h => pr_close (Sep.addp (own_bool_pure) (pr_close (Sep.addp (own_str_pure p1) (pr_close (Sep.cons_perm (fun A h => pr_close (Sep.addp (own_bool_pure) (Sep.addp (own_int_pure p4) h))) h))))))
set_option maxHeartbeats 4000000 in
theorem copyPrem_ret {x : kPrem.V} {cs : List Value} {w : World} (h : Rd kPrem (mem w (fun b => ¬ No b)) cs x) : RetC Try.prog 122 [.agg cs.toArray] w No (fun cs' : List Value => .agg cs'.toArray) (fun cs' => [ownDHP kPrem cs' x]) := by
  obtain ⟨_, _, _, f0, _, _, _, f1, _, _, _, f2, _, _, _, f3, f4⟩ := id h
  obtain ⟨A1, c1, A2, c2, A3, c3, rfl, h1, h2⟩ := Rd.premT h
  have p0 := f0.2
  have p3 := f3.2
  have p4 := f4.2
  clear h
  refine Calls.enter Try.func122 rfl _ rfl rfl (S := No) (H := []) trivial ?_
  refine CW.seqR ?_
  refine RW.box_agg (l := [.int .i64 x.1, .bool x.2.1.1, .string x.2.1.2.1, .slice A1 (x.2.1.2.2.1).length c1, .bool x.2.1.2.2.2.1, .int .i64 x.2.1.2.2.2.2, .slice A2 (x.2.2.1.1).length c2, .int .i64 x.2.2.1.2.1, .slice A3 (x.2.2.1.2.2).length c3, .string x.2.2.2.1, .string x.2.2.2.2]) rfl rfl fun b1 _ => ?_
  refine RW.alloc (c := [.int .i64 0, .bool false, .string ByteArray.empty, .slice none 0 0, .bool false, .int .i64 0, .slice none 0 0, .int .i64 0, .slice none 0 0, .string ByteArray.empty, .string ByteArray.empty]) rfl rfl fun b2 _ => ?_
  refine RW.take [1, 0] ?_
  repeat (first|refine Ja ?_|refine Jb ?_|refine Jc ?_|refine Jd ?_|refine Je ?_|refine Jf ?_|refine Jg ?_|refine Jh ?_|refine Ji ?_|refine Jj ?_|refine Jk ?_|refine Jl ?_|refine Jm ?_|refine Jn ?_|refine Jo ?_|refine Jp ?_|refine Jq ?_|refine Jr ?_|refine Js ?_|refine Jt ?_|refine Ju ?_|refine Jv ?_|refine Jw ?_|refine Jx ?_|refine Jy ?_|refine Jz ?_|refine JA ?_|refine JB ?_|refine JC ?_|refine JD ?_|refine JE ?_|refine JF ?_|refine JG ?_|refine JH ?_|refine JI ?_|refine JJ ?_|refine JK ?_|refine JL ?_|refine JM ?_|refine CW.skip (PW.code ?_)|refine RW.nil (PW.code ?_))
  refine RW.load_part5 [] rfl rfl rfl rfl ?_
  refine RW.callN Try.call115 rfl (fun w2 hw => copyLit_ret (h1.mono (ro_call hw))) rfl fun v1 => ?_
  refine RW.have_ (φ := ∃ B4 d4, v1 = [.bool x.2.1.1, .string x.2.1.2.1, .slice B4 (x.2.1.2.2.1).length d4, .bool x.2.1.2.2.2.1, .int .i64 x.2.1.2.2.2.2]) (fun w hw => ?_) (fun ⟨B4, d4, e1⟩ => ?_)
  · obtain ⟨M, hM⟩ := own_kept (pre := []) hw
    obtain ⟨A4, c4, e, _⟩ := Rd.litT hM
    exact ⟨_, _, e⟩
  subst e1
  refine RW.take [1, 2, 0] ?_
  repeat (first|refine Ja ?_|refine Jb ?_|refine Jc ?_|refine Jd ?_|refine Je ?_|refine Jf ?_|refine Jg ?_|refine Jh ?_|refine Ji ?_|refine Jj ?_|refine Jk ?_|refine Jl ?_|refine Jm ?_|refine Jn ?_|refine Jo ?_|refine Jp ?_|refine Jq ?_|refine Jr ?_|refine Js ?_|refine Jt ?_|refine Ju ?_|refine Jv ?_|refine Jw ?_|refine Jx ?_|refine Jy ?_|refine Jz ?_|refine JA ?_|refine JB ?_|refine JC ?_|refine JD ?_|refine JE ?_|refine JF ?_|refine JG ?_|refine JH ?_|refine JI ?_|refine JJ ?_|refine JK ?_|refine JL ?_|refine JM ?_|refine CW.skip (PW.code ?_)|refine RW.nil (PW.code ?_))
  refine RW.store_part [] rfl rfl (vs := [.bool x.2.1.1, .string x.2.1.2.1, .slice B4 (x.2.1.2.2.1).length d4, .bool x.2.1.2.2.2.1, .int .i64 x.2.1.2.2.2.2]) rfl rfl (by simp [Value.oneCell']) (by show 1 + 5 ≤ 11; omega) ?_
  refine RW.change [] (blk b1 [.int .i64 x.1, .bool x.2.1.1, .string x.2.1.2.1, .slice B4 (x.2.1.2.2.1).length d4, .bool x.2.1.2.2.2.1, .int .i64 x.2.1.2.2.2.2, .slice A2 (x.2.2.1.1).length c2, .int .i64 x.2.2.1.2.1, .slice A3 (x.2.2.1.2.2).length c3, .string x.2.2.2.1, .string x.2.2.2.2] 64) (fun w F hp => hp) ?_
  repeat (first|refine Ja ?_|refine Jb ?_|refine Jc ?_|refine Jd ?_|refine Je ?_|refine Jf ?_|refine Jg ?_|refine Jh ?_|refine Ji ?_|refine Jj ?_|refine Jk ?_|refine Jl ?_|refine Jm ?_|refine Jn ?_|refine Jo ?_|refine Jp ?_|refine Jq ?_|refine Jr ?_|refine Js ?_|refine Jt ?_|refine Ju ?_|refine Jv ?_|refine Jw ?_|refine Jx ?_|refine Jy ?_|refine Jz ?_|refine JA ?_|refine JB ?_|refine JC ?_|refine JD ?_|refine JE ?_|refine JF ?_|refine JG ?_|refine JH ?_|refine JI ?_|refine JJ ?_|refine JK ?_|refine JL ?_|refine JM ?_|refine CW.skip (PW.code ?_)|refine RW.nil (PW.code ?_))
  refine RW.callN Try.call123 rfl (fun w2 hw => copyGuard_ret (h2.mono (ro_call hw))) rfl fun v2 => ?_
  refine RW.have_ (φ := ∃ B5 d5 B6 d6, v2 = [.slice B5 (x.2.2.1.1).length d5, .int .i64 x.2.2.1.2.1, .slice B6 (x.2.2.1.2.2).length d6]) (fun w hw => ?_) (fun ⟨B5, d5, B6, d6, e2⟩ => ?_)
  · obtain ⟨M, hM⟩ := own_kept (pre := []) hw
    obtain ⟨A5, c5, A6, c6, e, _⟩ := Rd.guardT hM
    exact ⟨_, _, _, _, e⟩
  subst e2
  refine RW.take [1, 2, 3, 0] ?_
  repeat (first|refine Ja ?_|refine Jb ?_|refine Jc ?_|refine Jd ?_|refine Je ?_|refine Jf ?_|refine Jg ?_|refine Jh ?_|refine Ji ?_|refine Jj ?_|refine Jk ?_|refine Jl ?_|refine Jm ?_|refine Jn ?_|refine Jo ?_|refine Jp ?_|refine Jq ?_|refine Jr ?_|refine Js ?_|refine Jt ?_|refine Ju ?_|refine Jv ?_|refine Jw ?_|refine Jx ?_|refine Jy ?_|refine Jz ?_|refine JA ?_|refine JB ?_|refine JC ?_|refine JD ?_|refine JE ?_|refine JF ?_|refine JG ?_|refine JH ?_|refine JI ?_|refine JJ ?_|refine JK ?_|refine JL ?_|refine JM ?_|refine CW.skip (PW.code ?_)|refine RW.nil (PW.code ?_))
  refine RW.store_part [] rfl rfl (vs := [.slice B5 (x.2.2.1.1).length d5, .int .i64 x.2.2.1.2.1, .slice B6 (x.2.2.1.2.2).length d6]) rfl rfl (by simp [Value.oneCell']) (by show 6 + 3 ≤ 11; omega) ?_
  refine RW.change [] (blk b1 [.int .i64 x.1, .bool x.2.1.1, .string x.2.1.2.1, .slice B4 (x.2.1.2.2.1).length d4, .bool x.2.1.2.2.2.1, .int .i64 x.2.1.2.2.2.2, .slice B5 (x.2.2.1.1).length d5, .int .i64 x.2.2.1.2.1, .slice B6 (x.2.2.1.2.2).length d6, .string x.2.2.2.1, .string x.2.2.2.2] 64) (fun w F hp => hp) ?_
  repeat (first|refine Ja ?_|refine Jb ?_|refine Jc ?_|refine Jd ?_|refine Je ?_|refine Jf ?_|refine Jg ?_|refine Jh ?_|refine Ji ?_|refine Jj ?_|refine Jk ?_|refine Jl ?_|refine Jm ?_|refine Jn ?_|refine Jo ?_|refine Jp ?_|refine Jq ?_|refine Jr ?_|refine Js ?_|refine Jt ?_|refine Ju ?_|refine Jv ?_|refine Jw ?_|refine Jx ?_|refine Jy ?_|refine Jz ?_|refine JA ?_|refine JB ?_|refine JC ?_|refine JD ?_|refine JE ?_|refine JF ?_|refine JG ?_|refine JH ?_|refine JI ?_|refine JJ ?_|refine JK ?_|refine JL ?_|refine JM ?_|refine CW.skip (PW.code ?_)|refine RW.nil (PW.code ?_))
  refine RW.store_whole [_] rfl rfl (vs := [.int .i64 x.1, .bool x.2.1.1, .string x.2.1.2.1, .slice B4 (x.2.1.2.2.1).length d4, .bool x.2.1.2.2.2.1, .int .i64 x.2.1.2.2.2.2, .slice B5 (x.2.2.1.1).length d5, .int .i64 x.2.2.1.2.1, .slice B6 (x.2.2.1.2.2).length d6, .string x.2.2.2.1, .string x.2.2.2.2]) rfl rfl rfl (by simp [Value.oneCell']) ?_
  repeat (first|refine Ja ?_|refine Jb ?_|refine Jc ?_|refine Jd ?_|refine Je ?_|refine Jf ?_|refine Jg ?_|refine Jh ?_|refine Ji ?_|refine Jj ?_|refine Jk ?_|refine Jl ?_|refine Jm ?_|refine Jn ?_|refine Jo ?_|refine Jp ?_|refine Jq ?_|refine Jr ?_|refine Js ?_|refine Jt ?_|refine Ju ?_|refine Jv ?_|refine Jw ?_|refine Jx ?_|refine Jy ?_|refine Jz ?_|refine JA ?_|refine JB ?_|refine JC ?_|refine JD ?_|refine JE ?_|refine JF ?_|refine JG ?_|refine JH ?_|refine JI ?_|refine JJ ?_|refine JK ?_|refine JL ?_|refine JM ?_|refine CW.skip (PW.code ?_)|refine RW.nil (PW.code ?_))
  refine CW.rets (rs := [.cell 2 64]) (vs := [_]) rfl Try.results122 rfl (ResOK.cell [_] rfl rfl rfl ResOK.nil) fun w hw => ⟨[.int .i64 x.1, .bool x.2.1.1, .string x.2.1.2.1, .slice B4 (x.2.1.2.2.1).length d4, .bool x.2.1.2.2.2.1, .int .i64 x.2.1.2.2.2.2, .slice B5 (x.2.2.1.1).length d5, .int .i64 x.2.2.1.2.1, .slice B6 (x.2.2.1.2.2).length d6, .string x.2.2.2.1, .string x.2.2.2.2], rfl, ?_⟩
  exact St.sep_map (hw.take [2, 3]) (fun w A h => pr_close (Sep.addp (own_int_pure p0) (pr_close (Sep.cons_perm (fun A h => pr_close (Sep.cons_perm (fun A h => pr_close (Sep.addp (own_str_pure p3) (Sep.addp (own_str_pure p4) h))) h)) h))))
set_option maxHeartbeats 4000000 in
theorem copyPrems_ret {A : Option Addr} {c : Nat} {xs : List kPrem.V} {w : World} (h : Rd (.sl 160 kPrem) (mem w (fun b => ¬ No b)) [.slice A xs.length c] xs) : RetC Try.prog 114 [.slice A xs.length c] w No (fun v : Value => v) (fun v => [ownDHP (.sl 160 kPrem) [v] xs]) := by
  have hsm := sl_small h
  have hsm2 := hsm
  unfold reach at hsm
  have hle : Mem.le (mem w (fun b => ¬ No b)) (mem w (fun b => ¬ No b)) := Mem.le_refl _
  refine Calls.enter Try.func114 rfl _ rfl rfl (S := No) (H := []) trivial ?_
  refine CW.add_ (elemsHP none kPrem [] []) (fun w _ => elems_nil) ?_
  refine CW.add_ (ownHP 64 11 (.slice none 0 0) []) (fun w _ => .inl ⟨rfl, rfl⟩) ?_
  repeat (first|refine Ja ?_|refine Jb ?_|refine Jc ?_|refine Jd ?_|refine Je ?_|refine Jf ?_|refine Jg ?_|refine Jh ?_|refine Ji ?_|refine Jj ?_|refine Jk ?_|refine Jl ?_|refine Jm ?_|refine Jn ?_|refine Jo ?_|refine Jp ?_|refine Jq ?_|refine Jr ?_|refine Js ?_|refine Jt ?_|refine Ju ?_|refine Jv ?_|refine Jw ?_|refine Jx ?_|refine Jy ?_|refine Jz ?_|refine JA ?_|refine JB ?_|refine JC ?_|refine JD ?_|refine JE ?_|refine JF ?_|refine JG ?_|refine JH ?_|refine JI ?_|refine JJ ?_|refine JK ?_|refine JL ?_|refine JM ?_|refine CW.skip (PW.code ?_)|refine RW.nil (PW.code ?_))
  refine CW.seq ?_
  repeat (first|refine Ja ?_|refine Jb ?_|refine Jc ?_|refine Jd ?_|refine Je ?_|refine Jf ?_|refine Jg ?_|refine Jh ?_|refine Ji ?_|refine Jj ?_|refine Jk ?_|refine Jl ?_|refine Jm ?_|refine Jn ?_|refine Jo ?_|refine Jp ?_|refine Jq ?_|refine Jr ?_|refine Js ?_|refine Jt ?_|refine Ju ?_|refine Jv ?_|refine Jw ?_|refine Jx ?_|refine Jy ?_|refine Jz ?_|refine JA ?_|refine JB ?_|refine JC ?_|refine JD ?_|refine JE ?_|refine JF ?_|refine JG ?_|refine JH ?_|refine JI ?_|refine JJ ?_|refine JK ?_|refine JL ?_|refine JM ?_|refine CW.skip (PW.code ?_)|refine RW.nil (PW.code ?_))
  refine CW.block ?_
  refine CW.loop (ι := { q : Nat × Value × List (List Value) // q.1 ≤ xs.length ∧ q.2.2.length = q.1 }) (fun q => [(0, .slice A xs.length c), (3, q.1.2.1), (4, .int .i64 q.1.1)]) (fun q => [ownHP 64 11 q.1.2.1 q.1.2.2, elemsHP none kPrem q.1.2.2 (xs.take q.1.1)]) (fun q => xs.length - q.1.1) ⟨(0, .slice none 0 0, []), Nat.zero_le _, rfl⟩ ⟨rfl, rfl, rfl, trivial⟩ (fun h => h) ?_
  intro ⟨⟨j, v, es⟩, hj, hel⟩
  dsimp only at hj hel ⊢
  refine CW.seq ?_
  repeat (first|refine Ja ?_|refine Jb ?_|refine Jc ?_|refine Jd ?_|refine Je ?_|refine Jf ?_|refine Jg ?_|refine Jh ?_|refine Ji ?_|refine Jj ?_|refine Jk ?_|refine Jl ?_|refine Jm ?_|refine Jn ?_|refine Jo ?_|refine Jp ?_|refine Jq ?_|refine Jr ?_|refine Js ?_|refine Jt ?_|refine Ju ?_|refine Jv ?_|refine Jw ?_|refine Jx ?_|refine Jy ?_|refine Jz ?_|refine JA ?_|refine JB ?_|refine JC ?_|refine JD ?_|refine JE ?_|refine JF ?_|refine JG ?_|refine JH ?_|refine JI ?_|refine JJ ?_|refine JK ?_|refine JL ?_|refine JM ?_|refine CW.skip (PW.code ?_)|refine RW.nil (PW.code ?_))
  refine CW.ite rfl (fun hlt => ?_) (fun hge => ?_)
  rotate_left
  · have hge' : xs.length ≤ j := by simpa using hge
    rw [List.take_of_length_le hge']
    refine CW.exit rfl ?_
    refine PW.code ?_
    repeat (first|refine Ja ?_|refine Jb ?_|refine Jc ?_|refine Jd ?_|refine Je ?_|refine Jf ?_|refine Jg ?_|refine Jh ?_|refine Ji ?_|refine Jj ?_|refine Jk ?_|refine Jl ?_|refine Jm ?_|refine Jn ?_|refine Jo ?_|refine Jp ?_|refine Jq ?_|refine Jr ?_|refine Js ?_|refine Jt ?_|refine Ju ?_|refine Jv ?_|refine Jw ?_|refine Jx ?_|refine Jy ?_|refine Jz ?_|refine JA ?_|refine JB ?_|refine JC ?_|refine JD ?_|refine JE ?_|refine JF ?_|refine JG ?_|refine JH ?_|refine JI ?_|refine JJ ?_|refine JK ?_|refine JL ?_|refine JM ?_|refine CW.skip (PW.code ?_)|refine RW.nil (PW.code ?_))
    exact CW.ret1 rfl Try.results114 rfl rfl fun w hw => ⟨v, rfl, St.sep_map hw (fun w A h => slice_close rfl hsm2 h)⟩
  have hlt' : j < xs.length := by simpa using hlt
  obtain ⟨B1, O1, cs, hA, hl1, hr, hm⟩ := sl_get h (List.getElem?_eq_getElem hlt')
  have hts : xs.take (j + 1) = xs.take j ++ [xs[j]] := List.take_succ_eq_append_getElem hlt'
  generalize hx : xs[j] = x at *
  refine CW.skip ?_
  refine PW.code ?_
  refine CW.seq ?_
  refine CW.block ?_
  refine CW.region ?_
  repeat (first|refine Ja ?_|refine Jb ?_|refine Jc ?_|refine Jd ?_|refine Je ?_|refine Jf ?_|refine Jg ?_|refine Jh ?_|refine Ji ?_|refine Jj ?_|refine Jk ?_|refine Jl ?_|refine Jm ?_|refine Jn ?_|refine Jo ?_|refine Jp ?_|refine Jq ?_|refine Jr ?_|refine Js ?_|refine Jt ?_|refine Ju ?_|refine Jv ?_|refine Jw ?_|refine Jx ?_|refine Jy ?_|refine Jz ?_|refine JA ?_|refine JB ?_|refine JC ?_|refine JD ?_|refine JE ?_|refine JF ?_|refine JG ?_|refine JH ?_|refine JI ?_|refine JJ ?_|refine JK ?_|refine JL ?_|refine JM ?_|refine CW.skip (PW.code ?_)|refine RW.nil (PW.code ?_))
  refine RW.indexAddrE hA rfl rfl (by omega) hlt rfl ?_
  refine RW.load_ros rfl hle hm rfl hl1 (by rw [hl1]; decide) rfl ?_
  refine RW.callN Try.call122 rfl (fun w2 hw => copyPrem_ret (hr.mono (ro_call hw))) rfl fun cs2 => ?_
  refine RW.have_ (φ := ∃ B1 d1 B2 d2 B3 d3, cs2 = [.int .i64 x.1, .bool x.2.1.1, .string x.2.1.2.1, .slice B1 (x.2.1.2.2.1).length d1, .bool x.2.1.2.2.2.1, .int .i64 x.2.1.2.2.2.2, .slice B2 (x.2.2.1.1).length d2, .int .i64 x.2.2.1.2.1, .slice B3 (x.2.2.1.2.2).length d3, .string x.2.2.2.1, .string x.2.2.2.2]) (fun w hw => ?_) (fun ⟨B1, d1, B2, d2, B3, d3, e1⟩ => ?_)
  · obtain ⟨M, hM⟩ := own_kept (pre := []) hw
    obtain ⟨A1, c1, A2, c2, A3, c3, e, _⟩ := Rd.premT hM
    exact ⟨_, _, _, _, _, _, e⟩
  subst e1
  refine RW.buildSlice (e := 64) (c := [.int .i64 x.1, .bool x.2.1.1, .string x.2.1.2.1, .slice B1 (x.2.1.2.2.1).length d1, .bool x.2.1.2.2.2.1, .int .i64 x.2.1.2.2.2.2, .slice B2 (x.2.2.1.1).length d2, .int .i64 x.2.2.1.2.1, .slice B3 (x.2.2.1.2.2).length d3, .string x.2.2.2.1, .string x.2.2.2.2]) rfl (fun w => by kernel_rfl) rfl fun b16 _ => ?_
  refine RW.append [_, _] (e := 64) (sz := 11) (news := [[.int .i64 x.1, .bool x.2.1.1, .string x.2.1.2.1, .slice B1 (x.2.1.2.2.1).length d1, .bool x.2.1.2.2.2.1, .int .i64 x.2.1.2.2.2.2, .slice B2 (x.2.2.1.1).length d2, .int .i64 x.2.2.1.2.1, .slice B3 (x.2.2.1.2.2).length d3, .string x.2.2.2.1, .string x.2.2.2.2]]) (zc := [.int .i64 0, .bool false, .string ByteArray.empty, .slice none 0 0, .bool false, .int .i64 0, .slice none 0 0, .int .i64 0, .slice none 0 0, .string ByteArray.empty, .string ByteArray.empty]) rfl rfl rfl rfl rfl (by simp) (by simp [Value.oneCell']) (fun w hw hn => ?_) ?_ ?_ rfl fun v' => ?_
  · exact ⟨b16, 0, rfl, CellsAt.of_blk (St.blk (pre := []) hw)⟩
  · rw [hel]; omega
  · rw [hel]; unfold maxN; omega
  refine RW.take [2, 3, 1] ?_
  refine RW.sep [ownHP 64 11 v' (es ++ [[.int .i64 x.1, .bool x.2.1.1, .string x.2.1.2.1, .slice B1 (x.2.1.2.2.1).length d1, .bool x.2.1.2.2.2.1, .int .i64 x.2.1.2.2.2.2, .slice B2 (x.2.2.1.1).length d2, .int .i64 x.2.2.1.2.1, .slice B3 (x.2.2.1.2.2).length d3, .string x.2.2.2.1, .string x.2.2.2.2]]), elemsHP none kPrem (es ++ [[.int .i64 x.1, .bool x.2.1.1, .string x.2.1.2.1, .slice B1 (x.2.1.2.2.1).length d1, .bool x.2.1.2.2.2.1, .int .i64 x.2.1.2.2.2.2, .slice B2 (x.2.2.1.1).length d2, .int .i64 x.2.2.1.2.1, .slice B3 (x.2.2.1.2.2).length d3, .string x.2.2.2.1, .string x.2.2.2.2]]) (xs.take j ++ [x])] (fun w A h => ?_) ?_
  · exact Sep.cons_perm (r := [elemsHP none kPrem es (xs.take j), ownDHP kPrem [.int .i64 x.1, .bool x.2.1.1, .string x.2.1.2.1, .slice B1 (x.2.1.2.2.1).length d1, .bool x.2.1.2.2.2.1, .int .i64 x.2.1.2.2.2.2, .slice B2 (x.2.2.1.1).length d2, .int .i64 x.2.2.1.2.1, .slice B3 (x.2.2.1.2.2).length d3, .string x.2.2.2.1, .string x.2.2.2.2] x]) (fun A h => elems_append h) h
  rw [← hts]
  repeat (first|refine Ja ?_|refine Jb ?_|refine Jc ?_|refine Jd ?_|refine Je ?_|refine Jf ?_|refine Jg ?_|refine Jh ?_|refine Ji ?_|refine Jj ?_|refine Jk ?_|refine Jl ?_|refine Jm ?_|refine Jn ?_|refine Jo ?_|refine Jp ?_|refine Jq ?_|refine Jr ?_|refine Js ?_|refine Jt ?_|refine Ju ?_|refine Jv ?_|refine Jw ?_|refine Jx ?_|refine Jy ?_|refine Jz ?_|refine JA ?_|refine JB ?_|refine JC ?_|refine JD ?_|refine JE ?_|refine JF ?_|refine JG ?_|refine JH ?_|refine JI ?_|refine JJ ?_|refine JK ?_|refine JL ?_|refine JM ?_|refine CW.skip (PW.code ?_)|refine RW.nil (PW.code ?_))
  refine CW.region ?_
  repeat (first|refine Ja ?_|refine Jb ?_|refine Jc ?_|refine Jd ?_|refine Je ?_|refine Jf ?_|refine Jg ?_|refine Jh ?_|refine Ji ?_|refine Jj ?_|refine Jk ?_|refine Jl ?_|refine Jm ?_|refine Jn ?_|refine Jo ?_|refine Jp ?_|refine Jq ?_|refine Jr ?_|refine Js ?_|refine Jt ?_|refine Ju ?_|refine Jv ?_|refine Jw ?_|refine Jx ?_|refine Jy ?_|refine Jz ?_|refine JA ?_|refine JB ?_|refine JC ?_|refine JD ?_|refine JE ?_|refine JF ?_|refine JG ?_|refine JH ?_|refine JI ?_|refine JJ ?_|refine JK ?_|refine JL ?_|refine JM ?_|refine CW.skip (PW.code ?_)|refine RW.nil (PW.code ?_))
  refine RW.add rfl rfl (w64 (by omega) (by omega)) rfl ?_
  repeat (first|refine Ja ?_|refine Jb ?_|refine Jc ?_|refine Jd ?_|refine Je ?_|refine Jf ?_|refine Jg ?_|refine Jh ?_|refine Ji ?_|refine Jj ?_|refine Jk ?_|refine Jl ?_|refine Jm ?_|refine Jn ?_|refine Jo ?_|refine Jp ?_|refine Jq ?_|refine Jr ?_|refine Js ?_|refine Jt ?_|refine Ju ?_|refine Jv ?_|refine Jw ?_|refine Jx ?_|refine Jy ?_|refine Jz ?_|refine JA ?_|refine JB ?_|refine JC ?_|refine JD ?_|refine JE ?_|refine JF ?_|refine JG ?_|refine JH ?_|refine JI ?_|refine JJ ?_|refine JK ?_|refine JL ?_|refine JM ?_|refine CW.skip (PW.code ?_)|refine RW.nil (PW.code ?_))
  refine RW.nil ?_
  exact PW.again ⟨(j + 1, v', es ++ [[.int .i64 x.1, .bool x.2.1.1, .string x.2.1.2.1, .slice B1 (x.2.1.2.2.1).length d1, .bool x.2.1.2.2.2.1, .int .i64 x.2.1.2.2.2.2, .slice B2 (x.2.2.1.1).length d2, .int .i64 x.2.2.1.2.1, .slice B3 (x.2.2.1.2.2).length d3, .string x.2.2.2.1, .string x.2.2.2.2]]), hlt', by rw [List.length_append, hel]; rfl⟩ ⟨rfl, rfl, rfl, trivial⟩ (fun h => h) (by show xs.length - (j + 1) < xs.length - j; omega)
set_option maxHeartbeats 4000000 in
theorem copyPred_ret {x : kPredT.V} {cs : List Value} {w : World} (h : Rd kPredT (mem w (fun b => ¬ No b)) cs x) : RetC Try.prog 104 [.agg cs.toArray] w No (fun cs' : List Value => .agg cs'.toArray) (fun cs' => [ownDHP kPredT cs' x]) := by
  obtain ⟨_, _, _, f0, _, _, _, f1, _, _, _, f2, f3⟩ := id h
  obtain ⟨A1, c1, A2, c2, rfl, h2, h3⟩ := Rd.predT h
  have p0 := f0.2
  have p1 := f1.2
  clear h
  refine Calls.enter Try.func104 rfl _ rfl rfl (S := No) (H := []) trivial ?_
  refine CW.seqR ?_
  refine RW.box_agg (l := [.string x.1, .int .i64 x.2.1, .slice A1 (x.2.2.1).length c1, .slice A2 (x.2.2.2).length c2]) rfl rfl fun b1 _ => ?_
  refine RW.alloc (c := [.string ByteArray.empty, .int .i64 0, .slice none 0 0, .slice none 0 0]) rfl rfl fun b2 _ => ?_
  refine RW.take [1, 0] ?_
  repeat (first|refine Ja ?_|refine Jb ?_|refine Jc ?_|refine Jd ?_|refine Je ?_|refine Jf ?_|refine Jg ?_|refine Jh ?_|refine Ji ?_|refine Jj ?_|refine Jk ?_|refine Jl ?_|refine Jm ?_|refine Jn ?_|refine Jo ?_|refine Jp ?_|refine Jq ?_|refine Jr ?_|refine Js ?_|refine Jt ?_|refine Ju ?_|refine Jv ?_|refine Jw ?_|refine Jx ?_|refine Jy ?_|refine Jz ?_|refine JA ?_|refine JB ?_|refine JC ?_|refine JD ?_|refine JE ?_|refine JF ?_|refine JG ?_|refine JH ?_|refine JI ?_|refine JJ ?_|refine JK ?_|refine JL ?_|refine JM ?_|refine CW.skip (PW.code ?_)|refine RW.nil (PW.code ?_))
  refine RW.callN Try.call89 rfl (fun w2 hw => copyStrs_ret (h2.mono (ro_call hw))) rfl fun v2 => ?_
  refine RW.have_ (φ := ∃ B d, v2 = .slice B (x.2.2.1).length d) (fun w hw => ?_) (fun ⟨D2, d2, e2⟩ => ?_)
  · obtain ⟨M, hM⟩ := own_kept (pre := []) hw
    obtain ⟨A, c, e⟩ := sl_cell hM
    exact ⟨A, c, (List.cons.inj e).1⟩
  subst e2
  refine RW.take [1, 2, 0] ?_
  repeat (first|refine Ja ?_|refine Jb ?_|refine Jc ?_|refine Jd ?_|refine Je ?_|refine Jf ?_|refine Jg ?_|refine Jh ?_|refine Ji ?_|refine Jj ?_|refine Jk ?_|refine Jl ?_|refine Jm ?_|refine Jn ?_|refine Jo ?_|refine Jp ?_|refine Jq ?_|refine Jr ?_|refine Js ?_|refine Jt ?_|refine Ju ?_|refine Jv ?_|refine Jw ?_|refine Jx ?_|refine Jy ?_|refine Jz ?_|refine JA ?_|refine JB ?_|refine JC ?_|refine JD ?_|refine JE ?_|refine JF ?_|refine JG ?_|refine JH ?_|refine JI ?_|refine JJ ?_|refine JK ?_|refine JL ?_|refine JM ?_|refine CW.skip (PW.code ?_)|refine RW.nil (PW.code ?_))
  refine RW.store_blk [] rfl rfl rfl rfl rfl (by show 2 < 4; omega) ?_
  refine RW.change [] (blk b1 [.string x.1, .int .i64 x.2.1, .slice D2 (x.2.2.1).length d2, .slice A2 (x.2.2.2).length c2] 95) (fun w F hp => hp) ?_
  repeat (first|refine Ja ?_|refine Jb ?_|refine Jc ?_|refine Jd ?_|refine Je ?_|refine Jf ?_|refine Jg ?_|refine Jh ?_|refine Ji ?_|refine Jj ?_|refine Jk ?_|refine Jl ?_|refine Jm ?_|refine Jn ?_|refine Jo ?_|refine Jp ?_|refine Jq ?_|refine Jr ?_|refine Js ?_|refine Jt ?_|refine Ju ?_|refine Jv ?_|refine Jw ?_|refine Jx ?_|refine Jy ?_|refine Jz ?_|refine JA ?_|refine JB ?_|refine JC ?_|refine JD ?_|refine JE ?_|refine JF ?_|refine JG ?_|refine JH ?_|refine JI ?_|refine JJ ?_|refine JK ?_|refine JL ?_|refine JM ?_|refine CW.skip (PW.code ?_)|refine RW.nil (PW.code ?_))
  refine RW.callN Try.call113 rfl (fun w2 hw => copyInts_ret (h3.mono (ro_call hw))) rfl fun v3 => ?_
  refine RW.have_ (φ := ∃ B d, v3 = .slice B (x.2.2.2).length d) (fun w hw => ?_) (fun ⟨D3, d3, e3⟩ => ?_)
  · obtain ⟨M, hM⟩ := own_kept (pre := []) hw
    obtain ⟨A, c, e⟩ := sl_cell hM
    exact ⟨A, c, (List.cons.inj e).1⟩
  subst e3
  refine RW.take [1, 2, 3, 0] ?_
  repeat (first|refine Ja ?_|refine Jb ?_|refine Jc ?_|refine Jd ?_|refine Je ?_|refine Jf ?_|refine Jg ?_|refine Jh ?_|refine Ji ?_|refine Jj ?_|refine Jk ?_|refine Jl ?_|refine Jm ?_|refine Jn ?_|refine Jo ?_|refine Jp ?_|refine Jq ?_|refine Jr ?_|refine Js ?_|refine Jt ?_|refine Ju ?_|refine Jv ?_|refine Jw ?_|refine Jx ?_|refine Jy ?_|refine Jz ?_|refine JA ?_|refine JB ?_|refine JC ?_|refine JD ?_|refine JE ?_|refine JF ?_|refine JG ?_|refine JH ?_|refine JI ?_|refine JJ ?_|refine JK ?_|refine JL ?_|refine JM ?_|refine CW.skip (PW.code ?_)|refine RW.nil (PW.code ?_))
  refine RW.store_blk [] rfl rfl rfl rfl rfl (by show 3 < 4; omega) ?_
  refine RW.change [] (blk b1 [.string x.1, .int .i64 x.2.1, .slice D2 (x.2.2.1).length d2, .slice D3 (x.2.2.2).length d3] 95) (fun w F hp => hp) ?_
  repeat (first|refine Ja ?_|refine Jb ?_|refine Jc ?_|refine Jd ?_|refine Je ?_|refine Jf ?_|refine Jg ?_|refine Jh ?_|refine Ji ?_|refine Jj ?_|refine Jk ?_|refine Jl ?_|refine Jm ?_|refine Jn ?_|refine Jo ?_|refine Jp ?_|refine Jq ?_|refine Jr ?_|refine Js ?_|refine Jt ?_|refine Ju ?_|refine Jv ?_|refine Jw ?_|refine Jx ?_|refine Jy ?_|refine Jz ?_|refine JA ?_|refine JB ?_|refine JC ?_|refine JD ?_|refine JE ?_|refine JF ?_|refine JG ?_|refine JH ?_|refine JI ?_|refine JJ ?_|refine JK ?_|refine JL ?_|refine JM ?_|refine CW.skip (PW.code ?_)|refine RW.nil (PW.code ?_))
  refine RW.store_whole [_] rfl rfl (vs := [.string x.1, .int .i64 x.2.1, .slice D2 (x.2.2.1).length d2, .slice D3 (x.2.2.2).length d3]) rfl rfl rfl (by simp [Value.oneCell']) ?_
  repeat (first|refine Ja ?_|refine Jb ?_|refine Jc ?_|refine Jd ?_|refine Je ?_|refine Jf ?_|refine Jg ?_|refine Jh ?_|refine Ji ?_|refine Jj ?_|refine Jk ?_|refine Jl ?_|refine Jm ?_|refine Jn ?_|refine Jo ?_|refine Jp ?_|refine Jq ?_|refine Jr ?_|refine Js ?_|refine Jt ?_|refine Ju ?_|refine Jv ?_|refine Jw ?_|refine Jx ?_|refine Jy ?_|refine Jz ?_|refine JA ?_|refine JB ?_|refine JC ?_|refine JD ?_|refine JE ?_|refine JF ?_|refine JG ?_|refine JH ?_|refine JI ?_|refine JJ ?_|refine JK ?_|refine JL ?_|refine JM ?_|refine CW.skip (PW.code ?_)|refine RW.nil (PW.code ?_))
  refine CW.rets (rs := [.cell 2 95]) (vs := [_]) rfl Try.results104 rfl (ResOK.cell [_] rfl rfl rfl ResOK.nil) fun w hw => ⟨[.string x.1, .int .i64 x.2.1, .slice D2 (x.2.2.1).length d2, .slice D3 (x.2.2.2).length d3], rfl, ?_⟩
  exact St.sep_map (hw.take [2, 3]) (fun w A h => pr_close (Sep.addp (own_str_pure p0) (pr_close (Sep.addp (own_int_pure p1) (pr_close (Sep.cons_perm (fun A h => h) h))))))
set_option maxHeartbeats 4000000 in
theorem copyPreds_ret {A : Option Addr} {c : Nat} {xs : List kPredT.V} {w : World} (h : Rd (.sl 72 kPredT) (mem w (fun b => ¬ No b)) [.slice A xs.length c] xs) : RetC Try.prog 91 [.slice A xs.length c] w No (fun v : Value => v) (fun v => [ownDHP (.sl 72 kPredT) [v] xs]) := by
  have hsm := sl_small h
  have hsm2 := hsm
  unfold reach at hsm
  have hle : Mem.le (mem w (fun b => ¬ No b)) (mem w (fun b => ¬ No b)) := Mem.le_refl _
  refine Calls.enter Try.func91 rfl _ rfl rfl (S := No) (H := []) trivial ?_
  refine CW.add_ (elemsHP none kPredT [] []) (fun w _ => elems_nil) ?_
  refine CW.add_ (ownHP 95 4 (.slice none 0 0) []) (fun w _ => .inl ⟨rfl, rfl⟩) ?_
  repeat (first|refine Ja ?_|refine Jb ?_|refine Jc ?_|refine Jd ?_|refine Je ?_|refine Jf ?_|refine Jg ?_|refine Jh ?_|refine Ji ?_|refine Jj ?_|refine Jk ?_|refine Jl ?_|refine Jm ?_|refine Jn ?_|refine Jo ?_|refine Jp ?_|refine Jq ?_|refine Jr ?_|refine Js ?_|refine Jt ?_|refine Ju ?_|refine Jv ?_|refine Jw ?_|refine Jx ?_|refine Jy ?_|refine Jz ?_|refine JA ?_|refine JB ?_|refine JC ?_|refine JD ?_|refine JE ?_|refine JF ?_|refine JG ?_|refine JH ?_|refine JI ?_|refine JJ ?_|refine JK ?_|refine JL ?_|refine JM ?_|refine CW.skip (PW.code ?_)|refine RW.nil (PW.code ?_))
  refine CW.seq ?_
  repeat (first|refine Ja ?_|refine Jb ?_|refine Jc ?_|refine Jd ?_|refine Je ?_|refine Jf ?_|refine Jg ?_|refine Jh ?_|refine Ji ?_|refine Jj ?_|refine Jk ?_|refine Jl ?_|refine Jm ?_|refine Jn ?_|refine Jo ?_|refine Jp ?_|refine Jq ?_|refine Jr ?_|refine Js ?_|refine Jt ?_|refine Ju ?_|refine Jv ?_|refine Jw ?_|refine Jx ?_|refine Jy ?_|refine Jz ?_|refine JA ?_|refine JB ?_|refine JC ?_|refine JD ?_|refine JE ?_|refine JF ?_|refine JG ?_|refine JH ?_|refine JI ?_|refine JJ ?_|refine JK ?_|refine JL ?_|refine JM ?_|refine CW.skip (PW.code ?_)|refine RW.nil (PW.code ?_))
  refine CW.block ?_
  refine CW.loop (ι := { q : Nat × Value × List (List Value) // q.1 ≤ xs.length ∧ q.2.2.length = q.1 }) (fun q => [(0, .slice A xs.length c), (3, q.1.2.1), (4, .int .i64 q.1.1)]) (fun q => [ownHP 95 4 q.1.2.1 q.1.2.2, elemsHP none kPredT q.1.2.2 (xs.take q.1.1)]) (fun q => xs.length - q.1.1) ⟨(0, .slice none 0 0, []), Nat.zero_le _, rfl⟩ ⟨rfl, rfl, rfl, trivial⟩ (fun h => h) ?_
  intro ⟨⟨j, v, es⟩, hj, hel⟩
  dsimp only at hj hel ⊢
  refine CW.seq ?_
  repeat (first|refine Ja ?_|refine Jb ?_|refine Jc ?_|refine Jd ?_|refine Je ?_|refine Jf ?_|refine Jg ?_|refine Jh ?_|refine Ji ?_|refine Jj ?_|refine Jk ?_|refine Jl ?_|refine Jm ?_|refine Jn ?_|refine Jo ?_|refine Jp ?_|refine Jq ?_|refine Jr ?_|refine Js ?_|refine Jt ?_|refine Ju ?_|refine Jv ?_|refine Jw ?_|refine Jx ?_|refine Jy ?_|refine Jz ?_|refine JA ?_|refine JB ?_|refine JC ?_|refine JD ?_|refine JE ?_|refine JF ?_|refine JG ?_|refine JH ?_|refine JI ?_|refine JJ ?_|refine JK ?_|refine JL ?_|refine JM ?_|refine CW.skip (PW.code ?_)|refine RW.nil (PW.code ?_))
  refine CW.ite rfl (fun hlt => ?_) (fun hge => ?_)
  rotate_left
  · have hge' : xs.length ≤ j := by simpa using hge
    rw [List.take_of_length_le hge']
    refine CW.exit rfl ?_
    refine PW.code ?_
    repeat (first|refine Ja ?_|refine Jb ?_|refine Jc ?_|refine Jd ?_|refine Je ?_|refine Jf ?_|refine Jg ?_|refine Jh ?_|refine Ji ?_|refine Jj ?_|refine Jk ?_|refine Jl ?_|refine Jm ?_|refine Jn ?_|refine Jo ?_|refine Jp ?_|refine Jq ?_|refine Jr ?_|refine Js ?_|refine Jt ?_|refine Ju ?_|refine Jv ?_|refine Jw ?_|refine Jx ?_|refine Jy ?_|refine Jz ?_|refine JA ?_|refine JB ?_|refine JC ?_|refine JD ?_|refine JE ?_|refine JF ?_|refine JG ?_|refine JH ?_|refine JI ?_|refine JJ ?_|refine JK ?_|refine JL ?_|refine JM ?_|refine CW.skip (PW.code ?_)|refine RW.nil (PW.code ?_))
    exact CW.ret1 rfl Try.results91 rfl rfl fun w hw => ⟨v, rfl, St.sep_map hw (fun w A h => slice_close rfl hsm2 h)⟩
  have hlt' : j < xs.length := by simpa using hlt
  obtain ⟨B1, O1, cs, hA, hl1, hr, hm⟩ := sl_get h (List.getElem?_eq_getElem hlt')
  have hts : xs.take (j + 1) = xs.take j ++ [xs[j]] := List.take_succ_eq_append_getElem hlt'
  generalize hx : xs[j] = x at *
  refine CW.skip ?_
  refine PW.code ?_
  refine CW.seq ?_
  refine CW.block ?_
  refine CW.region ?_
  repeat (first|refine Ja ?_|refine Jb ?_|refine Jc ?_|refine Jd ?_|refine Je ?_|refine Jf ?_|refine Jg ?_|refine Jh ?_|refine Ji ?_|refine Jj ?_|refine Jk ?_|refine Jl ?_|refine Jm ?_|refine Jn ?_|refine Jo ?_|refine Jp ?_|refine Jq ?_|refine Jr ?_|refine Js ?_|refine Jt ?_|refine Ju ?_|refine Jv ?_|refine Jw ?_|refine Jx ?_|refine Jy ?_|refine Jz ?_|refine JA ?_|refine JB ?_|refine JC ?_|refine JD ?_|refine JE ?_|refine JF ?_|refine JG ?_|refine JH ?_|refine JI ?_|refine JJ ?_|refine JK ?_|refine JL ?_|refine JM ?_|refine CW.skip (PW.code ?_)|refine RW.nil (PW.code ?_))
  refine RW.indexAddrE hA rfl rfl (by omega) hlt rfl ?_
  refine RW.load_ros rfl hle hm rfl hl1 (by rw [hl1]; decide) rfl ?_
  refine RW.callN Try.call104 rfl (fun w2 hw => copyPred_ret (hr.mono (ro_call hw))) rfl fun cs2 => ?_
  refine RW.have_ (φ := ∃ B1 d1 B2 d2, cs2 = [.string x.1, .int .i64 x.2.1, .slice B1 (x.2.2.1).length d1, .slice B2 (x.2.2.2).length d2]) (fun w hw => ?_) (fun ⟨B1, d1, B2, d2, e1⟩ => ?_)
  · obtain ⟨M, hM⟩ := own_kept (pre := []) hw
    obtain ⟨A1, c1, A2, c2, e, _⟩ := Rd.predT hM
    exact ⟨_, _, _, _, e⟩
  subst e1
  refine RW.buildSlice (e := 95) (c := [.string x.1, .int .i64 x.2.1, .slice B1 (x.2.2.1).length d1, .slice B2 (x.2.2.2).length d2]) rfl (fun w => by kernel_rfl) rfl fun b16 _ => ?_
  refine RW.append [_, _] (e := 95) (sz := 4) (news := [[.string x.1, .int .i64 x.2.1, .slice B1 (x.2.2.1).length d1, .slice B2 (x.2.2.2).length d2]]) (zc := [.string ByteArray.empty, .int .i64 0, .slice none 0 0, .slice none 0 0]) rfl rfl rfl rfl rfl (by simp) (by simp [Value.oneCell']) (fun w hw hn => ?_) ?_ ?_ rfl fun v' => ?_
  · exact ⟨b16, 0, rfl, CellsAt.of_blk (St.blk (pre := []) hw)⟩
  · rw [hel]; omega
  · rw [hel]; unfold maxN; omega
  refine RW.take [2, 3, 1] ?_
  refine RW.sep [ownHP 95 4 v' (es ++ [[.string x.1, .int .i64 x.2.1, .slice B1 (x.2.2.1).length d1, .slice B2 (x.2.2.2).length d2]]), elemsHP none kPredT (es ++ [[.string x.1, .int .i64 x.2.1, .slice B1 (x.2.2.1).length d1, .slice B2 (x.2.2.2).length d2]]) (xs.take j ++ [x])] (fun w A h => ?_) ?_
  · exact Sep.cons_perm (r := [elemsHP none kPredT es (xs.take j), ownDHP kPredT [.string x.1, .int .i64 x.2.1, .slice B1 (x.2.2.1).length d1, .slice B2 (x.2.2.2).length d2] x]) (fun A h => elems_append h) h
  rw [← hts]
  repeat (first|refine Ja ?_|refine Jb ?_|refine Jc ?_|refine Jd ?_|refine Je ?_|refine Jf ?_|refine Jg ?_|refine Jh ?_|refine Ji ?_|refine Jj ?_|refine Jk ?_|refine Jl ?_|refine Jm ?_|refine Jn ?_|refine Jo ?_|refine Jp ?_|refine Jq ?_|refine Jr ?_|refine Js ?_|refine Jt ?_|refine Ju ?_|refine Jv ?_|refine Jw ?_|refine Jx ?_|refine Jy ?_|refine Jz ?_|refine JA ?_|refine JB ?_|refine JC ?_|refine JD ?_|refine JE ?_|refine JF ?_|refine JG ?_|refine JH ?_|refine JI ?_|refine JJ ?_|refine JK ?_|refine JL ?_|refine JM ?_|refine CW.skip (PW.code ?_)|refine RW.nil (PW.code ?_))
  refine CW.region ?_
  repeat (first|refine Ja ?_|refine Jb ?_|refine Jc ?_|refine Jd ?_|refine Je ?_|refine Jf ?_|refine Jg ?_|refine Jh ?_|refine Ji ?_|refine Jj ?_|refine Jk ?_|refine Jl ?_|refine Jm ?_|refine Jn ?_|refine Jo ?_|refine Jp ?_|refine Jq ?_|refine Jr ?_|refine Js ?_|refine Jt ?_|refine Ju ?_|refine Jv ?_|refine Jw ?_|refine Jx ?_|refine Jy ?_|refine Jz ?_|refine JA ?_|refine JB ?_|refine JC ?_|refine JD ?_|refine JE ?_|refine JF ?_|refine JG ?_|refine JH ?_|refine JI ?_|refine JJ ?_|refine JK ?_|refine JL ?_|refine JM ?_|refine CW.skip (PW.code ?_)|refine RW.nil (PW.code ?_))
  refine RW.add rfl rfl (w64 (by omega) (by omega)) rfl ?_
  repeat (first|refine Ja ?_|refine Jb ?_|refine Jc ?_|refine Jd ?_|refine Je ?_|refine Jf ?_|refine Jg ?_|refine Jh ?_|refine Ji ?_|refine Jj ?_|refine Jk ?_|refine Jl ?_|refine Jm ?_|refine Jn ?_|refine Jo ?_|refine Jp ?_|refine Jq ?_|refine Jr ?_|refine Js ?_|refine Jt ?_|refine Ju ?_|refine Jv ?_|refine Jw ?_|refine Jx ?_|refine Jy ?_|refine Jz ?_|refine JA ?_|refine JB ?_|refine JC ?_|refine JD ?_|refine JE ?_|refine JF ?_|refine JG ?_|refine JH ?_|refine JI ?_|refine JJ ?_|refine JK ?_|refine JL ?_|refine JM ?_|refine CW.skip (PW.code ?_)|refine RW.nil (PW.code ?_))
  refine RW.nil ?_
  exact PW.again ⟨(j + 1, v', es ++ [[.string x.1, .int .i64 x.2.1, .slice B1 (x.2.2.1).length d1, .slice B2 (x.2.2.2).length d2]]), hlt', by rw [List.length_append, hel]; rfl⟩ ⟨rfl, rfl, rfl, trivial⟩ (fun h => h) (by show xs.length - (j + 1) < xs.length - j; omega)
set_option maxHeartbeats 4000000 in
theorem copyRule_ret {x : kRule.V} {cs : List Value} {w : World} (h : Rd kRule (mem w (fun b => ¬ No b)) cs x) : RetC Try.prog 105 [.agg cs.toArray] w No (fun cs' : List Value => .agg cs'.toArray) (fun cs' => [ownDHP kRule cs' x]) := by
  obtain ⟨_, _, _, f0, _, _, _, f1, _, _, _, f2, _, _, _, f3, _, _, _, f4, _, _, _, f5, f6⟩ := id h
  obtain ⟨A1, c1, A2, c2, rfl, h4, h6⟩ := Rd.ruleT h
  have p0 := f0.2
  have p1 := f1.2
  have p2 := f2.2
  have p3 := f3.2
  have p5 := f5.2
  clear h
  refine Calls.enter Try.func105 rfl _ rfl rfl (S := No) (H := []) trivial ?_
  refine CW.seqR ?_
  refine RW.box_agg (l := [.string x.1, .string x.2.1, .int .i64 x.2.2.1, .int .i64 x.2.2.2.1, .slice A1 (x.2.2.2.2.1).length c1, .int .i64 x.2.2.2.2.2.1, .bool x.2.2.2.2.2.2.1, .string x.2.2.2.2.2.2.2.1, .slice A2 (x.2.2.2.2.2.2.2.2.1).length c2, .bool x.2.2.2.2.2.2.2.2.2.1, .int .i64 x.2.2.2.2.2.2.2.2.2.2]) rfl rfl fun b1 _ => ?_
  refine RW.alloc (c := [.string ByteArray.empty, .string ByteArray.empty, .int .i64 0, .int .i64 0, .slice none 0 0, .int .i64 0, .bool false, .string ByteArray.empty, .slice none 0 0, .bool false, .int .i64 0]) rfl rfl fun b2 _ => ?_
  refine RW.take [1, 0] ?_
  repeat (first|refine Ja ?_|refine Jb ?_|refine Jc ?_|refine Jd ?_|refine Je ?_|refine Jf ?_|refine Jg ?_|refine Jh ?_|refine Ji ?_|refine Jj ?_|refine Jk ?_|refine Jl ?_|refine Jm ?_|refine Jn ?_|refine Jo ?_|refine Jp ?_|refine Jq ?_|refine Jr ?_|refine Js ?_|refine Jt ?_|refine Ju ?_|refine Jv ?_|refine Jw ?_|refine Jx ?_|refine Jy ?_|refine Jz ?_|refine JA ?_|refine JB ?_|refine JC ?_|refine JD ?_|refine JE ?_|refine JF ?_|refine JG ?_|refine JH ?_|refine JI ?_|refine JJ ?_|refine JK ?_|refine JL ?_|refine JM ?_|refine CW.skip (PW.code ?_)|refine RW.nil (PW.code ?_))
  refine RW.callN Try.call114 rfl (fun w2 hw => copyPrems_ret (h4.mono (ro_call hw))) rfl fun v4 => ?_
  refine RW.have_ (φ := ∃ B d, v4 = .slice B (x.2.2.2.2.1).length d) (fun w hw => ?_) (fun ⟨D4, d4, e4⟩ => ?_)
  · obtain ⟨M, hM⟩ := own_kept (pre := []) hw
    obtain ⟨A, c, e⟩ := sl_cell hM
    exact ⟨A, c, (List.cons.inj e).1⟩
  subst e4
  refine RW.take [1, 2, 0] ?_
  repeat (first|refine Ja ?_|refine Jb ?_|refine Jc ?_|refine Jd ?_|refine Je ?_|refine Jf ?_|refine Jg ?_|refine Jh ?_|refine Ji ?_|refine Jj ?_|refine Jk ?_|refine Jl ?_|refine Jm ?_|refine Jn ?_|refine Jo ?_|refine Jp ?_|refine Jq ?_|refine Jr ?_|refine Js ?_|refine Jt ?_|refine Ju ?_|refine Jv ?_|refine Jw ?_|refine Jx ?_|refine Jy ?_|refine Jz ?_|refine JA ?_|refine JB ?_|refine JC ?_|refine JD ?_|refine JE ?_|refine JF ?_|refine JG ?_|refine JH ?_|refine JI ?_|refine JJ ?_|refine JK ?_|refine JL ?_|refine JM ?_|refine CW.skip (PW.code ?_)|refine RW.nil (PW.code ?_))
  refine RW.store_blk [] rfl rfl rfl rfl rfl (by show 4 < 11; omega) ?_
  refine RW.change [] (blk b1 [.string x.1, .string x.2.1, .int .i64 x.2.2.1, .int .i64 x.2.2.2.1, .slice D4 (x.2.2.2.2.1).length d4, .int .i64 x.2.2.2.2.2.1, .bool x.2.2.2.2.2.2.1, .string x.2.2.2.2.2.2.2.1, .slice A2 (x.2.2.2.2.2.2.2.2.1).length c2, .bool x.2.2.2.2.2.2.2.2.2.1, .int .i64 x.2.2.2.2.2.2.2.2.2.2] 56) (fun w F hp => hp) ?_
  repeat (first|refine Ja ?_|refine Jb ?_|refine Jc ?_|refine Jd ?_|refine Je ?_|refine Jf ?_|refine Jg ?_|refine Jh ?_|refine Ji ?_|refine Jj ?_|refine Jk ?_|refine Jl ?_|refine Jm ?_|refine Jn ?_|refine Jo ?_|refine Jp ?_|refine Jq ?_|refine Jr ?_|refine Js ?_|refine Jt ?_|refine Ju ?_|refine Jv ?_|refine Jw ?_|refine Jx ?_|refine Jy ?_|refine Jz ?_|refine JA ?_|refine JB ?_|refine JC ?_|refine JD ?_|refine JE ?_|refine JF ?_|refine JG ?_|refine JH ?_|refine JI ?_|refine JJ ?_|refine JK ?_|refine JL ?_|refine JM ?_|refine CW.skip (PW.code ?_)|refine RW.nil (PW.code ?_))
  refine RW.load_part5 [] rfl rfl rfl rfl ?_
  refine RW.callN Try.call115 rfl (fun w2 hw => copyLit_ret (h6.mono (ro_call hw))) rfl fun v6 => ?_
  refine RW.have_ (φ := ∃ B3 d3, v6 = [.bool x.2.2.2.2.2.2.1, .string x.2.2.2.2.2.2.2.1, .slice B3 (x.2.2.2.2.2.2.2.2.1).length d3, .bool x.2.2.2.2.2.2.2.2.2.1, .int .i64 x.2.2.2.2.2.2.2.2.2.2]) (fun w hw => ?_) (fun ⟨B3, d3, e6⟩ => ?_)
  · obtain ⟨M, hM⟩ := own_kept (pre := []) hw
    obtain ⟨A3, c3, e, _⟩ := Rd.litT hM
    exact ⟨_, _, e⟩
  subst e6
  refine RW.take [1, 2, 3, 0] ?_
  repeat (first|refine Ja ?_|refine Jb ?_|refine Jc ?_|refine Jd ?_|refine Je ?_|refine Jf ?_|refine Jg ?_|refine Jh ?_|refine Ji ?_|refine Jj ?_|refine Jk ?_|refine Jl ?_|refine Jm ?_|refine Jn ?_|refine Jo ?_|refine Jp ?_|refine Jq ?_|refine Jr ?_|refine Js ?_|refine Jt ?_|refine Ju ?_|refine Jv ?_|refine Jw ?_|refine Jx ?_|refine Jy ?_|refine Jz ?_|refine JA ?_|refine JB ?_|refine JC ?_|refine JD ?_|refine JE ?_|refine JF ?_|refine JG ?_|refine JH ?_|refine JI ?_|refine JJ ?_|refine JK ?_|refine JL ?_|refine JM ?_|refine CW.skip (PW.code ?_)|refine RW.nil (PW.code ?_))
  refine RW.store_part [] rfl rfl (vs := [.bool x.2.2.2.2.2.2.1, .string x.2.2.2.2.2.2.2.1, .slice B3 (x.2.2.2.2.2.2.2.2.1).length d3, .bool x.2.2.2.2.2.2.2.2.2.1, .int .i64 x.2.2.2.2.2.2.2.2.2.2]) rfl rfl (by simp [Value.oneCell']) (by show 6 + 5 ≤ 11; omega) ?_
  refine RW.change [] (blk b1 [.string x.1, .string x.2.1, .int .i64 x.2.2.1, .int .i64 x.2.2.2.1, .slice D4 (x.2.2.2.2.1).length d4, .int .i64 x.2.2.2.2.2.1, .bool x.2.2.2.2.2.2.1, .string x.2.2.2.2.2.2.2.1, .slice B3 (x.2.2.2.2.2.2.2.2.1).length d3, .bool x.2.2.2.2.2.2.2.2.2.1, .int .i64 x.2.2.2.2.2.2.2.2.2.2] 56) (fun w F hp => hp) ?_
  repeat (first|refine Ja ?_|refine Jb ?_|refine Jc ?_|refine Jd ?_|refine Je ?_|refine Jf ?_|refine Jg ?_|refine Jh ?_|refine Ji ?_|refine Jj ?_|refine Jk ?_|refine Jl ?_|refine Jm ?_|refine Jn ?_|refine Jo ?_|refine Jp ?_|refine Jq ?_|refine Jr ?_|refine Js ?_|refine Jt ?_|refine Ju ?_|refine Jv ?_|refine Jw ?_|refine Jx ?_|refine Jy ?_|refine Jz ?_|refine JA ?_|refine JB ?_|refine JC ?_|refine JD ?_|refine JE ?_|refine JF ?_|refine JG ?_|refine JH ?_|refine JI ?_|refine JJ ?_|refine JK ?_|refine JL ?_|refine JM ?_|refine CW.skip (PW.code ?_)|refine RW.nil (PW.code ?_))
  refine RW.store_whole [_] rfl rfl (vs := [.string x.1, .string x.2.1, .int .i64 x.2.2.1, .int .i64 x.2.2.2.1, .slice D4 (x.2.2.2.2.1).length d4, .int .i64 x.2.2.2.2.2.1, .bool x.2.2.2.2.2.2.1, .string x.2.2.2.2.2.2.2.1, .slice B3 (x.2.2.2.2.2.2.2.2.1).length d3, .bool x.2.2.2.2.2.2.2.2.2.1, .int .i64 x.2.2.2.2.2.2.2.2.2.2]) rfl rfl rfl (by simp [Value.oneCell']) ?_
  repeat (first|refine Ja ?_|refine Jb ?_|refine Jc ?_|refine Jd ?_|refine Je ?_|refine Jf ?_|refine Jg ?_|refine Jh ?_|refine Ji ?_|refine Jj ?_|refine Jk ?_|refine Jl ?_|refine Jm ?_|refine Jn ?_|refine Jo ?_|refine Jp ?_|refine Jq ?_|refine Jr ?_|refine Js ?_|refine Jt ?_|refine Ju ?_|refine Jv ?_|refine Jw ?_|refine Jx ?_|refine Jy ?_|refine Jz ?_|refine JA ?_|refine JB ?_|refine JC ?_|refine JD ?_|refine JE ?_|refine JF ?_|refine JG ?_|refine JH ?_|refine JI ?_|refine JJ ?_|refine JK ?_|refine JL ?_|refine JM ?_|refine CW.skip (PW.code ?_)|refine RW.nil (PW.code ?_))
  refine CW.rets (rs := [.cell 2 56]) (vs := [_]) rfl Try.results105 rfl (ResOK.cell [_] rfl rfl rfl ResOK.nil) fun w hw => ⟨[.string x.1, .string x.2.1, .int .i64 x.2.2.1, .int .i64 x.2.2.2.1, .slice D4 (x.2.2.2.2.1).length d4, .int .i64 x.2.2.2.2.2.1, .bool x.2.2.2.2.2.2.1, .string x.2.2.2.2.2.2.2.1, .slice B3 (x.2.2.2.2.2.2.2.2.1).length d3, .bool x.2.2.2.2.2.2.2.2.2.1, .int .i64 x.2.2.2.2.2.2.2.2.2.2], rfl, ?_⟩
  exact St.sep_map (hw.take [2, 3]) (fun w A h => pr_close (Sep.addp (own_str_pure p0) (pr_close (Sep.addp (own_str_pure p1) (pr_close (Sep.addp (own_int_pure p2) (pr_close (Sep.addp (own_int_pure p3) (pr_close (Sep.cons_perm (fun A h => pr_close (Sep.addp (own_int_pure p5) (h))) h))))))))))
set_option maxHeartbeats 4000000 in
theorem copyRules_ret {A : Option Addr} {c : Nat} {xs : List kRule.V} {w : World} (h : Rd (.sl 144 kRule) (mem w (fun b => ¬ No b)) [.slice A xs.length c] xs) : RetC Try.prog 94 [.slice A xs.length c] w No (fun v : Value => v) (fun v => [ownDHP (.sl 144 kRule) [v] xs]) := by
  have hsm := sl_small h
  have hsm2 := hsm
  unfold reach at hsm
  have hle : Mem.le (mem w (fun b => ¬ No b)) (mem w (fun b => ¬ No b)) := Mem.le_refl _
  refine Calls.enter Try.func94 rfl _ rfl rfl (S := No) (H := []) trivial ?_
  refine CW.add_ (elemsHP none kRule [] []) (fun w _ => elems_nil) ?_
  refine CW.add_ (ownHP 56 11 (.slice none 0 0) []) (fun w _ => .inl ⟨rfl, rfl⟩) ?_
  repeat (first|refine Ja ?_|refine Jb ?_|refine Jc ?_|refine Jd ?_|refine Je ?_|refine Jf ?_|refine Jg ?_|refine Jh ?_|refine Ji ?_|refine Jj ?_|refine Jk ?_|refine Jl ?_|refine Jm ?_|refine Jn ?_|refine Jo ?_|refine Jp ?_|refine Jq ?_|refine Jr ?_|refine Js ?_|refine Jt ?_|refine Ju ?_|refine Jv ?_|refine Jw ?_|refine Jx ?_|refine Jy ?_|refine Jz ?_|refine JA ?_|refine JB ?_|refine JC ?_|refine JD ?_|refine JE ?_|refine JF ?_|refine JG ?_|refine JH ?_|refine JI ?_|refine JJ ?_|refine JK ?_|refine JL ?_|refine JM ?_|refine CW.skip (PW.code ?_)|refine RW.nil (PW.code ?_))
  refine CW.seq ?_
  repeat (first|refine Ja ?_|refine Jb ?_|refine Jc ?_|refine Jd ?_|refine Je ?_|refine Jf ?_|refine Jg ?_|refine Jh ?_|refine Ji ?_|refine Jj ?_|refine Jk ?_|refine Jl ?_|refine Jm ?_|refine Jn ?_|refine Jo ?_|refine Jp ?_|refine Jq ?_|refine Jr ?_|refine Js ?_|refine Jt ?_|refine Ju ?_|refine Jv ?_|refine Jw ?_|refine Jx ?_|refine Jy ?_|refine Jz ?_|refine JA ?_|refine JB ?_|refine JC ?_|refine JD ?_|refine JE ?_|refine JF ?_|refine JG ?_|refine JH ?_|refine JI ?_|refine JJ ?_|refine JK ?_|refine JL ?_|refine JM ?_|refine CW.skip (PW.code ?_)|refine RW.nil (PW.code ?_))
  refine CW.block ?_
  refine CW.loop (ι := { q : Nat × Value × List (List Value) // q.1 ≤ xs.length ∧ q.2.2.length = q.1 }) (fun q => [(0, .slice A xs.length c), (3, q.1.2.1), (4, .int .i64 q.1.1)]) (fun q => [ownHP 56 11 q.1.2.1 q.1.2.2, elemsHP none kRule q.1.2.2 (xs.take q.1.1)]) (fun q => xs.length - q.1.1) ⟨(0, .slice none 0 0, []), Nat.zero_le _, rfl⟩ ⟨rfl, rfl, rfl, trivial⟩ (fun h => h) ?_
  intro ⟨⟨j, v, es⟩, hj, hel⟩
  dsimp only at hj hel ⊢
  refine CW.seq ?_
  repeat (first|refine Ja ?_|refine Jb ?_|refine Jc ?_|refine Jd ?_|refine Je ?_|refine Jf ?_|refine Jg ?_|refine Jh ?_|refine Ji ?_|refine Jj ?_|refine Jk ?_|refine Jl ?_|refine Jm ?_|refine Jn ?_|refine Jo ?_|refine Jp ?_|refine Jq ?_|refine Jr ?_|refine Js ?_|refine Jt ?_|refine Ju ?_|refine Jv ?_|refine Jw ?_|refine Jx ?_|refine Jy ?_|refine Jz ?_|refine JA ?_|refine JB ?_|refine JC ?_|refine JD ?_|refine JE ?_|refine JF ?_|refine JG ?_|refine JH ?_|refine JI ?_|refine JJ ?_|refine JK ?_|refine JL ?_|refine JM ?_|refine CW.skip (PW.code ?_)|refine RW.nil (PW.code ?_))
  refine CW.ite rfl (fun hlt => ?_) (fun hge => ?_)
  rotate_left
  · have hge' : xs.length ≤ j := by simpa using hge
    rw [List.take_of_length_le hge']
    refine CW.exit rfl ?_
    refine PW.code ?_
    repeat (first|refine Ja ?_|refine Jb ?_|refine Jc ?_|refine Jd ?_|refine Je ?_|refine Jf ?_|refine Jg ?_|refine Jh ?_|refine Ji ?_|refine Jj ?_|refine Jk ?_|refine Jl ?_|refine Jm ?_|refine Jn ?_|refine Jo ?_|refine Jp ?_|refine Jq ?_|refine Jr ?_|refine Js ?_|refine Jt ?_|refine Ju ?_|refine Jv ?_|refine Jw ?_|refine Jx ?_|refine Jy ?_|refine Jz ?_|refine JA ?_|refine JB ?_|refine JC ?_|refine JD ?_|refine JE ?_|refine JF ?_|refine JG ?_|refine JH ?_|refine JI ?_|refine JJ ?_|refine JK ?_|refine JL ?_|refine JM ?_|refine CW.skip (PW.code ?_)|refine RW.nil (PW.code ?_))
    exact CW.ret1 rfl Try.results94 rfl rfl fun w hw => ⟨v, rfl, St.sep_map hw (fun w A h => slice_close rfl hsm2 h)⟩
  have hlt' : j < xs.length := by simpa using hlt
  obtain ⟨B1, O1, cs, hA, hl1, hr, hm⟩ := sl_get h (List.getElem?_eq_getElem hlt')
  have hts : xs.take (j + 1) = xs.take j ++ [xs[j]] := List.take_succ_eq_append_getElem hlt'
  generalize hx : xs[j] = x at *
  refine CW.skip ?_
  refine PW.code ?_
  refine CW.seq ?_
  refine CW.block ?_
  refine CW.region ?_
  repeat (first|refine Ja ?_|refine Jb ?_|refine Jc ?_|refine Jd ?_|refine Je ?_|refine Jf ?_|refine Jg ?_|refine Jh ?_|refine Ji ?_|refine Jj ?_|refine Jk ?_|refine Jl ?_|refine Jm ?_|refine Jn ?_|refine Jo ?_|refine Jp ?_|refine Jq ?_|refine Jr ?_|refine Js ?_|refine Jt ?_|refine Ju ?_|refine Jv ?_|refine Jw ?_|refine Jx ?_|refine Jy ?_|refine Jz ?_|refine JA ?_|refine JB ?_|refine JC ?_|refine JD ?_|refine JE ?_|refine JF ?_|refine JG ?_|refine JH ?_|refine JI ?_|refine JJ ?_|refine JK ?_|refine JL ?_|refine JM ?_|refine CW.skip (PW.code ?_)|refine RW.nil (PW.code ?_))
  refine RW.indexAddrE hA rfl rfl (by omega) hlt rfl ?_
  refine RW.load_ros rfl hle hm rfl hl1 (by rw [hl1]; decide) rfl ?_
  refine RW.callN Try.call105 rfl (fun w2 hw => copyRule_ret (hr.mono (ro_call hw))) rfl fun cs2 => ?_
  refine RW.have_ (φ := ∃ B1 d1 B2 d2, cs2 = [.string x.1, .string x.2.1, .int .i64 x.2.2.1, .int .i64 x.2.2.2.1, .slice B1 (x.2.2.2.2.1).length d1, .int .i64 x.2.2.2.2.2.1, .bool x.2.2.2.2.2.2.1, .string x.2.2.2.2.2.2.2.1, .slice B2 (x.2.2.2.2.2.2.2.2.1).length d2, .bool x.2.2.2.2.2.2.2.2.2.1, .int .i64 x.2.2.2.2.2.2.2.2.2.2]) (fun w hw => ?_) (fun ⟨B1, d1, B2, d2, e1⟩ => ?_)
  · obtain ⟨M, hM⟩ := own_kept (pre := []) hw
    obtain ⟨A1, c1, A2, c2, e, _⟩ := Rd.ruleT hM
    exact ⟨_, _, _, _, e⟩
  subst e1
  refine RW.buildSlice (e := 56) (c := [.string x.1, .string x.2.1, .int .i64 x.2.2.1, .int .i64 x.2.2.2.1, .slice B1 (x.2.2.2.2.1).length d1, .int .i64 x.2.2.2.2.2.1, .bool x.2.2.2.2.2.2.1, .string x.2.2.2.2.2.2.2.1, .slice B2 (x.2.2.2.2.2.2.2.2.1).length d2, .bool x.2.2.2.2.2.2.2.2.2.1, .int .i64 x.2.2.2.2.2.2.2.2.2.2]) rfl (fun w => by kernel_rfl) rfl fun b16 _ => ?_
  refine RW.append [_, _] (e := 56) (sz := 11) (news := [[.string x.1, .string x.2.1, .int .i64 x.2.2.1, .int .i64 x.2.2.2.1, .slice B1 (x.2.2.2.2.1).length d1, .int .i64 x.2.2.2.2.2.1, .bool x.2.2.2.2.2.2.1, .string x.2.2.2.2.2.2.2.1, .slice B2 (x.2.2.2.2.2.2.2.2.1).length d2, .bool x.2.2.2.2.2.2.2.2.2.1, .int .i64 x.2.2.2.2.2.2.2.2.2.2]]) (zc := [.string ByteArray.empty, .string ByteArray.empty, .int .i64 0, .int .i64 0, .slice none 0 0, .int .i64 0, .bool false, .string ByteArray.empty, .slice none 0 0, .bool false, .int .i64 0]) rfl rfl rfl rfl rfl (by simp) (by simp [Value.oneCell']) (fun w hw hn => ?_) ?_ ?_ rfl fun v' => ?_
  · exact ⟨b16, 0, rfl, CellsAt.of_blk (St.blk (pre := []) hw)⟩
  · rw [hel]; omega
  · rw [hel]; unfold maxN; omega
  refine RW.take [2, 3, 1] ?_
  refine RW.sep [ownHP 56 11 v' (es ++ [[.string x.1, .string x.2.1, .int .i64 x.2.2.1, .int .i64 x.2.2.2.1, .slice B1 (x.2.2.2.2.1).length d1, .int .i64 x.2.2.2.2.2.1, .bool x.2.2.2.2.2.2.1, .string x.2.2.2.2.2.2.2.1, .slice B2 (x.2.2.2.2.2.2.2.2.1).length d2, .bool x.2.2.2.2.2.2.2.2.2.1, .int .i64 x.2.2.2.2.2.2.2.2.2.2]]), elemsHP none kRule (es ++ [[.string x.1, .string x.2.1, .int .i64 x.2.2.1, .int .i64 x.2.2.2.1, .slice B1 (x.2.2.2.2.1).length d1, .int .i64 x.2.2.2.2.2.1, .bool x.2.2.2.2.2.2.1, .string x.2.2.2.2.2.2.2.1, .slice B2 (x.2.2.2.2.2.2.2.2.1).length d2, .bool x.2.2.2.2.2.2.2.2.2.1, .int .i64 x.2.2.2.2.2.2.2.2.2.2]]) (xs.take j ++ [x])] (fun w A h => ?_) ?_
  · exact Sep.cons_perm (r := [elemsHP none kRule es (xs.take j), ownDHP kRule [.string x.1, .string x.2.1, .int .i64 x.2.2.1, .int .i64 x.2.2.2.1, .slice B1 (x.2.2.2.2.1).length d1, .int .i64 x.2.2.2.2.2.1, .bool x.2.2.2.2.2.2.1, .string x.2.2.2.2.2.2.2.1, .slice B2 (x.2.2.2.2.2.2.2.2.1).length d2, .bool x.2.2.2.2.2.2.2.2.2.1, .int .i64 x.2.2.2.2.2.2.2.2.2.2] x]) (fun A h => elems_append h) h
  rw [← hts]
  repeat (first|refine Ja ?_|refine Jb ?_|refine Jc ?_|refine Jd ?_|refine Je ?_|refine Jf ?_|refine Jg ?_|refine Jh ?_|refine Ji ?_|refine Jj ?_|refine Jk ?_|refine Jl ?_|refine Jm ?_|refine Jn ?_|refine Jo ?_|refine Jp ?_|refine Jq ?_|refine Jr ?_|refine Js ?_|refine Jt ?_|refine Ju ?_|refine Jv ?_|refine Jw ?_|refine Jx ?_|refine Jy ?_|refine Jz ?_|refine JA ?_|refine JB ?_|refine JC ?_|refine JD ?_|refine JE ?_|refine JF ?_|refine JG ?_|refine JH ?_|refine JI ?_|refine JJ ?_|refine JK ?_|refine JL ?_|refine JM ?_|refine CW.skip (PW.code ?_)|refine RW.nil (PW.code ?_))
  refine CW.region ?_
  repeat (first|refine Ja ?_|refine Jb ?_|refine Jc ?_|refine Jd ?_|refine Je ?_|refine Jf ?_|refine Jg ?_|refine Jh ?_|refine Ji ?_|refine Jj ?_|refine Jk ?_|refine Jl ?_|refine Jm ?_|refine Jn ?_|refine Jo ?_|refine Jp ?_|refine Jq ?_|refine Jr ?_|refine Js ?_|refine Jt ?_|refine Ju ?_|refine Jv ?_|refine Jw ?_|refine Jx ?_|refine Jy ?_|refine Jz ?_|refine JA ?_|refine JB ?_|refine JC ?_|refine JD ?_|refine JE ?_|refine JF ?_|refine JG ?_|refine JH ?_|refine JI ?_|refine JJ ?_|refine JK ?_|refine JL ?_|refine JM ?_|refine CW.skip (PW.code ?_)|refine RW.nil (PW.code ?_))
  refine RW.add rfl rfl (w64 (by omega) (by omega)) rfl ?_
  repeat (first|refine Ja ?_|refine Jb ?_|refine Jc ?_|refine Jd ?_|refine Je ?_|refine Jf ?_|refine Jg ?_|refine Jh ?_|refine Ji ?_|refine Jj ?_|refine Jk ?_|refine Jl ?_|refine Jm ?_|refine Jn ?_|refine Jo ?_|refine Jp ?_|refine Jq ?_|refine Jr ?_|refine Js ?_|refine Jt ?_|refine Ju ?_|refine Jv ?_|refine Jw ?_|refine Jx ?_|refine Jy ?_|refine Jz ?_|refine JA ?_|refine JB ?_|refine JC ?_|refine JD ?_|refine JE ?_|refine JF ?_|refine JG ?_|refine JH ?_|refine JI ?_|refine JJ ?_|refine JK ?_|refine JL ?_|refine JM ?_|refine CW.skip (PW.code ?_)|refine RW.nil (PW.code ?_))
  refine RW.nil ?_
  exact PW.again ⟨(j + 1, v', es ++ [[.string x.1, .string x.2.1, .int .i64 x.2.2.1, .int .i64 x.2.2.2.1, .slice B1 (x.2.2.2.2.1).length d1, .int .i64 x.2.2.2.2.2.1, .bool x.2.2.2.2.2.2.1, .string x.2.2.2.2.2.2.2.1, .slice B2 (x.2.2.2.2.2.2.2.2.1).length d2, .bool x.2.2.2.2.2.2.2.2.2.1, .int .i64 x.2.2.2.2.2.2.2.2.2.2]]), hlt', by rw [List.length_append, hel]; rfl⟩ ⟨rfl, rfl, rfl, trivial⟩ (fun h => h) (by show xs.length - (j + 1) < xs.length - j; omega)
set_option maxHeartbeats 4000000 in
theorem copyTotal_ret {x : kTotal.V} {cs : List Value} {w : World} (h : Rd kTotal (mem w (fun b => ¬ No b)) cs x) : RetC Try.prog 106 [.agg cs.toArray] w No (fun cs' : List Value => .agg cs'.toArray) (fun cs' => [ownDHP kTotal cs' x]) := by
  obtain ⟨_, _, _, f0, _, _, _, f1, _, _, _, f2, _, _, _, f3, f4⟩ := id h
  obtain ⟨A1, c1, rfl, h2⟩ := Rd.totalT h
  have p0 := f0.2
  have p1 := f1.2
  have p4 := f4.2
  clear h
  refine Calls.enter Try.func106 rfl _ rfl rfl (S := No) (H := []) trivial ?_
  refine CW.seqR ?_
  refine RW.box_agg (l := [.string x.1, .string x.2.1, .slice A1 (x.2.2.1).length c1, .bool x.2.2.2.1, .int .i64 x.2.2.2.2]) rfl rfl fun b1 _ => ?_
  refine RW.alloc (c := [.string ByteArray.empty, .string ByteArray.empty, .slice none 0 0, .bool false, .int .i64 0]) rfl rfl fun b2 _ => ?_
  refine RW.take [1, 0] ?_
  repeat (first|refine Ja ?_|refine Jb ?_|refine Jc ?_|refine Jd ?_|refine Je ?_|refine Jf ?_|refine Jg ?_|refine Jh ?_|refine Ji ?_|refine Jj ?_|refine Jk ?_|refine Jl ?_|refine Jm ?_|refine Jn ?_|refine Jo ?_|refine Jp ?_|refine Jq ?_|refine Jr ?_|refine Js ?_|refine Jt ?_|refine Ju ?_|refine Jv ?_|refine Jw ?_|refine Jx ?_|refine Jy ?_|refine Jz ?_|refine JA ?_|refine JB ?_|refine JC ?_|refine JD ?_|refine JE ?_|refine JF ?_|refine JG ?_|refine JH ?_|refine JI ?_|refine JJ ?_|refine JK ?_|refine JL ?_|refine JM ?_|refine CW.skip (PW.code ?_)|refine RW.nil (PW.code ?_))
  refine RW.callN Try.call89 rfl (fun w2 hw => copyStrs_ret (h2.mono (ro_call hw))) rfl fun v2 => ?_
  refine RW.have_ (φ := ∃ B d, v2 = .slice B (x.2.2.1).length d) (fun w hw => ?_) (fun ⟨D2, d2, e2⟩ => ?_)
  · obtain ⟨M, hM⟩ := own_kept (pre := []) hw
    obtain ⟨A, c, e⟩ := sl_cell hM
    exact ⟨A, c, (List.cons.inj e).1⟩
  subst e2
  refine RW.take [1, 2, 0] ?_
  repeat (first|refine Ja ?_|refine Jb ?_|refine Jc ?_|refine Jd ?_|refine Je ?_|refine Jf ?_|refine Jg ?_|refine Jh ?_|refine Ji ?_|refine Jj ?_|refine Jk ?_|refine Jl ?_|refine Jm ?_|refine Jn ?_|refine Jo ?_|refine Jp ?_|refine Jq ?_|refine Jr ?_|refine Js ?_|refine Jt ?_|refine Ju ?_|refine Jv ?_|refine Jw ?_|refine Jx ?_|refine Jy ?_|refine Jz ?_|refine JA ?_|refine JB ?_|refine JC ?_|refine JD ?_|refine JE ?_|refine JF ?_|refine JG ?_|refine JH ?_|refine JI ?_|refine JJ ?_|refine JK ?_|refine JL ?_|refine JM ?_|refine CW.skip (PW.code ?_)|refine RW.nil (PW.code ?_))
  refine RW.store_blk [] rfl rfl rfl rfl rfl (by show 2 < 5; omega) ?_
  refine RW.change [] (blk b1 [.string x.1, .string x.2.1, .slice D2 (x.2.2.1).length d2, .bool x.2.2.2.1, .int .i64 x.2.2.2.2] 116) (fun w F hp => hp) ?_
  repeat (first|refine Ja ?_|refine Jb ?_|refine Jc ?_|refine Jd ?_|refine Je ?_|refine Jf ?_|refine Jg ?_|refine Jh ?_|refine Ji ?_|refine Jj ?_|refine Jk ?_|refine Jl ?_|refine Jm ?_|refine Jn ?_|refine Jo ?_|refine Jp ?_|refine Jq ?_|refine Jr ?_|refine Js ?_|refine Jt ?_|refine Ju ?_|refine Jv ?_|refine Jw ?_|refine Jx ?_|refine Jy ?_|refine Jz ?_|refine JA ?_|refine JB ?_|refine JC ?_|refine JD ?_|refine JE ?_|refine JF ?_|refine JG ?_|refine JH ?_|refine JI ?_|refine JJ ?_|refine JK ?_|refine JL ?_|refine JM ?_|refine CW.skip (PW.code ?_)|refine RW.nil (PW.code ?_))
  refine RW.store_whole [_] rfl rfl (vs := [.string x.1, .string x.2.1, .slice D2 (x.2.2.1).length d2, .bool x.2.2.2.1, .int .i64 x.2.2.2.2]) rfl rfl rfl (by simp [Value.oneCell']) ?_
  repeat (first|refine Ja ?_|refine Jb ?_|refine Jc ?_|refine Jd ?_|refine Je ?_|refine Jf ?_|refine Jg ?_|refine Jh ?_|refine Ji ?_|refine Jj ?_|refine Jk ?_|refine Jl ?_|refine Jm ?_|refine Jn ?_|refine Jo ?_|refine Jp ?_|refine Jq ?_|refine Jr ?_|refine Js ?_|refine Jt ?_|refine Ju ?_|refine Jv ?_|refine Jw ?_|refine Jx ?_|refine Jy ?_|refine Jz ?_|refine JA ?_|refine JB ?_|refine JC ?_|refine JD ?_|refine JE ?_|refine JF ?_|refine JG ?_|refine JH ?_|refine JI ?_|refine JJ ?_|refine JK ?_|refine JL ?_|refine JM ?_|refine CW.skip (PW.code ?_)|refine RW.nil (PW.code ?_))
  refine CW.rets (rs := [.cell 2 116]) (vs := [_]) rfl Try.results106 rfl (ResOK.cell [_] rfl rfl rfl ResOK.nil) fun w hw => ⟨[.string x.1, .string x.2.1, .slice D2 (x.2.2.1).length d2, .bool x.2.2.2.1, .int .i64 x.2.2.2.2], rfl, ?_⟩
  exact St.sep_map (hw.take [2]) (fun w A h => pr_close (Sep.addp (own_str_pure p0) (pr_close (Sep.addp (own_str_pure p1) (pr_close (Sep.cons_perm (fun A h => pr_close (Sep.addp (own_bool_pure) (Sep.addp (own_int_pure p4) h))) h))))))
set_option maxHeartbeats 4000000 in
theorem copyTotals_ret {A : Option Addr} {c : Nat} {xs : List kTotal.V} {w : World} (h : Rd (.sl 72 kTotal) (mem w (fun b => ¬ No b)) [.slice A xs.length c] xs) : RetC Try.prog 96 [.slice A xs.length c] w No (fun v : Value => v) (fun v => [ownDHP (.sl 72 kTotal) [v] xs]) := by
  have hsm := sl_small h
  have hsm2 := hsm
  unfold reach at hsm
  have hle : Mem.le (mem w (fun b => ¬ No b)) (mem w (fun b => ¬ No b)) := Mem.le_refl _
  refine Calls.enter Try.func96 rfl _ rfl rfl (S := No) (H := []) trivial ?_
  refine CW.add_ (elemsHP none kTotal [] []) (fun w _ => elems_nil) ?_
  refine CW.add_ (ownHP 116 5 (.slice none 0 0) []) (fun w _ => .inl ⟨rfl, rfl⟩) ?_
  repeat (first|refine Ja ?_|refine Jb ?_|refine Jc ?_|refine Jd ?_|refine Je ?_|refine Jf ?_|refine Jg ?_|refine Jh ?_|refine Ji ?_|refine Jj ?_|refine Jk ?_|refine Jl ?_|refine Jm ?_|refine Jn ?_|refine Jo ?_|refine Jp ?_|refine Jq ?_|refine Jr ?_|refine Js ?_|refine Jt ?_|refine Ju ?_|refine Jv ?_|refine Jw ?_|refine Jx ?_|refine Jy ?_|refine Jz ?_|refine JA ?_|refine JB ?_|refine JC ?_|refine JD ?_|refine JE ?_|refine JF ?_|refine JG ?_|refine JH ?_|refine JI ?_|refine JJ ?_|refine JK ?_|refine JL ?_|refine JM ?_|refine CW.skip (PW.code ?_)|refine RW.nil (PW.code ?_))
  refine CW.seq ?_
  repeat (first|refine Ja ?_|refine Jb ?_|refine Jc ?_|refine Jd ?_|refine Je ?_|refine Jf ?_|refine Jg ?_|refine Jh ?_|refine Ji ?_|refine Jj ?_|refine Jk ?_|refine Jl ?_|refine Jm ?_|refine Jn ?_|refine Jo ?_|refine Jp ?_|refine Jq ?_|refine Jr ?_|refine Js ?_|refine Jt ?_|refine Ju ?_|refine Jv ?_|refine Jw ?_|refine Jx ?_|refine Jy ?_|refine Jz ?_|refine JA ?_|refine JB ?_|refine JC ?_|refine JD ?_|refine JE ?_|refine JF ?_|refine JG ?_|refine JH ?_|refine JI ?_|refine JJ ?_|refine JK ?_|refine JL ?_|refine JM ?_|refine CW.skip (PW.code ?_)|refine RW.nil (PW.code ?_))
  refine CW.block ?_
  refine CW.loop (ι := { q : Nat × Value × List (List Value) // q.1 ≤ xs.length ∧ q.2.2.length = q.1 }) (fun q => [(0, .slice A xs.length c), (3, q.1.2.1), (4, .int .i64 q.1.1)]) (fun q => [ownHP 116 5 q.1.2.1 q.1.2.2, elemsHP none kTotal q.1.2.2 (xs.take q.1.1)]) (fun q => xs.length - q.1.1) ⟨(0, .slice none 0 0, []), Nat.zero_le _, rfl⟩ ⟨rfl, rfl, rfl, trivial⟩ (fun h => h) ?_
  intro ⟨⟨j, v, es⟩, hj, hel⟩
  dsimp only at hj hel ⊢
  refine CW.seq ?_
  repeat (first|refine Ja ?_|refine Jb ?_|refine Jc ?_|refine Jd ?_|refine Je ?_|refine Jf ?_|refine Jg ?_|refine Jh ?_|refine Ji ?_|refine Jj ?_|refine Jk ?_|refine Jl ?_|refine Jm ?_|refine Jn ?_|refine Jo ?_|refine Jp ?_|refine Jq ?_|refine Jr ?_|refine Js ?_|refine Jt ?_|refine Ju ?_|refine Jv ?_|refine Jw ?_|refine Jx ?_|refine Jy ?_|refine Jz ?_|refine JA ?_|refine JB ?_|refine JC ?_|refine JD ?_|refine JE ?_|refine JF ?_|refine JG ?_|refine JH ?_|refine JI ?_|refine JJ ?_|refine JK ?_|refine JL ?_|refine JM ?_|refine CW.skip (PW.code ?_)|refine RW.nil (PW.code ?_))
  refine CW.ite rfl (fun hlt => ?_) (fun hge => ?_)
  rotate_left
  · have hge' : xs.length ≤ j := by simpa using hge
    rw [List.take_of_length_le hge']
    refine CW.exit rfl ?_
    refine PW.code ?_
    repeat (first|refine Ja ?_|refine Jb ?_|refine Jc ?_|refine Jd ?_|refine Je ?_|refine Jf ?_|refine Jg ?_|refine Jh ?_|refine Ji ?_|refine Jj ?_|refine Jk ?_|refine Jl ?_|refine Jm ?_|refine Jn ?_|refine Jo ?_|refine Jp ?_|refine Jq ?_|refine Jr ?_|refine Js ?_|refine Jt ?_|refine Ju ?_|refine Jv ?_|refine Jw ?_|refine Jx ?_|refine Jy ?_|refine Jz ?_|refine JA ?_|refine JB ?_|refine JC ?_|refine JD ?_|refine JE ?_|refine JF ?_|refine JG ?_|refine JH ?_|refine JI ?_|refine JJ ?_|refine JK ?_|refine JL ?_|refine JM ?_|refine CW.skip (PW.code ?_)|refine RW.nil (PW.code ?_))
    exact CW.ret1 rfl Try.results96 rfl rfl fun w hw => ⟨v, rfl, St.sep_map hw (fun w A h => slice_close rfl hsm2 h)⟩
  have hlt' : j < xs.length := by simpa using hlt
  obtain ⟨B1, O1, cs, hA, hl1, hr, hm⟩ := sl_get h (List.getElem?_eq_getElem hlt')
  have hts : xs.take (j + 1) = xs.take j ++ [xs[j]] := List.take_succ_eq_append_getElem hlt'
  generalize hx : xs[j] = x at *
  refine CW.skip ?_
  refine PW.code ?_
  refine CW.seq ?_
  refine CW.block ?_
  refine CW.region ?_
  repeat (first|refine Ja ?_|refine Jb ?_|refine Jc ?_|refine Jd ?_|refine Je ?_|refine Jf ?_|refine Jg ?_|refine Jh ?_|refine Ji ?_|refine Jj ?_|refine Jk ?_|refine Jl ?_|refine Jm ?_|refine Jn ?_|refine Jo ?_|refine Jp ?_|refine Jq ?_|refine Jr ?_|refine Js ?_|refine Jt ?_|refine Ju ?_|refine Jv ?_|refine Jw ?_|refine Jx ?_|refine Jy ?_|refine Jz ?_|refine JA ?_|refine JB ?_|refine JC ?_|refine JD ?_|refine JE ?_|refine JF ?_|refine JG ?_|refine JH ?_|refine JI ?_|refine JJ ?_|refine JK ?_|refine JL ?_|refine JM ?_|refine CW.skip (PW.code ?_)|refine RW.nil (PW.code ?_))
  refine RW.indexAddrE hA rfl rfl (by omega) hlt rfl ?_
  refine RW.load_ros rfl hle hm rfl hl1 (by rw [hl1]; decide) rfl ?_
  refine RW.callN Try.call106 rfl (fun w2 hw => copyTotal_ret (hr.mono (ro_call hw))) rfl fun cs2 => ?_
  refine RW.have_ (φ := ∃ B1 d1, cs2 = [.string x.1, .string x.2.1, .slice B1 (x.2.2.1).length d1, .bool x.2.2.2.1, .int .i64 x.2.2.2.2]) (fun w hw => ?_) (fun ⟨B1, d1, e1⟩ => ?_)
  · obtain ⟨M, hM⟩ := own_kept (pre := []) hw
    obtain ⟨A1, c1, e, _⟩ := Rd.totalT hM
    exact ⟨_, _, e⟩
  subst e1
  refine RW.buildSlice (e := 116) (c := [.string x.1, .string x.2.1, .slice B1 (x.2.2.1).length d1, .bool x.2.2.2.1, .int .i64 x.2.2.2.2]) rfl (fun w => by kernel_rfl) rfl fun b16 _ => ?_
  refine RW.append [_, _] (e := 116) (sz := 5) (news := [[.string x.1, .string x.2.1, .slice B1 (x.2.2.1).length d1, .bool x.2.2.2.1, .int .i64 x.2.2.2.2]]) (zc := [.string ByteArray.empty, .string ByteArray.empty, .slice none 0 0, .bool false, .int .i64 0]) rfl rfl rfl rfl rfl (by simp) (by simp [Value.oneCell']) (fun w hw hn => ?_) ?_ ?_ rfl fun v' => ?_
  · exact ⟨b16, 0, rfl, CellsAt.of_blk (St.blk (pre := []) hw)⟩
  · rw [hel]; omega
  · rw [hel]; unfold maxN; omega
  refine RW.take [2, 3, 1] ?_
  refine RW.sep [ownHP 116 5 v' (es ++ [[.string x.1, .string x.2.1, .slice B1 (x.2.2.1).length d1, .bool x.2.2.2.1, .int .i64 x.2.2.2.2]]), elemsHP none kTotal (es ++ [[.string x.1, .string x.2.1, .slice B1 (x.2.2.1).length d1, .bool x.2.2.2.1, .int .i64 x.2.2.2.2]]) (xs.take j ++ [x])] (fun w A h => ?_) ?_
  · exact Sep.cons_perm (r := [elemsHP none kTotal es (xs.take j), ownDHP kTotal [.string x.1, .string x.2.1, .slice B1 (x.2.2.1).length d1, .bool x.2.2.2.1, .int .i64 x.2.2.2.2] x]) (fun A h => elems_append h) h
  rw [← hts]
  repeat (first|refine Ja ?_|refine Jb ?_|refine Jc ?_|refine Jd ?_|refine Je ?_|refine Jf ?_|refine Jg ?_|refine Jh ?_|refine Ji ?_|refine Jj ?_|refine Jk ?_|refine Jl ?_|refine Jm ?_|refine Jn ?_|refine Jo ?_|refine Jp ?_|refine Jq ?_|refine Jr ?_|refine Js ?_|refine Jt ?_|refine Ju ?_|refine Jv ?_|refine Jw ?_|refine Jx ?_|refine Jy ?_|refine Jz ?_|refine JA ?_|refine JB ?_|refine JC ?_|refine JD ?_|refine JE ?_|refine JF ?_|refine JG ?_|refine JH ?_|refine JI ?_|refine JJ ?_|refine JK ?_|refine JL ?_|refine JM ?_|refine CW.skip (PW.code ?_)|refine RW.nil (PW.code ?_))
  refine CW.region ?_
  repeat (first|refine Ja ?_|refine Jb ?_|refine Jc ?_|refine Jd ?_|refine Je ?_|refine Jf ?_|refine Jg ?_|refine Jh ?_|refine Ji ?_|refine Jj ?_|refine Jk ?_|refine Jl ?_|refine Jm ?_|refine Jn ?_|refine Jo ?_|refine Jp ?_|refine Jq ?_|refine Jr ?_|refine Js ?_|refine Jt ?_|refine Ju ?_|refine Jv ?_|refine Jw ?_|refine Jx ?_|refine Jy ?_|refine Jz ?_|refine JA ?_|refine JB ?_|refine JC ?_|refine JD ?_|refine JE ?_|refine JF ?_|refine JG ?_|refine JH ?_|refine JI ?_|refine JJ ?_|refine JK ?_|refine JL ?_|refine JM ?_|refine CW.skip (PW.code ?_)|refine RW.nil (PW.code ?_))
  refine RW.add rfl rfl (w64 (by omega) (by omega)) rfl ?_
  repeat (first|refine Ja ?_|refine Jb ?_|refine Jc ?_|refine Jd ?_|refine Je ?_|refine Jf ?_|refine Jg ?_|refine Jh ?_|refine Ji ?_|refine Jj ?_|refine Jk ?_|refine Jl ?_|refine Jm ?_|refine Jn ?_|refine Jo ?_|refine Jp ?_|refine Jq ?_|refine Jr ?_|refine Js ?_|refine Jt ?_|refine Ju ?_|refine Jv ?_|refine Jw ?_|refine Jx ?_|refine Jy ?_|refine Jz ?_|refine JA ?_|refine JB ?_|refine JC ?_|refine JD ?_|refine JE ?_|refine JF ?_|refine JG ?_|refine JH ?_|refine JI ?_|refine JJ ?_|refine JK ?_|refine JL ?_|refine JM ?_|refine CW.skip (PW.code ?_)|refine RW.nil (PW.code ?_))
  refine RW.nil ?_
  exact PW.again ⟨(j + 1, v', es ++ [[.string x.1, .string x.2.1, .slice B1 (x.2.2.1).length d1, .bool x.2.2.2.1, .int .i64 x.2.2.2.2]]), hlt', by rw [List.length_append, hel]; rfl⟩ ⟨rfl, rfl, rfl, trivial⟩ (fun h => h) (by show xs.length - (j + 1) < xs.length - j; omega)
set_option maxHeartbeats 4000000 in
theorem copyLists_ret {A : Option Addr} {c : Nat} {xs : List (List Str)} {w : World} (h : Rd (.sl 24 kStrs) (mem w (fun b => ¬ No b)) [.slice A xs.length c] xs) : RetC Try.prog 92 [.slice A xs.length c] w No (fun v : Value => v) (fun v => [ownDHP (.sl 24 kStrs) [v] xs]) := by
  have hsm := sl_small h
  have hsm2 := hsm
  unfold reach at hsm
  have hle : Mem.le (mem w (fun b => ¬ No b)) (mem w (fun b => ¬ No b)) := Mem.le_refl _
  refine Calls.enter Try.func92 rfl _ rfl rfl (S := No) (H := []) trivial ?_
  refine CW.add_ (elemsHP none kStrs [] []) (fun w _ => elems_nil) ?_
  refine CW.add_ (ownHP 22 1 (.slice none 0 0) []) (fun w _ => .inl ⟨rfl, rfl⟩) ?_
  repeat (first|refine Ja ?_|refine Jb ?_|refine Jc ?_|refine Jd ?_|refine Je ?_|refine Jf ?_|refine Jg ?_|refine Jh ?_|refine Ji ?_|refine Jj ?_|refine Jk ?_|refine Jl ?_|refine Jm ?_|refine Jn ?_|refine Jo ?_|refine Jp ?_|refine Jq ?_|refine Jr ?_|refine Js ?_|refine Jt ?_|refine Ju ?_|refine Jv ?_|refine Jw ?_|refine Jx ?_|refine Jy ?_|refine Jz ?_|refine JA ?_|refine JB ?_|refine JC ?_|refine JD ?_|refine JE ?_|refine JF ?_|refine JG ?_|refine JH ?_|refine JI ?_|refine JJ ?_|refine JK ?_|refine JL ?_|refine JM ?_|refine CW.skip (PW.code ?_)|refine RW.nil (PW.code ?_))
  refine CW.seq ?_
  repeat (first|refine Ja ?_|refine Jb ?_|refine Jc ?_|refine Jd ?_|refine Je ?_|refine Jf ?_|refine Jg ?_|refine Jh ?_|refine Ji ?_|refine Jj ?_|refine Jk ?_|refine Jl ?_|refine Jm ?_|refine Jn ?_|refine Jo ?_|refine Jp ?_|refine Jq ?_|refine Jr ?_|refine Js ?_|refine Jt ?_|refine Ju ?_|refine Jv ?_|refine Jw ?_|refine Jx ?_|refine Jy ?_|refine Jz ?_|refine JA ?_|refine JB ?_|refine JC ?_|refine JD ?_|refine JE ?_|refine JF ?_|refine JG ?_|refine JH ?_|refine JI ?_|refine JJ ?_|refine JK ?_|refine JL ?_|refine JM ?_|refine CW.skip (PW.code ?_)|refine RW.nil (PW.code ?_))
  refine CW.block ?_
  refine CW.loop (ι := { q : Nat × Value × List (List Value) // q.1 ≤ xs.length ∧ q.2.2.length = q.1 }) (fun q => [(0, .slice A xs.length c), (3, q.1.2.1), (4, .int .i64 q.1.1)]) (fun q => [ownHP 22 1 q.1.2.1 q.1.2.2, elemsHP none kStrs q.1.2.2 (xs.take q.1.1)]) (fun q => xs.length - q.1.1) ⟨(0, .slice none 0 0, []), Nat.zero_le _, rfl⟩ ⟨rfl, rfl, rfl, trivial⟩ (fun h => h) ?_
  intro ⟨⟨j, v, es⟩, hj, hel⟩
  dsimp only at hj hel ⊢
  refine CW.seq ?_
  repeat (first|refine Ja ?_|refine Jb ?_|refine Jc ?_|refine Jd ?_|refine Je ?_|refine Jf ?_|refine Jg ?_|refine Jh ?_|refine Ji ?_|refine Jj ?_|refine Jk ?_|refine Jl ?_|refine Jm ?_|refine Jn ?_|refine Jo ?_|refine Jp ?_|refine Jq ?_|refine Jr ?_|refine Js ?_|refine Jt ?_|refine Ju ?_|refine Jv ?_|refine Jw ?_|refine Jx ?_|refine Jy ?_|refine Jz ?_|refine JA ?_|refine JB ?_|refine JC ?_|refine JD ?_|refine JE ?_|refine JF ?_|refine JG ?_|refine JH ?_|refine JI ?_|refine JJ ?_|refine JK ?_|refine JL ?_|refine JM ?_|refine CW.skip (PW.code ?_)|refine RW.nil (PW.code ?_))
  refine CW.ite rfl (fun hlt => ?_) (fun hge => ?_)
  rotate_left
  · have hge' : xs.length ≤ j := by simpa using hge
    rw [List.take_of_length_le hge']
    refine CW.exit rfl ?_
    refine PW.code ?_
    repeat (first|refine Ja ?_|refine Jb ?_|refine Jc ?_|refine Jd ?_|refine Je ?_|refine Jf ?_|refine Jg ?_|refine Jh ?_|refine Ji ?_|refine Jj ?_|refine Jk ?_|refine Jl ?_|refine Jm ?_|refine Jn ?_|refine Jo ?_|refine Jp ?_|refine Jq ?_|refine Jr ?_|refine Js ?_|refine Jt ?_|refine Ju ?_|refine Jv ?_|refine Jw ?_|refine Jx ?_|refine Jy ?_|refine Jz ?_|refine JA ?_|refine JB ?_|refine JC ?_|refine JD ?_|refine JE ?_|refine JF ?_|refine JG ?_|refine JH ?_|refine JI ?_|refine JJ ?_|refine JK ?_|refine JL ?_|refine JM ?_|refine CW.skip (PW.code ?_)|refine RW.nil (PW.code ?_))
    exact CW.ret1 rfl Try.results92 rfl rfl fun w hw => ⟨v, rfl, St.sep_map hw (fun w A h => slice_close rfl hsm2 h)⟩
  have hlt' : j < xs.length := by simpa using hlt
  obtain ⟨B1, O1, cs, hA, hl1, hr, hm⟩ := sl_get h (List.getElem?_eq_getElem hlt')
  have hts : xs.take (j + 1) = xs.take j ++ [xs[j]] := List.take_succ_eq_append_getElem hlt'
  generalize hx : xs[j] = x at *
  obtain ⟨A1, c1, rfl⟩ := sl_cell hr
  refine CW.skip ?_
  refine PW.code ?_
  refine CW.seq ?_
  refine CW.block ?_
  refine CW.region ?_
  repeat (first|refine Ja ?_|refine Jb ?_|refine Jc ?_|refine Jd ?_|refine Je ?_|refine Jf ?_|refine Jg ?_|refine Jh ?_|refine Ji ?_|refine Jj ?_|refine Jk ?_|refine Jl ?_|refine Jm ?_|refine Jn ?_|refine Jo ?_|refine Jp ?_|refine Jq ?_|refine Jr ?_|refine Js ?_|refine Jt ?_|refine Ju ?_|refine Jv ?_|refine Jw ?_|refine Jx ?_|refine Jy ?_|refine Jz ?_|refine JA ?_|refine JB ?_|refine JC ?_|refine JD ?_|refine JE ?_|refine JF ?_|refine JG ?_|refine JH ?_|refine JI ?_|refine JJ ?_|refine JK ?_|refine JL ?_|refine JM ?_|refine CW.skip (PW.code ?_)|refine RW.nil (PW.code ?_))
  refine RW.indexAddrE hA rfl rfl (by omega) hlt rfl ?_
  refine RW.load_ro rfl hle (hm 0 _ rfl) rfl rfl ?_
  refine RW.callN Try.call89 rfl (fun w2 hw => copyStrs_ret (hr.mono (ro_call hw))) rfl fun cs2 => ?_
  refine RW.have_ (φ := ∃ B d, cs2 = .slice B x.length d) (fun w hw => ?_) (fun ⟨D1, d1, e1⟩ => ?_)
  · obtain ⟨M, hM⟩ := own_kept (pre := []) hw
    obtain ⟨A, c, e⟩ := sl_cell hM
    exact ⟨A, c, (List.cons.inj e).1⟩
  subst e1
  refine RW.buildSlice (e := 22) (c := [.slice D1 x.length d1]) rfl (fun w => by kernel_rfl) rfl fun b16 _ => ?_
  refine RW.append [_, _] (e := 22) (sz := 1) (news := [[.slice D1 x.length d1]]) (zc := [.slice none 0 0]) rfl rfl rfl rfl rfl (by simp) (by simp [Value.oneCell']) (fun w hw hn => ?_) ?_ ?_ rfl fun v' => ?_
  · exact ⟨b16, 0, rfl, CellsAt.of_blk (St.blk (pre := []) hw)⟩
  · rw [hel]; omega
  · rw [hel]; unfold maxN; omega
  refine RW.take [2, 3, 1] ?_
  refine RW.sep [ownHP 22 1 v' (es ++ [[.slice D1 x.length d1]]), elemsHP none kStrs (es ++ [[.slice D1 x.length d1]]) (xs.take j ++ [x])] (fun w A h => ?_) ?_
  · exact Sep.cons_perm (r := [elemsHP none kStrs es (xs.take j), ownDHP kStrs [.slice D1 x.length d1] x]) (fun A h => elems_append h) h
  rw [← hts]
  repeat (first|refine Ja ?_|refine Jb ?_|refine Jc ?_|refine Jd ?_|refine Je ?_|refine Jf ?_|refine Jg ?_|refine Jh ?_|refine Ji ?_|refine Jj ?_|refine Jk ?_|refine Jl ?_|refine Jm ?_|refine Jn ?_|refine Jo ?_|refine Jp ?_|refine Jq ?_|refine Jr ?_|refine Js ?_|refine Jt ?_|refine Ju ?_|refine Jv ?_|refine Jw ?_|refine Jx ?_|refine Jy ?_|refine Jz ?_|refine JA ?_|refine JB ?_|refine JC ?_|refine JD ?_|refine JE ?_|refine JF ?_|refine JG ?_|refine JH ?_|refine JI ?_|refine JJ ?_|refine JK ?_|refine JL ?_|refine JM ?_|refine CW.skip (PW.code ?_)|refine RW.nil (PW.code ?_))
  refine CW.region ?_
  repeat (first|refine Ja ?_|refine Jb ?_|refine Jc ?_|refine Jd ?_|refine Je ?_|refine Jf ?_|refine Jg ?_|refine Jh ?_|refine Ji ?_|refine Jj ?_|refine Jk ?_|refine Jl ?_|refine Jm ?_|refine Jn ?_|refine Jo ?_|refine Jp ?_|refine Jq ?_|refine Jr ?_|refine Js ?_|refine Jt ?_|refine Ju ?_|refine Jv ?_|refine Jw ?_|refine Jx ?_|refine Jy ?_|refine Jz ?_|refine JA ?_|refine JB ?_|refine JC ?_|refine JD ?_|refine JE ?_|refine JF ?_|refine JG ?_|refine JH ?_|refine JI ?_|refine JJ ?_|refine JK ?_|refine JL ?_|refine JM ?_|refine CW.skip (PW.code ?_)|refine RW.nil (PW.code ?_))
  refine RW.add rfl rfl (w64 (by omega) (by omega)) rfl ?_
  repeat (first|refine Ja ?_|refine Jb ?_|refine Jc ?_|refine Jd ?_|refine Je ?_|refine Jf ?_|refine Jg ?_|refine Jh ?_|refine Ji ?_|refine Jj ?_|refine Jk ?_|refine Jl ?_|refine Jm ?_|refine Jn ?_|refine Jo ?_|refine Jp ?_|refine Jq ?_|refine Jr ?_|refine Js ?_|refine Jt ?_|refine Ju ?_|refine Jv ?_|refine Jw ?_|refine Jx ?_|refine Jy ?_|refine Jz ?_|refine JA ?_|refine JB ?_|refine JC ?_|refine JD ?_|refine JE ?_|refine JF ?_|refine JG ?_|refine JH ?_|refine JI ?_|refine JJ ?_|refine JK ?_|refine JL ?_|refine JM ?_|refine CW.skip (PW.code ?_)|refine RW.nil (PW.code ?_))
  refine RW.nil ?_
  exact PW.again ⟨(j + 1, v', es ++ [[.slice D1 x.length d1]]), hlt', by rw [List.length_append, hel]; rfl⟩ ⟨rfl, rfl, rfl, trivial⟩ (fun h => h) (by show xs.length - (j + 1) < xs.length - j; omega)
end Go.Proofs.Ytkfmlekomfnleaa
