/- Parts of the proof: The copies of lexpriorplain: deep data of one's own. · CopyStatute; deep data of one's own opened and closed; lexpriorlaw08.turned, args. Conditions: none. -/
import Derived.Test.YtkfmlekomfnleaaGreatPk9
/- The copies of lexpriorplain: deep data of one's own. Conditions: none. -/
set_option linter.unusedVariables false
set_option linter.unusedSimpArgs false
set_option maxRecDepth 10000
namespace Go.Proofs.YtkfmlekomfnleaaGreat
open Go Go.RowKit Go.MapKept

def K.flat : K → Bool
  | .sl _ _ => false
  | .pr a b => a.flat && b.flat
  | _ => true
theorem own_of_flat : ∀ {t : K} {M : Mem} {w : World} {F : Nat → Prop} {cs : List Value} {x : t.V}, t.flat = true → Rd t M cs x → OwnD t w F cs x := by
  intro t
  induction t with
  | int k => intro _ _ _ _ _ _ h; exact h
  | bool => intro _ _ _ _ _ _ h; exact h
  | str => intro _ _ _ _ _ _ h; exact h
  | sl e t ih => intro _ _ _ _ _ h; cases h
  | pr a b iha ihb =>
    intro M w F cs x hf h
    have hf2 : (a.flat && b.flat) = true := hf
    rw [Bool.and_eq_true] at hf2
    obtain ⟨c1, c2, rfl, h1, h2⟩ := h
    exact ⟨c1, c2, fun _ => False, rfl, fun _ h => h.elim, iha hf2.1 h1, ihb hf2.2 h2⟩
theorem Sep.addp {c : HP} {r : List HP} {w : World} {A : Nat → Prop} (hc : c.p w No) (h : Sep r w A) : Sep (c :: r) w A := ⟨No, fun b hb => hb.elim, hc, Sep.up (fun b hb => ⟨hb, fun k => k.elim⟩) h⟩
theorem own_kept {t : K} {cs : List Value} {x : t.V} {pre r : List HP} {w0 w : World} {S : Nat → Prop} (h : St w0 S (pre ++ ownDHP t cs x :: r) w) : ∃ M : Mem, Rd t M cs x := by
  obtain ⟨F, hp, _⟩ := h.get
  exact ⟨_, OwnD.rd hp⟩
attribute [local irreducible] RW CW
set_option maxHeartbeats 4000000 in
theorem copyStrs_ret {A : Option Addr} {c : Nat} {xs : List Str} {w : World} (h : Rd (.sl 16 K.str) (mem w (fun b => ¬ No b)) [.slice A xs.length c] xs) : RetC Tryz.prog 28 [.slice A xs.length c] w No (fun v : Value => v) (fun v => [ownDHP (.sl 16 K.str) [v] xs]) := by
  have hsm := sl_small h
  have hsm2 := hsm
  unfold reach at hsm
  have hle : Mem.le (mem w (fun b => ¬ No b)) (mem w (fun b => ¬ No b)) := Mem.le_refl _
  refine Calls.enter Tryz.func28 rfl _ rfl rfl (S := No) (H := []) trivial ?_
  refine CW.add_ (elemsHP none K.str [] []) (fun w _ => elems_nil) ?_
  refine CW.add_ (ownHP 9 1 (.slice none 0 0) []) (fun w _ => .inl ⟨rfl, rfl⟩) ?_
  refine Ja ?_;refine Jd ?_;refine Jb ?_;refine Ja ?_;refine Jd ?_;refine Jb ?_
  refine CW.seq ?_
  refine Ja ?_;refine Jd ?_;refine Jb ?_
  refine CW.block ?_
  refine CW.loop (ι := { q : Nat × Value × List (List Value) // q.1 ≤ xs.length ∧ q.2.2.length = q.1 }) (fun q => [(0, .slice A xs.length c), (3, q.1.2.1), (4, .int .i64 q.1.1)]) (fun q => [ownHP 9 1 q.1.2.1 q.1.2.2, elemsHP none K.str q.1.2.2 (xs.take q.1.1)]) (fun q => xs.length - q.1.1) ⟨(0, .slice none 0 0, []), Nat.zero_le _, rfl⟩ ⟨rfl, rfl, rfl, trivial⟩ (fun h => h) ?_
  intro ⟨⟨j, v, es⟩, hj, hel⟩
  dsimp only at hj hel ⊢
  refine CW.seq ?_
  refine Ja ?_;refine Jc ?_;refine Jc ?_;refine Jg ?_;refine Jk ?_;refine Jb ?_
  refine CW.ite rfl (fun hlt => ?_) (fun hge => ?_)
  rotate_left
  · have hge' : xs.length ≤ j := by simpa using hge
    rw [List.take_of_length_le hge']
    refine CW.exit rfl ?_
    refine PW.code ?_
    refine Ja ?_;refine Jc ?_;refine Jd ?_;refine Jb ?_
    exact CW.ret1 rfl Tryz.results28 rfl rfl fun w hw => ⟨v, rfl, St.sep_map hw (fun w A h => slice_close rfl hsm2 h)⟩
  have hlt' : j < xs.length := by simpa using hlt
  obtain ⟨B1, O1, cs, hA, hl1, hr, hm⟩ := sl_get h (List.getElem?_eq_getElem hlt')
  have hts : xs.take (j + 1) = xs.take j ++ [xs[j]] := List.take_succ_eq_append_getElem hlt'
  generalize hx : xs[j] = x at *
  have hr0 := hr
  obtain rfl := str_cell hr
  refine CW.skip ?_
  refine PW.code ?_
  refine CW.seq ?_
  refine CW.block ?_
  refine CW.region ?_
  refine Jc ?_;refine Jc ?_;refine Jc ?_
  refine RW.indexAddrE hA rfl rfl (by omega) hlt rfl ?_
  refine RW.load_ro rfl hle (hm 0 _ rfl) rfl rfl ?_
  refine RW.add_ (ownDHP K.str [.string x] x) (fun w hw => own_of_flat rfl hr0) ?_
  refine RW.buildSlice (e := 9) (c := [.string x]) rfl (fun w => by kernel_rfl) rfl fun b16 _ => ?_
  refine RW.append [_, _] (e := 9) (sz := 1) (news := [[.string x]]) (zc := [.string ByteArray.empty]) rfl rfl rfl rfl rfl (by simp) (by simp [Value.oneCell']) (fun w hw hn => ?_) ?_ ?_ rfl fun v' => ?_
  · exact ⟨b16, 0, rfl, CellsAt.of_blk (St.blk (pre := []) hw)⟩
  · rw [hel]; omega
  · rw [hel]; unfold maxN; omega
  refine RW.take [2, 3, 1] ?_
  refine RW.sep [ownHP 9 1 v' (es ++ [[.string x]]), elemsHP none K.str (es ++ [[.string x]]) (xs.take j ++ [x])] (fun w A h => ?_) ?_
  · exact Sep.cons_perm (r := [elemsHP none K.str es (xs.take j), ownDHP K.str [.string x] x]) (fun A h => elems_append h) h
  rw [← hts]
  refine Jd ?_;refine RW.nil (PW.code ?_)
  refine CW.region ?_
  refine Jc ?_
  refine RW.add rfl rfl (w64 (by omega) (by omega)) rfl ?_
  refine Jd ?_
  refine RW.nil ?_
  exact PW.again ⟨(j + 1, v', es ++ [[.string x]]), hlt', by rw [List.length_append, hel]; rfl⟩ ⟨rfl, rfl, rfl, trivial⟩ (fun h => h) (by show xs.length - (j + 1) < xs.length - j; omega)
set_option maxHeartbeats 4000000 in
theorem copyInts_ret {A : Option Addr} {c : Nat} {xs : List Int} {w : World} (h : Rd (.sl 8 kI) (mem w (fun b => ¬ No b)) [.slice A xs.length c] xs) : RetC Tryz.prog 163 [.slice A xs.length c] w No (fun v : Value => v) (fun v => [ownDHP (.sl 8 kI) [v] xs]) := by
  have hsm := sl_small h
  have hsm2 := hsm
  unfold reach at hsm
  have hle : Mem.le (mem w (fun b => ¬ No b)) (mem w (fun b => ¬ No b)) := Mem.le_refl _
  refine Calls.enter Tryz.func163 rfl _ rfl rfl (S := No) (H := []) trivial ?_
  refine CW.add_ (elemsHP none kI [] []) (fun w _ => elems_nil) ?_
  refine CW.add_ (ownHP 49 1 (.slice none 0 0) []) (fun w _ => .inl ⟨rfl, rfl⟩) ?_
  refine Ja ?_;refine Jd ?_;refine Jb ?_;refine Ja ?_;refine Jd ?_;refine Jb ?_
  refine CW.seq ?_
  refine Ja ?_;refine Jd ?_;refine Jb ?_
  refine CW.block ?_
  refine CW.loop (ι := { q : Nat × Value × List (List Value) // q.1 ≤ xs.length ∧ q.2.2.length = q.1 }) (fun q => [(0, .slice A xs.length c), (3, q.1.2.1), (4, .int .i64 q.1.1)]) (fun q => [ownHP 49 1 q.1.2.1 q.1.2.2, elemsHP none kI q.1.2.2 (xs.take q.1.1)]) (fun q => xs.length - q.1.1) ⟨(0, .slice none 0 0, []), Nat.zero_le _, rfl⟩ ⟨rfl, rfl, rfl, trivial⟩ (fun h => h) ?_
  intro ⟨⟨j, v, es⟩, hj, hel⟩
  dsimp only at hj hel ⊢
  refine CW.seq ?_
  refine Ja ?_;refine Jc ?_;refine Jc ?_;refine Jg ?_;refine Jk ?_;refine Jb ?_
  refine CW.ite rfl (fun hlt => ?_) (fun hge => ?_)
  rotate_left
  · have hge' : xs.length ≤ j := by simpa using hge
    rw [List.take_of_length_le hge']
    refine CW.exit rfl ?_
    refine PW.code ?_
    refine Ja ?_;refine Jc ?_;refine Jd ?_;refine Jb ?_
    exact CW.ret1 rfl Tryz.results163 rfl rfl fun w hw => ⟨v, rfl, St.sep_map hw (fun w A h => slice_close rfl hsm2 h)⟩
  have hlt' : j < xs.length := by simpa using hlt
  obtain ⟨B1, O1, cs, hA, hl1, hr, hm⟩ := sl_get h (List.getElem?_eq_getElem hlt')
  have hts : xs.take (j + 1) = xs.take j ++ [xs[j]] := List.take_succ_eq_append_getElem hlt'
  generalize hx : xs[j] = x at *
  have hr0 := hr
  obtain rfl := int_cell hr
  refine CW.skip ?_
  refine PW.code ?_
  refine CW.seq ?_
  refine CW.block ?_
  refine CW.region ?_
  refine Jc ?_;refine Jc ?_;refine Jc ?_
  refine RW.indexAddrE hA rfl rfl (by omega) hlt rfl ?_
  refine RW.load_ro rfl hle (hm 0 _ rfl) rfl rfl ?_
  refine RW.add_ (ownDHP kI [.int .i64 x] x) (fun w hw => own_of_flat rfl hr0) ?_
  refine RW.buildSlice (e := 49) (c := [.int .i64 x]) rfl (fun w => by kernel_rfl) rfl fun b16 _ => ?_
  refine RW.append [_, _] (e := 49) (sz := 1) (news := [[.int .i64 x]]) (zc := [.int .i64 0]) rfl rfl rfl rfl rfl (by simp) (by simp [Value.oneCell']) (fun w hw hn => ?_) ?_ ?_ rfl fun v' => ?_
  · exact ⟨b16, 0, rfl, CellsAt.of_blk (St.blk (pre := []) hw)⟩
  · rw [hel]; omega
  · rw [hel]; unfold maxN; omega
  refine RW.take [2, 3, 1] ?_
  refine RW.sep [ownHP 49 1 v' (es ++ [[.int .i64 x]]), elemsHP none kI (es ++ [[.int .i64 x]]) (xs.take j ++ [x])] (fun w A h => ?_) ?_
  · exact Sep.cons_perm (r := [elemsHP none kI es (xs.take j), ownDHP kI [.int .i64 x] x]) (fun A h => elems_append h) h
  rw [← hts]
  refine Jd ?_;refine RW.nil (PW.code ?_)
  refine CW.region ?_
  refine Jc ?_
  refine RW.add rfl rfl (w64 (by omega) (by omega)) rfl ?_
  refine Jd ?_
  refine RW.nil ?_
  exact PW.again ⟨(j + 1, v', es ++ [[.int .i64 x]]), hlt', by rw [List.length_append, hel]; rfl⟩ ⟨rfl, rfl, rfl, trivial⟩ (fun h => h) (by show xs.length - (j + 1) < xs.length - j; omega)
set_option maxHeartbeats 4000000 in
theorem copyMembers_ret {A : Option Addr} {c : Nat} {xs : List kMember.V} {w : World} (h : Rd (.sl 32 kMember) (mem w (fun b => ¬ No b)) [.slice A xs.length c] xs) : RetC Tryz.prog 29 [.slice A xs.length c] w No (fun v : Value => v) (fun v => [ownDHP (.sl 32 kMember) [v] xs]) := by
  have hsm := sl_small h
  have hsm2 := hsm
  unfold reach at hsm
  have hle : Mem.le (mem w (fun b => ¬ No b)) (mem w (fun b => ¬ No b)) := Mem.le_refl _
  refine Calls.enter Tryz.func29 rfl _ rfl rfl (S := No) (H := []) trivial ?_
  refine CW.add_ (elemsHP none kMember [] []) (fun w _ => elems_nil) ?_
  refine CW.add_ (ownHP 158 2 (.slice none 0 0) []) (fun w _ => .inl ⟨rfl, rfl⟩) ?_
  refine Ja ?_;refine Jd ?_;refine Jb ?_;refine Ja ?_;refine Jd ?_;refine Jb ?_
  refine CW.seq ?_
  refine Ja ?_;refine Jd ?_;refine Jb ?_
  refine CW.block ?_
  refine CW.loop (ι := { q : Nat × Value × List (List Value) // q.1 ≤ xs.length ∧ q.2.2.length = q.1 }) (fun q => [(0, .slice A xs.length c), (3, q.1.2.1), (4, .int .i64 q.1.1)]) (fun q => [ownHP 158 2 q.1.2.1 q.1.2.2, elemsHP none kMember q.1.2.2 (xs.take q.1.1)]) (fun q => xs.length - q.1.1) ⟨(0, .slice none 0 0, []), Nat.zero_le _, rfl⟩ ⟨rfl, rfl, rfl, trivial⟩ (fun h => h) ?_
  intro ⟨⟨j, v, es⟩, hj, hel⟩
  dsimp only at hj hel ⊢
  refine CW.seq ?_
  refine Ja ?_;refine Jc ?_;refine Jc ?_;refine Jg ?_;refine Jk ?_;refine Jb ?_
  refine CW.ite rfl (fun hlt => ?_) (fun hge => ?_)
  rotate_left
  · have hge' : xs.length ≤ j := by simpa using hge
    rw [List.take_of_length_le hge']
    refine CW.exit rfl ?_
    refine PW.code ?_
    refine Ja ?_;refine Jc ?_;refine Jd ?_;refine Jb ?_
    exact CW.ret1 rfl Tryz.results29 rfl rfl fun w hw => ⟨v, rfl, St.sep_map hw (fun w A h => slice_close rfl hsm2 h)⟩
  have hlt' : j < xs.length := by simpa using hlt
  obtain ⟨B1, O1, cs, hA, hl1, hr, hm⟩ := sl_get h (List.getElem?_eq_getElem hlt')
  have hts : xs.take (j + 1) = xs.take j ++ [xs[j]] := List.take_succ_eq_append_getElem hlt'
  generalize hx : xs[j] = x at *
  have hr0 := hr
  obtain ⟨_, _, rfl, r1, r2⟩ := hr
  obtain rfl := str_cell r1
  obtain rfl := str_cell r2
  refine CW.skip ?_
  refine PW.code ?_
  refine CW.seq ?_
  refine CW.block ?_
  refine CW.region ?_
  refine Jc ?_;refine Jc ?_;refine Jc ?_
  refine RW.indexAddrE hA rfl rfl (by omega) hlt rfl ?_
  refine RW.load_ros rfl hle hm rfl hl1 (by rw [hl1]; decide) rfl ?_
  refine RW.add_ (ownDHP kMember [.string x.1, .string x.2] x) (fun w hw => own_of_flat rfl hr0) ?_
  refine RW.buildSlice (e := 158) (c := [.string x.1, .string x.2]) rfl (fun w => by kernel_rfl) rfl fun b16 _ => ?_
  refine RW.append [_, _] (e := 158) (sz := 2) (news := [[.string x.1, .string x.2]]) (zc := [.string ByteArray.empty, .string ByteArray.empty]) rfl rfl rfl rfl rfl (by simp) (by simp [Value.oneCell']) (fun w hw hn => ?_) ?_ ?_ rfl fun v' => ?_
  · exact ⟨b16, 0, rfl, CellsAt.of_blk (St.blk (pre := []) hw)⟩
  · rw [hel]; omega
  · rw [hel]; unfold maxN; omega
  refine RW.take [2, 3, 1] ?_
  refine RW.sep [ownHP 158 2 v' (es ++ [[.string x.1, .string x.2]]), elemsHP none kMember (es ++ [[.string x.1, .string x.2]]) (xs.take j ++ [x])] (fun w A h => ?_) ?_
  · exact Sep.cons_perm (r := [elemsHP none kMember es (xs.take j), ownDHP kMember [.string x.1, .string x.2] x]) (fun A h => elems_append h) h
  rw [← hts]
  refine Jd ?_;refine RW.nil (PW.code ?_)
  refine CW.region ?_
  refine Jc ?_
  refine RW.add rfl rfl (w64 (by omega) (by omega)) rfl ?_
  refine Jd ?_
  refine RW.nil ?_
  exact PW.again ⟨(j + 1, v', es ++ [[.string x.1, .string x.2]]), hlt', by rw [List.length_append, hel]; rfl⟩ ⟨rfl, rfl, rfl, trivial⟩ (fun h => h) (by show xs.length - (j + 1) < xs.length - j; omega)
set_option maxHeartbeats 4000000 in
theorem copySources_ret {A : Option Addr} {c : Nat} {xs : List kSource.V} {w : World} (h : Rd (.sl 24 kSource) (mem w (fun b => ¬ No b)) [.slice A xs.length c] xs) : RetC Tryz.prog 32 [.slice A xs.length c] w No (fun v : Value => v) (fun v => [ownDHP (.sl 24 kSource) [v] xs]) := by
  have hsm := sl_small h
  have hsm2 := hsm
  unfold reach at hsm
  have hle : Mem.le (mem w (fun b => ¬ No b)) (mem w (fun b => ¬ No b)) := Mem.le_refl _
  refine Calls.enter Tryz.func32 rfl _ rfl rfl (S := No) (H := []) trivial ?_
  refine CW.add_ (elemsHP none kSource [] []) (fun w _ => elems_nil) ?_
  refine CW.add_ (ownHP 161 2 (.slice none 0 0) []) (fun w _ => .inl ⟨rfl, rfl⟩) ?_
  refine Ja ?_;refine Jd ?_;refine Jb ?_;refine Ja ?_;refine Jd ?_;refine Jb ?_
  refine CW.seq ?_
  refine Ja ?_;refine Jd ?_;refine Jb ?_
  refine CW.block ?_
  refine CW.loop (ι := { q : Nat × Value × List (List Value) // q.1 ≤ xs.length ∧ q.2.2.length = q.1 }) (fun q => [(0, .slice A xs.length c), (3, q.1.2.1), (4, .int .i64 q.1.1)]) (fun q => [ownHP 161 2 q.1.2.1 q.1.2.2, elemsHP none kSource q.1.2.2 (xs.take q.1.1)]) (fun q => xs.length - q.1.1) ⟨(0, .slice none 0 0, []), Nat.zero_le _, rfl⟩ ⟨rfl, rfl, rfl, trivial⟩ (fun h => h) ?_
  intro ⟨⟨j, v, es⟩, hj, hel⟩
  dsimp only at hj hel ⊢
  refine CW.seq ?_
  refine Ja ?_;refine Jc ?_;refine Jc ?_;refine Jg ?_;refine Jk ?_;refine Jb ?_
  refine CW.ite rfl (fun hlt => ?_) (fun hge => ?_)
  rotate_left
  · have hge' : xs.length ≤ j := by simpa using hge
    rw [List.take_of_length_le hge']
    refine CW.exit rfl ?_
    refine PW.code ?_
    refine Ja ?_;refine Jc ?_;refine Jd ?_;refine Jb ?_
    exact CW.ret1 rfl Tryz.results32 rfl rfl fun w hw => ⟨v, rfl, St.sep_map hw (fun w A h => slice_close rfl hsm2 h)⟩
  have hlt' : j < xs.length := by simpa using hlt
  obtain ⟨B1, O1, cs, hA, hl1, hr, hm⟩ := sl_get h (List.getElem?_eq_getElem hlt')
  have hts : xs.take (j + 1) = xs.take j ++ [xs[j]] := List.take_succ_eq_append_getElem hlt'
  generalize hx : xs[j] = x at *
  have hr0 := hr
  obtain ⟨_, _, rfl, r1, r2⟩ := hr
  obtain rfl := str_cell r1
  obtain rfl := int_cell r2
  refine CW.skip ?_
  refine PW.code ?_
  refine CW.seq ?_
  refine CW.block ?_
  refine CW.region ?_
  refine Jc ?_;refine Jc ?_;refine Jc ?_
  refine RW.indexAddrE hA rfl rfl (by omega) hlt rfl ?_
  refine RW.load_ros rfl hle hm rfl hl1 (by rw [hl1]; decide) rfl ?_
  refine RW.add_ (ownDHP kSource [.string x.1, .int .i64 x.2] x) (fun w hw => own_of_flat rfl hr0) ?_
  refine RW.buildSlice (e := 161) (c := [.string x.1, .int .i64 x.2]) rfl (fun w => by kernel_rfl) rfl fun b16 _ => ?_
  refine RW.append [_, _] (e := 161) (sz := 2) (news := [[.string x.1, .int .i64 x.2]]) (zc := [.string ByteArray.empty, .int .i64 0]) rfl rfl rfl rfl rfl (by simp) (by simp [Value.oneCell']) (fun w hw hn => ?_) ?_ ?_ rfl fun v' => ?_
  · exact ⟨b16, 0, rfl, CellsAt.of_blk (St.blk (pre := []) hw)⟩
  · rw [hel]; omega
  · rw [hel]; unfold maxN; omega
  refine RW.take [2, 3, 1] ?_
  refine RW.sep [ownHP 161 2 v' (es ++ [[.string x.1, .int .i64 x.2]]), elemsHP none kSource (es ++ [[.string x.1, .int .i64 x.2]]) (xs.take j ++ [x])] (fun w A h => ?_) ?_
  · exact Sep.cons_perm (r := [elemsHP none kSource es (xs.take j), ownDHP kSource [.string x.1, .int .i64 x.2] x]) (fun A h => elems_append h) h
  rw [← hts]
  refine Jd ?_;refine RW.nil (PW.code ?_)
  refine CW.region ?_
  refine Jc ?_
  refine RW.add rfl rfl (w64 (by omega) (by omega)) rfl ?_
  refine Jd ?_
  refine RW.nil ?_
  exact PW.again ⟨(j + 1, v', es ++ [[.string x.1, .int .i64 x.2]]), hlt', by rw [List.length_append, hel]; rfl⟩ ⟨rfl, rfl, rfl, trivial⟩ (fun h => h) (by show xs.length - (j + 1) < xs.length - j; omega)
set_option maxHeartbeats 4000000 in
theorem copyExcepts_ret {A : Option Addr} {c : Nat} {xs : List kExc.V} {w : World} (h : Rd (.sl 32 kExc) (mem w (fun b => ¬ No b)) [.slice A xs.length c] xs) : RetC Tryz.prog 34 [.slice A xs.length c] w No (fun v : Value => v) (fun v => [ownDHP (.sl 32 kExc) [v] xs]) := by
  have hsm := sl_small h
  have hsm2 := hsm
  unfold reach at hsm
  have hle : Mem.le (mem w (fun b => ¬ No b)) (mem w (fun b => ¬ No b)) := Mem.le_refl _
  refine Calls.enter Tryz.func34 rfl _ rfl rfl (S := No) (H := []) trivial ?_
  refine CW.add_ (elemsHP none kExc [] []) (fun w _ => elems_nil) ?_
  refine CW.add_ (ownHP 164 2 (.slice none 0 0) []) (fun w _ => .inl ⟨rfl, rfl⟩) ?_
  refine Ja ?_;refine Jd ?_;refine Jb ?_;refine Ja ?_;refine Jd ?_;refine Jb ?_
  refine CW.seq ?_
  refine Ja ?_;refine Jd ?_;refine Jb ?_
  refine CW.block ?_
  refine CW.loop (ι := { q : Nat × Value × List (List Value) // q.1 ≤ xs.length ∧ q.2.2.length = q.1 }) (fun q => [(0, .slice A xs.length c), (3, q.1.2.1), (4, .int .i64 q.1.1)]) (fun q => [ownHP 164 2 q.1.2.1 q.1.2.2, elemsHP none kExc q.1.2.2 (xs.take q.1.1)]) (fun q => xs.length - q.1.1) ⟨(0, .slice none 0 0, []), Nat.zero_le _, rfl⟩ ⟨rfl, rfl, rfl, trivial⟩ (fun h => h) ?_
  intro ⟨⟨j, v, es⟩, hj, hel⟩
  dsimp only at hj hel ⊢
  refine CW.seq ?_
  refine Ja ?_;refine Jc ?_;refine Jc ?_;refine Jg ?_;refine Jk ?_;refine Jb ?_
  refine CW.ite rfl (fun hlt => ?_) (fun hge => ?_)
  rotate_left
  · have hge' : xs.length ≤ j := by simpa using hge
    rw [List.take_of_length_le hge']
    refine CW.exit rfl ?_
    refine PW.code ?_
    refine Ja ?_;refine Jc ?_;refine Jd ?_;refine Jb ?_
    exact CW.ret1 rfl Tryz.results34 rfl rfl fun w hw => ⟨v, rfl, St.sep_map hw (fun w A h => slice_close rfl hsm2 h)⟩
  have hlt' : j < xs.length := by simpa using hlt
  obtain ⟨B1, O1, cs, hA, hl1, hr, hm⟩ := sl_get h (List.getElem?_eq_getElem hlt')
  have hts : xs.take (j + 1) = xs.take j ++ [xs[j]] := List.take_succ_eq_append_getElem hlt'
  generalize hx : xs[j] = x at *
  have hr0 := hr
  obtain ⟨_, _, rfl, r1, r2⟩ := hr
  obtain rfl := str_cell r1
  obtain rfl := str_cell r2
  refine CW.skip ?_
  refine PW.code ?_
  refine CW.seq ?_
  refine CW.block ?_
  refine CW.region ?_
  refine Jc ?_;refine Jc ?_;refine Jc ?_
  refine RW.indexAddrE hA rfl rfl (by omega) hlt rfl ?_
  refine RW.load_ros rfl hle hm rfl hl1 (by rw [hl1]; decide) rfl ?_
  refine RW.add_ (ownDHP kExc [.string x.1, .string x.2] x) (fun w hw => own_of_flat rfl hr0) ?_
  refine RW.buildSlice (e := 164) (c := [.string x.1, .string x.2]) rfl (fun w => by kernel_rfl) rfl fun b16 _ => ?_
  refine RW.append [_, _] (e := 164) (sz := 2) (news := [[.string x.1, .string x.2]]) (zc := [.string ByteArray.empty, .string ByteArray.empty]) rfl rfl rfl rfl rfl (by simp) (by simp [Value.oneCell']) (fun w hw hn => ?_) ?_ ?_ rfl fun v' => ?_
  · exact ⟨b16, 0, rfl, CellsAt.of_blk (St.blk (pre := []) hw)⟩
  · rw [hel]; omega
  · rw [hel]; unfold maxN; omega
  refine RW.take [2, 3, 1] ?_
  refine RW.sep [ownHP 164 2 v' (es ++ [[.string x.1, .string x.2]]), elemsHP none kExc (es ++ [[.string x.1, .string x.2]]) (xs.take j ++ [x])] (fun w A h => ?_) ?_
  · exact Sep.cons_perm (r := [elemsHP none kExc es (xs.take j), ownDHP kExc [.string x.1, .string x.2] x]) (fun A h => elems_append h) h
  rw [← hts]
  refine Jd ?_;refine RW.nil (PW.code ?_)
  refine CW.region ?_
  refine Jc ?_
  refine RW.add rfl rfl (w64 (by omega) (by omega)) rfl ?_
  refine Jd ?_
  refine RW.nil ?_
  exact PW.again ⟨(j + 1, v', es ++ [[.string x.1, .string x.2]]), hlt', by rw [List.length_append, hel]; rfl⟩ ⟨rfl, rfl, rfl, trivial⟩ (fun h => h) (by show xs.length - (j + 1) < xs.length - j; omega)
set_option maxHeartbeats 4000000 in
theorem copyTerm_ret {x : kTerm.V} {cs : List Value} {w : World} (h : Rd kTerm (mem w (fun b => ¬ No b)) cs x) : RetC Tryz.prog 205 [.agg cs.toArray] w No (fun cs' : List Value => .agg cs'.toArray) (fun cs' => [ownDHP kTerm cs' x]) := by
  obtain ⟨_, _, _, f0, _, _, _, f1, _, _, _, f2, f3⟩ := id h
  obtain ⟨A1, c1, rfl, h2⟩ := Rd.termT h
  have p0 := f0.2
  have p1 := f1.2
  have p3 := f3.2
  clear h
  refine Calls.enter Tryz.func205 rfl _ rfl rfl (S := No) (H := []) trivial ?_
  refine CW.seqR ?_
  refine RW.box_agg (l := [.int .i64 x.1, .string x.2.1, .slice A1 (x.2.2.1).length c1, .int .i64 x.2.2.2]) rfl rfl fun b1 _ => ?_
  refine RW.alloc (c := [.int .i64 0, .string ByteArray.empty, .slice none 0 0, .int .i64 0]) rfl rfl fun b2 _ => ?_
  refine RW.take [1, 0] ?_
  refine Jb ?_;refine Ja ?_;refine Je ?_;refine JA ?_
  refine RW.callN Tryz.call28 rfl (fun w2 hw => copyStrs_ret (h2.mono (ro_call hw))) rfl fun v2 => ?_
  refine RW.have_ (φ := ∃ B d, v2 = .slice B (x.2.2.1).length d) (fun w hw => ?_) (fun ⟨D2, d2, e2⟩ => ?_)
  · obtain ⟨M, hM⟩ := own_kept (pre := []) hw
    obtain ⟨A, c, e⟩ := sl_cell hM
    exact ⟨A, c, (List.cons.inj e).1⟩
  subst e2
  refine RW.take [1, 2, 0] ?_
  refine Je ?_
  refine RW.store_blk [] rfl rfl rfl rfl rfl (by show 2 < 4; omega) ?_
  refine RW.change [] (blk b1 [.int .i64 x.1, .string x.2.1, .slice D2 (x.2.2.1).length d2, .int .i64 x.2.2.2] 207) (fun w F hp => hp) ?_
  refine Jb ?_;refine Ja ?_;refine JE ?_
  refine RW.store_whole [_] rfl rfl (vs := [.int .i64 x.1, .string x.2.1, .slice D2 (x.2.2.1).length d2, .int .i64 x.2.2.2]) rfl rfl rfl (by simp [Value.oneCell']) ?_
  refine Jb ?_
  refine CW.rets (rs := [.cell 2 207]) (vs := [_]) rfl Tryz.results205 rfl (ResOK.cell [_] rfl rfl rfl ResOK.nil) fun w hw => ⟨[.int .i64 x.1, .string x.2.1, .slice D2 (x.2.2.1).length d2, .int .i64 x.2.2.2], rfl, ?_⟩
  exact St.sep_map (hw.take [2]) (fun w A h => pr_close (Sep.addp (own_int_pure p0) (pr_close (Sep.addp (own_str_pure p1) (pr_close (Sep.cons_perm (fun A h => Sep.addp (own_int_pure p3) h) h))))))
set_option maxHeartbeats 4000000 in
theorem copyTerms_ret {A : Option Addr} {c : Nat} {xs : List kTerm.V} {w : World} (h : Rd (.sl 56 kTerm) (mem w (fun b => ¬ No b)) [.slice A xs.length c] xs) : RetC Tryz.prog 203 [.slice A xs.length c] w No (fun v : Value => v) (fun v => [ownDHP (.sl 56 kTerm) [v] xs]) := by
  have hsm := sl_small h
  have hsm2 := hsm
  unfold reach at hsm
  have hle : Mem.le (mem w (fun b => ¬ No b)) (mem w (fun b => ¬ No b)) := Mem.le_refl _
  refine Calls.enter Tryz.func203 rfl _ rfl rfl (S := No) (H := []) trivial ?_
  refine CW.add_ (elemsHP none kTerm [] []) (fun w _ => elems_nil) ?_
  refine CW.add_ (ownHP 207 4 (.slice none 0 0) []) (fun w _ => .inl ⟨rfl, rfl⟩) ?_
  refine Ja ?_;refine Jd ?_;refine Jb ?_;refine Ja ?_;refine Jd ?_;refine Jb ?_
  refine CW.seq ?_
  refine Ja ?_;refine Jd ?_;refine Jb ?_
  refine CW.block ?_
  refine CW.loop (ι := { q : Nat × Value × List (List Value) // q.1 ≤ xs.length ∧ q.2.2.length = q.1 }) (fun q => [(0, .slice A xs.length c), (3, q.1.2.1), (4, .int .i64 q.1.1)]) (fun q => [ownHP 207 4 q.1.2.1 q.1.2.2, elemsHP none kTerm q.1.2.2 (xs.take q.1.1)]) (fun q => xs.length - q.1.1) ⟨(0, .slice none 0 0, []), Nat.zero_le _, rfl⟩ ⟨rfl, rfl, rfl, trivial⟩ (fun h => h) ?_
  intro ⟨⟨j, v, es⟩, hj, hel⟩
  dsimp only at hj hel ⊢
  refine CW.seq ?_
  refine Ja ?_;refine Jc ?_;refine Jc ?_;refine Jg ?_;refine Jk ?_;refine Jb ?_
  refine CW.ite rfl (fun hlt => ?_) (fun hge => ?_)
  rotate_left
  · have hge' : xs.length ≤ j := by simpa using hge
    rw [List.take_of_length_le hge']
    refine CW.exit rfl ?_
    refine PW.code ?_
    refine Ja ?_;refine Jc ?_;refine Jd ?_;refine Jb ?_
    exact CW.ret1 rfl Tryz.results203 rfl rfl fun w hw => ⟨v, rfl, St.sep_map hw (fun w A h => slice_close rfl hsm2 h)⟩
  have hlt' : j < xs.length := by simpa using hlt
  obtain ⟨B1, O1, cs, hA, hl1, hr, hm⟩ := sl_get h (List.getElem?_eq_getElem hlt')
  have hts : xs.take (j + 1) = xs.take j ++ [xs[j]] := List.take_succ_eq_append_getElem hlt'
  generalize hx : xs[j] = x at *
  refine CW.skip ?_
  refine PW.code ?_
  refine CW.seq ?_
  refine CW.block ?_
  refine CW.region ?_
  refine Jc ?_;refine Jc ?_;refine Jc ?_
  refine RW.indexAddrE hA rfl rfl (by omega) hlt rfl ?_
  refine RW.load_ros rfl hle hm rfl hl1 (by rw [hl1]; decide) rfl ?_
  refine RW.callN Tryz.call205 rfl (fun w2 hw => copyTerm_ret (hr.mono (ro_call hw))) rfl fun cs2 => ?_
  refine RW.have_ (φ := ∃ B1 d1, cs2 = [.int .i64 x.1, .string x.2.1, .slice B1 (x.2.2.1).length d1, .int .i64 x.2.2.2]) (fun w hw => ?_) (fun ⟨B1, d1, e1⟩ => ?_)
  · obtain ⟨M, hM⟩ := own_kept (pre := []) hw
    obtain ⟨A1, c1, e, _⟩ := Rd.termT hM
    exact ⟨_, _, e⟩
  subst e1
  refine RW.buildSlice (e := 207) (c := [.int .i64 x.1, .string x.2.1, .slice B1 (x.2.2.1).length d1, .int .i64 x.2.2.2]) rfl (fun w => by kernel_rfl) rfl fun b16 _ => ?_
  refine RW.append [_, _] (e := 207) (sz := 4) (news := [[.int .i64 x.1, .string x.2.1, .slice B1 (x.2.2.1).length d1, .int .i64 x.2.2.2]]) (zc := [.int .i64 0, .string ByteArray.empty, .slice none 0 0, .int .i64 0]) rfl rfl rfl rfl rfl (by simp) (by simp [Value.oneCell']) (fun w hw hn => ?_) ?_ ?_ rfl fun v' => ?_
  · exact ⟨b16, 0, rfl, CellsAt.of_blk (St.blk (pre := []) hw)⟩
  · rw [hel]; omega
  · rw [hel]; unfold maxN; omega
  refine RW.take [2, 3, 1] ?_
  refine RW.sep [ownHP 207 4 v' (es ++ [[.int .i64 x.1, .string x.2.1, .slice B1 (x.2.2.1).length d1, .int .i64 x.2.2.2]]), elemsHP none kTerm (es ++ [[.int .i64 x.1, .string x.2.1, .slice B1 (x.2.2.1).length d1, .int .i64 x.2.2.2]]) (xs.take j ++ [x])] (fun w A h => ?_) ?_
  · exact Sep.cons_perm (r := [elemsHP none kTerm es (xs.take j), ownDHP kTerm [.int .i64 x.1, .string x.2.1, .slice B1 (x.2.2.1).length d1, .int .i64 x.2.2.2] x]) (fun A h => elems_append h) h
  rw [← hts]
  refine Jd ?_;refine RW.nil (PW.code ?_)
  refine CW.region ?_
  refine Jc ?_
  refine RW.add rfl rfl (w64 (by omega) (by omega)) rfl ?_
  refine Jd ?_
  refine RW.nil ?_
  exact PW.again ⟨(j + 1, v', es ++ [[.int .i64 x.1, .string x.2.1, .slice B1 (x.2.2.1).length d1, .int .i64 x.2.2.2]]), hlt', by rw [List.length_append, hel]; rfl⟩ ⟨rfl, rfl, rfl, trivial⟩ (fun h => h) (by show xs.length - (j + 1) < xs.length - j; omega)
set_option maxHeartbeats 4000000 in
theorem copyGuard_ret {x : kGuard.V} {cs : List Value} {w : World} (h : Rd kGuard (mem w (fun b => ¬ No b)) cs x) : RetC Tryz.prog 196 [.agg cs.toArray] w No (fun cs' : List Value => .agg cs'.toArray) (fun cs' => [ownDHP kGuard cs' x]) := by
  obtain ⟨_, _, _, f0, _, _, _, f1, f2⟩ := id h
  obtain ⟨A1, c1, A2, c2, rfl, h0, h2⟩ := Rd.guardT h
  have p1 := f1.2
  clear h
  refine Calls.enter Tryz.func196 rfl _ rfl rfl (S := No) (H := []) trivial ?_
  refine CW.seqR ?_
  refine RW.box_agg (l := [.slice A1 (x.1).length c1, .int .i64 x.2.1, .slice A2 (x.2.2).length c2]) rfl rfl fun b1 _ => ?_
  refine RW.alloc (c := [.slice none 0 0, .int .i64 0, .slice none 0 0]) rfl rfl fun b2 _ => ?_
  refine RW.take [1, 0] ?_
  refine Jb ?_;refine Ja ?_;refine Je ?_;refine JA ?_
  refine RW.callN Tryz.call203 rfl (fun w2 hw => copyTerms_ret (h0.mono (ro_call hw))) rfl fun v0 => ?_
  refine RW.have_ (φ := ∃ B d, v0 = .slice B (x.1).length d) (fun w hw => ?_) (fun ⟨D0, d0, e0⟩ => ?_)
  · obtain ⟨M, hM⟩ := own_kept (pre := []) hw
    obtain ⟨A, c, e⟩ := sl_cell hM
    exact ⟨A, c, (List.cons.inj e).1⟩
  subst e0
  refine RW.take [1, 2, 0] ?_
  refine Je ?_
  refine RW.store_blk [] rfl rfl rfl rfl rfl (by show 0 < 3; omega) ?_
  refine RW.change [] (blk b1 [.slice D0 (x.1).length d0, .int .i64 x.2.1, .slice A2 (x.2.2).length c2] 143) (fun w F hp => hp) ?_
  refine Jb ?_;refine Ja ?_;refine Je ?_;refine JA ?_
  refine RW.callN Tryz.call203 rfl (fun w2 hw => copyTerms_ret (h2.mono (ro_call hw))) rfl fun v2 => ?_
  refine RW.have_ (φ := ∃ B d, v2 = .slice B (x.2.2).length d) (fun w hw => ?_) (fun ⟨D2, d2, e2⟩ => ?_)
  · obtain ⟨M, hM⟩ := own_kept (pre := []) hw
    obtain ⟨A, c, e⟩ := sl_cell hM
    exact ⟨A, c, (List.cons.inj e).1⟩
  subst e2
  refine RW.take [1, 2, 3, 0] ?_
  refine Je ?_
  refine RW.store_blk [] rfl rfl rfl rfl rfl (by show 2 < 3; omega) ?_
  refine RW.change [] (blk b1 [.slice D0 (x.1).length d0, .int .i64 x.2.1, .slice D2 (x.2.2).length d2] 143) (fun w F hp => hp) ?_
  refine Jb ?_;refine Ja ?_;refine JE ?_
  refine RW.store_whole [_] rfl rfl (vs := [.slice D0 (x.1).length d0, .int .i64 x.2.1, .slice D2 (x.2.2).length d2]) rfl rfl rfl (by simp [Value.oneCell']) ?_
  refine Jb ?_
  refine CW.rets (rs := [.cell 2 143]) (vs := [_]) rfl Tryz.results196 rfl (ResOK.cell [_] rfl rfl rfl ResOK.nil) fun w hw => ⟨[.slice D0 (x.1).length d0, .int .i64 x.2.1, .slice D2 (x.2.2).length d2], rfl, ?_⟩
  exact St.sep_map (hw.take [2, 3]) (fun w A h => pr_close (Sep.cons_perm (fun A h => pr_close (Sep.addp (own_int_pure p1) (h))) h))
set_option maxHeartbeats 4000000 in
theorem copyLit_ret {x : kLitT.V} {cs : List Value} {w : World} (h : Rd kLitT (mem w (fun b => ¬ No b)) cs x) : RetC Tryz.prog 16 [.agg cs.toArray] w No (fun cs' : List Value => .agg cs'.toArray) (fun cs' => [ownDHP kLitT cs' x]) := by
  obtain ⟨_, _, _, f0, _, _, _, f1, _, _, _, f2, _, _, _, f3, f4⟩ := id h
  obtain ⟨A1, c1, rfl, h2⟩ := Rd.litT h
  have p1 := f1.2
  have p4 := f4.2
  clear h
  refine Calls.enter Tryz.func16 rfl _ rfl rfl (S := No) (H := []) trivial ?_
  refine CW.seqR ?_
  refine RW.box_agg (l := [.bool x.1, .string x.2.1, .slice A1 (x.2.2.1).length c1, .bool x.2.2.2.1, .int .i64 x.2.2.2.2]) rfl rfl fun b1 _ => ?_
  refine RW.alloc (c := [.bool false, .string ByteArray.empty, .slice none 0 0, .bool false, .int .i64 0]) rfl rfl fun b2 _ => ?_
  refine RW.take [1, 0] ?_
  refine Jb ?_;refine Ja ?_;refine Je ?_;refine JA ?_
  refine RW.callN Tryz.call28 rfl (fun w2 hw => copyStrs_ret (h2.mono (ro_call hw))) rfl fun v2 => ?_
  refine RW.have_ (φ := ∃ B d, v2 = .slice B (x.2.2.1).length d) (fun w hw => ?_) (fun ⟨D2, d2, e2⟩ => ?_)
  · obtain ⟨M, hM⟩ := own_kept (pre := []) hw
    obtain ⟨A, c, e⟩ := sl_cell hM
    exact ⟨A, c, (List.cons.inj e).1⟩
  subst e2
  refine RW.take [1, 2, 0] ?_
  refine Je ?_
  refine RW.store_blk [] rfl rfl rfl rfl rfl (by show 2 < 5; omega) ?_
  refine RW.change [] (blk b1 [.bool x.1, .string x.2.1, .slice D2 (x.2.2.1).length d2, .bool x.2.2.2.1, .int .i64 x.2.2.2.2] 51) (fun w F hp => hp) ?_
  refine Jb ?_;refine Ja ?_;refine JE ?_
  refine RW.store_whole [_] rfl rfl (vs := [.bool x.1, .string x.2.1, .slice D2 (x.2.2.1).length d2, .bool x.2.2.2.1, .int .i64 x.2.2.2.2]) rfl rfl rfl (by simp [Value.oneCell']) ?_
  refine Jb ?_
  refine CW.rets (rs := [.cell 2 51]) (vs := [_]) rfl Tryz.results16 rfl (ResOK.cell [_] rfl rfl rfl ResOK.nil) fun w hw => ⟨[.bool x.1, .string x.2.1, .slice D2 (x.2.2.1).length d2, .bool x.2.2.2.1, .int .i64 x.2.2.2.2], rfl, ?_⟩
  exact St.sep_map (hw.take [2]) (fun w A h => pr_close (Sep.addp (own_bool_pure) (pr_close (Sep.addp (own_str_pure p1) (pr_close (Sep.cons_perm (fun A h => pr_close (Sep.addp (own_bool_pure) (Sep.addp (own_int_pure p4) h))) h))))))
set_option maxHeartbeats 4000000 in
theorem copyPrem_ret {x : kPrem.V} {cs : List Value} {w : World} (h : Rd kPrem (mem w (fun b => ¬ No b)) cs x) : RetC Tryz.prog 183 [.agg cs.toArray] w No (fun cs' : List Value => .agg cs'.toArray) (fun cs' => [ownDHP kPrem cs' x]) := by
  obtain ⟨_, _, _, f0, _, _, _, f1, _, _, _, f2, _, _, _, f3, f4⟩ := id h
  obtain ⟨A1, c1, A2, c2, A3, c3, rfl, h1, h2⟩ := Rd.premT h
  have p0 := f0.2
  have p3 := f3.2
  have p4 := f4.2
  clear h
  refine Calls.enter Tryz.func183 rfl _ rfl rfl (S := No) (H := []) trivial ?_
  refine CW.seqR ?_
  refine RW.box_agg (l := [.int .i64 x.1, .bool x.2.1.1, .string x.2.1.2.1, .slice A1 (x.2.1.2.2.1).length c1, .bool x.2.1.2.2.2.1, .int .i64 x.2.1.2.2.2.2, .slice A2 (x.2.2.1.1).length c2, .int .i64 x.2.2.1.2.1, .slice A3 (x.2.2.1.2.2).length c3, .string x.2.2.2.1, .string x.2.2.2.2]) rfl rfl fun b1 _ => ?_
  refine RW.alloc (c := [.int .i64 0, .bool false, .string ByteArray.empty, .slice none 0 0, .bool false, .int .i64 0, .slice none 0 0, .int .i64 0, .slice none 0 0, .string ByteArray.empty, .string ByteArray.empty]) rfl rfl fun b2 _ => ?_
  refine RW.take [1, 0] ?_
  refine Jb ?_;refine Ja ?_;refine Je ?_
  refine RW.load_part5 [] rfl rfl rfl rfl ?_
  refine RW.callN Tryz.call16 rfl (fun w2 hw => copyLit_ret (h1.mono (ro_call hw))) rfl fun v1 => ?_
  refine RW.have_ (φ := ∃ B4 d4, v1 = [.bool x.2.1.1, .string x.2.1.2.1, .slice B4 (x.2.1.2.2.1).length d4, .bool x.2.1.2.2.2.1, .int .i64 x.2.1.2.2.2.2]) (fun w hw => ?_) (fun ⟨B4, d4, e1⟩ => ?_)
  · obtain ⟨M, hM⟩ := own_kept (pre := []) hw
    obtain ⟨A4, c4, e, _⟩ := Rd.litT hM
    exact ⟨_, _, e⟩
  subst e1
  refine RW.take [1, 2, 0] ?_
  refine Je ?_
  refine RW.store_part [] rfl rfl (vs := [.bool x.2.1.1, .string x.2.1.2.1, .slice B4 (x.2.1.2.2.1).length d4, .bool x.2.1.2.2.2.1, .int .i64 x.2.1.2.2.2.2]) rfl rfl (by simp [Value.oneCell']) (by show 1 + 5 ≤ 11; omega) ?_
  refine RW.change [] (blk b1 [.int .i64 x.1, .bool x.2.1.1, .string x.2.1.2.1, .slice B4 (x.2.1.2.2.1).length d4, .bool x.2.1.2.2.2.1, .int .i64 x.2.1.2.2.2.2, .slice A2 (x.2.2.1.1).length c2, .int .i64 x.2.2.1.2.1, .slice A3 (x.2.2.1.2.2).length c3, .string x.2.2.2.1, .string x.2.2.2.2] 145) (fun w F hp => hp) ?_
  refine Jb ?_;refine Ja ?_;refine Je ?_;refine JI ?_
  refine RW.callN Tryz.call196 rfl (fun w2 hw => copyGuard_ret (h2.mono (ro_call hw))) rfl fun v2 => ?_
  refine RW.have_ (φ := ∃ B5 d5 B6 d6, v2 = [.slice B5 (x.2.2.1.1).length d5, .int .i64 x.2.2.1.2.1, .slice B6 (x.2.2.1.2.2).length d6]) (fun w hw => ?_) (fun ⟨B5, d5, B6, d6, e2⟩ => ?_)
  · obtain ⟨M, hM⟩ := own_kept (pre := []) hw
    obtain ⟨A5, c5, A6, c6, e, _⟩ := Rd.guardT hM
    exact ⟨_, _, _, _, e⟩
  subst e2
  refine RW.take [1, 2, 3, 0] ?_
  refine Je ?_
  refine RW.store_part [] rfl rfl (vs := [.slice B5 (x.2.2.1.1).length d5, .int .i64 x.2.2.1.2.1, .slice B6 (x.2.2.1.2.2).length d6]) rfl rfl (by simp [Value.oneCell']) (by show 6 + 3 ≤ 11; omega) ?_
  refine RW.change [] (blk b1 [.int .i64 x.1, .bool x.2.1.1, .string x.2.1.2.1, .slice B4 (x.2.1.2.2.1).length d4, .bool x.2.1.2.2.2.1, .int .i64 x.2.1.2.2.2.2, .slice B5 (x.2.2.1.1).length d5, .int .i64 x.2.2.1.2.1, .slice B6 (x.2.2.1.2.2).length d6, .string x.2.2.2.1, .string x.2.2.2.2] 145) (fun w F hp => hp) ?_
  refine Jb ?_;refine Ja ?_;refine JE ?_
  refine RW.store_whole [_] rfl rfl (vs := [.int .i64 x.1, .bool x.2.1.1, .string x.2.1.2.1, .slice B4 (x.2.1.2.2.1).length d4, .bool x.2.1.2.2.2.1, .int .i64 x.2.1.2.2.2.2, .slice B5 (x.2.2.1.1).length d5, .int .i64 x.2.2.1.2.1, .slice B6 (x.2.2.1.2.2).length d6, .string x.2.2.2.1, .string x.2.2.2.2]) rfl rfl rfl (by simp [Value.oneCell']) ?_
  refine Jb ?_
  refine CW.rets (rs := [.cell 2 145]) (vs := [_]) rfl Tryz.results183 rfl (ResOK.cell [_] rfl rfl rfl ResOK.nil) fun w hw => ⟨[.int .i64 x.1, .bool x.2.1.1, .string x.2.1.2.1, .slice B4 (x.2.1.2.2.1).length d4, .bool x.2.1.2.2.2.1, .int .i64 x.2.1.2.2.2.2, .slice B5 (x.2.2.1.1).length d5, .int .i64 x.2.2.1.2.1, .slice B6 (x.2.2.1.2.2).length d6, .string x.2.2.2.1, .string x.2.2.2.2], rfl, ?_⟩
  exact St.sep_map (hw.take [2, 3]) (fun w A h => pr_close (Sep.addp (own_int_pure p0) (pr_close (Sep.cons_perm (fun A h => pr_close (Sep.cons_perm (fun A h => pr_close (Sep.addp (own_str_pure p3) (Sep.addp (own_str_pure p4) h))) h)) h))))
set_option maxHeartbeats 4000000 in
theorem copyPrems_ret {A : Option Addr} {c : Nat} {xs : List kPrem.V} {w : World} (h : Rd (.sl 160 kPrem) (mem w (fun b => ¬ No b)) [.slice A xs.length c] xs) : RetC Tryz.prog 164 [.slice A xs.length c] w No (fun v : Value => v) (fun v => [ownDHP (.sl 160 kPrem) [v] xs]) := by
  have hsm := sl_small h
  have hsm2 := hsm
  unfold reach at hsm
  have hle : Mem.le (mem w (fun b => ¬ No b)) (mem w (fun b => ¬ No b)) := Mem.le_refl _
  refine Calls.enter Tryz.func164 rfl _ rfl rfl (S := No) (H := []) trivial ?_
  refine CW.add_ (elemsHP none kPrem [] []) (fun w _ => elems_nil) ?_
  refine CW.add_ (ownHP 145 11 (.slice none 0 0) []) (fun w _ => .inl ⟨rfl, rfl⟩) ?_
  refine Ja ?_;refine Jd ?_;refine Jb ?_;refine Ja ?_;refine Jd ?_;refine Jb ?_
  refine CW.seq ?_
  refine Ja ?_;refine Jd ?_;refine Jb ?_
  refine CW.block ?_
  refine CW.loop (ι := { q : Nat × Value × List (List Value) // q.1 ≤ xs.length ∧ q.2.2.length = q.1 }) (fun q => [(0, .slice A xs.length c), (3, q.1.2.1), (4, .int .i64 q.1.1)]) (fun q => [ownHP 145 11 q.1.2.1 q.1.2.2, elemsHP none kPrem q.1.2.2 (xs.take q.1.1)]) (fun q => xs.length - q.1.1) ⟨(0, .slice none 0 0, []), Nat.zero_le _, rfl⟩ ⟨rfl, rfl, rfl, trivial⟩ (fun h => h) ?_
  intro ⟨⟨j, v, es⟩, hj, hel⟩
  dsimp only at hj hel ⊢
  refine CW.seq ?_
  refine Ja ?_;refine Jc ?_;refine Jc ?_;refine Jg ?_;refine Jk ?_;refine Jb ?_
  refine CW.ite rfl (fun hlt => ?_) (fun hge => ?_)
  rotate_left
  · have hge' : xs.length ≤ j := by simpa using hge
    rw [List.take_of_length_le hge']
    refine CW.exit rfl ?_
    refine PW.code ?_
    refine Ja ?_;refine Jc ?_;refine Jd ?_;refine Jb ?_
    exact CW.ret1 rfl Tryz.results164 rfl rfl fun w hw => ⟨v, rfl, St.sep_map hw (fun w A h => slice_close rfl hsm2 h)⟩
  have hlt' : j < xs.length := by simpa using hlt
  obtain ⟨B1, O1, cs, hA, hl1, hr, hm⟩ := sl_get h (List.getElem?_eq_getElem hlt')
  have hts : xs.take (j + 1) = xs.take j ++ [xs[j]] := List.take_succ_eq_append_getElem hlt'
  generalize hx : xs[j] = x at *
  refine CW.skip ?_
  refine PW.code ?_
  refine CW.seq ?_
  refine CW.block ?_
  refine CW.region ?_
  refine Jc ?_;refine Jc ?_;refine Jc ?_
  refine RW.indexAddrE hA rfl rfl (by omega) hlt rfl ?_
  refine RW.load_ros rfl hle hm rfl hl1 (by rw [hl1]; decide) rfl ?_
  refine RW.callN Tryz.call183 rfl (fun w2 hw => copyPrem_ret (hr.mono (ro_call hw))) rfl fun cs2 => ?_
  refine RW.have_ (φ := ∃ B1 d1 B2 d2 B3 d3, cs2 = [.int .i64 x.1, .bool x.2.1.1, .string x.2.1.2.1, .slice B1 (x.2.1.2.2.1).length d1, .bool x.2.1.2.2.2.1, .int .i64 x.2.1.2.2.2.2, .slice B2 (x.2.2.1.1).length d2, .int .i64 x.2.2.1.2.1, .slice B3 (x.2.2.1.2.2).length d3, .string x.2.2.2.1, .string x.2.2.2.2]) (fun w hw => ?_) (fun ⟨B1, d1, B2, d2, B3, d3, e1⟩ => ?_)
  · obtain ⟨M, hM⟩ := own_kept (pre := []) hw
    obtain ⟨A1, c1, A2, c2, A3, c3, e, _⟩ := Rd.premT hM
    exact ⟨_, _, _, _, _, _, e⟩
  subst e1
  refine RW.buildSlice (e := 145) (c := [.int .i64 x.1, .bool x.2.1.1, .string x.2.1.2.1, .slice B1 (x.2.1.2.2.1).length d1, .bool x.2.1.2.2.2.1, .int .i64 x.2.1.2.2.2.2, .slice B2 (x.2.2.1.1).length d2, .int .i64 x.2.2.1.2.1, .slice B3 (x.2.2.1.2.2).length d3, .string x.2.2.2.1, .string x.2.2.2.2]) rfl (fun w => by kernel_rfl) rfl fun b16 _ => ?_
  refine RW.append [_, _] (e := 145) (sz := 11) (news := [[.int .i64 x.1, .bool x.2.1.1, .string x.2.1.2.1, .slice B1 (x.2.1.2.2.1).length d1, .bool x.2.1.2.2.2.1, .int .i64 x.2.1.2.2.2.2, .slice B2 (x.2.2.1.1).length d2, .int .i64 x.2.2.1.2.1, .slice B3 (x.2.2.1.2.2).length d3, .string x.2.2.2.1, .string x.2.2.2.2]]) (zc := [.int .i64 0, .bool false, .string ByteArray.empty, .slice none 0 0, .bool false, .int .i64 0, .slice none 0 0, .int .i64 0, .slice none 0 0, .string ByteArray.empty, .string ByteArray.empty]) rfl rfl rfl rfl rfl (by simp) (by simp [Value.oneCell']) (fun w hw hn => ?_) ?_ ?_ rfl fun v' => ?_
  · exact ⟨b16, 0, rfl, CellsAt.of_blk (St.blk (pre := []) hw)⟩
  · rw [hel]; omega
  · rw [hel]; unfold maxN; omega
  refine RW.take [2, 3, 1] ?_
  refine RW.sep [ownHP 145 11 v' (es ++ [[.int .i64 x.1, .bool x.2.1.1, .string x.2.1.2.1, .slice B1 (x.2.1.2.2.1).length d1, .bool x.2.1.2.2.2.1, .int .i64 x.2.1.2.2.2.2, .slice B2 (x.2.2.1.1).length d2, .int .i64 x.2.2.1.2.1, .slice B3 (x.2.2.1.2.2).length d3, .string x.2.2.2.1, .string x.2.2.2.2]]), elemsHP none kPrem (es ++ [[.int .i64 x.1, .bool x.2.1.1, .string x.2.1.2.1, .slice B1 (x.2.1.2.2.1).length d1, .bool x.2.1.2.2.2.1, .int .i64 x.2.1.2.2.2.2, .slice B2 (x.2.2.1.1).length d2, .int .i64 x.2.2.1.2.1, .slice B3 (x.2.2.1.2.2).length d3, .string x.2.2.2.1, .string x.2.2.2.2]]) (xs.take j ++ [x])] (fun w A h => ?_) ?_
  · exact Sep.cons_perm (r := [elemsHP none kPrem es (xs.take j), ownDHP kPrem [.int .i64 x.1, .bool x.2.1.1, .string x.2.1.2.1, .slice B1 (x.2.1.2.2.1).length d1, .bool x.2.1.2.2.2.1, .int .i64 x.2.1.2.2.2.2, .slice B2 (x.2.2.1.1).length d2, .int .i64 x.2.2.1.2.1, .slice B3 (x.2.2.1.2.2).length d3, .string x.2.2.2.1, .string x.2.2.2.2] x]) (fun A h => elems_append h) h
  rw [← hts]
  refine Jd ?_;refine RW.nil (PW.code ?_)
  refine CW.region ?_
  refine Jc ?_
  refine RW.add rfl rfl (w64 (by omega) (by omega)) rfl ?_
  refine Jd ?_
  refine RW.nil ?_
  exact PW.again ⟨(j + 1, v', es ++ [[.int .i64 x.1, .bool x.2.1.1, .string x.2.1.2.1, .slice B1 (x.2.1.2.2.1).length d1, .bool x.2.1.2.2.2.1, .int .i64 x.2.1.2.2.2.2, .slice B2 (x.2.2.1.1).length d2, .int .i64 x.2.2.1.2.1, .slice B3 (x.2.2.1.2.2).length d3, .string x.2.2.2.1, .string x.2.2.2.2]]), hlt', by rw [List.length_append, hel]; rfl⟩ ⟨rfl, rfl, rfl, trivial⟩ (fun h => h) (by show xs.length - (j + 1) < xs.length - j; omega)
set_option maxHeartbeats 4000000 in
theorem copyPred_ret {x : kPredT.V} {cs : List Value} {w : World} (h : Rd kPredT (mem w (fun b => ¬ No b)) cs x) : RetC Tryz.prog 84 [.agg cs.toArray] w No (fun cs' : List Value => .agg cs'.toArray) (fun cs' => [ownDHP kPredT cs' x]) := by
  obtain ⟨_, _, _, f0, _, _, _, f1, _, _, _, f2, f3⟩ := id h
  obtain ⟨A1, c1, A2, c2, rfl, h2, h3⟩ := Rd.predT h
  have p0 := f0.2
  have p1 := f1.2
  clear h
  refine Calls.enter Tryz.func84 rfl _ rfl rfl (S := No) (H := []) trivial ?_
  refine CW.seqR ?_
  refine RW.box_agg (l := [.string x.1, .int .i64 x.2.1, .slice A1 (x.2.2.1).length c1, .slice A2 (x.2.2.2).length c2]) rfl rfl fun b1 _ => ?_
  refine RW.alloc (c := [.string ByteArray.empty, .int .i64 0, .slice none 0 0, .slice none 0 0]) rfl rfl fun b2 _ => ?_
  refine RW.take [1, 0] ?_
  refine Jb ?_;refine Ja ?_;refine Je ?_;refine JA ?_
  refine RW.callN Tryz.call28 rfl (fun w2 hw => copyStrs_ret (h2.mono (ro_call hw))) rfl fun v2 => ?_
  refine RW.have_ (φ := ∃ B d, v2 = .slice B (x.2.2.1).length d) (fun w hw => ?_) (fun ⟨D2, d2, e2⟩ => ?_)
  · obtain ⟨M, hM⟩ := own_kept (pre := []) hw
    obtain ⟨A, c, e⟩ := sl_cell hM
    exact ⟨A, c, (List.cons.inj e).1⟩
  subst e2
  refine RW.take [1, 2, 0] ?_
  refine Je ?_
  refine RW.store_blk [] rfl rfl rfl rfl rfl (by show 2 < 4; omega) ?_
  refine RW.change [] (blk b1 [.string x.1, .int .i64 x.2.1, .slice D2 (x.2.2.1).length d2, .slice A2 (x.2.2.2).length c2] 151) (fun w F hp => hp) ?_
  refine Jb ?_;refine Ja ?_;refine Je ?_;refine JA ?_
  refine RW.callN Tryz.call163 rfl (fun w2 hw => copyInts_ret (h3.mono (ro_call hw))) rfl fun v3 => ?_
  refine RW.have_ (φ := ∃ B d, v3 = .slice B (x.2.2.2).length d) (fun w hw => ?_) (fun ⟨D3, d3, e3⟩ => ?_)
  · obtain ⟨M, hM⟩ := own_kept (pre := []) hw
    obtain ⟨A, c, e⟩ := sl_cell hM
    exact ⟨A, c, (List.cons.inj e).1⟩
  subst e3
  refine RW.take [1, 2, 3, 0] ?_
  refine Je ?_
  refine RW.store_blk [] rfl rfl rfl rfl rfl (by show 3 < 4; omega) ?_
  refine RW.change [] (blk b1 [.string x.1, .int .i64 x.2.1, .slice D2 (x.2.2.1).length d2, .slice D3 (x.2.2.2).length d3] 151) (fun w F hp => hp) ?_
  refine Jb ?_;refine Ja ?_;refine JE ?_
  refine RW.store_whole [_] rfl rfl (vs := [.string x.1, .int .i64 x.2.1, .slice D2 (x.2.2.1).length d2, .slice D3 (x.2.2.2).length d3]) rfl rfl rfl (by simp [Value.oneCell']) ?_
  refine Jb ?_
  refine CW.rets (rs := [.cell 2 151]) (vs := [_]) rfl Tryz.results84 rfl (ResOK.cell [_] rfl rfl rfl ResOK.nil) fun w hw => ⟨[.string x.1, .int .i64 x.2.1, .slice D2 (x.2.2.1).length d2, .slice D3 (x.2.2.2).length d3], rfl, ?_⟩
  exact St.sep_map (hw.take [2, 3]) (fun w A h => pr_close (Sep.addp (own_str_pure p0) (pr_close (Sep.addp (own_int_pure p1) (pr_close (Sep.cons_perm (fun A h => h) h))))))
set_option maxHeartbeats 4000000 in
theorem copyPreds_ret {A : Option Addr} {c : Nat} {xs : List kPredT.V} {w : World} (h : Rd (.sl 72 kPredT) (mem w (fun b => ¬ No b)) [.slice A xs.length c] xs) : RetC Tryz.prog 30 [.slice A xs.length c] w No (fun v : Value => v) (fun v => [ownDHP (.sl 72 kPredT) [v] xs]) := by
  have hsm := sl_small h
  have hsm2 := hsm
  unfold reach at hsm
  have hle : Mem.le (mem w (fun b => ¬ No b)) (mem w (fun b => ¬ No b)) := Mem.le_refl _
  refine Calls.enter Tryz.func30 rfl _ rfl rfl (S := No) (H := []) trivial ?_
  refine CW.add_ (elemsHP none kPredT [] []) (fun w _ => elems_nil) ?_
  refine CW.add_ (ownHP 151 4 (.slice none 0 0) []) (fun w _ => .inl ⟨rfl, rfl⟩) ?_
  refine Ja ?_;refine Jd ?_;refine Jb ?_;refine Ja ?_;refine Jd ?_;refine Jb ?_
  refine CW.seq ?_
  refine Ja ?_;refine Jd ?_;refine Jb ?_
  refine CW.block ?_
  refine CW.loop (ι := { q : Nat × Value × List (List Value) // q.1 ≤ xs.length ∧ q.2.2.length = q.1 }) (fun q => [(0, .slice A xs.length c), (3, q.1.2.1), (4, .int .i64 q.1.1)]) (fun q => [ownHP 151 4 q.1.2.1 q.1.2.2, elemsHP none kPredT q.1.2.2 (xs.take q.1.1)]) (fun q => xs.length - q.1.1) ⟨(0, .slice none 0 0, []), Nat.zero_le _, rfl⟩ ⟨rfl, rfl, rfl, trivial⟩ (fun h => h) ?_
  intro ⟨⟨j, v, es⟩, hj, hel⟩
  dsimp only at hj hel ⊢
  refine CW.seq ?_
  refine Ja ?_;refine Jc ?_;refine Jc ?_;refine Jg ?_;refine Jk ?_;refine Jb ?_
  refine CW.ite rfl (fun hlt => ?_) (fun hge => ?_)
  rotate_left
  · have hge' : xs.length ≤ j := by simpa using hge
    rw [List.take_of_length_le hge']
    refine CW.exit rfl ?_
    refine PW.code ?_
    refine Ja ?_;refine Jc ?_;refine Jd ?_;refine Jb ?_
    exact CW.ret1 rfl Tryz.results30 rfl rfl fun w hw => ⟨v, rfl, St.sep_map hw (fun w A h => slice_close rfl hsm2 h)⟩
  have hlt' : j < xs.length := by simpa using hlt
  obtain ⟨B1, O1, cs, hA, hl1, hr, hm⟩ := sl_get h (List.getElem?_eq_getElem hlt')
  have hts : xs.take (j + 1) = xs.take j ++ [xs[j]] := List.take_succ_eq_append_getElem hlt'
  generalize hx : xs[j] = x at *
  refine CW.skip ?_
  refine PW.code ?_
  refine CW.seq ?_
  refine CW.block ?_
  refine CW.region ?_
  refine Jc ?_;refine Jc ?_;refine Jc ?_
  refine RW.indexAddrE hA rfl rfl (by omega) hlt rfl ?_
  refine RW.load_ros rfl hle hm rfl hl1 (by rw [hl1]; decide) rfl ?_
  refine RW.callN Tryz.call84 rfl (fun w2 hw => copyPred_ret (hr.mono (ro_call hw))) rfl fun cs2 => ?_
  refine RW.have_ (φ := ∃ B1 d1 B2 d2, cs2 = [.string x.1, .int .i64 x.2.1, .slice B1 (x.2.2.1).length d1, .slice B2 (x.2.2.2).length d2]) (fun w hw => ?_) (fun ⟨B1, d1, B2, d2, e1⟩ => ?_)
  · obtain ⟨M, hM⟩ := own_kept (pre := []) hw
    obtain ⟨A1, c1, A2, c2, e, _⟩ := Rd.predT hM
    exact ⟨_, _, _, _, e⟩
  subst e1
  refine RW.buildSlice (e := 151) (c := [.string x.1, .int .i64 x.2.1, .slice B1 (x.2.2.1).length d1, .slice B2 (x.2.2.2).length d2]) rfl (fun w => by kernel_rfl) rfl fun b16 _ => ?_
  refine RW.append [_, _] (e := 151) (sz := 4) (news := [[.string x.1, .int .i64 x.2.1, .slice B1 (x.2.2.1).length d1, .slice B2 (x.2.2.2).length d2]]) (zc := [.string ByteArray.empty, .int .i64 0, .slice none 0 0, .slice none 0 0]) rfl rfl rfl rfl rfl (by simp) (by simp [Value.oneCell']) (fun w hw hn => ?_) ?_ ?_ rfl fun v' => ?_
  · exact ⟨b16, 0, rfl, CellsAt.of_blk (St.blk (pre := []) hw)⟩
  · rw [hel]; omega
  · rw [hel]; unfold maxN; omega
  refine RW.take [2, 3, 1] ?_
  refine RW.sep [ownHP 151 4 v' (es ++ [[.string x.1, .int .i64 x.2.1, .slice B1 (x.2.2.1).length d1, .slice B2 (x.2.2.2).length d2]]), elemsHP none kPredT (es ++ [[.string x.1, .int .i64 x.2.1, .slice B1 (x.2.2.1).length d1, .slice B2 (x.2.2.2).length d2]]) (xs.take j ++ [x])] (fun w A h => ?_) ?_
  · exact Sep.cons_perm (r := [elemsHP none kPredT es (xs.take j), ownDHP kPredT [.string x.1, .int .i64 x.2.1, .slice B1 (x.2.2.1).length d1, .slice B2 (x.2.2.2).length d2] x]) (fun A h => elems_append h) h
  rw [← hts]
  refine Jd ?_;refine RW.nil (PW.code ?_)
  refine CW.region ?_
  refine Jc ?_
  refine RW.add rfl rfl (w64 (by omega) (by omega)) rfl ?_
  refine Jd ?_
  refine RW.nil ?_
  exact PW.again ⟨(j + 1, v', es ++ [[.string x.1, .int .i64 x.2.1, .slice B1 (x.2.2.1).length d1, .slice B2 (x.2.2.2).length d2]]), hlt', by rw [List.length_append, hel]; rfl⟩ ⟨rfl, rfl, rfl, trivial⟩ (fun h => h) (by show xs.length - (j + 1) < xs.length - j; omega)
set_option maxHeartbeats 4000000 in
theorem copyRule_ret {x : kRule.V} {cs : List Value} {w : World} (h : Rd kRule (mem w (fun b => ¬ No b)) cs x) : RetC Tryz.prog 85 [.agg cs.toArray] w No (fun cs' : List Value => .agg cs'.toArray) (fun cs' => [ownDHP kRule cs' x]) := by
  obtain ⟨_, _, _, f0, _, _, _, f1, _, _, _, f2, _, _, _, f3, _, _, _, f4, _, _, _, f5, f6⟩ := id h
  obtain ⟨A1, c1, A2, c2, rfl, h4, h6⟩ := Rd.ruleT h
  have p0 := f0.2
  have p1 := f1.2
  have p2 := f2.2
  have p3 := f3.2
  have p5 := f5.2
  clear h
  refine Calls.enter Tryz.func85 rfl _ rfl rfl (S := No) (H := []) trivial ?_
  refine CW.seqR ?_
  refine RW.box_agg (l := [.string x.1, .string x.2.1, .int .i64 x.2.2.1, .int .i64 x.2.2.2.1, .slice A1 (x.2.2.2.2.1).length c1, .int .i64 x.2.2.2.2.2.1, .bool x.2.2.2.2.2.2.1, .string x.2.2.2.2.2.2.2.1, .slice A2 (x.2.2.2.2.2.2.2.2.1).length c2, .bool x.2.2.2.2.2.2.2.2.2.1, .int .i64 x.2.2.2.2.2.2.2.2.2.2]) rfl rfl fun b1 _ => ?_
  refine RW.alloc (c := [.string ByteArray.empty, .string ByteArray.empty, .int .i64 0, .int .i64 0, .slice none 0 0, .int .i64 0, .bool false, .string ByteArray.empty, .slice none 0 0, .bool false, .int .i64 0]) rfl rfl fun b2 _ => ?_
  refine RW.take [1, 0] ?_
  refine Jb ?_;refine Ja ?_;refine Je ?_;refine JA ?_
  refine RW.callN Tryz.call164 rfl (fun w2 hw => copyPrems_ret (h4.mono (ro_call hw))) rfl fun v4 => ?_
  refine RW.have_ (φ := ∃ B d, v4 = .slice B (x.2.2.2.2.1).length d) (fun w hw => ?_) (fun ⟨D4, d4, e4⟩ => ?_)
  · obtain ⟨M, hM⟩ := own_kept (pre := []) hw
    obtain ⟨A, c, e⟩ := sl_cell hM
    exact ⟨A, c, (List.cons.inj e).1⟩
  subst e4
  refine RW.take [1, 2, 0] ?_
  refine Je ?_
  refine RW.store_blk [] rfl rfl rfl rfl rfl (by show 4 < 11; omega) ?_
  refine RW.change [] (blk b1 [.string x.1, .string x.2.1, .int .i64 x.2.2.1, .int .i64 x.2.2.2.1, .slice D4 (x.2.2.2.2.1).length d4, .int .i64 x.2.2.2.2.2.1, .bool x.2.2.2.2.2.2.1, .string x.2.2.2.2.2.2.2.1, .slice A2 (x.2.2.2.2.2.2.2.2.1).length c2, .bool x.2.2.2.2.2.2.2.2.2.1, .int .i64 x.2.2.2.2.2.2.2.2.2.2] 120) (fun w F hp => hp) ?_
  refine Jb ?_;refine Ja ?_;refine Je ?_
  refine RW.load_part5 [] rfl rfl rfl rfl ?_
  refine RW.callN Tryz.call16 rfl (fun w2 hw => copyLit_ret (h6.mono (ro_call hw))) rfl fun v6 => ?_
  refine RW.have_ (φ := ∃ B3 d3, v6 = [.bool x.2.2.2.2.2.2.1, .string x.2.2.2.2.2.2.2.1, .slice B3 (x.2.2.2.2.2.2.2.2.1).length d3, .bool x.2.2.2.2.2.2.2.2.2.1, .int .i64 x.2.2.2.2.2.2.2.2.2.2]) (fun w hw => ?_) (fun ⟨B3, d3, e6⟩ => ?_)
  · obtain ⟨M, hM⟩ := own_kept (pre := []) hw
    obtain ⟨A3, c3, e, _⟩ := Rd.litT hM
    exact ⟨_, _, e⟩
  subst e6
  refine RW.take [1, 2, 3, 0] ?_
  refine Je ?_
  refine RW.store_part [] rfl rfl (vs := [.bool x.2.2.2.2.2.2.1, .string x.2.2.2.2.2.2.2.1, .slice B3 (x.2.2.2.2.2.2.2.2.1).length d3, .bool x.2.2.2.2.2.2.2.2.2.1, .int .i64 x.2.2.2.2.2.2.2.2.2.2]) rfl rfl (by simp [Value.oneCell']) (by show 6 + 5 ≤ 11; omega) ?_
  refine RW.change [] (blk b1 [.string x.1, .string x.2.1, .int .i64 x.2.2.1, .int .i64 x.2.2.2.1, .slice D4 (x.2.2.2.2.1).length d4, .int .i64 x.2.2.2.2.2.1, .bool x.2.2.2.2.2.2.1, .string x.2.2.2.2.2.2.2.1, .slice B3 (x.2.2.2.2.2.2.2.2.1).length d3, .bool x.2.2.2.2.2.2.2.2.2.1, .int .i64 x.2.2.2.2.2.2.2.2.2.2] 120) (fun w F hp => hp) ?_
  refine Jb ?_;refine Ja ?_;refine JE ?_
  refine RW.store_whole [_] rfl rfl (vs := [.string x.1, .string x.2.1, .int .i64 x.2.2.1, .int .i64 x.2.2.2.1, .slice D4 (x.2.2.2.2.1).length d4, .int .i64 x.2.2.2.2.2.1, .bool x.2.2.2.2.2.2.1, .string x.2.2.2.2.2.2.2.1, .slice B3 (x.2.2.2.2.2.2.2.2.1).length d3, .bool x.2.2.2.2.2.2.2.2.2.1, .int .i64 x.2.2.2.2.2.2.2.2.2.2]) rfl rfl rfl (by simp [Value.oneCell']) ?_
  refine Jb ?_
  refine CW.rets (rs := [.cell 2 120]) (vs := [_]) rfl Tryz.results85 rfl (ResOK.cell [_] rfl rfl rfl ResOK.nil) fun w hw => ⟨[.string x.1, .string x.2.1, .int .i64 x.2.2.1, .int .i64 x.2.2.2.1, .slice D4 (x.2.2.2.2.1).length d4, .int .i64 x.2.2.2.2.2.1, .bool x.2.2.2.2.2.2.1, .string x.2.2.2.2.2.2.2.1, .slice B3 (x.2.2.2.2.2.2.2.2.1).length d3, .bool x.2.2.2.2.2.2.2.2.2.1, .int .i64 x.2.2.2.2.2.2.2.2.2.2], rfl, ?_⟩
  exact St.sep_map (hw.take [2, 3]) (fun w A h => pr_close (Sep.addp (own_str_pure p0) (pr_close (Sep.addp (own_str_pure p1) (pr_close (Sep.addp (own_int_pure p2) (pr_close (Sep.addp (own_int_pure p3) (pr_close (Sep.cons_perm (fun A h => pr_close (Sep.addp (own_int_pure p5) (h))) h))))))))))
set_option maxHeartbeats 4000000 in
theorem copyRules_ret {A : Option Addr} {c : Nat} {xs : List kRule.V} {w : World} (h : Rd (.sl 144 kRule) (mem w (fun b => ¬ No b)) [.slice A xs.length c] xs) : RetC Tryz.prog 33 [.slice A xs.length c] w No (fun v : Value => v) (fun v => [ownDHP (.sl 144 kRule) [v] xs]) := by
  have hsm := sl_small h
  have hsm2 := hsm
  unfold reach at hsm
  have hle : Mem.le (mem w (fun b => ¬ No b)) (mem w (fun b => ¬ No b)) := Mem.le_refl _
  refine Calls.enter Tryz.func33 rfl _ rfl rfl (S := No) (H := []) trivial ?_
  refine CW.add_ (elemsHP none kRule [] []) (fun w _ => elems_nil) ?_
  refine CW.add_ (ownHP 120 11 (.slice none 0 0) []) (fun w _ => .inl ⟨rfl, rfl⟩) ?_
  refine Ja ?_;refine Jd ?_;refine Jb ?_;refine Ja ?_;refine Jd ?_;refine Jb ?_
  refine CW.seq ?_
  refine Ja ?_;refine Jd ?_;refine Jb ?_
  refine CW.block ?_
  refine CW.loop (ι := { q : Nat × Value × List (List Value) // q.1 ≤ xs.length ∧ q.2.2.length = q.1 }) (fun q => [(0, .slice A xs.length c), (3, q.1.2.1), (4, .int .i64 q.1.1)]) (fun q => [ownHP 120 11 q.1.2.1 q.1.2.2, elemsHP none kRule q.1.2.2 (xs.take q.1.1)]) (fun q => xs.length - q.1.1) ⟨(0, .slice none 0 0, []), Nat.zero_le _, rfl⟩ ⟨rfl, rfl, rfl, trivial⟩ (fun h => h) ?_
  intro ⟨⟨j, v, es⟩, hj, hel⟩
  dsimp only at hj hel ⊢
  refine CW.seq ?_
  refine Ja ?_;refine Jc ?_;refine Jc ?_;refine Jg ?_;refine Jk ?_;refine Jb ?_
  refine CW.ite rfl (fun hlt => ?_) (fun hge => ?_)
  rotate_left
  · have hge' : xs.length ≤ j := by simpa using hge
    rw [List.take_of_length_le hge']
    refine CW.exit rfl ?_
    refine PW.code ?_
    refine Ja ?_;refine Jc ?_;refine Jd ?_;refine Jb ?_
    exact CW.ret1 rfl Tryz.results33 rfl rfl fun w hw => ⟨v, rfl, St.sep_map hw (fun w A h => slice_close rfl hsm2 h)⟩
  have hlt' : j < xs.length := by simpa using hlt
  obtain ⟨B1, O1, cs, hA, hl1, hr, hm⟩ := sl_get h (List.getElem?_eq_getElem hlt')
  have hts : xs.take (j + 1) = xs.take j ++ [xs[j]] := List.take_succ_eq_append_getElem hlt'
  generalize hx : xs[j] = x at *
  refine CW.skip ?_
  refine PW.code ?_
  refine CW.seq ?_
  refine CW.block ?_
  refine CW.region ?_
  refine Jc ?_;refine Jc ?_;refine Jc ?_
  refine RW.indexAddrE hA rfl rfl (by omega) hlt rfl ?_
  refine RW.load_ros rfl hle hm rfl hl1 (by rw [hl1]; decide) rfl ?_
  refine RW.callN Tryz.call85 rfl (fun w2 hw => copyRule_ret (hr.mono (ro_call hw))) rfl fun cs2 => ?_
  refine RW.have_ (φ := ∃ B1 d1 B2 d2, cs2 = [.string x.1, .string x.2.1, .int .i64 x.2.2.1, .int .i64 x.2.2.2.1, .slice B1 (x.2.2.2.2.1).length d1, .int .i64 x.2.2.2.2.2.1, .bool x.2.2.2.2.2.2.1, .string x.2.2.2.2.2.2.2.1, .slice B2 (x.2.2.2.2.2.2.2.2.1).length d2, .bool x.2.2.2.2.2.2.2.2.2.1, .int .i64 x.2.2.2.2.2.2.2.2.2.2]) (fun w hw => ?_) (fun ⟨B1, d1, B2, d2, e1⟩ => ?_)
  · obtain ⟨M, hM⟩ := own_kept (pre := []) hw
    obtain ⟨A1, c1, A2, c2, e, _⟩ := Rd.ruleT hM
    exact ⟨_, _, _, _, e⟩
  subst e1
  refine RW.buildSlice (e := 120) (c := [.string x.1, .string x.2.1, .int .i64 x.2.2.1, .int .i64 x.2.2.2.1, .slice B1 (x.2.2.2.2.1).length d1, .int .i64 x.2.2.2.2.2.1, .bool x.2.2.2.2.2.2.1, .string x.2.2.2.2.2.2.2.1, .slice B2 (x.2.2.2.2.2.2.2.2.1).length d2, .bool x.2.2.2.2.2.2.2.2.2.1, .int .i64 x.2.2.2.2.2.2.2.2.2.2]) rfl (fun w => by kernel_rfl) rfl fun b16 _ => ?_
  refine RW.append [_, _] (e := 120) (sz := 11) (news := [[.string x.1, .string x.2.1, .int .i64 x.2.2.1, .int .i64 x.2.2.2.1, .slice B1 (x.2.2.2.2.1).length d1, .int .i64 x.2.2.2.2.2.1, .bool x.2.2.2.2.2.2.1, .string x.2.2.2.2.2.2.2.1, .slice B2 (x.2.2.2.2.2.2.2.2.1).length d2, .bool x.2.2.2.2.2.2.2.2.2.1, .int .i64 x.2.2.2.2.2.2.2.2.2.2]]) (zc := [.string ByteArray.empty, .string ByteArray.empty, .int .i64 0, .int .i64 0, .slice none 0 0, .int .i64 0, .bool false, .string ByteArray.empty, .slice none 0 0, .bool false, .int .i64 0]) rfl rfl rfl rfl rfl (by simp) (by simp [Value.oneCell']) (fun w hw hn => ?_) ?_ ?_ rfl fun v' => ?_
  · exact ⟨b16, 0, rfl, CellsAt.of_blk (St.blk (pre := []) hw)⟩
  · rw [hel]; omega
  · rw [hel]; unfold maxN; omega
  refine RW.take [2, 3, 1] ?_
  refine RW.sep [ownHP 120 11 v' (es ++ [[.string x.1, .string x.2.1, .int .i64 x.2.2.1, .int .i64 x.2.2.2.1, .slice B1 (x.2.2.2.2.1).length d1, .int .i64 x.2.2.2.2.2.1, .bool x.2.2.2.2.2.2.1, .string x.2.2.2.2.2.2.2.1, .slice B2 (x.2.2.2.2.2.2.2.2.1).length d2, .bool x.2.2.2.2.2.2.2.2.2.1, .int .i64 x.2.2.2.2.2.2.2.2.2.2]]), elemsHP none kRule (es ++ [[.string x.1, .string x.2.1, .int .i64 x.2.2.1, .int .i64 x.2.2.2.1, .slice B1 (x.2.2.2.2.1).length d1, .int .i64 x.2.2.2.2.2.1, .bool x.2.2.2.2.2.2.1, .string x.2.2.2.2.2.2.2.1, .slice B2 (x.2.2.2.2.2.2.2.2.1).length d2, .bool x.2.2.2.2.2.2.2.2.2.1, .int .i64 x.2.2.2.2.2.2.2.2.2.2]]) (xs.take j ++ [x])] (fun w A h => ?_) ?_
  · exact Sep.cons_perm (r := [elemsHP none kRule es (xs.take j), ownDHP kRule [.string x.1, .string x.2.1, .int .i64 x.2.2.1, .int .i64 x.2.2.2.1, .slice B1 (x.2.2.2.2.1).length d1, .int .i64 x.2.2.2.2.2.1, .bool x.2.2.2.2.2.2.1, .string x.2.2.2.2.2.2.2.1, .slice B2 (x.2.2.2.2.2.2.2.2.1).length d2, .bool x.2.2.2.2.2.2.2.2.2.1, .int .i64 x.2.2.2.2.2.2.2.2.2.2] x]) (fun A h => elems_append h) h
  rw [← hts]
  refine Jd ?_;refine RW.nil (PW.code ?_)
  refine CW.region ?_
  refine Jc ?_
  refine RW.add rfl rfl (w64 (by omega) (by omega)) rfl ?_
  refine Jd ?_
  refine RW.nil ?_
  exact PW.again ⟨(j + 1, v', es ++ [[.string x.1, .string x.2.1, .int .i64 x.2.2.1, .int .i64 x.2.2.2.1, .slice B1 (x.2.2.2.2.1).length d1, .int .i64 x.2.2.2.2.2.1, .bool x.2.2.2.2.2.2.1, .string x.2.2.2.2.2.2.2.1, .slice B2 (x.2.2.2.2.2.2.2.2.1).length d2, .bool x.2.2.2.2.2.2.2.2.2.1, .int .i64 x.2.2.2.2.2.2.2.2.2.2]]), hlt', by rw [List.length_append, hel]; rfl⟩ ⟨rfl, rfl, rfl, trivial⟩ (fun h => h) (by show xs.length - (j + 1) < xs.length - j; omega)
set_option maxHeartbeats 4000000 in
theorem copyTotal_ret {x : kTotal.V} {cs : List Value} {w : World} (h : Rd kTotal (mem w (fun b => ¬ No b)) cs x) : RetC Tryz.prog 86 [.agg cs.toArray] w No (fun cs' : List Value => .agg cs'.toArray) (fun cs' => [ownDHP kTotal cs' x]) := by
  obtain ⟨_, _, _, f0, _, _, _, f1, _, _, _, f2, _, _, _, f3, f4⟩ := id h
  obtain ⟨A1, c1, rfl, h2⟩ := Rd.totalT h
  have p0 := f0.2
  have p1 := f1.2
  have p4 := f4.2
  clear h
  refine Calls.enter Tryz.func86 rfl _ rfl rfl (S := No) (H := []) trivial ?_
  refine CW.seqR ?_
  refine RW.box_agg (l := [.string x.1, .string x.2.1, .slice A1 (x.2.2.1).length c1, .bool x.2.2.2.1, .int .i64 x.2.2.2.2]) rfl rfl fun b1 _ => ?_
  refine RW.alloc (c := [.string ByteArray.empty, .string ByteArray.empty, .slice none 0 0, .bool false, .int .i64 0]) rfl rfl fun b2 _ => ?_
  refine RW.take [1, 0] ?_
  refine Jb ?_;refine Ja ?_;refine Je ?_;refine JA ?_
  refine RW.callN Tryz.call28 rfl (fun w2 hw => copyStrs_ret (h2.mono (ro_call hw))) rfl fun v2 => ?_
  refine RW.have_ (φ := ∃ B d, v2 = .slice B (x.2.2.1).length d) (fun w hw => ?_) (fun ⟨D2, d2, e2⟩ => ?_)
  · obtain ⟨M, hM⟩ := own_kept (pre := []) hw
    obtain ⟨A, c, e⟩ := sl_cell hM
    exact ⟨A, c, (List.cons.inj e).1⟩
  subst e2
  refine RW.take [1, 2, 0] ?_
  refine Je ?_
  refine RW.store_blk [] rfl rfl rfl rfl rfl (by show 2 < 5; omega) ?_
  refine RW.change [] (blk b1 [.string x.1, .string x.2.1, .slice D2 (x.2.2.1).length d2, .bool x.2.2.2.1, .int .i64 x.2.2.2.2] 166) (fun w F hp => hp) ?_
  refine Jb ?_;refine Ja ?_;refine JE ?_
  refine RW.store_whole [_] rfl rfl (vs := [.string x.1, .string x.2.1, .slice D2 (x.2.2.1).length d2, .bool x.2.2.2.1, .int .i64 x.2.2.2.2]) rfl rfl rfl (by simp [Value.oneCell']) ?_
  refine Jb ?_
  refine CW.rets (rs := [.cell 2 166]) (vs := [_]) rfl Tryz.results86 rfl (ResOK.cell [_] rfl rfl rfl ResOK.nil) fun w hw => ⟨[.string x.1, .string x.2.1, .slice D2 (x.2.2.1).length d2, .bool x.2.2.2.1, .int .i64 x.2.2.2.2], rfl, ?_⟩
  exact St.sep_map (hw.take [2]) (fun w A h => pr_close (Sep.addp (own_str_pure p0) (pr_close (Sep.addp (own_str_pure p1) (pr_close (Sep.cons_perm (fun A h => pr_close (Sep.addp (own_bool_pure) (Sep.addp (own_int_pure p4) h))) h))))))
set_option maxHeartbeats 4000000 in
theorem copyTotals_ret {A : Option Addr} {c : Nat} {xs : List kTotal.V} {w : World} (h : Rd (.sl 72 kTotal) (mem w (fun b => ¬ No b)) [.slice A xs.length c] xs) : RetC Tryz.prog 35 [.slice A xs.length c] w No (fun v : Value => v) (fun v => [ownDHP (.sl 72 kTotal) [v] xs]) := by
  have hsm := sl_small h
  have hsm2 := hsm
  unfold reach at hsm
  have hle : Mem.le (mem w (fun b => ¬ No b)) (mem w (fun b => ¬ No b)) := Mem.le_refl _
  refine Calls.enter Tryz.func35 rfl _ rfl rfl (S := No) (H := []) trivial ?_
  refine CW.add_ (elemsHP none kTotal [] []) (fun w _ => elems_nil) ?_
  refine CW.add_ (ownHP 166 5 (.slice none 0 0) []) (fun w _ => .inl ⟨rfl, rfl⟩) ?_
  refine Ja ?_;refine Jd ?_;refine Jb ?_;refine Ja ?_;refine Jd ?_;refine Jb ?_
  refine CW.seq ?_
  refine Ja ?_;refine Jd ?_;refine Jb ?_
  refine CW.block ?_
  refine CW.loop (ι := { q : Nat × Value × List (List Value) // q.1 ≤ xs.length ∧ q.2.2.length = q.1 }) (fun q => [(0, .slice A xs.length c), (3, q.1.2.1), (4, .int .i64 q.1.1)]) (fun q => [ownHP 166 5 q.1.2.1 q.1.2.2, elemsHP none kTotal q.1.2.2 (xs.take q.1.1)]) (fun q => xs.length - q.1.1) ⟨(0, .slice none 0 0, []), Nat.zero_le _, rfl⟩ ⟨rfl, rfl, rfl, trivial⟩ (fun h => h) ?_
  intro ⟨⟨j, v, es⟩, hj, hel⟩
  dsimp only at hj hel ⊢
  refine CW.seq ?_
  refine Ja ?_;refine Jc ?_;refine Jc ?_;refine Jg ?_;refine Jk ?_;refine Jb ?_
  refine CW.ite rfl (fun hlt => ?_) (fun hge => ?_)
  rotate_left
  · have hge' : xs.length ≤ j := by simpa using hge
    rw [List.take_of_length_le hge']
    refine CW.exit rfl ?_
    refine PW.code ?_
    refine Ja ?_;refine Jc ?_;refine Jd ?_;refine Jb ?_
    exact CW.ret1 rfl Tryz.results35 rfl rfl fun w hw => ⟨v, rfl, St.sep_map hw (fun w A h => slice_close rfl hsm2 h)⟩
  have hlt' : j < xs.length := by simpa using hlt
  obtain ⟨B1, O1, cs, hA, hl1, hr, hm⟩ := sl_get h (List.getElem?_eq_getElem hlt')
  have hts : xs.take (j + 1) = xs.take j ++ [xs[j]] := List.take_succ_eq_append_getElem hlt'
  generalize hx : xs[j] = x at *
  refine CW.skip ?_
  refine PW.code ?_
  refine CW.seq ?_
  refine CW.block ?_
  refine CW.region ?_
  refine Jc ?_;refine Jc ?_;refine Jc ?_
  refine RW.indexAddrE hA rfl rfl (by omega) hlt rfl ?_
  refine RW.load_ros rfl hle hm rfl hl1 (by rw [hl1]; decide) rfl ?_
  refine RW.callN Tryz.call86 rfl (fun w2 hw => copyTotal_ret (hr.mono (ro_call hw))) rfl fun cs2 => ?_
  refine RW.have_ (φ := ∃ B1 d1, cs2 = [.string x.1, .string x.2.1, .slice B1 (x.2.2.1).length d1, .bool x.2.2.2.1, .int .i64 x.2.2.2.2]) (fun w hw => ?_) (fun ⟨B1, d1, e1⟩ => ?_)
  · obtain ⟨M, hM⟩ := own_kept (pre := []) hw
    obtain ⟨A1, c1, e, _⟩ := Rd.totalT hM
    exact ⟨_, _, e⟩
  subst e1
  refine RW.buildSlice (e := 166) (c := [.string x.1, .string x.2.1, .slice B1 (x.2.2.1).length d1, .bool x.2.2.2.1, .int .i64 x.2.2.2.2]) rfl (fun w => by kernel_rfl) rfl fun b16 _ => ?_
  refine RW.append [_, _] (e := 166) (sz := 5) (news := [[.string x.1, .string x.2.1, .slice B1 (x.2.2.1).length d1, .bool x.2.2.2.1, .int .i64 x.2.2.2.2]]) (zc := [.string ByteArray.empty, .string ByteArray.empty, .slice none 0 0, .bool false, .int .i64 0]) rfl rfl rfl rfl rfl (by simp) (by simp [Value.oneCell']) (fun w hw hn => ?_) ?_ ?_ rfl fun v' => ?_
  · exact ⟨b16, 0, rfl, CellsAt.of_blk (St.blk (pre := []) hw)⟩
  · rw [hel]; omega
  · rw [hel]; unfold maxN; omega
  refine RW.take [2, 3, 1] ?_
  refine RW.sep [ownHP 166 5 v' (es ++ [[.string x.1, .string x.2.1, .slice B1 (x.2.2.1).length d1, .bool x.2.2.2.1, .int .i64 x.2.2.2.2]]), elemsHP none kTotal (es ++ [[.string x.1, .string x.2.1, .slice B1 (x.2.2.1).length d1, .bool x.2.2.2.1, .int .i64 x.2.2.2.2]]) (xs.take j ++ [x])] (fun w A h => ?_) ?_
  · exact Sep.cons_perm (r := [elemsHP none kTotal es (xs.take j), ownDHP kTotal [.string x.1, .string x.2.1, .slice B1 (x.2.2.1).length d1, .bool x.2.2.2.1, .int .i64 x.2.2.2.2] x]) (fun A h => elems_append h) h
  rw [← hts]
  refine Jd ?_;refine RW.nil (PW.code ?_)
  refine CW.region ?_
  refine Jc ?_
  refine RW.add rfl rfl (w64 (by omega) (by omega)) rfl ?_
  refine Jd ?_
  refine RW.nil ?_
  exact PW.again ⟨(j + 1, v', es ++ [[.string x.1, .string x.2.1, .slice B1 (x.2.2.1).length d1, .bool x.2.2.2.1, .int .i64 x.2.2.2.2]]), hlt', by rw [List.length_append, hel]; rfl⟩ ⟨rfl, rfl, rfl, trivial⟩ (fun h => h) (by show xs.length - (j + 1) < xs.length - j; omega)
set_option maxHeartbeats 4000000 in
theorem copyLists_ret {A : Option Addr} {c : Nat} {xs : List (List Str)} {w : World} (h : Rd (.sl 24 kStrs) (mem w (fun b => ¬ No b)) [.slice A xs.length c] xs) : RetC Tryz.prog 31 [.slice A xs.length c] w No (fun v : Value => v) (fun v => [ownDHP (.sl 24 kStrs) [v] xs]) := by
  have hsm := sl_small h
  have hsm2 := hsm
  unfold reach at hsm
  have hle : Mem.le (mem w (fun b => ¬ No b)) (mem w (fun b => ¬ No b)) := Mem.le_refl _
  refine Calls.enter Tryz.func31 rfl _ rfl rfl (S := No) (H := []) trivial ?_
  refine CW.add_ (elemsHP none kStrs [] []) (fun w _ => elems_nil) ?_
  refine CW.add_ (ownHP 22 1 (.slice none 0 0) []) (fun w _ => .inl ⟨rfl, rfl⟩) ?_
  refine Ja ?_;refine Jd ?_;refine Jb ?_;refine Ja ?_;refine Jd ?_;refine Jb ?_
  refine CW.seq ?_
  refine Ja ?_;refine Jd ?_;refine Jb ?_
  refine CW.block ?_
  refine CW.loop (ι := { q : Nat × Value × List (List Value) // q.1 ≤ xs.length ∧ q.2.2.length = q.1 }) (fun q => [(0, .slice A xs.length c), (3, q.1.2.1), (4, .int .i64 q.1.1)]) (fun q => [ownHP 22 1 q.1.2.1 q.1.2.2, elemsHP none kStrs q.1.2.2 (xs.take q.1.1)]) (fun q => xs.length - q.1.1) ⟨(0, .slice none 0 0, []), Nat.zero_le _, rfl⟩ ⟨rfl, rfl, rfl, trivial⟩ (fun h => h) ?_
  intro ⟨⟨j, v, es⟩, hj, hel⟩
  dsimp only at hj hel ⊢
  refine CW.seq ?_
  refine Ja ?_;refine Jc ?_;refine Jc ?_;refine Jg ?_;refine Jk ?_;refine Jb ?_
  refine CW.ite rfl (fun hlt => ?_) (fun hge => ?_)
  rotate_left
  · have hge' : xs.length ≤ j := by simpa using hge
    rw [List.take_of_length_le hge']
    refine CW.exit rfl ?_
    refine PW.code ?_
    refine Ja ?_;refine Jc ?_;refine Jd ?_;refine Jb ?_
    exact CW.ret1 rfl Tryz.results31 rfl rfl fun w hw => ⟨v, rfl, St.sep_map hw (fun w A h => slice_close rfl hsm2 h)⟩
  have hlt' : j < xs.length := by simpa using hlt
  obtain ⟨B1, O1, cs, hA, hl1, hr, hm⟩ := sl_get h (List.getElem?_eq_getElem hlt')
  have hts : xs.take (j + 1) = xs.take j ++ [xs[j]] := List.take_succ_eq_append_getElem hlt'
  generalize hx : xs[j] = x at *
  obtain ⟨A1, c1, rfl⟩ := sl_cell hr
  refine CW.skip ?_
  refine PW.code ?_
  refine CW.seq ?_
  refine CW.block ?_
  refine CW.region ?_
  refine Jc ?_;refine Jc ?_;refine Jc ?_
  refine RW.indexAddrE hA rfl rfl (by omega) hlt rfl ?_
  refine RW.load_ro rfl hle (hm 0 _ rfl) rfl rfl ?_
  refine RW.callN Tryz.call28 rfl (fun w2 hw => copyStrs_ret (hr.mono (ro_call hw))) rfl fun cs2 => ?_
  refine RW.have_ (φ := ∃ B d, cs2 = .slice B x.length d) (fun w hw => ?_) (fun ⟨D1, d1, e1⟩ => ?_)
  · obtain ⟨M, hM⟩ := own_kept (pre := []) hw
    obtain ⟨A, c, e⟩ := sl_cell hM
    exact ⟨A, c, (List.cons.inj e).1⟩
  subst e1
  refine RW.buildSlice (e := 22) (c := [.slice D1 x.length d1]) rfl (fun w => by kernel_rfl) rfl fun b16 _ => ?_
  refine RW.append [_, _] (e := 22) (sz := 1) (news := [[.slice D1 x.length d1]]) (zc := [.slice none 0 0]) rfl rfl rfl rfl rfl (by simp) (by simp [Value.oneCell']) (fun w hw hn => ?_) ?_ ?_ rfl fun v' => ?_
  · exact ⟨b16, 0, rfl, CellsAt.of_blk (St.blk (pre := []) hw)⟩
  · rw [hel]; omega
  · rw [hel]; unfold maxN; omega
  refine RW.take [2, 3, 1] ?_
  refine RW.sep [ownHP 22 1 v' (es ++ [[.slice D1 x.length d1]]), elemsHP none kStrs (es ++ [[.slice D1 x.length d1]]) (xs.take j ++ [x])] (fun w A h => ?_) ?_
  · exact Sep.cons_perm (r := [elemsHP none kStrs es (xs.take j), ownDHP kStrs [.slice D1 x.length d1] x]) (fun A h => elems_append h) h
  rw [← hts]
  refine Jd ?_;refine RW.nil (PW.code ?_)
  refine CW.region ?_
  refine Jc ?_
  refine RW.add rfl rfl (w64 (by omega) (by omega)) rfl ?_
  refine Jd ?_
  refine RW.nil ?_
  exact PW.again ⟨(j + 1, v', es ++ [[.slice D1 x.length d1]]), hlt', by rw [List.length_append, hel]; rfl⟩ ⟨rfl, rfl, rfl, trivial⟩ (fun h => h) (by show xs.length - (j + 1) < xs.length - j; omega)
end Go.Proofs.YtkfmlekomfnleaaGreat
/- CopyStatute; deep data of one's own opened and closed; lexpriorlaw08.turned, args. Conditions: none. -/
set_option linter.unusedVariables false
set_option linter.unusedSimpArgs false
set_option maxRecDepth 10000
namespace Go.Proofs.YtkfmlekomfnleaaGreat
open Go Go.RowKit Go.MapKept

theorem sl_out {t : K} {w : World} {A : Nat → Prop} {cs : List Value} {r : List HP} {by_ : Nat} {xs : List t.V} (h : Sep (ownDHP (.sl by_ t) cs xs :: r) w A) : ∃ A0 c, cs = [.slice A0 xs.length c] := by
  obtain ⟨F, _, hp, _⟩ := h
  exact sl_cell (OwnD.rd hp)
def memP (x : kMember.V) : Prop := ByteArray.size (x.1) ≤ reach ∧ ByteArray.size (x.2) ≤ reach
abbrev memCs (x : kMember.V) (q : Unit) : List Value := [.string x.1, .string x.2]
abbrev memH (x : kMember.V) (q : Unit) : List HP := []
theorem mem_open {x : kMember.V} {cs : List Value} {r : List HP} {w : World} {A : Nat → Prop} (h0 : Sep (ownDHP kMember cs x :: r) w A) : ∃ q : Unit, (cs = memCs x q ∧ memP x) ∧ Sep (memH x q ++ r) w A := by
  obtain ⟨_, _, rfl, h1⟩ := pr_open (y := x.1) (z := x.2) h0
  obtain ⟨rfl, p1, h2⟩ := str_out h1
  obtain ⟨rfl, p2, h3⟩ := str_out h2
  exact ⟨(), ⟨rfl, p1, p2⟩, h3⟩
theorem mem_close {x : kMember.V} {q : Unit} {r : List HP} {w : World} {A : Nat → Prop} (hP : memP x) (h : Sep (memH x q ++ r) w A) : Sep (ownDHP kMember (memCs x q) x :: r) w A := by
  obtain ⟨p1, p2⟩ := hP
  exact pr_close (Sep.addp (own_str_pure p1) (Sep.addp (own_str_pure p2) (h)))
def termP (x : kTerm.V) : Prop := inR .i64 x.1 ∧ ByteArray.size (x.2.1) ≤ reach ∧ inR .i64 x.2.2.2
abbrev termCs (x : kTerm.V) (q : (Option Addr × Nat)) : List Value := [.int .i64 x.1, .string x.2.1, .slice q.1 (x.2.2.1).length q.2, .int .i64 x.2.2.2]
abbrev termH (x : kTerm.V) (q : (Option Addr × Nat)) : List HP := [ownDHP kStrs [.slice q.1 (x.2.2.1).length q.2] x.2.2.1]
theorem term_open {x : kTerm.V} {cs : List Value} {r : List HP} {w : World} {A : Nat → Prop} (h0 : Sep (ownDHP kTerm cs x :: r) w A) : ∃ q : (Option Addr × Nat), (cs = termCs x q ∧ termP x) ∧ Sep (termH x q ++ r) w A := by
  obtain ⟨_, _, rfl, h1⟩ := pr_open (y := x.1) (z := x.2) h0
  obtain ⟨rfl, p1, h2⟩ := int_out h1
  obtain ⟨_, _, rfl, h3⟩ := pr_open (y := x.2.1) (z := x.2.2) h2
  obtain ⟨rfl, p2, h4⟩ := str_out h3
  obtain ⟨_, _, rfl, h5⟩ := pr_open (y := x.2.2.1) (z := x.2.2.2) h4
  obtain ⟨A0, c0, rfl⟩ := sl_out h5
  obtain ⟨F0, g0, k0, h6⟩ := h5
  obtain ⟨rfl, p3, h7⟩ := int_out h6
  exact ⟨(A0, c0), ⟨rfl, p1, p2, p3⟩, F0, g0, k0, h7⟩
theorem term_close {x : kTerm.V} {q : (Option Addr × Nat)} {r : List HP} {w : World} {A : Nat → Prop} (hP : termP x) (h : Sep (termH x q ++ r) w A) : Sep (ownDHP kTerm (termCs x q) x :: r) w A := by
  obtain ⟨p1, p2, p3⟩ := hP
  exact pr_close (Sep.addp (own_int_pure p1) (pr_close (Sep.addp (own_str_pure p2) (pr_close (Sep.cons_perm (fun A h => Sep.addp (own_int_pure p3) (h)) h)))))
def premP (x : kPrem.V) : Prop := inR .i64 x.1 ∧ ByteArray.size (x.2.1.2.1) ≤ reach ∧ inR .i64 x.2.1.2.2.2.2 ∧ inR .i64 x.2.2.1.2.1 ∧ ByteArray.size (x.2.2.2.1) ≤ reach ∧ ByteArray.size (x.2.2.2.2) ≤ reach
abbrev premCs (x : kPrem.V) (q : (Option Addr × Nat) × (Option Addr × Nat) × (Option Addr × Nat)) : List Value := [.int .i64 x.1, .bool x.2.1.1, .string x.2.1.2.1, .slice q.1.1 (x.2.1.2.2.1).length q.1.2, .bool x.2.1.2.2.2.1, .int .i64 x.2.1.2.2.2.2, .slice q.2.1.1 (x.2.2.1.1).length q.2.1.2, .int .i64 x.2.2.1.2.1, .slice q.2.2.1 (x.2.2.1.2.2).length q.2.2.2, .string x.2.2.2.1, .string x.2.2.2.2]
abbrev premH (x : kPrem.V) (q : (Option Addr × Nat) × (Option Addr × Nat) × (Option Addr × Nat)) : List HP := [ownDHP kStrs [.slice q.1.1 (x.2.1.2.2.1).length q.1.2] x.2.1.2.2.1, ownDHP kTerms [.slice q.2.1.1 (x.2.2.1.1).length q.2.1.2] x.2.2.1.1, ownDHP kTerms [.slice q.2.2.1 (x.2.2.1.2.2).length q.2.2.2] x.2.2.1.2.2]
theorem prem_open {x : kPrem.V} {cs : List Value} {r : List HP} {w : World} {A : Nat → Prop} (h0 : Sep (ownDHP kPrem cs x :: r) w A) : ∃ q : (Option Addr × Nat) × (Option Addr × Nat) × (Option Addr × Nat), (cs = premCs x q ∧ premP x) ∧ Sep (premH x q ++ r) w A := by
  obtain ⟨_, _, rfl, h1⟩ := pr_open (y := x.1) (z := x.2) h0
  obtain ⟨rfl, p1, h2⟩ := int_out h1
  obtain ⟨_, _, rfl, h3⟩ := pr_open (y := x.2.1) (z := x.2.2) h2
  obtain ⟨_, _, rfl, h4⟩ := pr_open (y := x.2.1.1) (z := x.2.1.2) h3
  obtain ⟨rfl, h5⟩ := bool_out h4
  obtain ⟨_, _, rfl, h6⟩ := pr_open (y := x.2.1.2.1) (z := x.2.1.2.2) h5
  obtain ⟨rfl, p2, h7⟩ := str_out h6
  obtain ⟨_, _, rfl, h8⟩ := pr_open (y := x.2.1.2.2.1) (z := x.2.1.2.2.2) h7
  obtain ⟨A0, c0, rfl⟩ := sl_out h8
  obtain ⟨F0, g0, k0, h9⟩ := h8
  obtain ⟨_, _, rfl, h10⟩ := pr_open (y := x.2.1.2.2.2.1) (z := x.2.1.2.2.2.2) h9
  obtain ⟨rfl, h11⟩ := bool_out h10
  obtain ⟨rfl, p3, h12⟩ := int_out h11
  obtain ⟨_, _, rfl, h13⟩ := pr_open (y := x.2.2.1) (z := x.2.2.2) h12
  obtain ⟨_, _, rfl, h14⟩ := pr_open (y := x.2.2.1.1) (z := x.2.2.1.2) h13
  obtain ⟨A1, c1, rfl⟩ := sl_out h14
  obtain ⟨F1, g1, k1, h15⟩ := h14
  obtain ⟨_, _, rfl, h16⟩ := pr_open (y := x.2.2.1.2.1) (z := x.2.2.1.2.2) h15
  obtain ⟨rfl, p4, h17⟩ := int_out h16
  obtain ⟨A2, c2, rfl⟩ := sl_out h17
  obtain ⟨F2, g2, k2, h18⟩ := h17
  obtain ⟨_, _, rfl, h19⟩ := pr_open (y := x.2.2.2.1) (z := x.2.2.2.2) h18
  obtain ⟨rfl, p5, h20⟩ := str_out h19
  obtain ⟨rfl, p6, h21⟩ := str_out h20
  exact ⟨((A0, c0), (A1, c1), (A2, c2)), ⟨rfl, p1, p2, p3, p4, p5, p6⟩, F0, g0, k0, F1, g1, k1, F2, g2, k2, h21⟩
theorem prem_close {x : kPrem.V} {q : (Option Addr × Nat) × (Option Addr × Nat) × (Option Addr × Nat)} {r : List HP} {w : World} {A : Nat → Prop} (hP : premP x) (h : Sep (premH x q ++ r) w A) : Sep (ownDHP kPrem (premCs x q) x :: r) w A := by
  obtain ⟨p1, p2, p3, p4, p5, p6⟩ := hP
  exact pr_close (Sep.addp (own_int_pure p1) (pr_close (pr_close (Sep.addp own_bool_pure (pr_close (Sep.addp (own_str_pure p2) (pr_close (Sep.cons_perm (fun A h => pr_close (Sep.addp own_bool_pure (Sep.addp (own_int_pure p3) (pr_close (pr_close (Sep.cons_perm (fun A h => pr_close (Sep.addp (own_int_pure p4) (Sep.cons_perm (fun A h => pr_close (Sep.addp (own_str_pure p5) (Sep.addp (own_str_pure p6) (h)))) h))) h)))))) h))))))))
def ruleP (x : kRule.V) : Prop := ByteArray.size (x.1) ≤ reach ∧ ByteArray.size (x.2.1) ≤ reach ∧ inR .i64 x.2.2.1 ∧ inR .i64 x.2.2.2.1 ∧ inR .i64 x.2.2.2.2.2.1 ∧ ByteArray.size (x.2.2.2.2.2.2.2.1) ≤ reach ∧ inR .i64 x.2.2.2.2.2.2.2.2.2.2
abbrev ruleCs (x : kRule.V) (q : (Option Addr × Nat) × (Option Addr × Nat)) : List Value := [.string x.1, .string x.2.1, .int .i64 x.2.2.1, .int .i64 x.2.2.2.1, .slice q.1.1 (x.2.2.2.2.1).length q.1.2, .int .i64 x.2.2.2.2.2.1, .bool x.2.2.2.2.2.2.1, .string x.2.2.2.2.2.2.2.1, .slice q.2.1 (x.2.2.2.2.2.2.2.2.1).length q.2.2, .bool x.2.2.2.2.2.2.2.2.2.1, .int .i64 x.2.2.2.2.2.2.2.2.2.2]
abbrev ruleH (x : kRule.V) (q : (Option Addr × Nat) × (Option Addr × Nat)) : List HP := [ownDHP kPrems [.slice q.1.1 (x.2.2.2.2.1).length q.1.2] x.2.2.2.2.1, ownDHP kStrs [.slice q.2.1 (x.2.2.2.2.2.2.2.2.1).length q.2.2] x.2.2.2.2.2.2.2.2.1]
theorem rule_open {x : kRule.V} {cs : List Value} {r : List HP} {w : World} {A : Nat → Prop} (h0 : Sep (ownDHP kRule cs x :: r) w A) : ∃ q : (Option Addr × Nat) × (Option Addr × Nat), (cs = ruleCs x q ∧ ruleP x) ∧ Sep (ruleH x q ++ r) w A := by
  obtain ⟨_, _, rfl, h1⟩ := pr_open (y := x.1) (z := x.2) h0
  obtain ⟨rfl, p1, h2⟩ := str_out h1
  obtain ⟨_, _, rfl, h3⟩ := pr_open (y := x.2.1) (z := x.2.2) h2
  obtain ⟨rfl, p2, h4⟩ := str_out h3
  obtain ⟨_, _, rfl, h5⟩ := pr_open (y := x.2.2.1) (z := x.2.2.2) h4
  obtain ⟨rfl, p3, h6⟩ := int_out h5
  obtain ⟨_, _, rfl, h7⟩ := pr_open (y := x.2.2.2.1) (z := x.2.2.2.2) h6
  obtain ⟨rfl, p4, h8⟩ := int_out h7
  obtain ⟨_, _, rfl, h9⟩ := pr_open (y := x.2.2.2.2.1) (z := x.2.2.2.2.2) h8
  obtain ⟨A0, c0, rfl⟩ := sl_out h9
  obtain ⟨F0, g0, k0, h10⟩ := h9
  obtain ⟨_, _, rfl, h11⟩ := pr_open (y := x.2.2.2.2.2.1) (z := x.2.2.2.2.2.2) h10
  obtain ⟨rfl, p5, h12⟩ := int_out h11
  obtain ⟨_, _, rfl, h13⟩ := pr_open (y := x.2.2.2.2.2.2.1) (z := x.2.2.2.2.2.2.2) h12
  obtain ⟨rfl, h14⟩ := bool_out h13
  obtain ⟨_, _, rfl, h15⟩ := pr_open (y := x.2.2.2.2.2.2.2.1) (z := x.2.2.2.2.2.2.2.2) h14
  obtain ⟨rfl, p6, h16⟩ := str_out h15
  obtain ⟨_, _, rfl, h17⟩ := pr_open (y := x.2.2.2.2.2.2.2.2.1) (z := x.2.2.2.2.2.2.2.2.2) h16
  obtain ⟨A1, c1, rfl⟩ := sl_out h17
  obtain ⟨F1, g1, k1, h18⟩ := h17
  obtain ⟨_, _, rfl, h19⟩ := pr_open (y := x.2.2.2.2.2.2.2.2.2.1) (z := x.2.2.2.2.2.2.2.2.2.2) h18
  obtain ⟨rfl, h20⟩ := bool_out h19
  obtain ⟨rfl, p7, h21⟩ := int_out h20
  exact ⟨((A0, c0), (A1, c1)), ⟨rfl, p1, p2, p3, p4, p5, p6, p7⟩, F0, g0, k0, F1, g1, k1, h21⟩
theorem rule_close {x : kRule.V} {q : (Option Addr × Nat) × (Option Addr × Nat)} {r : List HP} {w : World} {A : Nat → Prop} (hP : ruleP x) (h : Sep (ruleH x q ++ r) w A) : Sep (ownDHP kRule (ruleCs x q) x :: r) w A := by
  obtain ⟨p1, p2, p3, p4, p5, p6, p7⟩ := hP
  exact pr_close (Sep.addp (own_str_pure p1) (pr_close (Sep.addp (own_str_pure p2) (pr_close (Sep.addp (own_int_pure p3) (pr_close (Sep.addp (own_int_pure p4) (pr_close (Sep.cons_perm (fun A h => pr_close (Sep.addp (own_int_pure p5) (pr_close (Sep.addp own_bool_pure (pr_close (Sep.addp (own_str_pure p6) (pr_close (Sep.cons_perm (fun A h => pr_close (Sep.addp own_bool_pure (Sep.addp (own_int_pure p7) (h)))) h)))))))) h)))))))))
/-- A statute's parts, all of one's own. -/
abbrev statH (x : RC) (s : kStat.V) : List HP := [ownDHP kStrs [.slice x.A1 (sKinds s).length x.c1] (sKinds s), ownDHP (.sl 32 kMember) [.slice x.A2 (sMembers s).length x.c2] (sMembers s), ownDHP (.sl 72 kPredT) [.slice x.A3 (sPreds s).length x.c3] (sPreds s), ownDHP (.sl 24 kStrs) [.slice x.A4 (sClasses s).length x.c4] (sClasses s), ownDHP (.sl 24 kSource) [.slice x.A5 (sSources s).length x.c5] (sSources s), ownDHP (.sl 144 kRule) [.slice x.A6 (sRules s).length x.c6] (sRules s), ownDHP (.sl 32 kExc) [.slice x.A7 (sExcepts s).length x.c7] (sExcepts s), ownDHP (.sl 72 kTotal) [.slice x.A8 (sTotals s).length x.c8] (sTotals s)]
theorem rd_own {t : K} {cs : List Value} {x : t.V} {r : List HP} {w : World} {A : Nat → Prop} (pre : List HP) (h : Sep (pre ++ ownDHP t cs x :: r) w A) : Rd t (mem w (fun b => ¬ No b)) cs x := by
  obtain ⟨F, _, hp, _⟩ := Sep.pull h
  exact (OwnD.rd hp).mono (mem_up fun _ _ k => k)
theorem stat_on {x : RC} {s : kStat.V} {r : List HP} {w : World} {A : Nat → Prop} (h : Sep (statH x s ++ r) w A) : StatOn (mem w (fun b => ¬ No b)) s x :=
  ⟨rd_own [] h, rd_own [_] h, rd_own [_, _] h, rd_own [_, _, _] h, rd_own [_, _, _, _] h, rd_own [_, _, _, _, _] h, rd_own [_, _, _, _, _, _] h, rd_own [_, _, _, _, _, _, _] h⟩
attribute [local irreducible] RW CW
set_option maxHeartbeats 8000000 in
theorem copyStat_ret {s : kStat.V} {x : RC} {w : World} (hst : StatOn (mem w (fun b => ¬ No b)) s x) : RetC Tryz.prog 6 [.agg (x.stat s).toArray] w No (fun y : RC => .agg (y.stat s).toArray) (fun y => statH y s) := by
  refine Calls.enter Tryz.func6 rfl _ rfl rfl (S := No) (H := []) trivial ?_
  refine CW.seqR ?_
  refine RW.box_agg (l := [.string s.1, .slice x.A1 (sKinds s).length x.c1, .slice x.A2 (sMembers s).length x.c2, .slice x.A3 (sPreds s).length x.c3, .slice x.A4 (sClasses s).length x.c4, .slice x.A5 (sSources s).length x.c5, .slice x.A6 (sRules s).length x.c6, .slice x.A7 (sExcepts s).length x.c7, .slice x.A8 (sTotals s).length x.c8]) rfl rfl fun b1 _ => ?_
  refine RW.alloc (c := [.string ByteArray.empty, .slice none 0 0, .slice none 0 0, .slice none 0 0, .slice none 0 0, .slice none 0 0, .slice none 0 0, .slice none 0 0, .slice none 0 0]) rfl rfl fun b2 _ => ?_
  refine RW.take [1, 0] ?_
  refine Jb ?_;refine Ja ?_;refine Je ?_;refine JA ?_
  refine RW.callN Tryz.call28 rfl (fun w2 hw => copyStrs_ret (hst.kinds.mono (ro_call hw))) rfl fun v1 => ?_
  refine RW.have_ (φ := ∃ B d, v1 = .slice B (sKinds s).length d) (fun w hw => ?_) (fun ⟨D1, d1, e1⟩ => ?_)
  · obtain ⟨A, c, e⟩ := sl_out hw.sep
    exact ⟨A, c, (List.cons.inj e).1⟩
  subst e1
  refine RW.take [1, 2, 0] ?_
  refine Je ?_
  refine RW.store_blk [] rfl rfl rfl rfl rfl (by show 1 < 9; omega) ?_
  refine RW.change [] (blk b1 [.string s.1, .slice D1 (sKinds s).length d1, .slice x.A2 (sMembers s).length x.c2, .slice x.A3 (sPreds s).length x.c3, .slice x.A4 (sClasses s).length x.c4, .slice x.A5 (sSources s).length x.c5, .slice x.A6 (sRules s).length x.c6, .slice x.A7 (sExcepts s).length x.c7, .slice x.A8 (sTotals s).length x.c8] 31) (fun w F hp => hp) ?_
  refine Jb ?_;refine Ja ?_;refine Je ?_;refine JA ?_
  refine RW.callN Tryz.call29 rfl (fun w2 hw => copyMembers_ret (hst.members.mono (ro_call hw))) rfl fun v2 => ?_
  refine RW.have_ (φ := ∃ B d, v2 = .slice B (sMembers s).length d) (fun w hw => ?_) (fun ⟨D2, d2, e2⟩ => ?_)
  · obtain ⟨A, c, e⟩ := sl_out hw.sep
    exact ⟨A, c, (List.cons.inj e).1⟩
  subst e2
  refine RW.take [1, 2, 3, 0] ?_
  refine Je ?_
  refine RW.store_blk [] rfl rfl rfl rfl rfl (by show 2 < 9; omega) ?_
  refine RW.change [] (blk b1 [.string s.1, .slice D1 (sKinds s).length d1, .slice D2 (sMembers s).length d2, .slice x.A3 (sPreds s).length x.c3, .slice x.A4 (sClasses s).length x.c4, .slice x.A5 (sSources s).length x.c5, .slice x.A6 (sRules s).length x.c6, .slice x.A7 (sExcepts s).length x.c7, .slice x.A8 (sTotals s).length x.c8] 31) (fun w F hp => hp) ?_
  refine Jb ?_;refine Ja ?_;refine Je ?_;refine JA ?_
  refine RW.callN Tryz.call30 rfl (fun w2 hw => copyPreds_ret (hst.preds.mono (ro_call hw))) rfl fun v3 => ?_
  refine RW.have_ (φ := ∃ B d, v3 = .slice B (sPreds s).length d) (fun w hw => ?_) (fun ⟨D3, d3, e3⟩ => ?_)
  · obtain ⟨A, c, e⟩ := sl_out hw.sep
    exact ⟨A, c, (List.cons.inj e).1⟩
  subst e3
  refine RW.take [1, 2, 3, 4, 0] ?_
  refine Je ?_
  refine RW.store_blk [] rfl rfl rfl rfl rfl (by show 3 < 9; omega) ?_
  refine RW.change [] (blk b1 [.string s.1, .slice D1 (sKinds s).length d1, .slice D2 (sMembers s).length d2, .slice D3 (sPreds s).length d3, .slice x.A4 (sClasses s).length x.c4, .slice x.A5 (sSources s).length x.c5, .slice x.A6 (sRules s).length x.c6, .slice x.A7 (sExcepts s).length x.c7, .slice x.A8 (sTotals s).length x.c8] 31) (fun w F hp => hp) ?_
  refine Jb ?_;refine Ja ?_;refine Je ?_;refine JA ?_
  refine RW.callN Tryz.call31 rfl (fun w2 hw => copyLists_ret (hst.classes.mono (ro_call hw))) rfl fun v4 => ?_
  refine RW.have_ (φ := ∃ B d, v4 = .slice B (sClasses s).length d) (fun w hw => ?_) (fun ⟨D4, d4, e4⟩ => ?_)
  · obtain ⟨A, c, e⟩ := sl_out hw.sep
    exact ⟨A, c, (List.cons.inj e).1⟩
  subst e4
  refine RW.take [1, 2, 3, 4, 5, 0] ?_
  refine Je ?_
  refine RW.store_blk [] rfl rfl rfl rfl rfl (by show 4 < 9; omega) ?_
  refine RW.change [] (blk b1 [.string s.1, .slice D1 (sKinds s).length d1, .slice D2 (sMembers s).length d2, .slice D3 (sPreds s).length d3, .slice D4 (sClasses s).length d4, .slice x.A5 (sSources s).length x.c5, .slice x.A6 (sRules s).length x.c6, .slice x.A7 (sExcepts s).length x.c7, .slice x.A8 (sTotals s).length x.c8] 31) (fun w F hp => hp) ?_
  refine Jb ?_;refine Ja ?_;refine Je ?_;refine JA ?_
  refine RW.callN Tryz.call32 rfl (fun w2 hw => copySources_ret (hst.sources.mono (ro_call hw))) rfl fun v5 => ?_
  refine RW.have_ (φ := ∃ B d, v5 = .slice B (sSources s).length d) (fun w hw => ?_) (fun ⟨D5, d5, e5⟩ => ?_)
  · obtain ⟨A, c, e⟩ := sl_out hw.sep
    exact ⟨A, c, (List.cons.inj e).1⟩
  subst e5
  refine RW.take [1, 2, 3, 4, 5, 6, 0] ?_
  refine Je ?_
  refine RW.store_blk [] rfl rfl rfl rfl rfl (by show 5 < 9; omega) ?_
  refine RW.change [] (blk b1 [.string s.1, .slice D1 (sKinds s).length d1, .slice D2 (sMembers s).length d2, .slice D3 (sPreds s).length d3, .slice D4 (sClasses s).length d4, .slice D5 (sSources s).length d5, .slice x.A6 (sRules s).length x.c6, .slice x.A7 (sExcepts s).length x.c7, .slice x.A8 (sTotals s).length x.c8] 31) (fun w F hp => hp) ?_
  refine Jb ?_;refine Ja ?_;refine Je ?_;refine JA ?_
  refine RW.callN Tryz.call33 rfl (fun w2 hw => copyRules_ret (hst.rules.mono (ro_call hw))) rfl fun v6 => ?_
  refine RW.have_ (φ := ∃ B d, v6 = .slice B (sRules s).length d) (fun w hw => ?_) (fun ⟨D6, d6, e6⟩ => ?_)
  · obtain ⟨A, c, e⟩ := sl_out hw.sep
    exact ⟨A, c, (List.cons.inj e).1⟩
  subst e6
  refine RW.take [1, 2, 3, 4, 5, 6, 7, 0] ?_
  refine Je ?_
  refine RW.store_blk [] rfl rfl rfl rfl rfl (by show 6 < 9; omega) ?_
  refine RW.change [] (blk b1 [.string s.1, .slice D1 (sKinds s).length d1, .slice D2 (sMembers s).length d2, .slice D3 (sPreds s).length d3, .slice D4 (sClasses s).length d4, .slice D5 (sSources s).length d5, .slice D6 (sRules s).length d6, .slice x.A7 (sExcepts s).length x.c7, .slice x.A8 (sTotals s).length x.c8] 31) (fun w F hp => hp) ?_
  refine Jb ?_;refine Ja ?_;refine Je ?_;refine JA ?_
  refine RW.callN Tryz.call34 rfl (fun w2 hw => copyExcepts_ret (hst.excepts.mono (ro_call hw))) rfl fun v7 => ?_
  refine RW.have_ (φ := ∃ B d, v7 = .slice B (sExcepts s).length d) (fun w hw => ?_) (fun ⟨D7, d7, e7⟩ => ?_)
  · obtain ⟨A, c, e⟩ := sl_out hw.sep
    exact ⟨A, c, (List.cons.inj e).1⟩
  subst e7
  refine RW.take [1, 2, 3, 4, 5, 6, 7, 8, 0] ?_
  refine Je ?_
  refine RW.store_blk [] rfl rfl rfl rfl rfl (by show 7 < 9; omega) ?_
  refine RW.change [] (blk b1 [.string s.1, .slice D1 (sKinds s).length d1, .slice D2 (sMembers s).length d2, .slice D3 (sPreds s).length d3, .slice D4 (sClasses s).length d4, .slice D5 (sSources s).length d5, .slice D6 (sRules s).length d6, .slice D7 (sExcepts s).length d7, .slice x.A8 (sTotals s).length x.c8] 31) (fun w F hp => hp) ?_
  refine Jb ?_;refine Ja ?_;refine Je ?_;refine JA ?_
  refine RW.callN Tryz.call35 rfl (fun w2 hw => copyTotals_ret (hst.totals.mono (ro_call hw))) rfl fun v8 => ?_
  refine RW.have_ (φ := ∃ B d, v8 = .slice B (sTotals s).length d) (fun w hw => ?_) (fun ⟨D8, d8, e8⟩ => ?_)
  · obtain ⟨A, c, e⟩ := sl_out hw.sep
    exact ⟨A, c, (List.cons.inj e).1⟩
  subst e8
  refine RW.take [1, 2, 3, 4, 5, 6, 7, 8, 9, 0] ?_
  refine Je ?_
  refine RW.store_blk [] rfl rfl rfl rfl rfl (by show 8 < 9; omega) ?_
  refine RW.change [] (blk b1 [.string s.1, .slice D1 (sKinds s).length d1, .slice D2 (sMembers s).length d2, .slice D3 (sPreds s).length d3, .slice D4 (sClasses s).length d4, .slice D5 (sSources s).length d5, .slice D6 (sRules s).length d6, .slice D7 (sExcepts s).length d7, .slice D8 (sTotals s).length d8] 31) (fun w F hp => hp) ?_
  refine Jb ?_;refine Ja ?_;refine JE ?_
  refine RW.store_whole [_] rfl rfl (vs := [.string s.1, .slice D1 (sKinds s).length d1, .slice D2 (sMembers s).length d2, .slice D3 (sPreds s).length d3, .slice D4 (sClasses s).length d4, .slice D5 (sSources s).length d5, .slice D6 (sRules s).length d6, .slice D7 (sExcepts s).length d7, .slice D8 (sTotals s).length d8]) rfl rfl rfl (by simp [Value.oneCell']) ?_
  refine Jb ?_
  refine CW.rets (rs := [.cell 2 31]) (vs := [_]) rfl Tryz.results6 rfl (ResOK.cell [_] rfl rfl rfl ResOK.nil) fun w hw => ⟨⟨D1, D2, D3, D4, D5, D6, D7, D8, d1, d2, d3, d4, d5, d6, d7, d8, 0, 0, 0, 0, 0, 0⟩, rfl, hw.take [2, 3, 4, 5, 6, 7, 8, 9]⟩
end Go.Proofs.YtkfmlekomfnleaaGreat
