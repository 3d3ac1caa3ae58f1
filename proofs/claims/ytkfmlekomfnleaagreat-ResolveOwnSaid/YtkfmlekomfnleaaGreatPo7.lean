/- Parts of the proof: The copies of lexpriorplain: deep data of one's own. · The calculus, nineteenth part: stores into and loads from slices of one's own; deep data opened. · CopyStatute; deep data of one's own opened and closed; lexpriorlaw08.turned, args. · SameStrings, SameInts of one's own. · The plain law of the stage's theorem: in what is taken each argument has its place's kind. · The resolver's arg, args, literal where no variable may be. Conditions: none. -/
import Derived.Test.YtkfmlekomfnleaaGreatPo6
/- The copies of lexpriorplain: deep data of one's own. Conditions: none. -/
set_option linter.unusedVariables false
set_option linter.unusedSimpArgs false
set_option maxRecDepth 10000
namespace Go.Proofs.YtkfmlekomfnleaaGreat
open Go Go.RowKit Go.MapKept

def K.flat : K → Bool
  | .sl _ _ => false
  | .pr a b => a.flat && b.flat
  | _ => true
theorem own_of_flat : ∀ {t : K} {M : Mem} {w : World} {F : Nat → Prop} {cs : List Value} {x : t.V}, t.flat = true → Rd t M cs x → OwnD t w F cs x := by
  intro t
  induction t with
  | int k => intro _ _ _ _ _ _ h; exact h
  | bool => intro _ _ _ _ _ _ h; exact h
  | str => intro _ _ _ _ _ _ h; exact h
  | sl e t ih => intro _ _ _ _ _ h; cases h
  | pr a b iha ihb =>
    intro M w F cs x hf h
    have hf2 : (a.flat && b.flat) = true := hf
    rw [Bool.and_eq_true] at hf2
    obtain ⟨c1, c2, rfl, h1, h2⟩ := h
    exact ⟨c1, c2, fun _ => False, rfl, fun _ h => h.elim, iha hf2.1 h1, ihb hf2.2 h2⟩
theorem Sep.addp {c : HP} {r : List HP} {w : World} {A : Nat → Prop} (hc : c.p w No) (h : Sep r w A) : Sep (c :: r) w A := ⟨No, fun b hb => hb.elim, hc, Sep.up (fun b hb => ⟨hb, fun k => k.elim⟩) h⟩
theorem own_kept {t : K} {cs : List Value} {x : t.V} {pre r : List HP} {w0 w : World} {S : Nat → Prop} (h : St w0 S (pre ++ ownDHP t cs x :: r) w) : ∃ M : Mem, Rd t M cs x := by
  obtain ⟨F, hp, _⟩ := h.get
  exact ⟨_, OwnD.rd hp⟩
attribute [local irreducible] RW CW
set_option maxHeartbeats 4000000 in
theorem copyStrs_ret {A : Option Addr} {c : Nat} {xs : List Str} {w : World} (h : Rd (.sl 16 K.str) (mem w (fun b => ¬ No b)) [.slice A xs.length c] xs) : RetC Tryz.prog 28 [.slice A xs.length c] w No (fun v : Value => v) (fun v => [ownDHP (.sl 16 K.str) [v] xs]) := by
  have hsm := sl_small h
  have hsm2 := hsm
  unfold reach at hsm
  have hle : Mem.le (mem w (fun b => ¬ No b)) (mem w (fun b => ¬ No b)) := Mem.le_refl _
  refine Calls.enter Tryz.func28 rfl _ rfl rfl (S := No) (H := []) trivial ?_
  refine CW.add_ (elemsHP none K.str [] []) (fun w _ => elems_nil) ?_
  refine CW.add_ (ownHP 9 1 (.slice none 0 0) []) (fun w _ => .inl ⟨rfl, rfl⟩) ?_
  refine Ja ?_;refine Jd ?_;refine Jb ?_;refine Ja ?_;refine Jd ?_;refine Jb ?_
  refine CW.seq ?_
  refine Ja ?_;refine Jd ?_;refine Jb ?_
  refine CW.block ?_
  refine CW.loop (ι := { q : Nat × Value × List (List Value) // q.1 ≤ xs.length ∧ q.2.2.length = q.1 }) (fun q => [(0, .slice A xs.length c), (3, q.1.2.1), (4, .int .i64 q.1.1)]) (fun q => [ownHP 9 1 q.1.2.1 q.1.2.2, elemsHP none K.str q.1.2.2 (xs.take q.1.1)]) (fun q => xs.length - q.1.1) ⟨(0, .slice none 0 0, []), Nat.zero_le _, rfl⟩ ⟨rfl, rfl, rfl, trivial⟩ (fun h => h) ?_
  intro ⟨⟨j, v, es⟩, hj, hel⟩
  dsimp only at hj hel ⊢
  refine CW.seq ?_
  refine Ja ?_;refine Jc ?_;refine Jc ?_;refine Jg ?_;refine Jk ?_;refine Jb ?_
  refine CW.ite rfl (fun hlt => ?_) (fun hge => ?_)
  rotate_left
  · have hge' : xs.length ≤ j := by simpa using hge
    rw [List.take_of_length_le hge']
    refine CW.exit rfl ?_
    refine PW.code ?_
    refine Ja ?_;refine Jc ?_;refine Jd ?_;refine Jb ?_
    exact CW.ret1 rfl Tryz.results28 rfl rfl fun w hw => ⟨v, rfl, St.sep_map hw (fun w A h => slice_close rfl hsm2 h)⟩
  have hlt' : j < xs.length := by simpa using hlt
  obtain ⟨B1, O1, cs, hA, hl1, hr, hm⟩ := sl_get h (List.getElem?_eq_getElem hlt')
  have hts : xs.take (j + 1) = xs.take j ++ [xs[j]] := List.take_succ_eq_append_getElem hlt'
  generalize hx : xs[j] = x at *
  have hr0 := hr
  obtain rfl := str_cell hr
  refine CW.skip ?_
  refine PW.code ?_
  refine CW.seq ?_
  refine CW.block ?_
  refine CW.region ?_
  refine Jc ?_;refine Jc ?_;refine Jc ?_
  refine RW.indexAddrE hA rfl rfl (by omega) hlt rfl ?_
  refine RW.load_ro rfl hle (hm 0 _ rfl) rfl rfl ?_
  refine RW.add_ (ownDHP K.str [.string x] x) (fun w hw => own_of_flat rfl hr0) ?_
  refine RW.buildSlice (e := 9) (c := [.string x]) rfl (fun w => by kernel_rfl) rfl fun b16 _ => ?_
  refine RW.append [_, _] (e := 9) (sz := 1) (news := [[.string x]]) (zc := [.string ByteArray.empty]) rfl rfl rfl rfl rfl (by simp) (by simp [Value.oneCell']) (fun w hw hn => ?_) ?_ ?_ rfl fun v' => ?_
  · exact ⟨b16, 0, rfl, CellsAt.of_blk (St.blk (pre := []) hw)⟩
  · rw [hel]; omega
  · rw [hel]; unfold maxN; omega
  refine RW.take [2, 3, 1] ?_
  refine RW.sep [ownHP 9 1 v' (es ++ [[.string x]]), elemsHP none K.str (es ++ [[.string x]]) (xs.take j ++ [x])] (fun w A h => ?_) ?_
  · exact Sep.cons_perm (r := [elemsHP none K.str es (xs.take j), ownDHP K.str [.string x] x]) (fun A h => elems_append h) h
  rw [← hts]
  refine Jd ?_;refine RW.nil (PW.code ?_)
  refine CW.region ?_
  refine Jc ?_
  refine RW.add rfl rfl (w64 (by omega) (by omega)) rfl ?_
  refine Jd ?_
  refine RW.nil ?_
  exact PW.again ⟨(j + 1, v', es ++ [[.string x]]), hlt', by rw [List.length_append, hel]; rfl⟩ ⟨rfl, rfl, rfl, trivial⟩ (fun h => h) (by show xs.length - (j + 1) < xs.length - j; omega)
set_option maxHeartbeats 4000000 in
theorem copyInts_ret {A : Option Addr} {c : Nat} {xs : List Int} {w : World} (h : Rd (.sl 8 kI) (mem w (fun b => ¬ No b)) [.slice A xs.length c] xs) : RetC Tryz.prog 163 [.slice A xs.length c] w No (fun v : Value => v) (fun v => [ownDHP (.sl 8 kI) [v] xs]) := by
  have hsm := sl_small h
  have hsm2 := hsm
  unfold reach at hsm
  have hle : Mem.le (mem w (fun b => ¬ No b)) (mem w (fun b => ¬ No b)) := Mem.le_refl _
  refine Calls.enter Tryz.func163 rfl _ rfl rfl (S := No) (H := []) trivial ?_
  refine CW.add_ (elemsHP none kI [] []) (fun w _ => elems_nil) ?_
  refine CW.add_ (ownHP 49 1 (.slice none 0 0) []) (fun w _ => .inl ⟨rfl, rfl⟩) ?_
  refine Ja ?_;refine Jd ?_;refine Jb ?_;refine Ja ?_;refine Jd ?_;refine Jb ?_
  refine CW.seq ?_
  refine Ja ?_;refine Jd ?_;refine Jb ?_
  refine CW.block ?_
  refine CW.loop (ι := { q : Nat × Value × List (List Value) // q.1 ≤ xs.length ∧ q.2.2.length = q.1 }) (fun q => [(0, .slice A xs.length c), (3, q.1.2.1), (4, .int .i64 q.1.1)]) (fun q => [ownHP 49 1 q.1.2.1 q.1.2.2, elemsHP none kI q.1.2.2 (xs.take q.1.1)]) (fun q => xs.length - q.1.1) ⟨(0, .slice none 0 0, []), Nat.zero_le _, rfl⟩ ⟨rfl, rfl, rfl, trivial⟩ (fun h => h) ?_
  intro ⟨⟨j, v, es⟩, hj, hel⟩
  dsimp only at hj hel ⊢
  refine CW.seq ?_
  refine Ja ?_;refine Jc ?_;refine Jc ?_;refine Jg ?_;refine Jk ?_;refine Jb ?_
  refine CW.ite rfl (fun hlt => ?_) (fun hge => ?_)
  rotate_left
  · have hge' : xs.length ≤ j := by simpa using hge
    rw [List.take_of_length_le hge']
    refine CW.exit rfl ?_
    refine PW.code ?_
    refine Ja ?_;refine Jc ?_;refine Jd ?_;refine Jb ?_
    exact CW.ret1 rfl Tryz.results163 rfl rfl fun w hw => ⟨v, rfl, St.sep_map hw (fun w A h => slice_close rfl hsm2 h)⟩
  have hlt' : j < xs.length := by simpa using hlt
  obtain ⟨B1, O1, cs, hA, hl1, hr, hm⟩ := sl_get h (List.getElem?_eq_getElem hlt')
  have hts : xs.take (j + 1) = xs.take j ++ [xs[j]] := List.take_succ_eq_append_getElem hlt'
  generalize hx : xs[j] = x at *
  have hr0 := hr
  obtain rfl := int_cell hr
  refine CW.skip ?_
  refine PW.code ?_
  refine CW.seq ?_
  refine CW.block ?_
  refine CW.region ?_
  refine Jc ?_;refine Jc ?_;refine Jc ?_
  refine RW.indexAddrE hA rfl rfl (by omega) hlt rfl ?_
  refine RW.load_ro rfl hle (hm 0 _ rfl) rfl rfl ?_
  refine RW.add_ (ownDHP kI [.int .i64 x] x) (fun w hw => own_of_flat rfl hr0) ?_
  refine RW.buildSlice (e := 49) (c := [.int .i64 x]) rfl (fun w => by kernel_rfl) rfl fun b16 _ => ?_
  refine RW.append [_, _] (e := 49) (sz := 1) (news := [[.int .i64 x]]) (zc := [.int .i64 0]) rfl rfl rfl rfl rfl (by simp) (by simp [Value.oneCell']) (fun w hw hn => ?_) ?_ ?_ rfl fun v' => ?_
  · exact ⟨b16, 0, rfl, CellsAt.of_blk (St.blk (pre := []) hw)⟩
  · rw [hel]; omega
  · rw [hel]; unfold maxN; omega
  refine RW.take [2, 3, 1] ?_
  refine RW.sep [ownHP 49 1 v' (es ++ [[.int .i64 x]]), elemsHP none kI (es ++ [[.int .i64 x]]) (xs.take j ++ [x])] (fun w A h => ?_) ?_
  · exact Sep.cons_perm (r := [elemsHP none kI es (xs.take j), ownDHP kI [.int .i64 x] x]) (fun A h => elems_append h) h
  rw [← hts]
  refine Jd ?_;refine RW.nil (PW.code ?_)
  refine CW.region ?_
  refine Jc ?_
  refine RW.add rfl rfl (w64 (by omega) (by omega)) rfl ?_
  refine Jd ?_
  refine RW.nil ?_
  exact PW.again ⟨(j + 1, v', es ++ [[.int .i64 x]]), hlt', by rw [List.length_append, hel]; rfl⟩ ⟨rfl, rfl, rfl, trivial⟩ (fun h => h) (by show xs.length - (j + 1) < xs.length - j; omega)
set_option maxHeartbeats 4000000 in
theorem copyMembers_ret {A : Option Addr} {c : Nat} {xs : List kMember.V} {w : World} (h : Rd (.sl 32 kMember) (mem w (fun b => ¬ No b)) [.slice A xs.length c] xs) : RetC Tryz.prog 29 [.slice A xs.length c] w No (fun v : Value => v) (fun v => [ownDHP (.sl 32 kMember) [v] xs]) := by
  have hsm := sl_small h
  have hsm2 := hsm
  unfold reach at hsm
  have hle : Mem.le (mem w (fun b => ¬ No b)) (mem w (fun b => ¬ No b)) := Mem.le_refl _
  refine Calls.enter Tryz.func29 rfl _ rfl rfl (S := No) (H := []) trivial ?_
  refine CW.add_ (elemsHP none kMember [] []) (fun w _ => elems_nil) ?_
  refine CW.add_ (ownHP 158 2 (.slice none 0 0) []) (fun w _ => .inl ⟨rfl, rfl⟩) ?_
  refine Ja ?_;refine Jd ?_;refine Jb ?_;refine Ja ?_;refine Jd ?_;refine Jb ?_
  refine CW.seq ?_
  refine Ja ?_;refine Jd ?_;refine Jb ?_
  refine CW.block ?_
  refine CW.loop (ι := { q : Nat × Value × List (List Value) // q.1 ≤ xs.length ∧ q.2.2.length = q.1 }) (fun q => [(0, .slice A xs.length c), (3, q.1.2.1), (4, .int .i64 q.1.1)]) (fun q => [ownHP 158 2 q.1.2.1 q.1.2.2, elemsHP none kMember q.1.2.2 (xs.take q.1.1)]) (fun q => xs.length - q.1.1) ⟨(0, .slice none 0 0, []), Nat.zero_le _, rfl⟩ ⟨rfl, rfl, rfl, trivial⟩ (fun h => h) ?_
  intro ⟨⟨j, v, es⟩, hj, hel⟩
  dsimp only at hj hel ⊢
  refine CW.seq ?_
  refine Ja ?_;refine Jc ?_;refine Jc ?_;refine Jg ?_;refine Jk ?_;refine Jb ?_
  refine CW.ite rfl (fun hlt => ?_) (fun hge => ?_)
  rotate_left
  · have hge' : xs.length ≤ j := by simpa using hge
    rw [List.take_of_length_le hge']
    refine CW.exit rfl ?_
    refine PW.code ?_
    refine Ja ?_;refine Jc ?_;refine Jd ?_;refine Jb ?_
    exact CW.ret1 rfl Tryz.results29 rfl rfl fun w hw => ⟨v, rfl, St.sep_map hw (fun w A h => slice_close rfl hsm2 h)⟩
  have hlt' : j < xs.length := by simpa using hlt
  obtain ⟨B1, O1, cs, hA, hl1, hr, hm⟩ := sl_get h (List.getElem?_eq_getElem hlt')
  have hts : xs.take (j + 1) = xs.take j ++ [xs[j]] := List.take_succ_eq_append_getElem hlt'
  generalize hx : xs[j] = x at *
  have hr0 := hr
  obtain ⟨_, _, rfl, r1, r2⟩ := hr
  obtain rfl := str_cell r1
  obtain rfl := str_cell r2
  refine CW.skip ?_
  refine PW.code ?_
  refine CW.seq ?_
  refine CW.block ?_
  refine CW.region ?_
  refine Jc ?_;refine Jc ?_;refine Jc ?_
  refine RW.indexAddrE hA rfl rfl (by omega) hlt rfl ?_
  refine RW.load_ros rfl hle hm rfl hl1 (by rw [hl1]; decide) rfl ?_
  refine RW.add_ (ownDHP kMember [.string x.1, .string x.2] x) (fun w hw => own_of_flat rfl hr0) ?_
  refine RW.buildSlice (e := 158) (c := [.string x.1, .string x.2]) rfl (fun w => by kernel_rfl) rfl fun b16 _ => ?_
  refine RW.append [_, _] (e := 158) (sz := 2) (news := [[.string x.1, .string x.2]]) (zc := [.string ByteArray.empty, .string ByteArray.empty]) rfl rfl rfl rfl rfl (by simp) (by simp [Value.oneCell']) (fun w hw hn => ?_) ?_ ?_ rfl fun v' => ?_
  · exact ⟨b16, 0, rfl, CellsAt.of_blk (St.blk (pre := []) hw)⟩
  · rw [hel]; omega
  · rw [hel]; unfold maxN; omega
  refine RW.take [2, 3, 1] ?_
  refine RW.sep [ownHP 158 2 v' (es ++ [[.string x.1, .string x.2]]), elemsHP none kMember (es ++ [[.string x.1, .string x.2]]) (xs.take j ++ [x])] (fun w A h => ?_) ?_
  · exact Sep.cons_perm (r := [elemsHP none kMember es (xs.take j), ownDHP kMember [.string x.1, .string x.2] x]) (fun A h => elems_append h) h
  rw [← hts]
  refine Jd ?_;refine RW.nil (PW.code ?_)
  refine CW.region ?_
  refine Jc ?_
  refine RW.add rfl rfl (w64 (by omega) (by omega)) rfl ?_
  refine Jd ?_
  refine RW.nil ?_
  exact PW.again ⟨(j + 1, v', es ++ [[.string x.1, .string x.2]]), hlt', by rw [List.length_append, hel]; rfl⟩ ⟨rfl, rfl, rfl, trivial⟩ (fun h => h) (by show xs.length - (j + 1) < xs.length - j; omega)
set_option maxHeartbeats 4000000 in
theorem copySources_ret {A : Option Addr} {c : Nat} {xs : List kSource.V} {w : World} (h : Rd (.sl 24 kSource) (mem w (fun b => ¬ No b)) [.slice A xs.length c] xs) : RetC Tryz.prog 32 [.slice A xs.length c] w No (fun v : Value => v) (fun v => [ownDHP (.sl 24 kSource) [v] xs]) := by
  have hsm := sl_small h
  have hsm2 := hsm
  unfold reach at hsm
  have hle : Mem.le (mem w (fun b => ¬ No b)) (mem w (fun b => ¬ No b)) := Mem.le_refl _
  refine Calls.enter Tryz.func32 rfl _ rfl rfl (S := No) (H := []) trivial ?_
  refine CW.add_ (elemsHP none kSource [] []) (fun w _ => elems_nil) ?_
  refine CW.add_ (ownHP 161 2 (.slice none 0 0) []) (fun w _ => .inl ⟨rfl, rfl⟩) ?_
  refine Ja ?_;refine Jd ?_;refine Jb ?_;refine Ja ?_;refine Jd ?_;refine Jb ?_
  refine CW.seq ?_
  refine Ja ?_;refine Jd ?_;refine Jb ?_
  refine CW.block ?_
  refine CW.loop (ι := { q : Nat × Value × List (List Value) // q.1 ≤ xs.length ∧ q.2.2.length = q.1 }) (fun q => [(0, .slice A xs.length c), (3, q.1.2.1), (4, .int .i64 q.1.1)]) (fun q => [ownHP 161 2 q.1.2.1 q.1.2.2, elemsHP none kSource q.1.2.2 (xs.take q.1.1)]) (fun q => xs.length - q.1.1) ⟨(0, .slice none 0 0, []), Nat.zero_le _, rfl⟩ ⟨rfl, rfl, rfl, trivial⟩ (fun h => h) ?_
  intro ⟨⟨j, v, es⟩, hj, hel⟩
  dsimp only at hj hel ⊢
  refine CW.seq ?_
  refine Ja ?_;refine Jc ?_;refine Jc ?_;refine Jg ?_;refine Jk ?_;refine Jb ?_
  refine CW.ite rfl (fun hlt => ?_) (fun hge => ?_)
  rotate_left
  · have hge' : xs.length ≤ j := by simpa using hge
    rw [List.take_of_length_le hge']
    refine CW.exit rfl ?_
    refine PW.code ?_
    refine Ja ?_;refine Jc ?_;refine Jd ?_;refine Jb ?_
    exact CW.ret1 rfl Tryz.results32 rfl rfl fun w hw => ⟨v, rfl, St.sep_map hw (fun w A h => slice_close rfl hsm2 h)⟩
  have hlt' : j < xs.length := by simpa using hlt
  obtain ⟨B1, O1, cs, hA, hl1, hr, hm⟩ := sl_get h (List.getElem?_eq_getElem hlt')
  have hts : xs.take (j + 1) = xs.take j ++ [xs[j]] := List.take_succ_eq_append_getElem hlt'
  generalize hx : xs[j] = x at *
  have hr0 := hr
  obtain ⟨_, _, rfl, r1, r2⟩ := hr
  obtain rfl := str_cell r1
  obtain rfl := int_cell r2
  refine CW.skip ?_
  refine PW.code ?_
  refine CW.seq ?_
  refine CW.block ?_
  refine CW.region ?_
  refine Jc ?_;refine Jc ?_;refine Jc ?_
  refine RW.indexAddrE hA rfl rfl (by omega) hlt rfl ?_
  refine RW.load_ros rfl hle hm rfl hl1 (by rw [hl1]; decide) rfl ?_
  refine RW.add_ (ownDHP kSource [.string x.1, .int .i64 x.2] x) (fun w hw => own_of_flat rfl hr0) ?_
  refine RW.buildSlice (e := 161) (c := [.string x.1, .int .i64 x.2]) rfl (fun w => by kernel_rfl) rfl fun b16 _ => ?_
  refine RW.append [_, _] (e := 161) (sz := 2) (news := [[.string x.1, .int .i64 x.2]]) (zc := [.string ByteArray.empty, .int .i64 0]) rfl rfl rfl rfl rfl (by simp) (by simp [Value.oneCell']) (fun w hw hn => ?_) ?_ ?_ rfl fun v' => ?_
  · exact ⟨b16, 0, rfl, CellsAt.of_blk (St.blk (pre := []) hw)⟩
  · rw [hel]; omega
  · rw [hel]; unfold maxN; omega
  refine RW.take [2, 3, 1] ?_
  refine RW.sep [ownHP 161 2 v' (es ++ [[.string x.1, .int .i64 x.2]]), elemsHP none kSource (es ++ [[.string x.1, .int .i64 x.2]]) (xs.take j ++ [x])] (fun w A h => ?_) ?_
  · exact Sep.cons_perm (r := [elemsHP none kSource es (xs.take j), ownDHP kSource [.string x.1, .int .i64 x.2] x]) (fun A h => elems_append h) h
  rw [← hts]
  refine Jd ?_;refine RW.nil (PW.code ?_)
  refine CW.region ?_
  refine Jc ?_
  refine RW.add rfl rfl (w64 (by omega) (by omega)) rfl ?_
  refine Jd ?_
  refine RW.nil ?_
  exact PW.again ⟨(j + 1, v', es ++ [[.string x.1, .int .i64 x.2]]), hlt', by rw [List.length_append, hel]; rfl⟩ ⟨rfl, rfl, rfl, trivial⟩ (fun h => h) (by show xs.length - (j + 1) < xs.length - j; omega)
set_option maxHeartbeats 4000000 in
theorem copyExcepts_ret {A : Option Addr} {c : Nat} {xs : List kExc.V} {w : World} (h : Rd (.sl 32 kExc) (mem w (fun b => ¬ No b)) [.slice A xs.length c] xs) : RetC Tryz.prog 34 [.slice A xs.length c] w No (fun v : Value => v) (fun v => [ownDHP (.sl 32 kExc) [v] xs]) := by
  have hsm := sl_small h
  have hsm2 := hsm
  unfold reach at hsm
  have hle : Mem.le (mem w (fun b => ¬ No b)) (mem w (fun b => ¬ No b)) := Mem.le_refl _
  refine Calls.enter Tryz.func34 rfl _ rfl rfl (S := No) (H := []) trivial ?_
  refine CW.add_ (elemsHP none kExc [] []) (fun w _ => elems_nil) ?_
  refine CW.add_ (ownHP 164 2 (.slice none 0 0) []) (fun w _ => .inl ⟨rfl, rfl⟩) ?_
  refine Ja ?_;refine Jd ?_;refine Jb ?_;refine Ja ?_;refine Jd ?_;refine Jb ?_
  refine CW.seq ?_
  refine Ja ?_;refine Jd ?_;refine Jb ?_
  refine CW.block ?_
  refine CW.loop (ι := { q : Nat × Value × List (List Value) // q.1 ≤ xs.length ∧ q.2.2.length = q.1 }) (fun q => [(0, .slice A xs.length c), (3, q.1.2.1), (4, .int .i64 q.1.1)]) (fun q => [ownHP 164 2 q.1.2.1 q.1.2.2, elemsHP none kExc q.1.2.2 (xs.take q.1.1)]) (fun q => xs.length - q.1.1) ⟨(0, .slice none 0 0, []), Nat.zero_le _, rfl⟩ ⟨rfl, rfl, rfl, trivial⟩ (fun h => h) ?_
  intro ⟨⟨j, v, es⟩, hj, hel⟩
  dsimp only at hj hel ⊢
  refine CW.seq ?_
  refine Ja ?_;refine Jc ?_;refine Jc ?_;refine Jg ?_;refine Jk ?_;refine Jb ?_
  refine CW.ite rfl (fun hlt => ?_) (fun hge => ?_)
  rotate_left
  · have hge' : xs.length ≤ j := by simpa using hge
    rw [List.take_of_length_le hge']
    refine CW.exit rfl ?_
    refine PW.code ?_
    refine Ja ?_;refine Jc ?_;refine Jd ?_;refine Jb ?_
    exact CW.ret1 rfl Tryz.results34 rfl rfl fun w hw => ⟨v, rfl, St.sep_map hw (fun w A h => slice_close rfl hsm2 h)⟩
  have hlt' : j < xs.length := by simpa using hlt
  obtain ⟨B1, O1, cs, hA, hl1, hr, hm⟩ := sl_get h (List.getElem?_eq_getElem hlt')
  have hts : xs.take (j + 1) = xs.take j ++ [xs[j]] := List.take_succ_eq_append_getElem hlt'
  generalize hx : xs[j] = x at *
  have hr0 := hr
  obtain ⟨_, _, rfl, r1, r2⟩ := hr
  obtain rfl := str_cell r1
  obtain rfl := str_cell r2
  refine CW.skip ?_
  refine PW.code ?_
  refine CW.seq ?_
  refine CW.block ?_
  refine CW.region ?_
  refine Jc ?_;refine Jc ?_;refine Jc ?_
  refine RW.indexAddrE hA rfl rfl (by omega) hlt rfl ?_
  refine RW.load_ros rfl hle hm rfl hl1 (by rw [hl1]; decide) rfl ?_
  refine RW.add_ (ownDHP kExc [.string x.1, .string x.2] x) (fun w hw => own_of_flat rfl hr0) ?_
  refine RW.buildSlice (e := 164) (c := [.string x.1, .string x.2]) rfl (fun w => by kernel_rfl) rfl fun b16 _ => ?_
  refine RW.append [_, _] (e := 164) (sz := 2) (news := [[.string x.1, .string x.2]]) (zc := [.string ByteArray.empty, .string ByteArray.empty]) rfl rfl rfl rfl rfl (by simp) (by simp [Value.oneCell']) (fun w hw hn => ?_) ?_ ?_ rfl fun v' => ?_
  · exact ⟨b16, 0, rfl, CellsAt.of_blk (St.blk (pre := []) hw)⟩
  · rw [hel]; omega
  · rw [hel]; unfold maxN; omega
  refine RW.take [2, 3, 1] ?_
  refine RW.sep [ownHP 164 2 v' (es ++ [[.string x.1, .string x.2]]), elemsHP none kExc (es ++ [[.string x.1, .string x.2]]) (xs.take j ++ [x])] (fun w A h => ?_) ?_
  · exact Sep.cons_perm (r := [elemsHP none kExc es (xs.take j), ownDHP kExc [.string x.1, .string x.2] x]) (fun A h => elems_append h) h
  rw [← hts]
  refine Jd ?_;refine RW.nil (PW.code ?_)
  refine CW.region ?_
  refine Jc ?_
  refine RW.add rfl rfl (w64 (by omega) (by omega)) rfl ?_
  refine Jd ?_
  refine RW.nil ?_
  exact PW.again ⟨(j + 1, v', es ++ [[.string x.1, .string x.2]]), hlt', by rw [List.length_append, hel]; rfl⟩ ⟨rfl, rfl, rfl, trivial⟩ (fun h => h) (by show xs.length - (j + 1) < xs.length - j; omega)
set_option maxHeartbeats 4000000 in
theorem copyTerm_ret {x : kTerm.V} {cs : List Value} {w : World} (h : Rd kTerm (mem w (fun b => ¬ No b)) cs x) : RetC Tryz.prog 205 [.agg cs.toArray] w No (fun cs' : List Value => .agg cs'.toArray) (fun cs' => [ownDHP kTerm cs' x]) := by
  obtain ⟨_, _, _, f0, _, _, _, f1, _, _, _, f2, f3⟩ := id h
  obtain ⟨A1, c1, rfl, h2⟩ := Rd.termT h
  have p0 := f0.2
  have p1 := f1.2
  have p3 := f3.2
  clear h
  refine Calls.enter Tryz.func205 rfl _ rfl rfl (S := No) (H := []) trivial ?_
  refine CW.seqR ?_
  refine RW.box_agg (l := [.int .i64 x.1, .string x.2.1, .slice A1 (x.2.2.1).length c1, .int .i64 x.2.2.2]) rfl rfl fun b1 _ => ?_
  refine RW.alloc (c := [.int .i64 0, .string ByteArray.empty, .slice none 0 0, .int .i64 0]) rfl rfl fun b2 _ => ?_
  refine RW.take [1, 0] ?_
  refine Jb ?_;refine Ja ?_;refine Je ?_;refine JA ?_
  refine RW.callN Tryz.call28 rfl (fun w2 hw => copyStrs_ret (h2.mono (ro_call hw))) rfl fun v2 => ?_
  refine RW.have_ (φ := ∃ B d, v2 = .slice B (x.2.2.1).length d) (fun w hw => ?_) (fun ⟨D2, d2, e2⟩ => ?_)
  · obtain ⟨M, hM⟩ := own_kept (pre := []) hw
    obtain ⟨A, c, e⟩ := sl_cell hM
    exact ⟨A, c, (List.cons.inj e).1⟩
  subst e2
  refine RW.take [1, 2, 0] ?_
  refine Je ?_
  refine RW.store_blk [] rfl rfl rfl rfl rfl (by show 2 < 4; omega) ?_
  refine RW.change [] (blk b1 [.int .i64 x.1, .string x.2.1, .slice D2 (x.2.2.1).length d2, .int .i64 x.2.2.2] 207) (fun w F hp => hp) ?_
  refine Jb ?_;refine Ja ?_;refine JE ?_
  refine RW.store_whole [_] rfl rfl (vs := [.int .i64 x.1, .string x.2.1, .slice D2 (x.2.2.1).length d2, .int .i64 x.2.2.2]) rfl rfl rfl (by simp [Value.oneCell']) ?_
  refine Jb ?_
  refine CW.rets (rs := [.cell 2 207]) (vs := [_]) rfl Tryz.results205 rfl (ResOK.cell [_] rfl rfl rfl ResOK.nil) fun w hw => ⟨[.int .i64 x.1, .string x.2.1, .slice D2 (x.2.2.1).length d2, .int .i64 x.2.2.2], rfl, ?_⟩
  exact St.sep_map (hw.take [2]) (fun w A h => pr_close (Sep.addp (own_int_pure p0) (pr_close (Sep.addp (own_str_pure p1) (pr_close (Sep.cons_perm (fun A h => Sep.addp (own_int_pure p3) h) h))))))
set_option maxHeartbeats 4000000 in
theorem copyTerms_ret {A : Option Addr} {c : Nat} {xs : List kTerm.V} {w : World} (h : Rd (.sl 56 kTerm) (mem w (fun b => ¬ No b)) [.slice A xs.length c] xs) : RetC Tryz.prog 203 [.slice A xs.length c] w No (fun v : Value => v) (fun v => [ownDHP (.sl 56 kTerm) [v] xs]) := by
  have hsm := sl_small h
  have hsm2 := hsm
  unfold reach at hsm
  have hle : Mem.le (mem w (fun b => ¬ No b)) (mem w (fun b => ¬ No b)) := Mem.le_refl _
  refine Calls.enter Tryz.func203 rfl _ rfl rfl (S := No) (H := []) trivial ?_
  refine CW.add_ (elemsHP none kTerm [] []) (fun w _ => elems_nil) ?_
  refine CW.add_ (ownHP 207 4 (.slice none 0 0) []) (fun w _ => .inl ⟨rfl, rfl⟩) ?_
  refine Ja ?_;refine Jd ?_;refine Jb ?_;refine Ja ?_;refine Jd ?_;refine Jb ?_
  refine CW.seq ?_
  refine Ja ?_;refine Jd ?_;refine Jb ?_
  refine CW.block ?_
  refine CW.loop (ι := { q : Nat × Value × List (List Value) // q.1 ≤ xs.length ∧ q.2.2.length = q.1 }) (fun q => [(0, .slice A xs.length c), (3, q.1.2.1), (4, .int .i64 q.1.1)]) (fun q => [ownHP 207 4 q.1.2.1 q.1.2.2, elemsHP none kTerm q.1.2.2 (xs.take q.1.1)]) (fun q => xs.length - q.1.1) ⟨(0, .slice none 0 0, []), Nat.zero_le _, rfl⟩ ⟨rfl, rfl, rfl, trivial⟩ (fun h => h) ?_
  intro ⟨⟨j, v, es⟩, hj, hel⟩
  dsimp only at hj hel ⊢
  refine CW.seq ?_
  refine Ja ?_;refine Jc ?_;refine Jc ?_;refine Jg ?_;refine Jk ?_;refine Jb ?_
  refine CW.ite rfl (fun hlt => ?_) (fun hge => ?_)
  rotate_left
  · have hge' : xs.length ≤ j := by simpa using hge
    rw [List.take_of_length_le hge']
    refine CW.exit rfl ?_
    refine PW.code ?_
    refine Ja ?_;refine Jc ?_;refine Jd ?_;refine Jb ?_
    exact CW.ret1 rfl Tryz.results203 rfl rfl fun w hw => ⟨v, rfl, St.sep_map hw (fun w A h => slice_close rfl hsm2 h)⟩
  have hlt' : j < xs.length := by simpa using hlt
  obtain ⟨B1, O1, cs, hA, hl1, hr, hm⟩ := sl_get h (List.getElem?_eq_getElem hlt')
  have hts : xs.take (j + 1) = xs.take j ++ [xs[j]] := List.take_succ_eq_append_getElem hlt'
  generalize hx : xs[j] = x at *
  refine CW.skip ?_
  refine PW.code ?_
  refine CW.seq ?_
  refine CW.block ?_
  refine CW.region ?_
  refine Jc ?_;refine Jc ?_;refine Jc ?_
  refine RW.indexAddrE hA rfl rfl (by omega) hlt rfl ?_
  refine RW.load_ros rfl hle hm rfl hl1 (by rw [hl1]; decide) rfl ?_
  refine RW.callN Tryz.call205 rfl (fun w2 hw => copyTerm_ret (hr.mono (ro_call hw))) rfl fun cs2 => ?_
  refine RW.have_ (φ := ∃ B1 d1, cs2 = [.int .i64 x.1, .string x.2.1, .slice B1 (x.2.2.1).length d1, .int .i64 x.2.2.2]) (fun w hw => ?_) (fun ⟨B1, d1, e1⟩ => ?_)
  · obtain ⟨M, hM⟩ := own_kept (pre := []) hw
    obtain ⟨A1, c1, e, _⟩ := Rd.termT hM
    exact ⟨_, _, e⟩
  subst e1
  refine RW.buildSlice (e := 207) (c := [.int .i64 x.1, .string x.2.1, .slice B1 (x.2.2.1).length d1, .int .i64 x.2.2.2]) rfl (fun w => by kernel_rfl) rfl fun b16 _ => ?_
  refine RW.append [_, _] (e := 207) (sz := 4) (news := [[.int .i64 x.1, .string x.2.1, .slice B1 (x.2.2.1).length d1, .int .i64 x.2.2.2]]) (zc := [.int .i64 0, .string ByteArray.empty, .slice none 0 0, .int .i64 0]) rfl rfl rfl rfl rfl (by simp) (by simp [Value.oneCell']) (fun w hw hn => ?_) ?_ ?_ rfl fun v' => ?_
  · exact ⟨b16, 0, rfl, CellsAt.of_blk (St.blk (pre := []) hw)⟩
  · rw [hel]; omega
  · rw [hel]; unfold maxN; omega
  refine RW.take [2, 3, 1] ?_
  refine RW.sep [ownHP 207 4 v' (es ++ [[.int .i64 x.1, .string x.2.1, .slice B1 (x.2.2.1).length d1, .int .i64 x.2.2.2]]), elemsHP none kTerm (es ++ [[.int .i64 x.1, .string x.2.1, .slice B1 (x.2.2.1).length d1, .int .i64 x.2.2.2]]) (xs.take j ++ [x])] (fun w A h => ?_) ?_
  · exact Sep.cons_perm (r := [elemsHP none kTerm es (xs.take j), ownDHP kTerm [.int .i64 x.1, .string x.2.1, .slice B1 (x.2.2.1).length d1, .int .i64 x.2.2.2] x]) (fun A h => elems_append h) h
  rw [← hts]
  refine Jd ?_;refine RW.nil (PW.code ?_)
  refine CW.region ?_
  refine Jc ?_
  refine RW.add rfl rfl (w64 (by omega) (by omega)) rfl ?_
  refine Jd ?_
  refine RW.nil ?_
  exact PW.again ⟨(j + 1, v', es ++ [[.int .i64 x.1, .string x.2.1, .slice B1 (x.2.2.1).length d1, .int .i64 x.2.2.2]]), hlt', by rw [List.length_append, hel]; rfl⟩ ⟨rfl, rfl, rfl, trivial⟩ (fun h => h) (by show xs.length - (j + 1) < xs.length - j; omega)
set_option maxHeartbeats 4000000 in
theorem copyGuard_ret {x : kGuard.V} {cs : List Value} {w : World} (h : Rd kGuard (mem w (fun b => ¬ No b)) cs x) : RetC Tryz.prog 196 [.agg cs.toArray] w No (fun cs' : List Value => .agg cs'.toArray) (fun cs' => [ownDHP kGuard cs' x]) := by
  obtain ⟨_, _, _, f0, _, _, _, f1, f2⟩ := id h
  obtain ⟨A1, c1, A2, c2, rfl, h0, h2⟩ := Rd.guardT h
  have p1 := f1.2
  clear h
  refine Calls.enter Tryz.func196 rfl _ rfl rfl (S := No) (H := []) trivial ?_
  refine CW.seqR ?_
  refine RW.box_agg (l := [.slice A1 (x.1).length c1, .int .i64 x.2.1, .slice A2 (x.2.2).length c2]) rfl rfl fun b1 _ => ?_
  refine RW.alloc (c := [.slice none 0 0, .int .i64 0, .slice none 0 0]) rfl rfl fun b2 _ => ?_
  refine RW.take [1, 0] ?_
  refine Jb ?_;refine Ja ?_;refine Je ?_;refine JA ?_
  refine RW.callN Tryz.call203 rfl (fun w2 hw => copyTerms_ret (h0.mono (ro_call hw))) rfl fun v0 => ?_
  refine RW.have_ (φ := ∃ B d, v0 = .slice B (x.1).length d) (fun w hw => ?_) (fun ⟨D0, d0, e0⟩ => ?_)
  · obtain ⟨M, hM⟩ := own_kept (pre := []) hw
    obtain ⟨A, c, e⟩ := sl_cell hM
    exact ⟨A, c, (List.cons.inj e).1⟩
  subst e0
  refine RW.take [1, 2, 0] ?_
  refine Je ?_
  refine RW.store_blk [] rfl rfl rfl rfl rfl (by show 0 < 3; omega) ?_
  refine RW.change [] (blk b1 [.slice D0 (x.1).length d0, .int .i64 x.2.1, .slice A2 (x.2.2).length c2] 143) (fun w F hp => hp) ?_
  refine Jb ?_;refine Ja ?_;refine Je ?_;refine JA ?_
  refine RW.callN Tryz.call203 rfl (fun w2 hw => copyTerms_ret (h2.mono (ro_call hw))) rfl fun v2 => ?_
  refine RW.have_ (φ := ∃ B d, v2 = .slice B (x.2.2).length d) (fun w hw => ?_) (fun ⟨D2, d2, e2⟩ => ?_)
  · obtain ⟨M, hM⟩ := own_kept (pre := []) hw
    obtain ⟨A, c, e⟩ := sl_cell hM
    exact ⟨A, c, (List.cons.inj e).1⟩
  subst e2
  refine RW.take [1, 2, 3, 0] ?_
  refine Je ?_
  refine RW.store_blk [] rfl rfl rfl rfl rfl (by show 2 < 3; omega) ?_
  refine RW.change [] (blk b1 [.slice D0 (x.1).length d0, .int .i64 x.2.1, .slice D2 (x.2.2).length d2] 143) (fun w F hp => hp) ?_
  refine Jb ?_;refine Ja ?_;refine JE ?_
  refine RW.store_whole [_] rfl rfl (vs := [.slice D0 (x.1).length d0, .int .i64 x.2.1, .slice D2 (x.2.2).length d2]) rfl rfl rfl (by simp [Value.oneCell']) ?_
  refine Jb ?_
  refine CW.rets (rs := [.cell 2 143]) (vs := [_]) rfl Tryz.results196 rfl (ResOK.cell [_] rfl rfl rfl ResOK.nil) fun w hw => ⟨[.slice D0 (x.1).length d0, .int .i64 x.2.1, .slice D2 (x.2.2).length d2], rfl, ?_⟩
  exact St.sep_map (hw.take [2, 3]) (fun w A h => pr_close (Sep.cons_perm (fun A h => pr_close (Sep.addp (own_int_pure p1) (h))) h))
set_option maxHeartbeats 4000000 in
theorem copyLit_ret {x : kLitT.V} {cs : List Value} {w : World} (h : Rd kLitT (mem w (fun b => ¬ No b)) cs x) : RetC Tryz.prog 16 [.agg cs.toArray] w No (fun cs' : List Value => .agg cs'.toArray) (fun cs' => [ownDHP kLitT cs' x]) := by
  obtain ⟨_, _, _, f0, _, _, _, f1, _, _, _, f2, _, _, _, f3, f4⟩ := id h
  obtain ⟨A1, c1, rfl, h2⟩ := Rd.litT h
  have p1 := f1.2
  have p4 := f4.2
  clear h
  refine Calls.enter Tryz.func16 rfl _ rfl rfl (S := No) (H := []) trivial ?_
  refine CW.seqR ?_
  refine RW.box_agg (l := [.bool x.1, .string x.2.1, .slice A1 (x.2.2.1).length c1, .bool x.2.2.2.1, .int .i64 x.2.2.2.2]) rfl rfl fun b1 _ => ?_
  refine RW.alloc (c := [.bool false, .string ByteArray.empty, .slice none 0 0, .bool false, .int .i64 0]) rfl rfl fun b2 _ => ?_
  refine RW.take [1, 0] ?_
  refine Jb ?_;refine Ja ?_;refine Je ?_;refine JA ?_
  refine RW.callN Tryz.call28 rfl (fun w2 hw => copyStrs_ret (h2.mono (ro_call hw))) rfl fun v2 => ?_
  refine RW.have_ (φ := ∃ B d, v2 = .slice B (x.2.2.1).length d) (fun w hw => ?_) (fun ⟨D2, d2, e2⟩ => ?_)
  · obtain ⟨M, hM⟩ := own_kept (pre := []) hw
    obtain ⟨A, c, e⟩ := sl_cell hM
    exact ⟨A, c, (List.cons.inj e).1⟩
  subst e2
  refine RW.take [1, 2, 0] ?_
  refine Je ?_
  refine RW.store_blk [] rfl rfl rfl rfl rfl (by show 2 < 5; omega) ?_
  refine RW.change [] (blk b1 [.bool x.1, .string x.2.1, .slice D2 (x.2.2.1).length d2, .bool x.2.2.2.1, .int .i64 x.2.2.2.2] 51) (fun w F hp => hp) ?_
  refine Jb ?_;refine Ja ?_;refine JE ?_
  refine RW.store_whole [_] rfl rfl (vs := [.bool x.1, .string x.2.1, .slice D2 (x.2.2.1).length d2, .bool x.2.2.2.1, .int .i64 x.2.2.2.2]) rfl rfl rfl (by simp [Value.oneCell']) ?_
  refine Jb ?_
  refine CW.rets (rs := [.cell 2 51]) (vs := [_]) rfl Tryz.results16 rfl (ResOK.cell [_] rfl rfl rfl ResOK.nil) fun w hw => ⟨[.bool x.1, .string x.2.1, .slice D2 (x.2.2.1).length d2, .bool x.2.2.2.1, .int .i64 x.2.2.2.2], rfl, ?_⟩
  exact St.sep_map (hw.take [2]) (fun w A h => pr_close (Sep.addp (own_bool_pure) (pr_close (Sep.addp (own_str_pure p1) (pr_close (Sep.cons_perm (fun A h => pr_close (Sep.addp (own_bool_pure) (Sep.addp (own_int_pure p4) h))) h))))))
set_option maxHeartbeats 4000000 in
theorem copyPrem_ret {x : kPrem.V} {cs : List Value} {w : World} (h : Rd kPrem (mem w (fun b => ¬ No b)) cs x) : RetC Tryz.prog 183 [.agg cs.toArray] w No (fun cs' : List Value => .agg cs'.toArray) (fun cs' => [ownDHP kPrem cs' x]) := by
  obtain ⟨_, _, _, f0, _, _, _, f1, _, _, _, f2, _, _, _, f3, f4⟩ := id h
  obtain ⟨A1, c1, A2, c2, A3, c3, rfl, h1, h2⟩ := Rd.premT h
  have p0 := f0.2
  have p3 := f3.2
  have p4 := f4.2
  clear h
  refine Calls.enter Tryz.func183 rfl _ rfl rfl (S := No) (H := []) trivial ?_
  refine CW.seqR ?_
  refine RW.box_agg (l := [.int .i64 x.1, .bool x.2.1.1, .string x.2.1.2.1, .slice A1 (x.2.1.2.2.1).length c1, .bool x.2.1.2.2.2.1, .int .i64 x.2.1.2.2.2.2, .slice A2 (x.2.2.1.1).length c2, .int .i64 x.2.2.1.2.1, .slice A3 (x.2.2.1.2.2).length c3, .string x.2.2.2.1, .string x.2.2.2.2]) rfl rfl fun b1 _ => ?_
  refine RW.alloc (c := [.int .i64 0, .bool false, .string ByteArray.empty, .slice none 0 0, .bool false, .int .i64 0, .slice none 0 0, .int .i64 0, .slice none 0 0, .string ByteArray.empty, .string ByteArray.empty]) rfl rfl fun b2 _ => ?_
  refine RW.take [1, 0] ?_
  refine Jb ?_;refine Ja ?_;refine Je ?_
  refine RW.load_part5 [] rfl rfl rfl rfl ?_
  refine RW.callN Tryz.call16 rfl (fun w2 hw => copyLit_ret (h1.mono (ro_call hw))) rfl fun v1 => ?_
  refine RW.have_ (φ := ∃ B4 d4, v1 = [.bool x.2.1.1, .string x.2.1.2.1, .slice B4 (x.2.1.2.2.1).length d4, .bool x.2.1.2.2.2.1, .int .i64 x.2.1.2.2.2.2]) (fun w hw => ?_) (fun ⟨B4, d4, e1⟩ => ?_)
  · obtain ⟨M, hM⟩ := own_kept (pre := []) hw
    obtain ⟨A4, c4, e, _⟩ := Rd.litT hM
    exact ⟨_, _, e⟩
  subst e1
  refine RW.take [1, 2, 0] ?_
  refine Je ?_
  refine RW.store_part [] rfl rfl (vs := [.bool x.2.1.1, .string x.2.1.2.1, .slice B4 (x.2.1.2.2.1).length d4, .bool x.2.1.2.2.2.1, .int .i64 x.2.1.2.2.2.2]) rfl rfl (by simp [Value.oneCell']) (by show 1 + 5 ≤ 11; omega) ?_
  refine RW.change [] (blk b1 [.int .i64 x.1, .bool x.2.1.1, .string x.2.1.2.1, .slice B4 (x.2.1.2.2.1).length d4, .bool x.2.1.2.2.2.1, .int .i64 x.2.1.2.2.2.2, .slice A2 (x.2.2.1.1).length c2, .int .i64 x.2.2.1.2.1, .slice A3 (x.2.2.1.2.2).length c3, .string x.2.2.2.1, .string x.2.2.2.2] 145) (fun w F hp => hp) ?_
  refine Jb ?_;refine Ja ?_;refine Je ?_;refine JI ?_
  refine RW.callN Tryz.call196 rfl (fun w2 hw => copyGuard_ret (h2.mono (ro_call hw))) rfl fun v2 => ?_
  refine RW.have_ (φ := ∃ B5 d5 B6 d6, v2 = [.slice B5 (x.2.2.1.1).length d5, .int .i64 x.2.2.1.2.1, .slice B6 (x.2.2.1.2.2).length d6]) (fun w hw => ?_) (fun ⟨B5, d5, B6, d6, e2⟩ => ?_)
  · obtain ⟨M, hM⟩ := own_kept (pre := []) hw
    obtain ⟨A5, c5, A6, c6, e, _⟩ := Rd.guardT hM
    exact ⟨_, _, _, _, e⟩
  subst e2
  refine RW.take [1, 2, 3, 0] ?_
  refine Je ?_
  refine RW.store_part [] rfl rfl (vs := [.slice B5 (x.2.2.1.1).length d5, .int .i64 x.2.2.1.2.1, .slice B6 (x.2.2.1.2.2).length d6]) rfl rfl (by simp [Value.oneCell']) (by show 6 + 3 ≤ 11; omega) ?_
  refine RW.change [] (blk b1 [.int .i64 x.1, .bool x.2.1.1, .string x.2.1.2.1, .slice B4 (x.2.1.2.2.1).length d4, .bool x.2.1.2.2.2.1, .int .i64 x.2.1.2.2.2.2, .slice B5 (x.2.2.1.1).length d5, .int .i64 x.2.2.1.2.1, .slice B6 (x.2.2.1.2.2).length d6, .string x.2.2.2.1, .string x.2.2.2.2] 145) (fun w F hp => hp) ?_
  refine Jb ?_;refine Ja ?_;refine JE ?_
  refine RW.store_whole [_] rfl rfl (vs := [.int .i64 x.1, .bool x.2.1.1, .string x.2.1.2.1, .slice B4 (x.2.1.2.2.1).length d4, .bool x.2.1.2.2.2.1, .int .i64 x.2.1.2.2.2.2, .slice B5 (x.2.2.1.1).length d5, .int .i64 x.2.2.1.2.1, .slice B6 (x.2.2.1.2.2).length d6, .string x.2.2.2.1, .string x.2.2.2.2]) rfl rfl rfl (by simp [Value.oneCell']) ?_
  refine Jb ?_
  refine CW.rets (rs := [.cell 2 145]) (vs := [_]) rfl Tryz.results183 rfl (ResOK.cell [_] rfl rfl rfl ResOK.nil) fun w hw => ⟨[.int .i64 x.1, .bool x.2.1.1, .string x.2.1.2.1, .slice B4 (x.2.1.2.2.1).length d4, .bool x.2.1.2.2.2.1, .int .i64 x.2.1.2.2.2.2, .slice B5 (x.2.2.1.1).length d5, .int .i64 x.2.2.1.2.1, .slice B6 (x.2.2.1.2.2).length d6, .string x.2.2.2.1, .string x.2.2.2.2], rfl, ?_⟩
  exact St.sep_map (hw.take [2, 3]) (fun w A h => pr_close (Sep.addp (own_int_pure p0) (pr_close (Sep.cons_perm (fun A h => pr_close (Sep.cons_perm (fun A h => pr_close (Sep.addp (own_str_pure p3) (Sep.addp (own_str_pure p4) h))) h)) h))))
set_option maxHeartbeats 4000000 in
theorem copyPrems_ret {A : Option Addr} {c : Nat} {xs : List kPrem.V} {w : World} (h : Rd (.sl 160 kPrem) (mem w (fun b => ¬ No b)) [.slice A xs.length c] xs) : RetC Tryz.prog 164 [.slice A xs.length c] w No (fun v : Value => v) (fun v => [ownDHP (.sl 160 kPrem) [v] xs]) := by
  have hsm := sl_small h
  have hsm2 := hsm
  unfold reach at hsm
  have hle : Mem.le (mem w (fun b => ¬ No b)) (mem w (fun b => ¬ No b)) := Mem.le_refl _
  refine Calls.enter Tryz.func164 rfl _ rfl rfl (S := No) (H := []) trivial ?_
  refine CW.add_ (elemsHP none kPrem [] []) (fun w _ => elems_nil) ?_
  refine CW.add_ (ownHP 145 11 (.slice none 0 0) []) (fun w _ => .inl ⟨rfl, rfl⟩) ?_
  refine Ja ?_;refine Jd ?_;refine Jb ?_;refine Ja ?_;refine Jd ?_;refine Jb ?_
  refine CW.seq ?_
  refine Ja ?_;refine Jd ?_;refine Jb ?_
  refine CW.block ?_
  refine CW.loop (ι := { q : Nat × Value × List (List Value) // q.1 ≤ xs.length ∧ q.2.2.length = q.1 }) (fun q => [(0, .slice A xs.length c), (3, q.1.2.1), (4, .int .i64 q.1.1)]) (fun q => [ownHP 145 11 q.1.2.1 q.1.2.2, elemsHP none kPrem q.1.2.2 (xs.take q.1.1)]) (fun q => xs.length - q.1.1) ⟨(0, .slice none 0 0, []), Nat.zero_le _, rfl⟩ ⟨rfl, rfl, rfl, trivial⟩ (fun h => h) ?_
  intro ⟨⟨j, v, es⟩, hj, hel⟩
  dsimp only at hj hel ⊢
  refine CW.seq ?_
  refine Ja ?_;refine Jc ?_;refine Jc ?_;refine Jg ?_;refine Jk ?_;refine Jb ?_
  refine CW.ite rfl (fun hlt => ?_) (fun hge => ?_)
  rotate_left
  · have hge' : xs.length ≤ j := by simpa using hge
    rw [List.take_of_length_le hge']
    refine CW.exit rfl ?_
    refine PW.code ?_
    refine Ja ?_;refine Jc ?_;refine Jd ?_;refine Jb ?_
    exact CW.ret1 rfl Tryz.results164 rfl rfl fun w hw => ⟨v, rfl, St.sep_map hw (fun w A h => slice_close rfl hsm2 h)⟩
  have hlt' : j < xs.length := by simpa using hlt
  obtain ⟨B1, O1, cs, hA, hl1, hr, hm⟩ := sl_get h (List.getElem?_eq_getElem hlt')
  have hts : xs.take (j + 1) = xs.take j ++ [xs[j]] := List.take_succ_eq_append_getElem hlt'
  generalize hx : xs[j] = x at *
  refine CW.skip ?_
  refine PW.code ?_
  refine CW.seq ?_
  refine CW.block ?_
  refine CW.region ?_
  refine Jc ?_;refine Jc ?_;refine Jc ?_
  refine RW.indexAddrE hA rfl rfl (by omega) hlt rfl ?_
  refine RW.load_ros rfl hle hm rfl hl1 (by rw [hl1]; decide) rfl ?_
  refine RW.callN Tryz.call183 rfl (fun w2 hw => copyPrem_ret (hr.mono (ro_call hw))) rfl fun cs2 => ?_
  refine RW.have_ (φ := ∃ B1 d1 B2 d2 B3 d3, cs2 = [.int .i64 x.1, .bool x.2.1.1, .string x.2.1.2.1, .slice B1 (x.2.1.2.2.1).length d1, .bool x.2.1.2.2.2.1, .int .i64 x.2.1.2.2.2.2, .slice B2 (x.2.2.1.1).length d2, .int .i64 x.2.2.1.2.1, .slice B3 (x.2.2.1.2.2).length d3, .string x.2.2.2.1, .string x.2.2.2.2]) (fun w hw => ?_) (fun ⟨B1, d1, B2, d2, B3, d3, e1⟩ => ?_)
  · obtain ⟨M, hM⟩ := own_kept (pre := []) hw
    obtain ⟨A1, c1, A2, c2, A3, c3, e, _⟩ := Rd.premT hM
    exact ⟨_, _, _, _, _, _, e⟩
  subst e1
  refine RW.buildSlice (e := 145) (c := [.int .i64 x.1, .bool x.2.1.1, .string x.2.1.2.1, .slice B1 (x.2.1.2.2.1).length d1, .bool x.2.1.2.2.2.1, .int .i64 x.2.1.2.2.2.2, .slice B2 (x.2.2.1.1).length d2, .int .i64 x.2.2.1.2.1, .slice B3 (x.2.2.1.2.2).length d3, .string x.2.2.2.1, .string x.2.2.2.2]) rfl (fun w => by kernel_rfl) rfl fun b16 _ => ?_
  refine RW.append [_, _] (e := 145) (sz := 11) (news := [[.int .i64 x.1, .bool x.2.1.1, .string x.2.1.2.1, .slice B1 (x.2.1.2.2.1).length d1, .bool x.2.1.2.2.2.1, .int .i64 x.2.1.2.2.2.2, .slice B2 (x.2.2.1.1).length d2, .int .i64 x.2.2.1.2.1, .slice B3 (x.2.2.1.2.2).length d3, .string x.2.2.2.1, .string x.2.2.2.2]]) (zc := [.int .i64 0, .bool false, .string ByteArray.empty, .slice none 0 0, .bool false, .int .i64 0, .slice none 0 0, .int .i64 0, .slice none 0 0, .string ByteArray.empty, .string ByteArray.empty]) rfl rfl rfl rfl rfl (by simp) (by simp [Value.oneCell']) (fun w hw hn => ?_) ?_ ?_ rfl fun v' => ?_
  · exact ⟨b16, 0, rfl, CellsAt.of_blk (St.blk (pre := []) hw)⟩
  · rw [hel]; omega
  · rw [hel]; unfold maxN; omega
  refine RW.take [2, 3, 1] ?_
  refine RW.sep [ownHP 145 11 v' (es ++ [[.int .i64 x.1, .bool x.2.1.1, .string x.2.1.2.1, .slice B1 (x.2.1.2.2.1).length d1, .bool x.2.1.2.2.2.1, .int .i64 x.2.1.2.2.2.2, .slice B2 (x.2.2.1.1).length d2, .int .i64 x.2.2.1.2.1, .slice B3 (x.2.2.1.2.2).length d3, .string x.2.2.2.1, .string x.2.2.2.2]]), elemsHP none kPrem (es ++ [[.int .i64 x.1, .bool x.2.1.1, .string x.2.1.2.1, .slice B1 (x.2.1.2.2.1).length d1, .bool x.2.1.2.2.2.1, .int .i64 x.2.1.2.2.2.2, .slice B2 (x.2.2.1.1).length d2, .int .i64 x.2.2.1.2.1, .slice B3 (x.2.2.1.2.2).length d3, .string x.2.2.2.1, .string x.2.2.2.2]]) (xs.take j ++ [x])] (fun w A h => ?_) ?_
  · exact Sep.cons_perm (r := [elemsHP none kPrem es (xs.take j), ownDHP kPrem [.int .i64 x.1, .bool x.2.1.1, .string x.2.1.2.1, .slice B1 (x.2.1.2.2.1).length d1, .bool x.2.1.2.2.2.1, .int .i64 x.2.1.2.2.2.2, .slice B2 (x.2.2.1.1).length d2, .int .i64 x.2.2.1.2.1, .slice B3 (x.2.2.1.2.2).length d3, .string x.2.2.2.1, .string x.2.2.2.2] x]) (fun A h => elems_append h) h
  rw [← hts]
  refine Jd ?_;refine RW.nil (PW.code ?_)
  refine CW.region ?_
  refine Jc ?_
  refine RW.add rfl rfl (w64 (by omega) (by omega)) rfl ?_
  refine Jd ?_
  refine RW.nil ?_
  exact PW.again ⟨(j + 1, v', es ++ [[.int .i64 x.1, .bool x.2.1.1, .string x.2.1.2.1, .slice B1 (x.2.1.2.2.1).length d1, .bool x.2.1.2.2.2.1, .int .i64 x.2.1.2.2.2.2, .slice B2 (x.2.2.1.1).length d2, .int .i64 x.2.2.1.2.1, .slice B3 (x.2.2.1.2.2).length d3, .string x.2.2.2.1, .string x.2.2.2.2]]), hlt', by rw [List.length_append, hel]; rfl⟩ ⟨rfl, rfl, rfl, trivial⟩ (fun h => h) (by show xs.length - (j + 1) < xs.length - j; omega)
set_option maxHeartbeats 4000000 in
theorem copyPred_ret {x : kPredT.V} {cs : List Value} {w : World} (h : Rd kPredT (mem w (fun b => ¬ No b)) cs x) : RetC Tryz.prog 84 [.agg cs.toArray] w No (fun cs' : List Value => .agg cs'.toArray) (fun cs' => [ownDHP kPredT cs' x]) := by
  obtain ⟨_, _, _, f0, _, _, _, f1, _, _, _, f2, f3⟩ := id h
  obtain ⟨A1, c1, A2, c2, rfl, h2, h3⟩ := Rd.predT h
  have p0 := f0.2
  have p1 := f1.2
  clear h
  refine Calls.enter Tryz.func84 rfl _ rfl rfl (S := No) (H := []) trivial ?_
  refine CW.seqR ?_
  refine RW.box_agg (l := [.string x.1, .int .i64 x.2.1, .slice A1 (x.2.2.1).length c1, .slice A2 (x.2.2.2).length c2]) rfl rfl fun b1 _ => ?_
  refine RW.alloc (c := [.string ByteArray.empty, .int .i64 0, .slice none 0 0, .slice none 0 0]) rfl rfl fun b2 _ => ?_
  refine RW.take [1, 0] ?_
  refine Jb ?_;refine Ja ?_;refine Je ?_;refine JA ?_
  refine RW.callN Tryz.call28 rfl (fun w2 hw => copyStrs_ret (h2.mono (ro_call hw))) rfl fun v2 => ?_
  refine RW.have_ (φ := ∃ B d, v2 = .slice B (x.2.2.1).length d) (fun w hw => ?_) (fun ⟨D2, d2, e2⟩ => ?_)
  · obtain ⟨M, hM⟩ := own_kept (pre := []) hw
    obtain ⟨A, c, e⟩ := sl_cell hM
    exact ⟨A, c, (List.cons.inj e).1⟩
  subst e2
  refine RW.take [1, 2, 0] ?_
  refine Je ?_
  refine RW.store_blk [] rfl rfl rfl rfl rfl (by show 2 < 4; omega) ?_
  refine RW.change [] (blk b1 [.string x.1, .int .i64 x.2.1, .slice D2 (x.2.2.1).length d2, .slice A2 (x.2.2.2).length c2] 151) (fun w F hp => hp) ?_
  refine Jb ?_;refine Ja ?_;refine Je ?_;refine JA ?_
  refine RW.callN Tryz.call163 rfl (fun w2 hw => copyInts_ret (h3.mono (ro_call hw))) rfl fun v3 => ?_
  refine RW.have_ (φ := ∃ B d, v3 = .slice B (x.2.2.2).length d) (fun w hw => ?_) (fun ⟨D3, d3, e3⟩ => ?_)
  · obtain ⟨M, hM⟩ := own_kept (pre := []) hw
    obtain ⟨A, c, e⟩ := sl_cell hM
    exact ⟨A, c, (List.cons.inj e).1⟩
  subst e3
  refine RW.take [1, 2, 3, 0] ?_
  refine Je ?_
  refine RW.store_blk [] rfl rfl rfl rfl rfl (by show 3 < 4; omega) ?_
  refine RW.change [] (blk b1 [.string x.1, .int .i64 x.2.1, .slice D2 (x.2.2.1).length d2, .slice D3 (x.2.2.2).length d3] 151) (fun w F hp => hp) ?_
  refine Jb ?_;refine Ja ?_;refine JE ?_
  refine RW.store_whole [_] rfl rfl (vs := [.string x.1, .int .i64 x.2.1, .slice D2 (x.2.2.1).length d2, .slice D3 (x.2.2.2).length d3]) rfl rfl rfl (by simp [Value.oneCell']) ?_
  refine Jb ?_
  refine CW.rets (rs := [.cell 2 151]) (vs := [_]) rfl Tryz.results84 rfl (ResOK.cell [_] rfl rfl rfl ResOK.nil) fun w hw => ⟨[.string x.1, .int .i64 x.2.1, .slice D2 (x.2.2.1).length d2, .slice D3 (x.2.2.2).length d3], rfl, ?_⟩
  exact St.sep_map (hw.take [2, 3]) (fun w A h => pr_close (Sep.addp (own_str_pure p0) (pr_close (Sep.addp (own_int_pure p1) (pr_close (Sep.cons_perm (fun A h => h) h))))))
set_option maxHeartbeats 4000000 in
theorem copyPreds_ret {A : Option Addr} {c : Nat} {xs : List kPredT.V} {w : World} (h : Rd (.sl 72 kPredT) (mem w (fun b => ¬ No b)) [.slice A xs.length c] xs) : RetC Tryz.prog 30 [.slice A xs.length c] w No (fun v : Value => v) (fun v => [ownDHP (.sl 72 kPredT) [v] xs]) := by
  have hsm := sl_small h
  have hsm2 := hsm
  unfold reach at hsm
  have hle : Mem.le (mem w (fun b => ¬ No b)) (mem w (fun b => ¬ No b)) := Mem.le_refl _
  refine Calls.enter Tryz.func30 rfl _ rfl rfl (S := No) (H := []) trivial ?_
  refine CW.add_ (elemsHP none kPredT [] []) (fun w _ => elems_nil) ?_
  refine CW.add_ (ownHP 151 4 (.slice none 0 0) []) (fun w _ => .inl ⟨rfl, rfl⟩) ?_
  refine Ja ?_;refine Jd ?_;refine Jb ?_;refine Ja ?_;refine Jd ?_;refine Jb ?_
  refine CW.seq ?_
  refine Ja ?_;refine Jd ?_;refine Jb ?_
  refine CW.block ?_
  refine CW.loop (ι := { q : Nat × Value × List (List Value) // q.1 ≤ xs.length ∧ q.2.2.length = q.1 }) (fun q => [(0, .slice A xs.length c), (3, q.1.2.1), (4, .int .i64 q.1.1)]) (fun q => [ownHP 151 4 q.1.2.1 q.1.2.2, elemsHP none kPredT q.1.2.2 (xs.take q.1.1)]) (fun q => xs.length - q.1.1) ⟨(0, .slice none 0 0, []), Nat.zero_le _, rfl⟩ ⟨rfl, rfl, rfl, trivial⟩ (fun h => h) ?_
  intro ⟨⟨j, v, es⟩, hj, hel⟩
  dsimp only at hj hel ⊢
  refine CW.seq ?_
  refine Ja ?_;refine Jc ?_;refine Jc ?_;refine Jg ?_;refine Jk ?_;refine Jb ?_
  refine CW.ite rfl (fun hlt => ?_) (fun hge => ?_)
  rotate_left
  · have hge' : xs.length ≤ j := by simpa using hge
    rw [List.take_of_length_le hge']
    refine CW.exit rfl ?_
    refine PW.code ?_
    refine Ja ?_;refine Jc ?_;refine Jd ?_;refine Jb ?_
    exact CW.ret1 rfl Tryz.results30 rfl rfl fun w hw => ⟨v, rfl, St.sep_map hw (fun w A h => slice_close rfl hsm2 h)⟩
  have hlt' : j < xs.length := by simpa using hlt
  obtain ⟨B1, O1, cs, hA, hl1, hr, hm⟩ := sl_get h (List.getElem?_eq_getElem hlt')
  have hts : xs.take (j + 1) = xs.take j ++ [xs[j]] := List.take_succ_eq_append_getElem hlt'
  generalize hx : xs[j] = x at *
  refine CW.skip ?_
  refine PW.code ?_
  refine CW.seq ?_
  refine CW.block ?_
  refine CW.region ?_
  refine Jc ?_;refine Jc ?_;refine Jc ?_
  refine RW.indexAddrE hA rfl rfl (by omega) hlt rfl ?_
  refine RW.load_ros rfl hle hm rfl hl1 (by rw [hl1]; decide) rfl ?_
  refine RW.callN Tryz.call84 rfl (fun w2 hw => copyPred_ret (hr.mono (ro_call hw))) rfl fun cs2 => ?_
  refine RW.have_ (φ := ∃ B1 d1 B2 d2, cs2 = [.string x.1, .int .i64 x.2.1, .slice B1 (x.2.2.1).length d1, .slice B2 (x.2.2.2).length d2]) (fun w hw => ?_) (fun ⟨B1, d1, B2, d2, e1⟩ => ?_)
  · obtain ⟨M, hM⟩ := own_kept (pre := []) hw
    obtain ⟨A1, c1, A2, c2, e, _⟩ := Rd.predT hM
    exact ⟨_, _, _, _, e⟩
  subst e1
  refine RW.buildSlice (e := 151) (c := [.string x.1, .int .i64 x.2.1, .slice B1 (x.2.2.1).length d1, .slice B2 (x.2.2.2).length d2]) rfl (fun w => by kernel_rfl) rfl fun b16 _ => ?_
  refine RW.append [_, _] (e := 151) (sz := 4) (news := [[.string x.1, .int .i64 x.2.1, .slice B1 (x.2.2.1).length d1, .slice B2 (x.2.2.2).length d2]]) (zc := [.string ByteArray.empty, .int .i64 0, .slice none 0 0, .slice none 0 0]) rfl rfl rfl rfl rfl (by simp) (by simp [Value.oneCell']) (fun w hw hn => ?_) ?_ ?_ rfl fun v' => ?_
  · exact ⟨b16, 0, rfl, CellsAt.of_blk (St.blk (pre := []) hw)⟩
  · rw [hel]; omega
  · rw [hel]; unfold maxN; omega
  refine RW.take [2, 3, 1] ?_
  refine RW.sep [ownHP 151 4 v' (es ++ [[.string x.1, .int .i64 x.2.1, .slice B1 (x.2.2.1).length d1, .slice B2 (x.2.2.2).length d2]]), elemsHP none kPredT (es ++ [[.string x.1, .int .i64 x.2.1, .slice B1 (x.2.2.1).length d1, .slice B2 (x.2.2.2).length d2]]) (xs.take j ++ [x])] (fun w A h => ?_) ?_
  · exact Sep.cons_perm (r := [elemsHP none kPredT es (xs.take j), ownDHP kPredT [.string x.1, .int .i64 x.2.1, .slice B1 (x.2.2.1).length d1, .slice B2 (x.2.2.2).length d2] x]) (fun A h => elems_append h) h
  rw [← hts]
  refine Jd ?_;refine RW.nil (PW.code ?_)
  refine CW.region ?_
  refine Jc ?_
  refine RW.add rfl rfl (w64 (by omega) (by omega)) rfl ?_
  refine Jd ?_
  refine RW.nil ?_
  exact PW.again ⟨(j + 1, v', es ++ [[.string x.1, .int .i64 x.2.1, .slice B1 (x.2.2.1).length d1, .slice B2 (x.2.2.2).length d2]]), hlt', by rw [List.length_append, hel]; rfl⟩ ⟨rfl, rfl, rfl, trivial⟩ (fun h => h) (by show xs.length - (j + 1) < xs.length - j; omega)
set_option maxHeartbeats 4000000 in
theorem copyRule_ret {x : kRule.V} {cs : List Value} {w : World} (h : Rd kRule (mem w (fun b => ¬ No b)) cs x) : RetC Tryz.prog 85 [.agg cs.toArray] w No (fun cs' : List Value => .agg cs'.toArray) (fun cs' => [ownDHP kRule cs' x]) := by
  obtain ⟨_, _, _, f0, _, _, _, f1, _, _, _, f2, _, _, _, f3, _, _, _, f4, _, _, _, f5, f6⟩ := id h
  obtain ⟨A1, c1, A2, c2, rfl, h4, h6⟩ := Rd.ruleT h
  have p0 := f0.2
  have p1 := f1.2
  have p2 := f2.2
  have p3 := f3.2
  have p5 := f5.2
  clear h
  refine Calls.enter Tryz.func85 rfl _ rfl rfl (S := No) (H := []) trivial ?_
  refine CW.seqR ?_
  refine RW.box_agg (l := [.string x.1, .string x.2.1, .int .i64 x.2.2.1, .int .i64 x.2.2.2.1, .slice A1 (x.2.2.2.2.1).length c1, .int .i64 x.2.2.2.2.2.1, .bool x.2.2.2.2.2.2.1, .string x.2.2.2.2.2.2.2.1, .slice A2 (x.2.2.2.2.2.2.2.2.1).length c2, .bool x.2.2.2.2.2.2.2.2.2.1, .int .i64 x.2.2.2.2.2.2.2.2.2.2]) rfl rfl fun b1 _ => ?_
  refine RW.alloc (c := [.string ByteArray.empty, .string ByteArray.empty, .int .i64 0, .int .i64 0, .slice none 0 0, .int .i64 0, .bool false, .string ByteArray.empty, .slice none 0 0, .bool false, .int .i64 0]) rfl rfl fun b2 _ => ?_
  refine RW.take [1, 0] ?_
  refine Jb ?_;refine Ja ?_;refine Je ?_;refine JA ?_
  refine RW.callN Tryz.call164 rfl (fun w2 hw => copyPrems_ret (h4.mono (ro_call hw))) rfl fun v4 => ?_
  refine RW.have_ (φ := ∃ B d, v4 = .slice B (x.2.2.2.2.1).length d) (fun w hw => ?_) (fun ⟨D4, d4, e4⟩ => ?_)
  · obtain ⟨M, hM⟩ := own_kept (pre := []) hw
    obtain ⟨A, c, e⟩ := sl_cell hM
    exact ⟨A, c, (List.cons.inj e).1⟩
  subst e4
  refine RW.take [1, 2, 0] ?_
  refine Je ?_
  refine RW.store_blk [] rfl rfl rfl rfl rfl (by show 4 < 11; omega) ?_
  refine RW.change [] (blk b1 [.string x.1, .string x.2.1, .int .i64 x.2.2.1, .int .i64 x.2.2.2.1, .slice D4 (x.2.2.2.2.1).length d4, .int .i64 x.2.2.2.2.2.1, .bool x.2.2.2.2.2.2.1, .string x.2.2.2.2.2.2.2.1, .slice A2 (x.2.2.2.2.2.2.2.2.1).length c2, .bool x.2.2.2.2.2.2.2.2.2.1, .int .i64 x.2.2.2.2.2.2.2.2.2.2] 120) (fun w F hp => hp) ?_
  refine Jb ?_;refine Ja ?_;refine Je ?_
  refine RW.load_part5 [] rfl rfl rfl rfl ?_
  refine RW.callN Tryz.call16 rfl (fun w2 hw => copyLit_ret (h6.mono (ro_call hw))) rfl fun v6 => ?_
  refine RW.have_ (φ := ∃ B3 d3, v6 = [.bool x.2.2.2.2.2.2.1, .string x.2.2.2.2.2.2.2.1, .slice B3 (x.2.2.2.2.2.2.2.2.1).length d3, .bool x.2.2.2.2.2.2.2.2.2.1, .int .i64 x.2.2.2.2.2.2.2.2.2.2]) (fun w hw => ?_) (fun ⟨B3, d3, e6⟩ => ?_)
  · obtain ⟨M, hM⟩ := own_kept (pre := []) hw
    obtain ⟨A3, c3, e, _⟩ := Rd.litT hM
    exact ⟨_, _, e⟩
  subst e6
  refine RW.take [1, 2, 3, 0] ?_
  refine Je ?_
  refine RW.store_part [] rfl rfl (vs := [.bool x.2.2.2.2.2.2.1, .string x.2.2.2.2.2.2.2.1, .slice B3 (x.2.2.2.2.2.2.2.2.1).length d3, .bool x.2.2.2.2.2.2.2.2.2.1, .int .i64 x.2.2.2.2.2.2.2.2.2.2]) rfl rfl (by simp [Value.oneCell']) (by show 6 + 5 ≤ 11; omega) ?_
  refine RW.change [] (blk b1 [.string x.1, .string x.2.1, .int .i64 x.2.2.1, .int .i64 x.2.2.2.1, .slice D4 (x.2.2.2.2.1).length d4, .int .i64 x.2.2.2.2.2.1, .bool x.2.2.2.2.2.2.1, .string x.2.2.2.2.2.2.2.1, .slice B3 (x.2.2.2.2.2.2.2.2.1).length d3, .bool x.2.2.2.2.2.2.2.2.2.1, .int .i64 x.2.2.2.2.2.2.2.2.2.2] 120) (fun w F hp => hp) ?_
  refine Jb ?_;refine Ja ?_;refine JE ?_
  refine RW.store_whole [_] rfl rfl (vs := [.string x.1, .string x.2.1, .int .i64 x.2.2.1, .int .i64 x.2.2.2.1, .slice D4 (x.2.2.2.2.1).length d4, .int .i64 x.2.2.2.2.2.1, .bool x.2.2.2.2.2.2.1, .string x.2.2.2.2.2.2.2.1, .slice B3 (x.2.2.2.2.2.2.2.2.1).length d3, .bool x.2.2.2.2.2.2.2.2.2.1, .int .i64 x.2.2.2.2.2.2.2.2.2.2]) rfl rfl rfl (by simp [Value.oneCell']) ?_
  refine Jb ?_
  refine CW.rets (rs := [.cell 2 120]) (vs := [_]) rfl Tryz.results85 rfl (ResOK.cell [_] rfl rfl rfl ResOK.nil) fun w hw => ⟨[.string x.1, .string x.2.1, .int .i64 x.2.2.1, .int .i64 x.2.2.2.1, .slice D4 (x.2.2.2.2.1).length d4, .int .i64 x.2.2.2.2.2.1, .bool x.2.2.2.2.2.2.1, .string x.2.2.2.2.2.2.2.1, .slice B3 (x.2.2.2.2.2.2.2.2.1).length d3, .bool x.2.2.2.2.2.2.2.2.2.1, .int .i64 x.2.2.2.2.2.2.2.2.2.2], rfl, ?_⟩
  exact St.sep_map (hw.take [2, 3]) (fun w A h => pr_close (Sep.addp (own_str_pure p0) (pr_close (Sep.addp (own_str_pure p1) (pr_close (Sep.addp (own_int_pure p2) (pr_close (Sep.addp (own_int_pure p3) (pr_close (Sep.cons_perm (fun A h => pr_close (Sep.addp (own_int_pure p5) (h))) h))))))))))
set_option maxHeartbeats 4000000 in
theorem copyRules_ret {A : Option Addr} {c : Nat} {xs : List kRule.V} {w : World} (h : Rd (.sl 144 kRule) (mem w (fun b => ¬ No b)) [.slice A xs.length c] xs) : RetC Tryz.prog 33 [.slice A xs.length c] w No (fun v : Value => v) (fun v => [ownDHP (.sl 144 kRule) [v] xs]) := by
  have hsm := sl_small h
  have hsm2 := hsm
  unfold reach at hsm
  have hle : Mem.le (mem w (fun b => ¬ No b)) (mem w (fun b => ¬ No b)) := Mem.le_refl _
  refine Calls.enter Tryz.func33 rfl _ rfl rfl (S := No) (H := []) trivial ?_
  refine CW.add_ (elemsHP none kRule [] []) (fun w _ => elems_nil) ?_
  refine CW.add_ (ownHP 120 11 (.slice none 0 0) []) (fun w _ => .inl ⟨rfl, rfl⟩) ?_
  refine Ja ?_;refine Jd ?_;refine Jb ?_;refine Ja ?_;refine Jd ?_;refine Jb ?_
  refine CW.seq ?_
  refine Ja ?_;refine Jd ?_;refine Jb ?_
  refine CW.block ?_
  refine CW.loop (ι := { q : Nat × Value × List (List Value) // q.1 ≤ xs.length ∧ q.2.2.length = q.1 }) (fun q => [(0, .slice A xs.length c), (3, q.1.2.1), (4, .int .i64 q.1.1)]) (fun q => [ownHP 120 11 q.1.2.1 q.1.2.2, elemsHP none kRule q.1.2.2 (xs.take q.1.1)]) (fun q => xs.length - q.1.1) ⟨(0, .slice none 0 0, []), Nat.zero_le _, rfl⟩ ⟨rfl, rfl, rfl, trivial⟩ (fun h => h) ?_
  intro ⟨⟨j, v, es⟩, hj, hel⟩
  dsimp only at hj hel ⊢
  refine CW.seq ?_
  refine Ja ?_;refine Jc ?_;refine Jc ?_;refine Jg ?_;refine Jk ?_;refine Jb ?_
  refine CW.ite rfl (fun hlt => ?_) (fun hge => ?_)
  rotate_left
  · have hge' : xs.length ≤ j := by simpa using hge
    rw [List.take_of_length_le hge']
    refine CW.exit rfl ?_
    refine PW.code ?_
    refine Ja ?_;refine Jc ?_;refine Jd ?_;refine Jb ?_
    exact CW.ret1 rfl Tryz.results33 rfl rfl fun w hw => ⟨v, rfl, St.sep_map hw (fun w A h => slice_close rfl hsm2 h)⟩
  have hlt' : j < xs.length := by simpa using hlt
  obtain ⟨B1, O1, cs, hA, hl1, hr, hm⟩ := sl_get h (List.getElem?_eq_getElem hlt')
  have hts : xs.take (j + 1) = xs.take j ++ [xs[j]] := List.take_succ_eq_append_getElem hlt'
  generalize hx : xs[j] = x at *
  refine CW.skip ?_
  refine PW.code ?_
  refine CW.seq ?_
  refine CW.block ?_
  refine CW.region ?_
  refine Jc ?_;refine Jc ?_;refine Jc ?_
  refine RW.indexAddrE hA rfl rfl (by omega) hlt rfl ?_
  refine RW.load_ros rfl hle hm rfl hl1 (by rw [hl1]; decide) rfl ?_
  refine RW.callN Tryz.call85 rfl (fun w2 hw => copyRule_ret (hr.mono (ro_call hw))) rfl fun cs2 => ?_
  refine RW.have_ (φ := ∃ B1 d1 B2 d2, cs2 = [.string x.1, .string x.2.1, .int .i64 x.2.2.1, .int .i64 x.2.2.2.1, .slice B1 (x.2.2.2.2.1).length d1, .int .i64 x.2.2.2.2.2.1, .bool x.2.2.2.2.2.2.1, .string x.2.2.2.2.2.2.2.1, .slice B2 (x.2.2.2.2.2.2.2.2.1).length d2, .bool x.2.2.2.2.2.2.2.2.2.1, .int .i64 x.2.2.2.2.2.2.2.2.2.2]) (fun w hw => ?_) (fun ⟨B1, d1, B2, d2, e1⟩ => ?_)
  · obtain ⟨M, hM⟩ := own_kept (pre := []) hw
    obtain ⟨A1, c1, A2, c2, e, _⟩ := Rd.ruleT hM
    exact ⟨_, _, _, _, e⟩
  subst e1
  refine RW.buildSlice (e := 120) (c := [.string x.1, .string x.2.1, .int .i64 x.2.2.1, .int .i64 x.2.2.2.1, .slice B1 (x.2.2.2.2.1).length d1, .int .i64 x.2.2.2.2.2.1, .bool x.2.2.2.2.2.2.1, .string x.2.2.2.2.2.2.2.1, .slice B2 (x.2.2.2.2.2.2.2.2.1).length d2, .bool x.2.2.2.2.2.2.2.2.2.1, .int .i64 x.2.2.2.2.2.2.2.2.2.2]) rfl (fun w => by kernel_rfl) rfl fun b16 _ => ?_
  refine RW.append [_, _] (e := 120) (sz := 11) (news := [[.string x.1, .string x.2.1, .int .i64 x.2.2.1, .int .i64 x.2.2.2.1, .slice B1 (x.2.2.2.2.1).length d1, .int .i64 x.2.2.2.2.2.1, .bool x.2.2.2.2.2.2.1, .string x.2.2.2.2.2.2.2.1, .slice B2 (x.2.2.2.2.2.2.2.2.1).length d2, .bool x.2.2.2.2.2.2.2.2.2.1, .int .i64 x.2.2.2.2.2.2.2.2.2.2]]) (zc := [.string ByteArray.empty, .string ByteArray.empty, .int .i64 0, .int .i64 0, .slice none 0 0, .int .i64 0, .bool false, .string ByteArray.empty, .slice none 0 0, .bool false, .int .i64 0]) rfl rfl rfl rfl rfl (by simp) (by simp [Value.oneCell']) (fun w hw hn => ?_) ?_ ?_ rfl fun v' => ?_
  · exact ⟨b16, 0, rfl, CellsAt.of_blk (St.blk (pre := []) hw)⟩
  · rw [hel]; omega
  · rw [hel]; unfold maxN; omega
  refine RW.take [2, 3, 1] ?_
  refine RW.sep [ownHP 120 11 v' (es ++ [[.string x.1, .string x.2.1, .int .i64 x.2.2.1, .int .i64 x.2.2.2.1, .slice B1 (x.2.2.2.2.1).length d1, .int .i64 x.2.2.2.2.2.1, .bool x.2.2.2.2.2.2.1, .string x.2.2.2.2.2.2.2.1, .slice B2 (x.2.2.2.2.2.2.2.2.1).length d2, .bool x.2.2.2.2.2.2.2.2.2.1, .int .i64 x.2.2.2.2.2.2.2.2.2.2]]), elemsHP none kRule (es ++ [[.string x.1, .string x.2.1, .int .i64 x.2.2.1, .int .i64 x.2.2.2.1, .slice B1 (x.2.2.2.2.1).length d1, .int .i64 x.2.2.2.2.2.1, .bool x.2.2.2.2.2.2.1, .string x.2.2.2.2.2.2.2.1, .slice B2 (x.2.2.2.2.2.2.2.2.1).length d2, .bool x.2.2.2.2.2.2.2.2.2.1, .int .i64 x.2.2.2.2.2.2.2.2.2.2]]) (xs.take j ++ [x])] (fun w A h => ?_) ?_
  · exact Sep.cons_perm (r := [elemsHP none kRule es (xs.take j), ownDHP kRule [.string x.1, .string x.2.1, .int .i64 x.2.2.1, .int .i64 x.2.2.2.1, .slice B1 (x.2.2.2.2.1).length d1, .int .i64 x.2.2.2.2.2.1, .bool x.2.2.2.2.2.2.1, .string x.2.2.2.2.2.2.2.1, .slice B2 (x.2.2.2.2.2.2.2.2.1).length d2, .bool x.2.2.2.2.2.2.2.2.2.1, .int .i64 x.2.2.2.2.2.2.2.2.2.2] x]) (fun A h => elems_append h) h
  rw [← hts]
  refine Jd ?_;refine RW.nil (PW.code ?_)
  refine CW.region ?_
  refine Jc ?_
  refine RW.add rfl rfl (w64 (by omega) (by omega)) rfl ?_
  refine Jd ?_
  refine RW.nil ?_
  exact PW.again ⟨(j + 1, v', es ++ [[.string x.1, .string x.2.1, .int .i64 x.2.2.1, .int .i64 x.2.2.2.1, .slice B1 (x.2.2.2.2.1).length d1, .int .i64 x.2.2.2.2.2.1, .bool x.2.2.2.2.2.2.1, .string x.2.2.2.2.2.2.2.1, .slice B2 (x.2.2.2.2.2.2.2.2.1).length d2, .bool x.2.2.2.2.2.2.2.2.2.1, .int .i64 x.2.2.2.2.2.2.2.2.2.2]]), hlt', by rw [List.length_append, hel]; rfl⟩ ⟨rfl, rfl, rfl, trivial⟩ (fun h => h) (by show xs.length - (j + 1) < xs.length - j; omega)
set_option maxHeartbeats 4000000 in
theorem copyTotal_ret {x : kTotal.V} {cs : List Value} {w : World} (h : Rd kTotal (mem w (fun b => ¬ No b)) cs x) : RetC Tryz.prog 86 [.agg cs.toArray] w No (fun cs' : List Value => .agg cs'.toArray) (fun cs' => [ownDHP kTotal cs' x]) := by
  obtain ⟨_, _, _, f0, _, _, _, f1, _, _, _, f2, _, _, _, f3, f4⟩ := id h
  obtain ⟨A1, c1, rfl, h2⟩ := Rd.totalT h
  have p0 := f0.2
  have p1 := f1.2
  have p4 := f4.2
  clear h
  refine Calls.enter Tryz.func86 rfl _ rfl rfl (S := No) (H := []) trivial ?_
  refine CW.seqR ?_
  refine RW.box_agg (l := [.string x.1, .string x.2.1, .slice A1 (x.2.2.1).length c1, .bool x.2.2.2.1, .int .i64 x.2.2.2.2]) rfl rfl fun b1 _ => ?_
  refine RW.alloc (c := [.string ByteArray.empty, .string ByteArray.empty, .slice none 0 0, .bool false, .int .i64 0]) rfl rfl fun b2 _ => ?_
  refine RW.take [1, 0] ?_
  refine Jb ?_;refine Ja ?_;refine Je ?_;refine JA ?_
  refine RW.callN Tryz.call28 rfl (fun w2 hw => copyStrs_ret (h2.mono (ro_call hw))) rfl fun v2 => ?_
  refine RW.have_ (φ := ∃ B d, v2 = .slice B (x.2.2.1).length d) (fun w hw => ?_) (fun ⟨D2, d2, e2⟩ => ?_)
  · obtain ⟨M, hM⟩ := own_kept (pre := []) hw
    obtain ⟨A, c, e⟩ := sl_cell hM
    exact ⟨A, c, (List.cons.inj e).1⟩
  subst e2
  refine RW.take [1, 2, 0] ?_
  refine Je ?_
  refine RW.store_blk [] rfl rfl rfl rfl rfl (by show 2 < 5; omega) ?_
  refine RW.change [] (blk b1 [.string x.1, .string x.2.1, .slice D2 (x.2.2.1).length d2, .bool x.2.2.2.1, .int .i64 x.2.2.2.2] 166) (fun w F hp => hp) ?_
  refine Jb ?_;refine Ja ?_;refine JE ?_
  refine RW.store_whole [_] rfl rfl (vs := [.string x.1, .string x.2.1, .slice D2 (x.2.2.1).length d2, .bool x.2.2.2.1, .int .i64 x.2.2.2.2]) rfl rfl rfl (by simp [Value.oneCell']) ?_
  refine Jb ?_
  refine CW.rets (rs := [.cell 2 166]) (vs := [_]) rfl Tryz.results86 rfl (ResOK.cell [_] rfl rfl rfl ResOK.nil) fun w hw => ⟨[.string x.1, .string x.2.1, .slice D2 (x.2.2.1).length d2, .bool x.2.2.2.1, .int .i64 x.2.2.2.2], rfl, ?_⟩
  exact St.sep_map (hw.take [2]) (fun w A h => pr_close (Sep.addp (own_str_pure p0) (pr_close (Sep.addp (own_str_pure p1) (pr_close (Sep.cons_perm (fun A h => pr_close (Sep.addp (own_bool_pure) (Sep.addp (own_int_pure p4) h))) h))))))
set_option maxHeartbeats 4000000 in
theorem copyTotals_ret {A : Option Addr} {c : Nat} {xs : List kTotal.V} {w : World} (h : Rd (.sl 72 kTotal) (mem w (fun b => ¬ No b)) [.slice A xs.length c] xs) : RetC Tryz.prog 35 [.slice A xs.length c] w No (fun v : Value => v) (fun v => [ownDHP (.sl 72 kTotal) [v] xs]) := by
  have hsm := sl_small h
  have hsm2 := hsm
  unfold reach at hsm
  have hle : Mem.le (mem w (fun b => ¬ No b)) (mem w (fun b => ¬ No b)) := Mem.le_refl _
  refine Calls.enter Tryz.func35 rfl _ rfl rfl (S := No) (H := []) trivial ?_
  refine CW.add_ (elemsHP none kTotal [] []) (fun w _ => elems_nil) ?_
  refine CW.add_ (ownHP 166 5 (.slice none 0 0) []) (fun w _ => .inl ⟨rfl, rfl⟩) ?_
  refine Ja ?_;refine Jd ?_;refine Jb ?_;refine Ja ?_;refine Jd ?_;refine Jb ?_
  refine CW.seq ?_
  refine Ja ?_;refine Jd ?_;refine Jb ?_
  refine CW.block ?_
  refine CW.loop (ι := { q : Nat × Value × List (List Value) // q.1 ≤ xs.length ∧ q.2.2.length = q.1 }) (fun q => [(0, .slice A xs.length c), (3, q.1.2.1), (4, .int .i64 q.1.1)]) (fun q => [ownHP 166 5 q.1.2.1 q.1.2.2, elemsHP none kTotal q.1.2.2 (xs.take q.1.1)]) (fun q => xs.length - q.1.1) ⟨(0, .slice none 0 0, []), Nat.zero_le _, rfl⟩ ⟨rfl, rfl, rfl, trivial⟩ (fun h => h) ?_
  intro ⟨⟨j, v, es⟩, hj, hel⟩
  dsimp only at hj hel ⊢
  refine CW.seq ?_
  refine Ja ?_;refine Jc ?_;refine Jc ?_;refine Jg ?_;refine Jk ?_;refine Jb ?_
  refine CW.ite rfl (fun hlt => ?_) (fun hge => ?_)
  rotate_left
  · have hge' : xs.length ≤ j := by simpa using hge
    rw [List.take_of_length_le hge']
    refine CW.exit rfl ?_
    refine PW.code ?_
    refine Ja ?_;refine Jc ?_;refine Jd ?_;refine Jb ?_
    exact CW.ret1 rfl Tryz.results35 rfl rfl fun w hw => ⟨v, rfl, St.sep_map hw (fun w A h => slice_close rfl hsm2 h)⟩
  have hlt' : j < xs.length := by simpa using hlt
  obtain ⟨B1, O1, cs, hA, hl1, hr, hm⟩ := sl_get h (List.getElem?_eq_getElem hlt')
  have hts : xs.take (j + 1) = xs.take j ++ [xs[j]] := List.take_succ_eq_append_getElem hlt'
  generalize hx : xs[j] = x at *
  refine CW.skip ?_
  refine PW.code ?_
  refine CW.seq ?_
  refine CW.block ?_
  refine CW.region ?_
  refine Jc ?_;refine Jc ?_;refine Jc ?_
  refine RW.indexAddrE hA rfl rfl (by omega) hlt rfl ?_
  refine RW.load_ros rfl hle hm rfl hl1 (by rw [hl1]; decide) rfl ?_
  refine RW.callN Tryz.call86 rfl (fun w2 hw => copyTotal_ret (hr.mono (ro_call hw))) rfl fun cs2 => ?_
  refine RW.have_ (φ := ∃ B1 d1, cs2 = [.string x.1, .string x.2.1, .slice B1 (x.2.2.1).length d1, .bool x.2.2.2.1, .int .i64 x.2.2.2.2]) (fun w hw => ?_) (fun ⟨B1, d1, e1⟩ => ?_)
  · obtain ⟨M, hM⟩ := own_kept (pre := []) hw
    obtain ⟨A1, c1, e, _⟩ := Rd.totalT hM
    exact ⟨_, _, e⟩
  subst e1
  refine RW.buildSlice (e := 166) (c := [.string x.1, .string x.2.1, .slice B1 (x.2.2.1).length d1, .bool x.2.2.2.1, .int .i64 x.2.2.2.2]) rfl (fun w => by kernel_rfl) rfl fun b16 _ => ?_
  refine RW.append [_, _] (e := 166) (sz := 5) (news := [[.string x.1, .string x.2.1, .slice B1 (x.2.2.1).length d1, .bool x.2.2.2.1, .int .i64 x.2.2.2.2]]) (zc := [.string ByteArray.empty, .string ByteArray.empty, .slice none 0 0, .bool false, .int .i64 0]) rfl rfl rfl rfl rfl (by simp) (by simp [Value.oneCell']) (fun w hw hn => ?_) ?_ ?_ rfl fun v' => ?_
  · exact ⟨b16, 0, rfl, CellsAt.of_blk (St.blk (pre := []) hw)⟩
  · rw [hel]; omega
  · rw [hel]; unfold maxN; omega
  refine RW.take [2, 3, 1] ?_
  refine RW.sep [ownHP 166 5 v' (es ++ [[.string x.1, .string x.2.1, .slice B1 (x.2.2.1).length d1, .bool x.2.2.2.1, .int .i64 x.2.2.2.2]]), elemsHP none kTotal (es ++ [[.string x.1, .string x.2.1, .slice B1 (x.2.2.1).length d1, .bool x.2.2.2.1, .int .i64 x.2.2.2.2]]) (xs.take j ++ [x])] (fun w A h => ?_) ?_
  · exact Sep.cons_perm (r := [elemsHP none kTotal es (xs.take j), ownDHP kTotal [.string x.1, .string x.2.1, .slice B1 (x.2.2.1).length d1, .bool x.2.2.2.1, .int .i64 x.2.2.2.2] x]) (fun A h => elems_append h) h
  rw [← hts]
  refine Jd ?_;refine RW.nil (PW.code ?_)
  refine CW.region ?_
  refine Jc ?_
  refine RW.add rfl rfl (w64 (by omega) (by omega)) rfl ?_
  refine Jd ?_
  refine RW.nil ?_
  exact PW.again ⟨(j + 1, v', es ++ [[.string x.1, .string x.2.1, .slice B1 (x.2.2.1).length d1, .bool x.2.2.2.1, .int .i64 x.2.2.2.2]]), hlt', by rw [List.length_append, hel]; rfl⟩ ⟨rfl, rfl, rfl, trivial⟩ (fun h => h) (by show xs.length - (j + 1) < xs.length - j; omega)
set_option maxHeartbeats 4000000 in
theorem copyLists_ret {A : Option Addr} {c : Nat} {xs : List (List Str)} {w : World} (h : Rd (.sl 24 kStrs) (mem w (fun b => ¬ No b)) [.slice A xs.length c] xs) : RetC Tryz.prog 31 [.slice A xs.length c] w No (fun v : Value => v) (fun v => [ownDHP (.sl 24 kStrs) [v] xs]) := by
  have hsm := sl_small h
  have hsm2 := hsm
  unfold reach at hsm
  have hle : Mem.le (mem w (fun b => ¬ No b)) (mem w (fun b => ¬ No b)) := Mem.le_refl _
  refine Calls.enter Tryz.func31 rfl _ rfl rfl (S := No) (H := []) trivial ?_
  refine CW.add_ (elemsHP none kStrs [] []) (fun w _ => elems_nil) ?_
  refine CW.add_ (ownHP 22 1 (.slice none 0 0) []) (fun w _ => .inl ⟨rfl, rfl⟩) ?_
  refine Ja ?_;refine Jd ?_;refine Jb ?_;refine Ja ?_;refine Jd ?_;refine Jb ?_
  refine CW.seq ?_
  refine Ja ?_;refine Jd ?_;refine Jb ?_
  refine CW.block ?_
  refine CW.loop (ι := { q : Nat × Value × List (List Value) // q.1 ≤ xs.length ∧ q.2.2.length = q.1 }) (fun q => [(0, .slice A xs.length c), (3, q.1.2.1), (4, .int .i64 q.1.1)]) (fun q => [ownHP 22 1 q.1.2.1 q.1.2.2, elemsHP none kStrs q.1.2.2 (xs.take q.1.1)]) (fun q => xs.length - q.1.1) ⟨(0, .slice none 0 0, []), Nat.zero_le _, rfl⟩ ⟨rfl, rfl, rfl, trivial⟩ (fun h => h) ?_
  intro ⟨⟨j, v, es⟩, hj, hel⟩
  dsimp only at hj hel ⊢
  refine CW.seq ?_
  refine Ja ?_;refine Jc ?_;refine Jc ?_;refine Jg ?_;refine Jk ?_;refine Jb ?_
  refine CW.ite rfl (fun hlt => ?_) (fun hge => ?_)
  rotate_left
  · have hge' : xs.length ≤ j := by simpa using hge
    rw [List.take_of_length_le hge']
    refine CW.exit rfl ?_
    refine PW.code ?_
    refine Ja ?_;refine Jc ?_;refine Jd ?_;refine Jb ?_
    exact CW.ret1 rfl Tryz.results31 rfl rfl fun w hw => ⟨v, rfl, St.sep_map hw (fun w A h => slice_close rfl hsm2 h)⟩
  have hlt' : j < xs.length := by simpa using hlt
  obtain ⟨B1, O1, cs, hA, hl1, hr, hm⟩ := sl_get h (List.getElem?_eq_getElem hlt')
  have hts : xs.take (j + 1) = xs.take j ++ [xs[j]] := List.take_succ_eq_append_getElem hlt'
  generalize hx : xs[j] = x at *
  obtain ⟨A1, c1, rfl⟩ := sl_cell hr
  refine CW.skip ?_
  refine PW.code ?_
  refine CW.seq ?_
  refine CW.block ?_
  refine CW.region ?_
  refine Jc ?_;refine Jc ?_;refine Jc ?_
  refine RW.indexAddrE hA rfl rfl (by omega) hlt rfl ?_
  refine RW.load_ro rfl hle (hm 0 _ rfl) rfl rfl ?_
  refine RW.callN Tryz.call28 rfl (fun w2 hw => copyStrs_ret (hr.mono (ro_call hw))) rfl fun cs2 => ?_
  refine RW.have_ (φ := ∃ B d, cs2 = .slice B x.length d) (fun w hw => ?_) (fun ⟨D1, d1, e1⟩ => ?_)
  · obtain ⟨M, hM⟩ := own_kept (pre := []) hw
    obtain ⟨A, c, e⟩ := sl_cell hM
    exact ⟨A, c, (List.cons.inj e).1⟩
  subst e1
  refine RW.buildSlice (e := 22) (c := [.slice D1 x.length d1]) rfl (fun w => by kernel_rfl) rfl fun b16 _ => ?_
  refine RW.append [_, _] (e := 22) (sz := 1) (news := [[.slice D1 x.length d1]]) (zc := [.slice none 0 0]) rfl rfl rfl rfl rfl (by simp) (by simp [Value.oneCell']) (fun w hw hn => ?_) ?_ ?_ rfl fun v' => ?_
  · exact ⟨b16, 0, rfl, CellsAt.of_blk (St.blk (pre := []) hw)⟩
  · rw [hel]; omega
  · rw [hel]; unfold maxN; omega
  refine RW.take [2, 3, 1] ?_
  refine RW.sep [ownHP 22 1 v' (es ++ [[.slice D1 x.length d1]]), elemsHP none kStrs (es ++ [[.slice D1 x.length d1]]) (xs.take j ++ [x])] (fun w A h => ?_) ?_
  · exact Sep.cons_perm (r := [elemsHP none kStrs es (xs.take j), ownDHP kStrs [.slice D1 x.length d1] x]) (fun A h => elems_append h) h
  rw [← hts]
  refine Jd ?_;refine RW.nil (PW.code ?_)
  refine CW.region ?_
  refine Jc ?_
  refine RW.add rfl rfl (w64 (by omega) (by omega)) rfl ?_
  refine Jd ?_
  refine RW.nil ?_
  exact PW.again ⟨(j + 1, v', es ++ [[.slice D1 x.length d1]]), hlt', by rw [List.length_append, hel]; rfl⟩ ⟨rfl, rfl, rfl, trivial⟩ (fun h => h) (by show xs.length - (j + 1) < xs.length - j; omega)
end Go.Proofs.YtkfmlekomfnleaaGreat
/- The calculus, nineteenth part: stores into and loads from slices of one's own; deep data opened. Conditions: none; everything holds over any program. -/
set_option linter.unusedVariables false
set_option linter.unusedSimpArgs false
namespace Go.Proofs.YtkfmlekomfnleaaGreat
open Go Go.RowKit

theorem flatten_set {es : List (List Value)} {sz : Nat} (h : ∀ x ∈ es, x.length = sz) {i : Nat} {cs : List Value} (hx : es[i]? = some cs) {j : Nat} {v : Value} (hj : j < cs.length) : es.flatten.set (i * sz + j) v = (es.set i (cs.set j v)).flatten := by
  induction es generalizing i with
  | nil => simp at hx
  | cons y es ih =>
    have hy : y.length = sz := h y (by simp)
    rw [List.flatten_cons]
    cases i with
    | zero =>
      simp at hx
      subst hx
      rw [Nat.zero_mul, Nat.zero_add, List.set_append_left _ _ hj]
      rfl
    | succ i =>
      rw [List.set_append_right _ _ (by rw [hy, Nat.add_mul]; omega), hy, show (i + 1) * sz + j - sz = i * sz + j from by rw [Nat.add_mul]; omega, ih (fun z hz => h z (by simp [hz])) (by simpa using hx)]
      rfl
theorem own_some {w0 w : World} {S : Nat → Prop} {pre r : List HP} {e : TypeId} {sz n c : Nat} {A : Option Addr} {es : List (List Value)} (h : St w0 S (pre ++ ownHP e sz (.slice A n c) es :: r) w) {i : Nat} {cs : List Value} (hi : es[i]? = some cs) : ∃ B, A = some ⟨B, 0, none⟩ := by
  rcases own_form h with ⟨_, rfl⟩ | ⟨B, c', h1, _⟩
  · simp at hi
  · simp only [Value.slice.injEq] at h1
    exact ⟨B, h1.1⟩
theorem own_at {w0 w : World} {S : Nat → Prop} {pre r : List HP} {e : TypeId} {sz B n c : Nat} {es : List (List Value)} (h : St w0 S (pre ++ ownHP e sz (.slice (some ⟨B, 0, none⟩) n c) es :: r) w) {i : Nat} {cs : List Value} (hi : es[i]? = some cs) : CellsAt w B (i * sz) cs := by
  have hl : ∀ x ∈ es, x.length = sz := by
    rcases own_form h with ⟨h1, _⟩ | ⟨_, _, _, _, _, _, h1⟩
    · cases h1
    · exact h1
  intro j v hv
  have := own_cells h (i * sz + j) v (flatten_at hl hi hv)
  simpa using this
section
variable {P : Program} {E : Env} {ops : Array Oper} {Q : Pst} {rest : List Oper} {G : List (Nat × Value)} {H : List HP} {K0 : Act → World → Prop}
variable {dst : Nat} {ty : TypeId} {pos : String} {af : Array Edge} {t e : TypeId} {d : TypeDesc} {z : Value} {sz n by_ : Nat} {x y : Operand} {v : Value}
theorem PW.sepEx {ι : Type} (φ : ι → Prop) (H' : ι → List HP) (hs : ∀ w A, Sep H w A → ∃ i, φ i ∧ Sep (H' i) w A) (k : ∀ i, φ i → PW E K0 G (H' i)) : PW E K0 G H := fun a w hf hw => by
  obtain ⟨i, hi, h⟩ := hs _ _ hw.sep
  exact k i hi a w hf ⟨hw.kp, h⟩
theorem RW.sepEx {ι : Type} (φ : ι → Prop) (H' : ι → List HP) (hs : ∀ w A, Sep H w A → ∃ i, φ i ∧ Sep (H' i) w A) (k : ∀ i, φ i → RW P E ops Q rest G (H' i)) : RW P E ops Q rest G H := PW.sepEx φ H' hs k
theorem CW.sepEx {ι : Type} {c : Code} (φ : ι → Prop) (H' : ι → List HP) (hs : ∀ w A, Sep H w A → ∃ i, φ i ∧ Sep (H' i) w A) (k : ∀ i, φ i → CW P E c Q G (H' i)) : CW P E c Q G H := PW.sepEx φ H' hs k
/-- One cell of an element. -/
theorem RW.loadOwn1 [T : Ty P t d z sz by_] (pre : List HP) {r : List HP} {B O c i j : Nat} {sz' : Nat} {es : List (List Value)} {cs : List Value} (hx : ev G x = some (.pointer (some ⟨B, O, none⟩))) (hO : O = i * sz' + j) (hi : es[i]? = some cs) (hv : cs[j]? = some v) (hd : isAggD d = false) (hN : Nat.blt dst E.N = true)
    (k : RW P E ops Q rest ((dst, v) :: G) (pre ++ ownHP e sz' (.slice (some ⟨B, 0, none⟩) n c) es :: r)) : RW P E ops Q (⟨some dst, .load t x, ty, pos, af, none⟩ :: rest) G (pre ++ ownHP e sz' (.slice (some ⟨B, 0, none⟩) n c) es :: r) :=
  RW.load_fact hx hd hN (fun w hw => by rw [hO]; exact own_at hw hi j v hv) k
/-- A whole element. -/
theorem RW.loadOwn [T : Ty P t d z sz by_] (pre : List HP) {r : List HP} {B O c i : Nat} {es : List (List Value)} {cs : List Value} (hx : ev G x = some (.pointer (some ⟨B, O, none⟩))) (hO : O = i * sz) (hi : es[i]? = some cs) (hs : cs.length = sz) (hd : isAggD d = true) (hN : Nat.blt dst E.N = true)
    (k : RW P E ops Q rest ((dst, .agg cs.toArray) :: G) (pre ++ ownHP e sz (.slice (some ⟨B, 0, none⟩) n c) es :: r)) : RW P E ops Q (⟨some dst, .load t x, ty, pos, af, none⟩ :: rest) G (pre ++ ownHP e sz (.slice (some ⟨B, 0, none⟩) n c) es :: r) :=
  RW.load_facts hx hd hs hN (fun w hw => by rw [hO]; exact own_at hw hi) k
/-- A cell of an element is filled. -/
theorem RW.storeOwn [T : Ty P t d z 1 by_] (pre : List HP) {r : List HP} {B O c i j : Nat} {es : List (List Value)} {cs : List Value} (hx : ev G x = some (.pointer (some ⟨B, O, none⟩))) (hO : O = i * sz + j) (hy : ev G y = some v) (hv : v.cells = #[v]) (h1 : v.oneCell' = true) (hi : es[i]? = some cs) (hj : j < cs.length)
    (k : RW P E ops Q rest G (pre ++ ownHP e sz (.slice (some ⟨B, 0, none⟩) n c) (es.set i (cs.set j v)) :: r)) : RW P E ops Q (⟨none, .store t x y, ty, pos, af, none⟩ :: rest) G (pre ++ ownHP e sz (.slice (some ⟨B, 0, none⟩) n c) es :: r) := by
  refine RW.open_ pre (fun tl : List Value => starHP (pureHP (n = es.length ∧ (∀ x ∈ es, x.length = sz) ∧ es.flatten.length + tl.length = c * sz ∧ es.length ≤ c ∧ c ≤ maxN)) (blk B (es.flatten ++ tl) e)) (fun w F hp => ?_) fun tl => ?_
  · rcases hp with ⟨hp, _⟩ | ⟨B', c', tl, h1, h2, h3, h4, h5, h6, h7⟩
    · cases hp
    · simp only [Value.slice.injEq, Option.some.injEq, Addr.mk.injEq] at h1
      obtain ⟨⟨rfl, _⟩, hn, rfl⟩ := h1
      exact ⟨tl, fun _ => False, fun _ h => h.elim, ⟨hn, h4, h5, h6, h7⟩, ⟨⟨h2, fun h => h.elim⟩, h3⟩⟩
  refine RW.unstar pre ?_
  refine RW.purely pre fun ⟨hn, h4, h5, h6, h7⟩ => ?_
  have hl : i * sz + j < es.flatten.length := (List.getElem?_eq_some_iff.1 (flatten_at h4 hi (List.getElem?_eq_getElem hj))).1
  have hcs : cs.length = sz := h4 cs (List.mem_of_getElem? hi)
  refine RW.store_blk pre rfl hx hy hv h1 (by rw [hO, List.length_append]; omega) ?_
  refine RW.change pre _ (fun w F hp => own_of_blk hp tl ?_ (by rw [List.length_set]; exact hn.symm) (fun x hx => ?_) (by rw [List.length_set, List.length_append]; exact h5) (by omega) h7) k
  · rw [hO, List.set_append_left _ _ hl, flatten_set h4 hi hj]
  · rcases List.mem_or_eq_of_mem_set hx with h | h
    · exact h4 x h
    · rw [h, List.length_set]; exact hcs
end
section
variable {t : K} {w : World} {A : Nat → Prop} {es : List (List Value)} {xs : List t.V} {cs : List Value} {r : List HP}
theorem elems_len {o : Option Nat} (h : Sep (elemsHP o t es xs :: r) w A) : es.length = xs.length := h.choose_spec.2.1.1
theorem str_out {x : ByteArray} (h : Sep (ownDHP .str cs x :: r) w A) : cs = [.string x] ∧ x.size ≤ reach ∧ Sep r w A := by
  obtain ⟨F, hF, hp, hr⟩ := h
  exact ⟨hp.1, hp.2, Sep.up (fun b hb => hb.1) hr⟩
theorem int_out {k : IntKind} {x : Int} (h : Sep (ownDHP (.int k) cs x :: r) w A) : cs = [.int k x] ∧ inR k x ∧ Sep r w A := by
  obtain ⟨F, hF, hp, hr⟩ := h
  exact ⟨hp.1, hp.2, Sep.up (fun b hb => hb.1) hr⟩
theorem bool_out {x : Bool} (h : Sep (ownDHP .bool cs x :: r) w A) : cs = [.bool x] ∧ Sep r w A := by
  obtain ⟨F, hF, hp, hr⟩ := h
  exact ⟨hp, Sep.up (fun b hb => hb.1) hr⟩
theorem Sep.under {ι : Type} {φ : ι → Prop} {r' : ι → List HP} {c : HP} (hs : ∀ A, Sep r w A → ∃ i, φ i ∧ Sep (r' i) w A) (h : Sep (c :: r) w A) : ∃ i, φ i ∧ Sep (c :: r' i) w A := by
  obtain ⟨F, hF, hp, hr⟩ := h
  obtain ⟨i, hi, hr⟩ := hs _ hr
  exact ⟨i, hi, F, hF, hp, hr⟩
/-- A slice of one's own, open. -/
theorem sl_open {by_ : Nat} {v : Value} (h : Sep (ownDHP (.sl by_ t) [v] xs :: r) w A) : ∃ q : TypeId × List (List Value), (xs.length * by_ ≤ reach ∧ q.2.length = xs.length) ∧ Sep (ownHP q.1 t.sz v q.2 :: elemsHP none t q.2 xs :: r) w A := by
  obtain ⟨F, hF, hp, hr⟩ := h
  obtain ⟨q, F1, hF1, ⟨F2, hF2, h1, h2⟩, h3⟩ := slice_open hp
  refine ⟨q, h3, F2, fun b hb => hF b (hF1 b (hF2 b hb)), h1, fun b => F b ∧ ¬ F2 b, fun b hb => ⟨⟨(hF b hb.1).1, hb.2⟩, (hF b hb.1).2⟩, ?_, Sep.up (fun b hb => ⟨⟨hb.1, fun k => hb.2 (hF1 b (hF2 b k))⟩, fun k => hb.2 k.1⟩) hr⟩
  exact (elemsHP none t q.2 xs).up (fun b hb => ⟨hF1 b hb.1, hb.2⟩) h2
theorem map_step {α : Type} {f : α → α} {xs : List α} {j : Nat} (hj : j < xs.length) : ((xs.take j).map f ++ xs.drop j).set j (f xs[j]) = (xs.take (j + 1)).map f ++ xs.drop (j + 1) := by
  have hl : ((xs.take j).map f).length = j := by simp; omega
  rw [List.set_append_right _ _ (by omega), hl, Nat.sub_self, List.drop_eq_getElem_cons hj, List.set_cons_zero, List.take_succ_eq_append_getElem hj, List.map_append, List.append_assoc]
  rfl
theorem map_here {α : Type} {f : α → α} {xs : List α} {j : Nat} (hj : j < xs.length) : ((xs.take j).map f ++ xs.drop j)[j]? = some xs[j] := by
  have hl : ((xs.take j).map f).length = j := by simp; omega
  rw [List.getElem?_append_right (by omega), hl, Nat.sub_self, List.drop_eq_getElem_cons hj]
  rfl
theorem map_len {α : Type} {f : α → α} {xs : List α} {j : Nat} : ((xs.take j).map f ++ xs.drop j).length = xs.length := by
  simp
  omega
theorem map_end {α : Type} {f : α → α} {xs : List α} {j : Nat} (hj : xs.length ≤ j) : (xs.take j).map f ++ xs.drop j = xs.map f := by
  rw [List.take_of_length_le hj, List.drop_eq_nil_of_le hj, List.append_nil]
end
/-- Some chunks as one. -/
def allHP (L : List HP) : HP where
  p w F := Sep L w F
  st := fun h hs k => Sep.keep h hs k
  up := fun h k => Sep.up h k
theorem Sep.pack {L r : List HP} {w : World} {A : Nat → Prop} (h : Sep (L ++ r) w A) : Sep (allHP L :: r) w A := by
  obtain ⟨F, hF, h1, h2⟩ := Sep.split h
  exact ⟨F, hF, h1, h2⟩
theorem Sep.join {L : List HP} {w : World} : ∀ {r : List HP} {A F : Nat → Prop}, (∀ b, F b → A b) → Sep L w F → Sep r w (fun b => A b ∧ ¬ F b) → Sep (L ++ r) w A := by
  induction L with
  | nil => intro r A F _ _ hr; exact Sep.up (fun b hb => hb.1) hr
  | cons c L ih =>
    intro r A F hF h hr
    obtain ⟨F1, hF1, hc, hL⟩ := h
    exact ⟨F1, fun b hb => ⟨hF b (hF1 b hb).1, (hF1 b hb).2⟩, hc, ih (F := fun b => F b ∧ ¬ F1 b) (fun b hb => ⟨hF b hb.1, hb.2⟩) hL (Sep.up (fun b hb => ⟨⟨hb.1, fun k => hb.2 (hF1 b k).1⟩, fun k => hb.2 k.1⟩) hr)⟩
theorem Sep.unpack {L r : List HP} {w : World} {A : Nat → Prop} (h : Sep (allHP L :: r) w A) : Sep (L ++ r) w A := by
  obtain ⟨F, hF, h1, h2⟩ := h
  exact Sep.join (fun b hb => (hF b hb).1) h1 h2
section
variable {P : Program} {E : Env} {ops : Array Oper} {Q : Pst} {rest : List Oper} {G : List (Nat × Value)} {H : List HP} {K0 : Act → World → Prop}
theorem PW.pack (L : List HP) {r : List HP} (k : PW E K0 G (allHP L :: r)) : PW E K0 G (L ++ r) := PW.sep (fun _ _ h => Sep.pack h) k
theorem RW.pack (L : List HP) {r : List HP} (k : RW P E ops Q rest G (allHP L :: r)) : RW P E ops Q rest G (L ++ r) := PW.pack L k
theorem CW.pack (L : List HP) {r : List HP} {c : Code} (k : CW P E c Q G (allHP L :: r)) : CW P E c Q G (L ++ r) := PW.pack L k
theorem PW.unpack {L r : List HP} (k : PW E K0 G (L ++ r)) : PW E K0 G (allHP L :: r) := PW.sep (fun _ _ h => Sep.unpack h) k
theorem RW.unpack {L r : List HP} (k : RW P E ops Q rest G (L ++ r)) : RW P E ops Q rest G (allHP L :: r) := PW.unpack k
theorem CW.unpack {L r : List HP} {c : Code} (k : CW P E c Q G (L ++ r)) : CW P E c Q G (allHP L :: r) := PW.unpack k
end
section
variable {P : Program} {E : Env} {ops : Array Oper} {Q : Pst} {rest : List Oper} {G : List (Nat × Value)} {K0 : Act → World → Prop}
variable {t : K} {es : List (List Value)} {xs : List t.V} {cs : List Value} {x : t.V} {r : List HP} {i : Nat}
theorem PW.focus (hx : xs[i]? = some x) (k : ∀ cs, es[i]? = some cs → PW E K0 G (ownDHP t cs x :: elemsHP (some i) t es xs :: r)) : PW E K0 G (elemsHP none t es xs :: r) :=
  PW.sepEx (fun cs => es[i]? = some cs) _ (fun w A h => by
    have hl := elems_len h
    have hi : i < es.length := by rw [hl]; exact (List.getElem?_eq_some_iff.1 hx).1
    exact ⟨es[i], List.getElem?_eq_getElem hi, elems_focus (List.getElem?_eq_getElem hi) hx h⟩) k
theorem CW.focus {c : Code} (hx : xs[i]? = some x) (k : ∀ cs, es[i]? = some cs → CW P E c Q G (ownDHP t cs x :: elemsHP (some i) t es xs :: r)) : CW P E c Q G (elemsHP none t es xs :: r) := PW.focus hx k
theorem RW.focus (hx : xs[i]? = some x) (k : ∀ cs, es[i]? = some cs → RW P E ops Q rest G (ownDHP t cs x :: elemsHP (some i) t es xs :: r)) : RW P E ops Q rest G (elemsHP none t es xs :: r) := PW.focus hx k
theorem PW.put {cs' : List Value} (hi : es[i]? = some cs') (k : PW E K0 G (elemsHP none t (es.set i cs) (xs.set i x) :: r)) : PW E K0 G (ownDHP t cs x :: elemsHP (some i) t es xs :: r) := PW.sep (fun w A h => elems_put (List.getElem?_eq_some_iff.1 hi).1 h) k
theorem CW.put {c : Code} {cs' : List Value} (hi : es[i]? = some cs') (k : CW P E c Q G (elemsHP none t (es.set i cs) (xs.set i x) :: r)) : CW P E c Q G (ownDHP t cs x :: elemsHP (some i) t es xs :: r) := PW.put hi k
theorem RW.put {cs' : List Value} (hi : es[i]? = some cs') (k : RW P E ops Q rest G (elemsHP none t (es.set i cs) (xs.set i x) :: r)) : RW P E ops Q rest G (ownDHP t cs x :: elemsHP (some i) t es xs :: r) := PW.put hi k
end
end Go.Proofs.YtkfmlekomfnleaaGreat
/- CopyStatute; deep data of one's own opened and closed; lexpriorlaw08.turned, args. Conditions: none. -/
set_option linter.unusedVariables false
set_option linter.unusedSimpArgs false
set_option maxRecDepth 10000
namespace Go.Proofs.YtkfmlekomfnleaaGreat
open Go Go.RowKit Go.MapKept

theorem sl_out {t : K} {w : World} {A : Nat → Prop} {cs : List Value} {r : List HP} {by_ : Nat} {xs : List t.V} (h : Sep (ownDHP (.sl by_ t) cs xs :: r) w A) : ∃ A0 c, cs = [.slice A0 xs.length c] := by
  obtain ⟨F, _, hp, _⟩ := h
  exact sl_cell (OwnD.rd hp)
def memP (x : kMember.V) : Prop := ByteArray.size (x.1) ≤ reach ∧ ByteArray.size (x.2) ≤ reach
abbrev memCs (x : kMember.V) (q : Unit) : List Value := [.string x.1, .string x.2]
abbrev memH (x : kMember.V) (q : Unit) : List HP := []
theorem mem_open {x : kMember.V} {cs : List Value} {r : List HP} {w : World} {A : Nat → Prop} (h0 : Sep (ownDHP kMember cs x :: r) w A) : ∃ q : Unit, (cs = memCs x q ∧ memP x) ∧ Sep (memH x q ++ r) w A := by
  obtain ⟨_, _, rfl, h1⟩ := pr_open (y := x.1) (z := x.2) h0
  obtain ⟨rfl, p1, h2⟩ := str_out h1
  obtain ⟨rfl, p2, h3⟩ := str_out h2
  exact ⟨(), ⟨rfl, p1, p2⟩, h3⟩
theorem mem_close {x : kMember.V} {q : Unit} {r : List HP} {w : World} {A : Nat → Prop} (hP : memP x) (h : Sep (memH x q ++ r) w A) : Sep (ownDHP kMember (memCs x q) x :: r) w A := by
  obtain ⟨p1, p2⟩ := hP
  exact pr_close (Sep.addp (own_str_pure p1) (Sep.addp (own_str_pure p2) (h)))
def termP (x : kTerm.V) : Prop := inR .i64 x.1 ∧ ByteArray.size (x.2.1) ≤ reach ∧ inR .i64 x.2.2.2
abbrev termCs (x : kTerm.V) (q : (Option Addr × Nat)) : List Value := [.int .i64 x.1, .string x.2.1, .slice q.1 (x.2.2.1).length q.2, .int .i64 x.2.2.2]
abbrev termH (x : kTerm.V) (q : (Option Addr × Nat)) : List HP := [ownDHP kStrs [.slice q.1 (x.2.2.1).length q.2] x.2.2.1]
theorem term_open {x : kTerm.V} {cs : List Value} {r : List HP} {w : World} {A : Nat → Prop} (h0 : Sep (ownDHP kTerm cs x :: r) w A) : ∃ q : (Option Addr × Nat), (cs = termCs x q ∧ termP x) ∧ Sep (termH x q ++ r) w A := by
  obtain ⟨_, _, rfl, h1⟩ := pr_open (y := x.1) (z := x.2) h0
  obtain ⟨rfl, p1, h2⟩ := int_out h1
  obtain ⟨_, _, rfl, h3⟩ := pr_open (y := x.2.1) (z := x.2.2) h2
  obtain ⟨rfl, p2, h4⟩ := str_out h3
  obtain ⟨_, _, rfl, h5⟩ := pr_open (y := x.2.2.1) (z := x.2.2.2) h4
  obtain ⟨A0, c0, rfl⟩ := sl_out h5
  obtain ⟨F0, g0, k0, h6⟩ := h5
  obtain ⟨rfl, p3, h7⟩ := int_out h6
  exact ⟨(A0, c0), ⟨rfl, p1, p2, p3⟩, F0, g0, k0, h7⟩
theorem term_close {x : kTerm.V} {q : (Option Addr × Nat)} {r : List HP} {w : World} {A : Nat → Prop} (hP : termP x) (h : Sep (termH x q ++ r) w A) : Sep (ownDHP kTerm (termCs x q) x :: r) w A := by
  obtain ⟨p1, p2, p3⟩ := hP
  exact pr_close (Sep.addp (own_int_pure p1) (pr_close (Sep.addp (own_str_pure p2) (pr_close (Sep.cons_perm (fun A h => Sep.addp (own_int_pure p3) (h)) h)))))
def premP (x : kPrem.V) : Prop := inR .i64 x.1 ∧ ByteArray.size (x.2.1.2.1) ≤ reach ∧ inR .i64 x.2.1.2.2.2.2 ∧ inR .i64 x.2.2.1.2.1 ∧ ByteArray.size (x.2.2.2.1) ≤ reach ∧ ByteArray.size (x.2.2.2.2) ≤ reach
abbrev premCs (x : kPrem.V) (q : (Option Addr × Nat) × (Option Addr × Nat) × (Option Addr × Nat)) : List Value := [.int .i64 x.1, .bool x.2.1.1, .string x.2.1.2.1, .slice q.1.1 (x.2.1.2.2.1).length q.1.2, .bool x.2.1.2.2.2.1, .int .i64 x.2.1.2.2.2.2, .slice q.2.1.1 (x.2.2.1.1).length q.2.1.2, .int .i64 x.2.2.1.2.1, .slice q.2.2.1 (x.2.2.1.2.2).length q.2.2.2, .string x.2.2.2.1, .string x.2.2.2.2]
abbrev premH (x : kPrem.V) (q : (Option Addr × Nat) × (Option Addr × Nat) × (Option Addr × Nat)) : List HP := [ownDHP kStrs [.slice q.1.1 (x.2.1.2.2.1).length q.1.2] x.2.1.2.2.1, ownDHP kTerms [.slice q.2.1.1 (x.2.2.1.1).length q.2.1.2] x.2.2.1.1, ownDHP kTerms [.slice q.2.2.1 (x.2.2.1.2.2).length q.2.2.2] x.2.2.1.2.2]
theorem prem_open {x : kPrem.V} {cs : List Value} {r : List HP} {w : World} {A : Nat → Prop} (h0 : Sep (ownDHP kPrem cs x :: r) w A) : ∃ q : (Option Addr × Nat) × (Option Addr × Nat) × (Option Addr × Nat), (cs = premCs x q ∧ premP x) ∧ Sep (premH x q ++ r) w A := by
  obtain ⟨_, _, rfl, h1⟩ := pr_open (y := x.1) (z := x.2) h0
  obtain ⟨rfl, p1, h2⟩ := int_out h1
  obtain ⟨_, _, rfl, h3⟩ := pr_open (y := x.2.1) (z := x.2.2) h2
  obtain ⟨_, _, rfl, h4⟩ := pr_open (y := x.2.1.1) (z := x.2.1.2) h3
  obtain ⟨rfl, h5⟩ := bool_out h4
  obtain ⟨_, _, rfl, h6⟩ := pr_open (y := x.2.1.2.1) (z := x.2.1.2.2) h5
  obtain ⟨rfl, p2, h7⟩ := str_out h6
  obtain ⟨_, _, rfl, h8⟩ := pr_open (y := x.2.1.2.2.1) (z := x.2.1.2.2.2) h7
  obtain ⟨A0, c0, rfl⟩ := sl_out h8
  obtain ⟨F0, g0, k0, h9⟩ := h8
  obtain ⟨_, _, rfl, h10⟩ := pr_open (y := x.2.1.2.2.2.1) (z := x.2.1.2.2.2.2) h9
  obtain ⟨rfl, h11⟩ := bool_out h10
  obtain ⟨rfl, p3, h12⟩ := int_out h11
  obtain ⟨_, _, rfl, h13⟩ := pr_open (y := x.2.2.1) (z := x.2.2.2) h12
  obtain ⟨_, _, rfl, h14⟩ := pr_open (y := x.2.2.1.1) (z := x.2.2.1.2) h13
  obtain ⟨A1, c1, rfl⟩ := sl_out h14
  obtain ⟨F1, g1, k1, h15⟩ := h14
  obtain ⟨_, _, rfl, h16⟩ := pr_open (y := x.2.2.1.2.1) (z := x.2.2.1.2.2) h15
  obtain ⟨rfl, p4, h17⟩ := int_out h16
  obtain ⟨A2, c2, rfl⟩ := sl_out h17
  obtain ⟨F2, g2, k2, h18⟩ := h17
  obtain ⟨_, _, rfl, h19⟩ := pr_open (y := x.2.2.2.1) (z := x.2.2.2.2) h18
  obtain ⟨rfl, p5, h20⟩ := str_out h19
  obtain ⟨rfl, p6, h21⟩ := str_out h20
  exact ⟨((A0, c0), (A1, c1), (A2, c2)), ⟨rfl, p1, p2, p3, p4, p5, p6⟩, F0, g0, k0, F1, g1, k1, F2, g2, k2, h21⟩
theorem prem_close {x : kPrem.V} {q : (Option Addr × Nat) × (Option Addr × Nat) × (Option Addr × Nat)} {r : List HP} {w : World} {A : Nat → Prop} (hP : premP x) (h : Sep (premH x q ++ r) w A) : Sep (ownDHP kPrem (premCs x q) x :: r) w A := by
  obtain ⟨p1, p2, p3, p4, p5, p6⟩ := hP
  exact pr_close (Sep.addp (own_int_pure p1) (pr_close (pr_close (Sep.addp own_bool_pure (pr_close (Sep.addp (own_str_pure p2) (pr_close (Sep.cons_perm (fun A h => pr_close (Sep.addp own_bool_pure (Sep.addp (own_int_pure p3) (pr_close (pr_close (Sep.cons_perm (fun A h => pr_close (Sep.addp (own_int_pure p4) (Sep.cons_perm (fun A h => pr_close (Sep.addp (own_str_pure p5) (Sep.addp (own_str_pure p6) (h)))) h))) h)))))) h))))))))
def ruleP (x : kRule.V) : Prop := ByteArray.size (x.1) ≤ reach ∧ ByteArray.size (x.2.1) ≤ reach ∧ inR .i64 x.2.2.1 ∧ inR .i64 x.2.2.2.1 ∧ inR .i64 x.2.2.2.2.2.1 ∧ ByteArray.size (x.2.2.2.2.2.2.2.1) ≤ reach ∧ inR .i64 x.2.2.2.2.2.2.2.2.2.2
abbrev ruleCs (x : kRule.V) (q : (Option Addr × Nat) × (Option Addr × Nat)) : List Value := [.string x.1, .string x.2.1, .int .i64 x.2.2.1, .int .i64 x.2.2.2.1, .slice q.1.1 (x.2.2.2.2.1).length q.1.2, .int .i64 x.2.2.2.2.2.1, .bool x.2.2.2.2.2.2.1, .string x.2.2.2.2.2.2.2.1, .slice q.2.1 (x.2.2.2.2.2.2.2.2.1).length q.2.2, .bool x.2.2.2.2.2.2.2.2.2.1, .int .i64 x.2.2.2.2.2.2.2.2.2.2]
abbrev ruleH (x : kRule.V) (q : (Option Addr × Nat) × (Option Addr × Nat)) : List HP := [ownDHP kPrems [.slice q.1.1 (x.2.2.2.2.1).length q.1.2] x.2.2.2.2.1, ownDHP kStrs [.slice q.2.1 (x.2.2.2.2.2.2.2.2.1).length q.2.2] x.2.2.2.2.2.2.2.2.1]
theorem rule_open {x : kRule.V} {cs : List Value} {r : List HP} {w : World} {A : Nat → Prop} (h0 : Sep (ownDHP kRule cs x :: r) w A) : ∃ q : (Option Addr × Nat) × (Option Addr × Nat), (cs = ruleCs x q ∧ ruleP x) ∧ Sep (ruleH x q ++ r) w A := by
  obtain ⟨_, _, rfl, h1⟩ := pr_open (y := x.1) (z := x.2) h0
  obtain ⟨rfl, p1, h2⟩ := str_out h1
  obtain ⟨_, _, rfl, h3⟩ := pr_open (y := x.2.1) (z := x.2.2) h2
  obtain ⟨rfl, p2, h4⟩ := str_out h3
  obtain ⟨_, _, rfl, h5⟩ := pr_open (y := x.2.2.1) (z := x.2.2.2) h4
  obtain ⟨rfl, p3, h6⟩ := int_out h5
  obtain ⟨_, _, rfl, h7⟩ := pr_open (y := x.2.2.2.1) (z := x.2.2.2.2) h6
  obtain ⟨rfl, p4, h8⟩ := int_out h7
  obtain ⟨_, _, rfl, h9⟩ := pr_open (y := x.2.2.2.2.1) (z := x.2.2.2.2.2) h8
  obtain ⟨A0, c0, rfl⟩ := sl_out h9
  obtain ⟨F0, g0, k0, h10⟩ := h9
  obtain ⟨_, _, rfl, h11⟩ := pr_open (y := x.2.2.2.2.2.1) (z := x.2.2.2.2.2.2) h10
  obtain ⟨rfl, p5, h12⟩ := int_out h11
  obtain ⟨_, _, rfl, h13⟩ := pr_open (y := x.2.2.2.2.2.2.1) (z := x.2.2.2.2.2.2.2) h12
  obtain ⟨rfl, h14⟩ := bool_out h13
  obtain ⟨_, _, rfl, h15⟩ := pr_open (y := x.2.2.2.2.2.2.2.1) (z := x.2.2.2.2.2.2.2.2) h14
  obtain ⟨rfl, p6, h16⟩ := str_out h15
  obtain ⟨_, _, rfl, h17⟩ := pr_open (y := x.2.2.2.2.2.2.2.2.1) (z := x.2.2.2.2.2.2.2.2.2) h16
  obtain ⟨A1, c1, rfl⟩ := sl_out h17
  obtain ⟨F1, g1, k1, h18⟩ := h17
  obtain ⟨_, _, rfl, h19⟩ := pr_open (y := x.2.2.2.2.2.2.2.2.2.1) (z := x.2.2.2.2.2.2.2.2.2.2) h18
  obtain ⟨rfl, h20⟩ := bool_out h19
  obtain ⟨rfl, p7, h21⟩ := int_out h20
  exact ⟨((A0, c0), (A1, c1)), ⟨rfl, p1, p2, p3, p4, p5, p6, p7⟩, F0, g0, k0, F1, g1, k1, h21⟩
theorem rule_close {x : kRule.V} {q : (Option Addr × Nat) × (Option Addr × Nat)} {r : List HP} {w : World} {A : Nat → Prop} (hP : ruleP x) (h : Sep (ruleH x q ++ r) w A) : Sep (ownDHP kRule (ruleCs x q) x :: r) w A := by
  obtain ⟨p1, p2, p3, p4, p5, p6, p7⟩ := hP
  exact pr_close (Sep.addp (own_str_pure p1) (pr_close (Sep.addp (own_str_pure p2) (pr_close (Sep.addp (own_int_pure p3) (pr_close (Sep.addp (own_int_pure p4) (pr_close (Sep.cons_perm (fun A h => pr_close (Sep.addp (own_int_pure p5) (pr_close (Sep.addp own_bool_pure (pr_close (Sep.addp (own_str_pure p6) (pr_close (Sep.cons_perm (fun A h => pr_close (Sep.addp own_bool_pure (Sep.addp (own_int_pure p7) (h)))) h)))))))) h)))))))))
/-- A statute's parts, all of one's own. -/
abbrev statH (x : RC) (s : kStat.V) : List HP := [ownDHP kStrs [.slice x.A1 (sKinds s).length x.c1] (sKinds s), ownDHP (.sl 32 kMember) [.slice x.A2 (sMembers s).length x.c2] (sMembers s), ownDHP (.sl 72 kPredT) [.slice x.A3 (sPreds s).length x.c3] (sPreds s), ownDHP (.sl 24 kStrs) [.slice x.A4 (sClasses s).length x.c4] (sClasses s), ownDHP (.sl 24 kSource) [.slice x.A5 (sSources s).length x.c5] (sSources s), ownDHP (.sl 144 kRule) [.slice x.A6 (sRules s).length x.c6] (sRules s), ownDHP (.sl 32 kExc) [.slice x.A7 (sExcepts s).length x.c7] (sExcepts s), ownDHP (.sl 72 kTotal) [.slice x.A8 (sTotals s).length x.c8] (sTotals s)]
theorem rd_own {t : K} {cs : List Value} {x : t.V} {r : List HP} {w : World} {A : Nat → Prop} (pre : List HP) (h : Sep (pre ++ ownDHP t cs x :: r) w A) : Rd t (mem w (fun b => ¬ No b)) cs x := by
  obtain ⟨F, _, hp, _⟩ := Sep.pull h
  exact (OwnD.rd hp).mono (mem_up fun _ _ k => k)
theorem stat_on {x : RC} {s : kStat.V} {r : List HP} {w : World} {A : Nat → Prop} (h : Sep (statH x s ++ r) w A) : StatOn (mem w (fun b => ¬ No b)) s x :=
  ⟨rd_own [] h, rd_own [_] h, rd_own [_, _] h, rd_own [_, _, _] h, rd_own [_, _, _, _] h, rd_own [_, _, _, _, _] h, rd_own [_, _, _, _, _, _] h, rd_own [_, _, _, _, _, _, _] h⟩
attribute [local irreducible] RW CW
set_option maxHeartbeats 8000000 in
theorem copyStat_ret {s : kStat.V} {x : RC} {w : World} (hst : StatOn (mem w (fun b => ¬ No b)) s x) : RetC Tryz.prog 6 [.agg (x.stat s).toArray] w No (fun y : RC => .agg (y.stat s).toArray) (fun y => statH y s) := by
  refine Calls.enter Tryz.func6 rfl _ rfl rfl (S := No) (H := []) trivial ?_
  refine CW.seqR ?_
  refine RW.box_agg (l := [.string s.1, .slice x.A1 (sKinds s).length x.c1, .slice x.A2 (sMembers s).length x.c2, .slice x.A3 (sPreds s).length x.c3, .slice x.A4 (sClasses s).length x.c4, .slice x.A5 (sSources s).length x.c5, .slice x.A6 (sRules s).length x.c6, .slice x.A7 (sExcepts s).length x.c7, .slice x.A8 (sTotals s).length x.c8]) rfl rfl fun b1 _ => ?_
  refine RW.alloc (c := [.string ByteArray.empty, .slice none 0 0, .slice none 0 0, .slice none 0 0, .slice none 0 0, .slice none 0 0, .slice none 0 0, .slice none 0 0, .slice none 0 0]) rfl rfl fun b2 _ => ?_
  refine RW.take [1, 0] ?_
  refine Jb ?_;refine Ja ?_;refine Je ?_;refine JA ?_
  refine RW.callN Tryz.call28 rfl (fun w2 hw => copyStrs_ret (hst.kinds.mono (ro_call hw))) rfl fun v1 => ?_
  refine RW.have_ (φ := ∃ B d, v1 = .slice B (sKinds s).length d) (fun w hw => ?_) (fun ⟨D1, d1, e1⟩ => ?_)
  · obtain ⟨A, c, e⟩ := sl_out hw.sep
    exact ⟨A, c, (List.cons.inj e).1⟩
  subst e1
  refine RW.take [1, 2, 0] ?_
  refine Je ?_
  refine RW.store_blk [] rfl rfl rfl rfl rfl (by show 1 < 9; omega) ?_
  refine RW.change [] (blk b1 [.string s.1, .slice D1 (sKinds s).length d1, .slice x.A2 (sMembers s).length x.c2, .slice x.A3 (sPreds s).length x.c3, .slice x.A4 (sClasses s).length x.c4, .slice x.A5 (sSources s).length x.c5, .slice x.A6 (sRules s).length x.c6, .slice x.A7 (sExcepts s).length x.c7, .slice x.A8 (sTotals s).length x.c8] 31) (fun w F hp => hp) ?_
  refine Jb ?_;refine Ja ?_;refine Je ?_;refine JA ?_
  refine RW.callN Tryz.call29 rfl (fun w2 hw => copyMembers_ret (hst.members.mono (ro_call hw))) rfl fun v2 => ?_
  refine RW.have_ (φ := ∃ B d, v2 = .slice B (sMembers s).length d) (fun w hw => ?_) (fun ⟨D2, d2, e2⟩ => ?_)
  · obtain ⟨A, c, e⟩ := sl_out hw.sep
    exact ⟨A, c, (List.cons.inj e).1⟩
  subst e2
  refine RW.take [1, 2, 3, 0] ?_
  refine Je ?_
  refine RW.store_blk [] rfl rfl rfl rfl rfl (by show 2 < 9; omega) ?_
  refine RW.change [] (blk b1 [.string s.1, .slice D1 (sKinds s).length d1, .slice D2 (sMembers s).length d2, .slice x.A3 (sPreds s).length x.c3, .slice x.A4 (sClasses s).length x.c4, .slice x.A5 (sSources s).length x.c5, .slice x.A6 (sRules s).length x.c6, .slice x.A7 (sExcepts s).length x.c7, .slice x.A8 (sTotals s).length x.c8] 31) (fun w F hp => hp) ?_
  refine Jb ?_;refine Ja ?_;refine Je ?_;refine JA ?_
  refine RW.callN Tryz.call30 rfl (fun w2 hw => copyPreds_ret (hst.preds.mono (ro_call hw))) rfl fun v3 => ?_
  refine RW.have_ (φ := ∃ B d, v3 = .slice B (sPreds s).length d) (fun w hw => ?_) (fun ⟨D3, d3, e3⟩ => ?_)
  · obtain ⟨A, c, e⟩ := sl_out hw.sep
    exact ⟨A, c, (List.cons.inj e).1⟩
  subst e3
  refine RW.take [1, 2, 3, 4, 0] ?_
  refine Je ?_
  refine RW.store_blk [] rfl rfl rfl rfl rfl (by show 3 < 9; omega) ?_
  refine RW.change [] (blk b1 [.string s.1, .slice D1 (sKinds s).length d1, .slice D2 (sMembers s).length d2, .slice D3 (sPreds s).length d3, .slice x.A4 (sClasses s).length x.c4, .slice x.A5 (sSources s).length x.c5, .slice x.A6 (sRules s).length x.c6, .slice x.A7 (sExcepts s).length x.c7, .slice x.A8 (sTotals s).length x.c8] 31) (fun w F hp => hp) ?_
  refine Jb ?_;refine Ja ?_;refine Je ?_;refine JA ?_
  refine RW.callN Tryz.call31 rfl (fun w2 hw => copyLists_ret (hst.classes.mono (ro_call hw))) rfl fun v4 => ?_
  refine RW.have_ (φ := ∃ B d, v4 = .slice B (sClasses s).length d) (fun w hw => ?_) (fun ⟨D4, d4, e4⟩ => ?_)
  · obtain ⟨A, c, e⟩ := sl_out hw.sep
    exact ⟨A, c, (List.cons.inj e).1⟩
  subst e4
  refine RW.take [1, 2, 3, 4, 5, 0] ?_
  refine Je ?_
  refine RW.store_blk [] rfl rfl rfl rfl rfl (by show 4 < 9; omega) ?_
  refine RW.change [] (blk b1 [.string s.1, .slice D1 (sKinds s).length d1, .slice D2 (sMembers s).length d2, .slice D3 (sPreds s).length d3, .slice D4 (sClasses s).length d4, .slice x.A5 (sSources s).length x.c5, .slice x.A6 (sRules s).length x.c6, .slice x.A7 (sExcepts s).length x.c7, .slice x.A8 (sTotals s).length x.c8] 31) (fun w F hp => hp) ?_
  refine Jb ?_;refine Ja ?_;refine Je ?_;refine JA ?_
  refine RW.callN Tryz.call32 rfl (fun w2 hw => copySources_ret (hst.sources.mono (ro_call hw))) rfl fun v5 => ?_
  refine RW.have_ (φ := ∃ B d, v5 = .slice B (sSources s).length d) (fun w hw => ?_) (fun ⟨D5, d5, e5⟩ => ?_)
  · obtain ⟨A, c, e⟩ := sl_out hw.sep
    exact ⟨A, c, (List.cons.inj e).1⟩
  subst e5
  refine RW.take [1, 2, 3, 4, 5, 6, 0] ?_
  refine Je ?_
  refine RW.store_blk [] rfl rfl rfl rfl rfl (by show 5 < 9; omega) ?_
  refine RW.change [] (blk b1 [.string s.1, .slice D1 (sKinds s).length d1, .slice D2 (sMembers s).length d2, .slice D3 (sPreds s).length d3, .slice D4 (sClasses s).length d4, .slice D5 (sSources s).length d5, .slice x.A6 (sRules s).length x.c6, .slice x.A7 (sExcepts s).length x.c7, .slice x.A8 (sTotals s).length x.c8] 31) (fun w F hp => hp) ?_
  refine Jb ?_;refine Ja ?_;refine Je ?_;refine JA ?_
  refine RW.callN Tryz.call33 rfl (fun w2 hw => copyRules_ret (hst.rules.mono (ro_call hw))) rfl fun v6 => ?_
  refine RW.have_ (φ := ∃ B d, v6 = .slice B (sRules s).length d) (fun w hw => ?_) (fun ⟨D6, d6, e6⟩ => ?_)
  · obtain ⟨A, c, e⟩ := sl_out hw.sep
    exact ⟨A, c, (List.cons.inj e).1⟩
  subst e6
  refine RW.take [1, 2, 3, 4, 5, 6, 7, 0] ?_
  refine Je ?_
  refine RW.store_blk [] rfl rfl rfl rfl rfl (by show 6 < 9; omega) ?_
  refine RW.change [] (blk b1 [.string s.1, .slice D1 (sKinds s).length d1, .slice D2 (sMembers s).length d2, .slice D3 (sPreds s).length d3, .slice D4 (sClasses s).length d4, .slice D5 (sSources s).length d5, .slice D6 (sRules s).length d6, .slice x.A7 (sExcepts s).length x.c7, .slice x.A8 (sTotals s).length x.c8] 31) (fun w F hp => hp) ?_
  refine Jb ?_;refine Ja ?_;refine Je ?_;refine JA ?_
  refine RW.callN Tryz.call34 rfl (fun w2 hw => copyExcepts_ret (hst.excepts.mono (ro_call hw))) rfl fun v7 => ?_
  refine RW.have_ (φ := ∃ B d, v7 = .slice B (sExcepts s).length d) (fun w hw => ?_) (fun ⟨D7, d7, e7⟩ => ?_)
  · obtain ⟨A, c, e⟩ := sl_out hw.sep
    exact ⟨A, c, (List.cons.inj e).1⟩
  subst e7
  refine RW.take [1, 2, 3, 4, 5, 6, 7, 8, 0] ?_
  refine Je ?_
  refine RW.store_blk [] rfl rfl rfl rfl rfl (by show 7 < 9; omega) ?_
  refine RW.change [] (blk b1 [.string s.1, .slice D1 (sKinds s).length d1, .slice D2 (sMembers s).length d2, .slice D3 (sPreds s).length d3, .slice D4 (sClasses s).length d4, .slice D5 (sSources s).length d5, .slice D6 (sRules s).length d6, .slice D7 (sExcepts s).length d7, .slice x.A8 (sTotals s).length x.c8] 31) (fun w F hp => hp) ?_
  refine Jb ?_;refine Ja ?_;refine Je ?_;refine JA ?_
  refine RW.callN Tryz.call35 rfl (fun w2 hw => copyTotals_ret (hst.totals.mono (ro_call hw))) rfl fun v8 => ?_
  refine RW.have_ (φ := ∃ B d, v8 = .slice B (sTotals s).length d) (fun w hw => ?_) (fun ⟨D8, d8, e8⟩ => ?_)
  · obtain ⟨A, c, e⟩ := sl_out hw.sep
    exact ⟨A, c, (List.cons.inj e).1⟩
  subst e8
  refine RW.take [1, 2, 3, 4, 5, 6, 7, 8, 9, 0] ?_
  refine Je ?_
  refine RW.store_blk [] rfl rfl rfl rfl rfl (by show 8 < 9; omega) ?_
  refine RW.change [] (blk b1 [.string s.1, .slice D1 (sKinds s).length d1, .slice D2 (sMembers s).length d2, .slice D3 (sPreds s).length d3, .slice D4 (sClasses s).length d4, .slice D5 (sSources s).length d5, .slice D6 (sRules s).length d6, .slice D7 (sExcepts s).length d7, .slice D8 (sTotals s).length d8] 31) (fun w F hp => hp) ?_
  refine Jb ?_;refine Ja ?_;refine JE ?_
  refine RW.store_whole [_] rfl rfl (vs := [.string s.1, .slice D1 (sKinds s).length d1, .slice D2 (sMembers s).length d2, .slice D3 (sPreds s).length d3, .slice D4 (sClasses s).length d4, .slice D5 (sSources s).length d5, .slice D6 (sRules s).length d6, .slice D7 (sExcepts s).length d7, .slice D8 (sTotals s).length d8]) rfl rfl rfl (by simp [Value.oneCell']) ?_
  refine Jb ?_
  refine CW.rets (rs := [.cell 2 31]) (vs := [_]) rfl Tryz.results6 rfl (ResOK.cell [_] rfl rfl rfl ResOK.nil) fun w hw => ⟨⟨D1, D2, D3, D4, D5, D6, D7, D8, d1, d2, d3, d4, d5, d6, d7, d8, 0, 0, 0, 0, 0, 0⟩, rfl, hw.take [2, 3, 4, 5, 6, 7, 8, 9]⟩
end Go.Proofs.YtkfmlekomfnleaaGreat
/- SameStrings, SameInts of one's own. Conditions: none. -/
set_option linter.unusedVariables false
set_option linter.unusedSimpArgs false
set_option maxRecDepth 10000
namespace Go.Proofs.YtkfmlekomfnleaaGreat
open Go Go.RowKit Go.MapKept

theorem stat_all {pre r : List HP} {x : RC} {s : kStat.V} {w : World} {A : Nat → Prop} (h : Sep (pre ++ allHP (statH x s) :: r) w A) : StatOn (mem w (fun b => ¬ No b)) s x := stat_on (Sep.unpack (Sep.pull h))
theorem own_str {w0 w : World} {S : Nat → Prop} {pre r : List HP} {B n c : Nat} {l : List Str} {k : Nat} (h : St w0 S (pre ++ ownHP 9 1 (.slice (some ⟨B, 0, none⟩) n c) (l.map strE) :: r) w) (hk : k < l.length) : w.cell? ⟨B, 0 + (k : Int).toNat * 1, none⟩ = some (.string l[k]) := by
  have h2 := flatten_at (sz := 1) (es := l.map strE) (fun x hx => by obtain ⟨a, _, rfl⟩ := List.mem_map.1 hx; rfl) (i := k) (x := strE l[k]) (by rw [List.getElem?_map, List.getElem?_eq_getElem hk]; rfl) (j := 0) (v := .string l[k]) rfl
  exact (own_cells h).at_ (k * 1 + 0) h2
theorem own_num {w0 w : World} {S : Nat → Prop} {pre r : List HP} {B n c : Nat} {l : List Int} {k : Nat} (h : St w0 S (pre ++ ownHP 3 1 (.slice (some ⟨B, 0, none⟩) n c) (l.map intE) :: r) w) (hk : k < l.length) : w.cell? ⟨B, 0 + (k : Int).toNat * 1, none⟩ = some (.int .i64 l[k]) := by
  have h2 := flatten_at (sz := 1) (es := l.map intE) (fun x hx => by obtain ⟨a, _, rfl⟩ := List.mem_map.1 hx; rfl) (i := k) (x := intE l[k]) (by rw [List.getElem?_map, List.getElem?_eq_getElem hk]; rfl) (j := 0) (v := .int .i64 l[k]) rfl
  exact (own_cells h).at_ (k * 1 + 0) h2
theorem own_shapeM {w0 w : World} {S : Nat → Prop} {pre r : List HP} {e : TypeId} {sz : Nat} {v : Value} {es : List (List Value)} (h : St w0 S (pre ++ ownHP e sz v es :: r) w) : ∃ A c, v = .slice A es.length c ∧ (es ≠ [] → ∃ B, A = some ⟨B, 0, none⟩) := by
  rcases own_form h with ⟨h1, h2⟩ | ⟨B, c, h1, _⟩
  · exact ⟨none, 0, by rw [h1, h2]; rfl, fun h => absurd h2 h⟩
  · exact ⟨_, c, h1, fun _ => ⟨B, rfl⟩⟩
attribute [local irreducible] RW CW
theorem sameStr_ret {A B : Option Addr} {c d : Nat} {l : List Str} {w : World} (hn : l.length ≤ 9223372036854775807) (h1 : ∀ k (hk : k < l.length), ∃ b, A = some ⟨b, 0, none⟩ ∧ w.cell? ⟨b, 0 + (k : Int).toNat * 1, none⟩ = some (.string l[k])) (h2 : ∀ k (hk : k < l.length), ∃ b, B = some ⟨b, 0, none⟩ ∧ w.cell? ⟨b, 0 + (k : Int).toNat * 1, none⟩ = some (.string l[k])) :
    Ret Tryz.prog 12 [.slice A l.length c, .slice B l.length d] w (.bool true) := by
  refine Calls.enter Tryz.func12 rfl _ rfl rfl (S := No) (H := []) trivial ?_
  refine Ja ?_;refine Jd ?_;refine Jb ?_
  refine CW.seq ?_
  refine Ja ?_;refine Jc ?_;refine Jg ?_;refine Jc ?_;refine Jg ?_;refine Jj ?_;refine Jb ?_
  refine CW.ite rfl (fun h => absurd rfl h) (fun _ => ?_)
  refine CW.skip ?_
  refine PW.code ?_
  refine CW.seq ?_
  refine Ja ?_;refine Jd ?_;refine Jb ?_
  refine CW.block ?_
  refine CW.loop (ι := { k : Nat // k ≤ l.length }) (fun k => [(0, .slice A l.length c), (1, .slice B l.length d), (5, .int .i64 k.1)]) (fun _ => []) (fun k => l.length - k.1) ⟨0, Nat.zero_le _⟩ ⟨rfl, rfl, rfl, trivial⟩ (fun h => h) ?_
  intro ⟨k, hk⟩
  dsimp only at hk ⊢
  refine CW.seq ?_
  refine Ja ?_;refine Jc ?_;refine Jc ?_;refine Jg ?_;refine Jk ?_;refine Jb ?_
  refine CW.ite rfl (fun hlt => ?_) (fun hge => ?_)
  · have hlt' : k < l.length := by simpa using hlt
    obtain ⟨B1, hA, g1⟩ := h1 k hlt'
    obtain ⟨B2, hB, g2⟩ := h2 k hlt'
    refine CW.skip ?_
    refine PW.code ?_
    refine CW.seq ?_
    refine CW.block ?_
    refine CW.seqA (by kernel_rfl) rfl ?_
    refine AW.val rfl (fun _ _ => by refine Jc ?_;exact RW.done rfl) ?_;refine AW.val rfl (fun _ _ => by refine Jc ?_;exact RW.done rfl) ?_
    (apply AW.val rfl; · intro Gx X; (first | refine RW.yes rfl ?_ | skip); refine RW.indexAddrE hA rfl rfl (by omega) hlt rfl ?_; exact RW.done rfl)
    (apply AW.val rfl; · intro Gx X; (first | refine RW.yes rfl ?_ | skip); refine RW.load_old rfl g1 (fun h => h) rfl rfl ?_; exact RW.done rfl)
    refine AW.val rfl (fun _ _ => by refine Jc ?_;exact RW.done rfl) ?_;refine AW.val rfl (fun _ _ => by refine Jc ?_;exact RW.done rfl) ?_
    (apply AW.val rfl; · intro Gx X; (first | refine RW.yes rfl ?_ | skip); refine RW.indexAddrE hB rfl rfl (by omega) hlt rfl ?_; exact RW.done rfl)
    (apply AW.val rfl; · intro Gx X; (first | refine RW.yes rfl ?_ | skip); refine RW.load_old rfl g2 (fun h => h) rfl rfl ?_; exact RW.done rfl)
    refine AW.val rfl (fun _ _ => by refine Jp ?_;exact RW.done rfl) ?_
    refine AW.stop (by kernel_rfl) (by kernel_rfl) fun bs => ?_
    refine Jb ?_
    refine CW.ite rfl (fun h => absurd rfl h) (fun _ => ?_)
    refine CW.skip ?_
    refine PW.code ?_
    refine CW.region ?_
    refine Jc ?_
    refine RW.add rfl rfl (w64 (by omega) (by omega)) rfl ?_
    refine Jd ?_
    refine RW.nil ?_
    exact PW.again ⟨k + 1, hlt'⟩ ⟨rfl, rfl, rfl, trivial⟩ (fun h => h) (by show l.length - (k + 1) < l.length - k; omega)
  refine CW.exit rfl ?_
  refine PW.code ?_
  refine Ja ?_;refine Jd ?_;refine Jb ?_
  exact CW.ret1 rfl Tryz.results12 rfl rfl fun w hw => ⟨rfl, hw.kp⟩
theorem sameS_own {w0 w : World} {S : Nat → Prop} {v1 v2 : Value} {l : List Str} {pre pre2 r r2 : List HP} (h1 : St w0 S (pre ++ ownHP 9 1 v1 (l.map strE) :: r) w) (h2 : St w0 S (pre2 ++ ownHP 9 1 v2 (l.map strE) :: r2) w) : Ret Tryz.prog 12 [v1, v2] w (.bool true) := by
  have hb : l.length ≤ 9223372036854775807 := by
    rcases own_form h1 with ⟨_, h⟩ | ⟨_, c, _, h3, h4, _⟩
    · have : l = [] := by simpa using h
      rw [this]; decide
    · rw [List.length_map] at h3
      unfold maxN at h4
      omega
  obtain ⟨A, c, e1, f1⟩ := own_shapeM h1
  obtain ⟨B, d, e2, f2⟩ := own_shapeM h2
  rw [List.length_map] at e1 e2
  subst e1
  subst e2
  have ne : ∀ k, k < l.length → l.map strE ≠ [] := fun k hk h => by
    have : l = [] := by simpa using h
    rw [this] at hk
    simp at hk
  refine sameStr_ret hb (fun k hk => ?_) (fun k hk => ?_)
  · obtain ⟨b, rfl⟩ := f1 (ne k hk)
    exact ⟨b, rfl, own_str h1 hk⟩
  · obtain ⟨b, rfl⟩ := f2 (ne k hk)
    exact ⟨b, rfl, own_str h2 hk⟩
theorem sameInt_ret {A B : Option Addr} {c d : Nat} {l : List Int} {w : World} (hn : l.length ≤ 9223372036854775807) (h1 : ∀ k (hk : k < l.length), ∃ b, A = some ⟨b, 0, none⟩ ∧ w.cell? ⟨b, 0 + (k : Int).toNat * 1, none⟩ = some (.int .i64 l[k])) (h2 : ∀ k (hk : k < l.length), ∃ b, B = some ⟨b, 0, none⟩ ∧ w.cell? ⟨b, 0 + (k : Int).toNat * 1, none⟩ = some (.int .i64 l[k])) :
    Ret Tryz.prog 13 [.slice A l.length c, .slice B l.length d] w (.bool true) := by
  refine Calls.enter Tryz.func13 rfl _ rfl rfl (S := No) (H := []) trivial ?_
  refine Ja ?_;refine Jd ?_;refine Jb ?_
  refine CW.seq ?_
  refine Ja ?_;refine Jc ?_;refine Jg ?_;refine Jc ?_;refine Jg ?_;refine Jj ?_;refine Jb ?_
  refine CW.ite rfl (fun h => absurd rfl h) (fun _ => ?_)
  refine CW.skip ?_
  refine PW.code ?_
  refine CW.seq ?_
  refine Ja ?_;refine Jd ?_;refine Jb ?_
  refine CW.block ?_
  refine CW.loop (ι := { k : Nat // k ≤ l.length }) (fun k => [(0, .slice A l.length c), (1, .slice B l.length d), (5, .int .i64 k.1)]) (fun _ => []) (fun k => l.length - k.1) ⟨0, Nat.zero_le _⟩ ⟨rfl, rfl, rfl, trivial⟩ (fun h => h) ?_
  intro ⟨k, hk⟩
  dsimp only at hk ⊢
  refine CW.seq ?_
  refine Ja ?_;refine Jc ?_;refine Jc ?_;refine Jg ?_;refine Jk ?_;refine Jb ?_
  refine CW.ite rfl (fun hlt => ?_) (fun hge => ?_)
  · have hlt' : k < l.length := by simpa using hlt
    obtain ⟨B1, hA, g1⟩ := h1 k hlt'
    obtain ⟨B2, hB, g2⟩ := h2 k hlt'
    refine CW.skip ?_
    refine PW.code ?_
    refine CW.seq ?_
    refine CW.block ?_
    refine CW.seqA (by kernel_rfl) rfl ?_
    refine AW.val rfl (fun _ _ => by refine Jc ?_;exact RW.done rfl) ?_;refine AW.val rfl (fun _ _ => by refine Jc ?_;exact RW.done rfl) ?_
    (apply AW.val rfl; · intro Gx X; (first | refine RW.yes rfl ?_ | skip); refine RW.indexAddrE hA rfl rfl (by omega) hlt rfl ?_; exact RW.done rfl)
    (apply AW.val rfl; · intro Gx X; (first | refine RW.yes rfl ?_ | skip); refine RW.load_old rfl g1 (fun h => h) rfl rfl ?_; exact RW.done rfl)
    refine AW.val rfl (fun _ _ => by refine Jc ?_;exact RW.done rfl) ?_;refine AW.val rfl (fun _ _ => by refine Jc ?_;exact RW.done rfl) ?_
    (apply AW.val rfl; · intro Gx X; (first | refine RW.yes rfl ?_ | skip); refine RW.indexAddrE hB rfl rfl (by omega) hlt rfl ?_; exact RW.done rfl)
    (apply AW.val rfl; · intro Gx X; (first | refine RW.yes rfl ?_ | skip); refine RW.load_old rfl g2 (fun h => h) rfl rfl ?_; exact RW.done rfl)
    refine AW.val rfl (fun _ _ => by refine Jj ?_;exact RW.done rfl) ?_
    refine AW.stop (by kernel_rfl) (by kernel_rfl) fun bs => ?_
    refine Jb ?_
    refine CW.ite rfl (fun h => absurd rfl h) (fun _ => ?_)
    refine CW.skip ?_
    refine PW.code ?_
    refine CW.region ?_
    refine Jc ?_
    refine RW.add rfl rfl (w64 (by omega) (by omega)) rfl ?_
    refine Jd ?_
    refine RW.nil ?_
    exact PW.again ⟨k + 1, hlt'⟩ ⟨rfl, rfl, rfl, trivial⟩ (fun h => h) (by show l.length - (k + 1) < l.length - k; omega)
  refine CW.exit rfl ?_
  refine PW.code ?_
  refine Ja ?_;refine Jd ?_;refine Jb ?_
  exact CW.ret1 rfl Tryz.results13 rfl rfl fun w hw => ⟨rfl, hw.kp⟩
theorem sameI_own {w0 w : World} {S : Nat → Prop} {v1 v2 : Value} {l : List Int} {pre pre2 r r2 : List HP} (h1 : St w0 S (pre ++ ownHP 3 1 v1 (l.map intE) :: r) w) (h2 : St w0 S (pre2 ++ ownHP 3 1 v2 (l.map intE) :: r2) w) : Ret Tryz.prog 13 [v1, v2] w (.bool true) := by
  have hb : l.length ≤ 9223372036854775807 := by
    rcases own_form h1 with ⟨_, h⟩ | ⟨_, c, _, h3, h4, _⟩
    · have : l = [] := by simpa using h
      rw [this]; decide
    · rw [List.length_map] at h3
      unfold maxN at h4
      omega
  obtain ⟨A, c, e1, f1⟩ := own_shapeM h1
  obtain ⟨B, d, e2, f2⟩ := own_shapeM h2
  rw [List.length_map] at e1 e2
  subst e1
  subst e2
  have ne : ∀ k, k < l.length → l.map intE ≠ [] := fun k hk h => by
    have : l = [] := by simpa using h
    rw [this] at hk
    simp at hk
  refine sameInt_ret hb (fun k hk => ?_) (fun k hk => ?_)
  · obtain ⟨b, rfl⟩ := f1 (ne k hk)
    exact ⟨b, rfl, own_num h1 hk⟩
  · obtain ⟨b, rfl⟩ := f2 (ne k hk)
    exact ⟨b, rfl, own_num h2 hk⟩
end Go.Proofs.YtkfmlekomfnleaaGreat
/- The plain law of the stage's theorem: in what is taken each argument has its place's kind. Conditions: none. -/
set_option linter.unusedVariables false
set_option linter.unusedSimpArgs false
set_option maxRecDepth 10000
namespace Go.Proofs.YtkfmlekomfnleaaGreat
open Go Go.RowKit

theorem name_not_var {a : Str} (h : isNameD a = true) : isVarD a = false := by
  unfold isNameD at h
  unfold isVarD
  simp only [Bool.and_eq_true] at h
  have h1 := h.1.1
  unfold headB at h1 ⊢
  cases ha : a[0]? with
  | none => rw [ha] at h1; cases h1
  | some c =>
    rw [ha] at h1
    simp only [smallD, bigD, Bool.and_eq_true, decide_eq_true_eq] at h1 ⊢
    have : (decide (65 ≤ c.toNat) && decide (c.toNat ≤ 90)) = false := by
      rw [Bool.and_eq_false_iff, decide_eq_false_iff_not, decide_eq_false_iff_not]
      omega
    rw [this]
    rfl
theorem name_ne {a : Str} (h : isNameD a = true) : a ≠ ByteArray.empty := by
  rintro rfl
  cases h
/-- A rule's variables, as they should be. -/
structure ScOK (s : kStat.V) (c : Sc) : Prop where
  var : ∀ a ∈ c.names, isVarD a = true
  has : ∀ a, a ∈ c.names ↔ (getM c.km a).isSome = true
  kind : ∀ a k, getM c.km a = some k → k = ByteArray.empty ∨ k ∈ sKinds s
structure Ext (c c' : Sc) : Prop where
  keep : ∀ a k, getM c.km a = some k → k ≠ ByteArray.empty → getM c'.km a = some k
theorem Ext.refl (c : Sc) : Ext c c := ⟨fun _ _ h _ => h⟩
theorem Ext.trans {c c' c'' : Sc} (h : Ext c c') (k : Ext c' c'') : Ext c c'' := ⟨fun a x h1 h2 => k.keep a x (h.keep a x h1 h2) h2⟩
/-- What a step leaves. -/
structure Good (s : kStat.V) (c c' : Sc) : Prop where
  ok : ScOK s c'
  ext : Ext c c'
theorem Good.refl {s : kStat.V} {c : Sc} (h : ScOK s c) : Good s c c := ⟨h, Ext.refl c⟩
theorem Good.trans {s : kStat.V} {c c' c'' : Sc} (h : Good s c c') (k : Good s c' c'') : Good s c c'' := ⟨k.ok, h.ext.trans k.ext⟩
section
variable {s : kStat.V}
theorem see_good {c : Sc} {a : Str} (h : ScOK s c) (ha : isVarD a = true) : Good s c (seeD c a) ∧ ∃ k, getM (seeD c a).km a = some k := by
  unfold seeD
  cases hg : getM c.km a with
  | some k => exact ⟨Good.refl h, k, hg⟩
  | none =>
    refine ⟨⟨⟨fun b hb => ?_, fun b => ?_, fun b k hk => ?_⟩, ⟨fun b k hk hne => ?_⟩⟩, ByteArray.empty, by show getM (putM _ _ _) _ = _; rw [getM_put, if_pos rfl]⟩
    · rcases List.mem_append.1 hb with hb | hb
      · exact h.var b hb
      · rw [List.mem_singleton.1 hb]; exact ha
    · show b ∈ c.names ++ [a] ↔ (getM (putM c.km a ByteArray.empty) b).isSome = true
      rw [getM_put, List.mem_append, List.mem_singleton, h.has b]
      by_cases hab : a = b
      · rw [if_pos hab]; exact ⟨fun _ => rfl, fun _ => .inr hab.symm⟩
      · rw [if_neg hab]; exact ⟨fun hh => hh.elim id (fun e => absurd e.symm hab), .inl⟩
    · change getM (putM c.km a ByteArray.empty) b = some k at hk
      rw [getM_put] at hk
      by_cases hab : a = b
      · rw [if_pos hab] at hk; exact .inl (Option.some.inj hk).symm
      · rw [if_neg hab] at hk; exact h.kind b k hk
    · show getM (putM c.km a ByteArray.empty) b = some k
      rw [getM_put, if_neg (fun e => by subst e; rw [hg] at hk; cases hk)]
      exact hk
/-- An argument at a place of a kind. -/
def ArgOK (s : kStat.V) (c : Sc) (a k : Str) : Prop := (isVarD a = true ∧ getM c.km a = some k) ∨ (isVarD a = false ∧ isNameD a = true ∧ (mGet s a).isSome = true ∧ (memAt s a).2 = k)
theorem ArgOK.ext {c c' : Sc} {a k : Str} (h : ArgOK s c a k) (e : Ext c c') (hk : k ≠ ByteArray.empty) : ArgOK s c' a k := h.imp (fun h => ⟨h.1, e.keep a k h.2 hk⟩) id
theorem arg_good {c c' : Sc} {a k : Str} {at_ : Int} {fr : Bool} (hc : ScOK s c) (hk : k ∈ sKinds s) (hne : k ≠ ByteArray.empty) (h : argD s at_ fr c a k = .ok c') : Good s c c' ∧ ArgOK s c' a k := by
  unfold argD at h
  split at h
  · rename_i hv
    obtain ⟨_, _, h⟩ := bnd_inv h
    obtain ⟨_, h2, h⟩ := bnd_inv h
    cases h
    obtain ⟨g, k0, hk0⟩ := see_good hc hv
    have h3 := want_inv h2
    rw [hk0] at h3
    simp only [Option.getD_some, Bool.or_eq_true, decide_eq_true_eq] at h3
    refine ⟨g.trans ⟨⟨g.ok.var, fun b => ?_, fun b x hx => ?_⟩, ⟨fun b x hx hx2 => ?_⟩⟩, .inl ⟨hv, by show getM (putM _ _ _) _ = _; rw [getM_put, if_pos rfl]⟩⟩
    · show b ∈ (seeD c a).names ↔ (getM (putM (seeD c a).km a k) b).isSome = true
      rw [getM_put, g.ok.has b]
      by_cases hab : a = b
      · subst hab; rw [if_pos rfl, hk0]; exact ⟨fun _ => rfl, fun _ => rfl⟩
      · rw [if_neg hab]
    · change getM (putM (seeD c a).km a k) b = some x at hx
      rw [getM_put] at hx
      by_cases hab : a = b
      · rw [if_pos hab] at hx; exact .inr ((Option.some.inj hx) ▸ hk)
      · rw [if_neg hab] at hx; exact g.ok.kind b x hx
    · show getM (putM (seeD c a).km a k) b = some x
      rw [getM_put]
      by_cases hab : a = b
      · subst hab
        rw [if_pos rfl]
        rw [hk0] at hx
        obtain rfl := Option.some.inj hx
        rcases h3 with h3 | h3
        · exact absurd h3 hx2
        · rw [h3]
      · rw [if_neg hab]; exact hx
  · rename_i hv
    obtain ⟨_, h1, h⟩ := bnd_inv h
    obtain ⟨_, h2, h⟩ := bnd_inv h
    obtain ⟨_, h3, h⟩ := bnd_inv h
    cases h
    exact ⟨Good.refl hc, .inr ⟨by simpa using hv, want_inv h1, want_inv h2, of_decide_eq_true (want_inv h3)⟩⟩
/-- The predicates' kinds are kinds. -/
def KindsOK (s : kStat.V) : Prop := ∀ p ∈ sPreds s, ∀ k ∈ p.2.2.1, k ∈ sKinds s ∧ k ≠ ByteArray.empty
theorem args_good {c c' : Sc} {l : List Str} {p : kPredT.V} {at_ : Int} {fr : Bool} (hc : ScOK s c) (hp : ∀ k ∈ p.2.2.1, k ∈ sKinds s ∧ k ≠ ByteArray.empty) (h : argsD s at_ fr c l p = .ok c') : Good s c c' ∧ l.length = p.2.2.1.length ∧ ∀ q ∈ l.zip p.2.2.1, ArgOK s c' q.1 q.2 := by
  obtain ⟨_, h1, h⟩ := bnd_inv h
  obtain ⟨c1, h2, h⟩ := bnd_inv h
  cases h
  have hl := of_decide_eq_true (want_inv h1)
  have key : ∀ (l : List (Str × Str)) (c c' : Sc), ScOK s c → (∀ q ∈ l, q.2 ∈ sKinds s ∧ q.2 ≠ ByteArray.empty) → foldX (fun x (a : Str × Str) => argD s at_ fr x a.1 a.2) c l = .ok c' → Good s c c' ∧ ∀ q ∈ l, ArgOK s c' q.1 q.2 := by
    intro l
    induction l with
    | nil => intro c c' hc _ h; cases h; exact ⟨Good.refl hc, fun q hq => by cases hq⟩
    | cons q l ih =>
      intro c c' hc hq h
      obtain ⟨c1, h1, h2⟩ := bnd_inv h
      obtain ⟨k1, k2⟩ := hq q (by simp)
      obtain ⟨g1, a1⟩ := arg_good hc k1 k2 h1
      obtain ⟨g2, a2⟩ := ih c1 c' g1.ok (fun q hq' => hq q (by simp [hq'])) h2
      refine ⟨g1.trans g2, fun q' hq' => ?_⟩
      rcases List.mem_cons.1 hq' with rfl | hq'
      · exact a1.ext g2.ext k2
      · exact a2 q' hq'
  obtain ⟨g, a⟩ := key _ _ _ hc (fun q hq => hp q.2 (List.of_mem_zip hq).2) h2
  exact ⟨g, by omega, a⟩
/-- A literal whose arguments fit. -/
structure LitOK (s : kStat.V) (c : Sc) (l : kLitT.V) : Prop where
  pred : (pGet s l.2.1).isSome = true
  len : l.2.2.1.length = (predAt s l.2.1).2.2.1.length
  args : ∀ q ∈ l.2.2.1.zip (predAt s l.2.1).2.2.1, ArgOK s c q.1 q.2
theorem predAt_mem {n : Str} (h : (pGet s n).isSome = true) : predAt s n ∈ sPreds s := List.mem_of_getElem? (predAt_get n (pSome h))
theorem LitOK.ext (hK : KindsOK s) {c c' : Sc} {l : kLitT.V} (h : LitOK s c l) (e : Ext c c') : LitOK s c' l := ⟨h.pred, h.len, fun q hq => (h.args q hq).ext e (hK _ (predAt_mem h.pred) _ (List.of_mem_zip hq).2).2⟩
theorem literal_good (hK : KindsOK s) {c c' : Sc} {l : kLitT.V} {at_ : Int} {fr : Bool} (hc : ScOK s c) (h : literalD s at_ fr c l = .ok c') : Good s c c' ∧ LitOK s c' l := by
  obtain ⟨_, h1, h⟩ := bnd_inv h
  obtain ⟨_, _, h⟩ := bnd_inv h
  obtain ⟨c1, h2, h⟩ := bnd_inv h
  obtain ⟨_, _, h⟩ := bnd_inv h
  obtain ⟨_, _, h⟩ := bnd_inv h
  cases h
  obtain ⟨g, hl, ha⟩ := args_good hc (hK _ (predAt_mem (want_inv h1))) h2
  exact ⟨g, want_inv h1, hl, ha⟩
theorem term_good (hK : KindsOK s) {c c' : Sc} {t : kTerm.V} {at_ : Int} {fr : Bool} (hc : ScOK s c) (h : termD s at_ fr c t = .ok c') : Good s c c' := by
  unfold termD at h
  split at h
  · obtain ⟨_, _, h⟩ := bnd_inv h
    obtain ⟨_, _, h⟩ := bnd_inv h
    cases h
    exact Good.refl hc
  · obtain ⟨_, h1, h⟩ := bnd_inv h
    obtain ⟨_, _, h⟩ := bnd_inv h
    obtain ⟨_, _, h⟩ := bnd_inv h
    obtain ⟨c1, h2, h⟩ := bnd_inv h
    cases h
    exact (args_good hc (hK _ (predAt_mem (want_inv h1))) h2).1
theorem fold_good {α : Type} {f : Sc → α → Ex Sc} (hf : ∀ c x c', ScOK s c → f c x = .ok c' → Good s c c') : ∀ {l : List α} {c c' : Sc}, ScOK s c → foldX f c l = .ok c' → Good s c c' := by
  intro l
  induction l with
  | nil => intro c c' hc h; cases h; exact Good.refl hc
  | cons x l ih =>
    intro c c' hc h
    obtain ⟨c1, h1, h2⟩ := bnd_inv h
    have g1 := hf _ _ _ hc h1
    exact g1.trans (ih g1.ok h2)
theorem guard_good (hK : KindsOK s) {c c' : Sc} {g : kGuard.V} {at_ : Int} {fr : Bool} (hc : ScOK s c) (h : guardD s at_ fr c g = .ok c') : Good s c c' := by
  obtain ⟨_, _, h⟩ := bnd_inv h
  obtain ⟨c1, h1, h⟩ := bnd_inv h
  cases h
  exact fold_good (fun c l c' hc h => fold_good (fun c t c' hc h => term_good hK hc h) hc h) hc h1
theorem unlike_good {c c' : Sc} {a : Str} {at_ : Int} (hc : ScOK s c) (h : unlikeD s at_ c a = .ok c') : Good s c c' := by
  unfold unlikeD at h
  split at h
  · rename_i hv
    cases h
    exact (see_good hc hv).1
  · obtain ⟨_, _, h⟩ := bnd_inv h
    obtain ⟨_, _, h⟩ := bnd_inv h
    cases h
    exact Good.refl hc
theorem premise_good (hK : KindsOK s) {c c' : Sc} {p : kPrem.V} {at_ : Int} {fr : Bool} (hc : ScOK s c) (h : premiseD s at_ fr c p = .ok c') : Good s c c' ∧ (p.1 = 1 → LitOK s c' p.2.1) := by
  unfold premiseD at h
  split at h
  · rename_i h1
    obtain ⟨c1, h2, h⟩ := bnd_inv h
    cases h
    obtain ⟨g, hl⟩ := literal_good hK hc h2
    exact ⟨g, fun _ => hl⟩
  · rename_i h1
    refine ⟨?_, fun e => absurd e h1⟩
    split at h
    · obtain ⟨c1, h2, h⟩ := bnd_inv h
      cases h
      exact guard_good hK hc h2
    · split at h
      · obtain ⟨c1, h2, h⟩ := bnd_inv h
        obtain ⟨c2, h3, h⟩ := bnd_inv h
        cases h
        have g1 := unlike_good hc h2
        exact g1.trans (unlike_good g1.ok h3)
      · obtain ⟨_, h2, _⟩ := bnd_inv h
        cases h2
/-- A rule that is taken. -/
structure RuleOK (s : kStat.V) (x : kRule.V) (c : Sc) : Prop where
  ok : ScOK s c
  head : LitOK s c x.2.2.2.2.2.2
  body : ∀ p ∈ x.2.2.2.2.1, p.1 = 1 → LitOK s c p.2.1
  bound : ∀ a ∈ c.names, ∃ k, getM c.km a = some k ∧ k ∈ sKinds s
theorem rule_good (hK : KindsOK s) {c : Sc} {x : kRule.V} {at_ : Int} (h : ruleD s at_ x = .ok c) : RuleOK s x c := by
  obtain ⟨c1, h1, h⟩ := bnd_inv h
  obtain ⟨c2, h2, h⟩ := bnd_inv h
  obtain ⟨_, h3, h⟩ := bnd_inv h
  cases h
  have key : ∀ (l : List kPrem.V) (c c' : Sc), ScOK s c → foldX (premiseD s at_ false) c l = .ok c' → Good s c c' ∧ ∀ p ∈ l, p.1 = 1 → LitOK s c' p.2.1 := by
    intro l
    induction l with
    | nil => intro c c' hc h; cases h; exact ⟨Good.refl hc, fun p hp => by cases hp⟩
    | cons p l ih =>
      intro c c' hc h
      obtain ⟨c1, h1, h2⟩ := bnd_inv h
      obtain ⟨g1, a1⟩ := premise_good hK hc h1
      obtain ⟨g2, a2⟩ := ih c1 c' g1.ok h2
      refine ⟨g1.trans g2, fun p' hp' e => ?_⟩
      rcases List.mem_cons.1 hp' with rfl | hp'
      · exact (a1 e).ext hK g2.ext
      · exact a2 p' hp' e
  have h0 : ScOK s ⟨[], []⟩ := ⟨(fun a ha => by cases ha), (fun a => ⟨(fun h => by cases h), (fun h => by cases h)⟩), (fun a k h => by cases h)⟩
  obtain ⟨g1, hb⟩ := key _ _ _ h0 h1
  obtain ⟨g2, hh⟩ := literal_good hK g1.ok h2
  refine ⟨g2.ok, hh, fun p hp e => (hb p hp e).ext hK g2.ext, fun a ha => ?_⟩
  have hfree : ∀ (l : List Str), allX (freeD at_ c.km) l = .ok () → ∀ a ∈ l, (getM c.km a).getD ByteArray.empty ≠ ByteArray.empty := by
    intro l
    induction l with
    | nil => intro _ a ha; cases ha
    | cons b l ih =>
      intro h a ha
      obtain ⟨_, k1, k2⟩ := bnd_inv h
      rcases List.mem_cons.1 ha with rfl | ha
      · obtain ⟨_, k3, _⟩ := bnd_inv k1
        exact of_decide_eq_true (want_inv k3)
      · exact ih k2 a ha
  have h4 := hfree _ h3 a ha
  obtain ⟨k, hk⟩ := Option.isSome_iff_exists.1 ((g2.ok.has a).1 ha)
  rw [hk] at h4
  exact ⟨k, hk, (g2.ok.kind a k hk).resolve_left h4⟩
end
/-! ### what Check says of the items -/
theorem fst?_isSome {l : List Str} {k : Str} (h : (fst? l k).isSome = true) : k ∈ l := by
  obtain ⟨i, hi⟩ := Option.isSome_iff_exists.1 h
  exact List.mem_of_getElem? (fst?_some hi).2.2
theorem fold_all {α : Type} {f : α → Ex Unit} {φ : α → Prop} (hf : ∀ x, f x = .ok () → φ x) : ∀ {l : List α}, allX f l = .ok () → ∀ x ∈ l, φ x := by
  intro l
  induction l with
  | nil => intro _ x hx; cases hx
  | cons y l ih =>
    intro h x hx
    obtain ⟨_, h1, h2⟩ := bnd_inv h
    rcases List.mem_cons.1 hx with rfl | hx
    · exact hf _ h1
    · exact ih h2 x hx
/-- What is known of a statute that is taken. -/
structure Taken (s : kStat.V) : Prop where
  kinds : KindsOK s
  members : ∀ m ∈ sMembers s, isNameD m.1 = true ∧ m.2 ∈ sKinds s
  rules : ∀ x ∈ sRules s, x.2.2.2.2.1.length ≤ 16 ∧ ∃ c, ruleD s 0 x = .ok c
  four : fourK s
  counts : countsD s = true
theorem taken {s : kStat.V} {n : Int} (h : itemsD s 0 = .ok n) : Taken s := by
  obtain ⟨hK, hr⟩ := items_rules h
  obtain ⟨_, h0, h⟩ := bnd_inv h
  obtain ⟨z1, h1, h⟩ := bnd_inv h
  obtain ⟨z2, h2, h⟩ := bnd_inv h
  obtain ⟨z3, h3, h⟩ := bnd_inv h
  have hkn : ∀ k ∈ sKinds s, isNameD k = true := eachD_all (fun a i y x y' h => by
    obtain ⟨_, h4, _⟩ := bnd_inv h
    obtain ⟨_, h5, _⟩ := bnd_inv h4
    exact want_inv h5) h1
  have hin : ∀ (a : Int) (k : Str), kindD s a k = .ok () → k ∈ sKinds s := fun a k h => by
    obtain ⟨_, h4, _⟩ := bnd_inv h
    have h5 := want_inv h4
    rw [indexD_get] at h5
    exact fst?_isSome h5
  refine ⟨eachD_all (fun a i y p y' h => ?_) h3, eachD_all (fun a i y m y' h => ?_) h2, hr, hK, want_inv h0⟩
  · obtain ⟨_, _, h⟩ := bnd_inv h
    obtain ⟨_, _, h⟩ := bnd_inv h
    obtain ⟨_, _, h⟩ := bnd_inv h
    obtain ⟨_, h4, _⟩ := bnd_inv h
    exact fun k hk => ⟨fold_all (hin a) h4 k hk, name_ne (hkn k (fold_all (hin a) h4 k hk))⟩
  · obtain ⟨_, h4, h⟩ := bnd_inv h
    obtain ⟨_, h5, _⟩ := bnd_inv h
    obtain ⟨_, h6, _⟩ := bnd_inv h4
    exact ⟨want_inv h6, hin a _ h5⟩
/-! ### what fits asks -/
abbrev kNum (s : kStat.V) (k : Str) : Int := (getM (indexD (sKinds s)) k).getD 0
/-- The last number at that name. -/
def gotD (a : Str) : List Str → List Int → Int → Int
  | n :: ns, i :: is, g => gotD a ns is (if n = a then i else g)
  | _, _, g => g
theorem gotD_eq {a : Str} {f : Str → Int} : ∀ {ns : List Str} {g : Int}, (a ∈ ns ∨ g = f a) → gotD a ns (ns.map f) g = f a := by
  intro ns
  induction ns with
  | nil => intro g h; exact h.resolve_left (by simp)
  | cons n ns ih =>
    intro g h
    rw [List.map_cons, gotD]
    by_cases hn : n = a
    · rw [if_pos hn]; exact ih (.inr (by rw [hn]))
    · rw [if_neg hn]
      refine ih ?_
      rcases h with h | h
      · rcases List.mem_cons.1 h with h | h
        · exact absurd h.symm hn
        · exact .inl h
      · exact .inr h
/-- What fits comes to at an argument. -/
def argNum (s : kStat.V) (names : List Str) (kinds : List Int) (a : Str) : Int := if (mGet s a).isSome then kNum s (memAt s a).2 else gotD a names kinds (-1)
theorem mGet_name {s : kStat.V} (hT : Taken s) {a : Str} (h : (mGet s a).isSome = true) : isNameD a = true := by
  obtain ⟨i, hi⟩ := Option.isSome_iff_exists.1 h
  obtain ⟨_, _, h3⟩ := mGet_lt hi
  cases hm : (sMembers s)[i.toNat]? with
  | none => rw [hm] at h3; cases h3
  | some m =>
    rw [hm] at h3
    have := (hT.members m (List.mem_of_getElem? hm)).1
    rw [Option.map_some, Option.some.injEq] at h3
    rw [← h3]; exact this
theorem arg_fits {s : kStat.V} (hT : Taken s) {c : Sc} {x : kRule.V} (hc : RuleOK s x c) {a k : Str} (h : ArgOK s c a k) : argNum s c.names (c.names.map (kindNo s c)) a = kNum s k := by
  unfold argNum
  rcases h with ⟨h1, h2⟩ | ⟨h1, h2, h3, h4⟩
  · have hno : ¬ (mGet s a).isSome = true := fun h => by rw [name_not_var (mGet_name hT h)] at h1; cases h1
    rw [if_neg hno, gotD_eq (.inl ((hc.ok.has a).2 (by rw [h2]; rfl)))]
    unfold kindNo
    rw [h2]
    rfl
  · rw [if_pos h3, h4]
theorem kNum_lt {s : kStat.V} {k : Str} (h : k ∈ sKinds s) : 0 ≤ kNum s k ∧ kNum s k < (sKinds s).length := by
  unfold kNum
  obtain ⟨i, hi⟩ := fst?_mem h
  rw [indexD_get, hi]
  obtain ⟨h1, h2, _⟩ := fst?_some hi
  exact ⟨h1, h2⟩
/-! ### the members of a kind -/
def ofGo (s : kStat.V) (k : Int) : List kMember.V → Int → List Int
  | [], _ => []
  | m :: r, i => if getM (indexD (sKinds s)) m.2 = some k then i :: ofGo s k r (i + 1) else ofGo s k r (i + 1)
def ofD (s : kStat.V) (k : Int) : List Int := ofGo s k (sMembers s) 0
theorem ofGo_len (s : kStat.V) (k : Int) : ∀ (l : List kMember.V) (i : Int), (ofGo s k l i).length ≤ l.length := by
  intro l
  induction l with
  | nil => intro i; exact Nat.le_refl _
  | cons m l ih =>
    intro i
    rw [ofGo]
    split
    · simp only [List.length_cons]; have := ih (i + 1); omega
    · simp only [List.length_cons]; have := ih (i + 1); omega
def sumTo (f : Nat → Nat) : Nat → Nat
  | 0 => 0
  | n + 1 => sumTo f n + f n
theorem sumTo_add (f g : Nat → Nat) : ∀ n, sumTo (fun k => f k + g k) n = sumTo f n + sumTo g n
  | 0 => rfl
  | n + 1 => by rw [sumTo, sumTo, sumTo, sumTo_add f g n]; omega
theorem sumTo_congr {f g : Nat → Nat} (h : ∀ k, f k = g k) (n : Nat) : sumTo f n = sumTo g n := by rw [show f = g from funext h]
theorem sumTo_one (j : Int) (h0 : 0 ≤ j) : ∀ n : Nat, sumTo (fun k => if (k : Int) = j then 1 else 0) n = if j < n then 1 else 0
  | 0 => by rw [if_neg (by omega)]; rfl
  | n + 1 => by
    rw [sumTo, sumTo_one j h0 n]
    by_cases h : (n : Int) = j
    · rw [if_neg (by omega), if_pos h, if_pos (by omega)]
    · rw [if_neg h]
      by_cases h2 : j < n
      · rw [if_pos h2, if_pos (by omega)]
      · rw [if_neg h2, if_neg (by omega)]
theorem ofGo_sum (s : kStat.V) : ∀ (l : List kMember.V) (i : Int), (∀ m ∈ l, m.2 ∈ sKinds s) → sumTo (fun k => (ofGo s (k : Int) l i).length) (sKinds s).length = l.length := by
  intro l
  induction l with
  | nil =>
    intro i _
    have : ∀ n, sumTo (fun k => (ofGo s (k : Int) [] i).length) n = 0 := by
      intro n
      induction n with
      | zero => rfl
      | succ n ih => rw [sumTo, ih]; rfl
    exact this _
  | cons m l ih =>
    intro i h
    obtain ⟨j, hj⟩ := fst?_mem (h m (by simp))
    obtain ⟨h1, h2, _⟩ := fst?_some hj
    have hs : ∀ k : Nat, (ofGo s (k : Int) (m :: l) i).length = (ofGo s (k : Int) l (i + 1)).length + (if (k : Int) = j then 1 else 0) := fun k => by
      rw [ofGo, indexD_get, hj]
      by_cases hk : (k : Int) = j
      · rw [if_pos (by rw [hk]), if_pos hk]; rfl
      · rw [if_neg (fun e => hk (Option.some.inj e).symm), if_neg hk]; rfl
    rw [sumTo_congr hs, sumTo_add, ih (i + 1) (fun m hm => h m (by simp [hm])), sumTo_one j h1, if_pos h2]
    rfl
theorem of_sum {s : kStat.V} (hT : Taken s) : sumTo (fun k => (ofD s (k : Int)).length) (sKinds s).length = (sMembers s).length := ofGo_sum s _ 0 (fun m hm => (hT.members m hm).2)
end Go.Proofs.YtkfmlekomfnleaaGreat
/- The resolver's arg, args, literal where no variable may be. Conditions: none. -/
set_option linter.unusedVariables false
set_option linter.unusedSimpArgs false
set_option maxRecDepth 10000
namespace Go.Proofs.YtkfmlekomfnleaaGreat
open Go Go.RowKit Go.MapKept

abbrev frH (bc : Nat) : List HP := [blk bc [.slice none 0 0, .map none, .bool true] 123]
attribute [local irreducible] RW CW
set_option maxHeartbeats 4000000 in
theorem argF_ret {br bc : Nat} {s : kStat.V} {at_ : Int} {x : RC} {y : Sc} {a kind : Str} {w : World} {F : Nat → Prop} (hR : RS w (fun b => ¬ F b) br s at_ x) (hH : Sep (frH bc) w F) :
    RetE Tryz.prog 180 [.pointer (some ⟨br, 0, none⟩), .pointer (some ⟨bc, 0, none⟩), .string a, .string kind] w F (argD s at_ true y a kind) (fun _ _ => .tuple #[]) (fun _ (_ : Unit) => frH bc) := by
  generalize hS : argD s at_ true y a kind = SP
  have hS := hS.symm
  unfold argD at hS
  have hle : Mem.le (mem w (fun b => ¬ F b)) (mem w (fun b => ¬ F b)) := Mem.le_refl _
  refine Calls.enter Tryz.func180 rfl _ rfl rfl (S := F) (H := frH bc) hH ?_
  refine CW.seq ?_
  refine Ja ?_;refine Jc ?_
  refine RW.call Tryz.call191 rfl (fun w hw => IsVar_ret) rfl ?_
  refine Jb ?_
  refine CW.cond rfl (fun h1 => ?_) (fun h1 => ?_)
  · rw [if_pos h1] at hS
    refine Ja ?_;refine Jc ?_;refine Jc ?_;refine Jf ?_;refine Je ?_;refine JA ?_;refine Js ?_
    refine RW.want hS rfl (rfl) (fun w hw => RS.at_cell hR hw) rfl rfl rfl fun hb _ => absurd hb (by decide)
  · rw [if_neg (by simp [h1])] at hS
    refine JM ?_;refine Ja ?_;refine Jc ?_;refine Jc ?_
    refine RW.call Tryz.call165 rfl (fun w hw => IsName_ret) rfl ?_
    refine RW.want hS rfl (rfl) (fun w hw => RS.at_cell hR hw) rfl rfl rfl fun hb hS => ?_
    refine Jb ?_;refine Ja ?_;refine Jc ?_;refine Jf ?_;refine Je ?_
    refine RW.load_ro rfl hle (hR.cell 11 _ rfl) rfl rfl ?_
    refine Jc ?_
    refine RW.lookupMOk (D := indexD ((sMembers s).map nameOf)) hR.members rfl rfl rfl rfl ?_
    refine Jc ?_;refine Jt ?_;refine Jt ?_;refine Jd ?_;refine Jd ?_;refine Jb ?_;refine Ja ?_;refine Jc ?_;refine Jc ?_
    refine RW.want hS rfl (rfl) (fun w hw => RS.at_cell hR hw) rfl rfl rfl fun hb hS => ?_
    obtain ⟨hi0, hi1, hg⟩ := memAt_get (s := s) (name := a) hb
    obtain ⟨B2, O2, es2, hA2, _, hr2, hm2⟩ := sl_get hR.stat.members hg
    obtain ⟨c1, c2, rfl, h5, h6⟩ := hr2
    obtain rfl := str_cell h5
    obtain rfl := str_cell h6
    generalize hmm : memAt s a = mm at *
    refine Jb ?_
    refine CW.region ?_
    refine Jc ?_;refine Jc ?_;refine Jf ?_;refine Je ?_;refine Je ?_
    refine RW.load_ro rfl hle (hR.cell 2 _ rfl) rfl rfl ?_
    refine Jc ?_
    refine RW.indexAddrE hA2 rfl rfl hi0 hi1 rfl ?_
    refine Je ?_
    refine RW.load_ro rfl hle (hm2 1 _ rfl) rfl rfl ?_
    refine Jc ?_;refine Jo ?_
    refine RW.want hS rfl (rfl) (fun w hw => RS.at_cell hR hw) rfl rfl rfl fun hb hS => ?_
    refine RW.nil ?_
    exact PW.ret (rs := []) (vs := []) Tryz.results180 rfl ResOK.nil fun w hw => XP.ok (V := fun _ _ => .tuple #[]) () hS hw
set_option maxHeartbeats 4000000 in
theorem argsF_ret {br bc : Nat} {s : kStat.V} {at_ : Int} {x : RC} {y : Sc} {A : Option Addr} {c : Nat} {l : List Str} {cs : List Value} {p : kPredT.V} {w : World} {F : Nat → Prop} (hR : RS w (fun b => ¬ F b) br s at_ x) (hl : Rd kStrs (mem w (fun b => ¬ F b)) [.slice A l.length c] l) (hp : Rd kPredT (mem w (fun b => ¬ F b)) cs p)
    (hH : Sep (frH bc) w F) :
    RetE Tryz.prog 134 [.pointer (some ⟨br, 0, none⟩), .pointer (some ⟨bc, 0, none⟩), .slice A l.length c, .agg cs.toArray] w F (argsD s at_ true y l p) (fun _ _ => .tuple #[]) (fun _ (_ : Unit) => frH bc) := by
  generalize hS : argsD s at_ true y l p = SP
  have hS := hS.symm
  unfold argsD at hS
  obtain ⟨PA, pc, PB, pd, rfl, hkd, hvd⟩ := Rd.predT hp
  have hl1 := sl_small hl
  unfold reach at hl1
  have hle : Mem.le (mem w (fun b => ¬ F b)) (mem w (fun b => ¬ F b)) := Mem.le_refl _
  refine Calls.enter Tryz.func134 rfl _ rfl rfl (S := F) (H := frH bc) hH ?_
  refine CW.seqR ?_
  refine RW.box_agg rfl rfl fun b7 _ => ?_
  refine Jb ?_;refine Ja ?_;refine Jc ?_;refine Jc ?_;refine Jg ?_;refine Je ?_;refine JA ?_;refine Jg ?_;refine Ji ?_
  refine RW.want hS rfl (rfl) (fun w hw => RS.at_cell hR hw) rfl rfl rfl fun hb hS => ?_
  have hlen : l.length = p.2.2.1.length := by have := of_decide_eq_true hb; omega
  refine Jb ?_;refine Ja ?_;refine Jc ?_;refine Jg ?_;refine Jc ?_;refine Jb ?_
  refine CW.block ?_
  refine CW.loop (ι := { q : Nat × Sc // q.1 ≤ l.length ∧ SP = bnd (foldX (fun x (a : Str × Str) => argD s at_ true x a.1 a.2) q.2 ((l.zip p.2.2.1).drop q.1)) _ }) (fun q => [(0, .pointer (some ⟨br, 0, none⟩)), (1, .pointer (some ⟨bc, 0, none⟩)), (7, .pointer (some ⟨b7, 0, none⟩)), (18, .slice A l.length c), (19, .int .i64 l.length), (20, .int .i64 q.1.1)])
    (fun q => blk b7 [.string p.1, .int .i64 p.2.1, .slice PA p.2.2.1.length pc, .slice PB p.2.2.2.length pd] 151 :: frH bc) (fun q => l.length - q.1.1) ⟨(0, y), Nat.zero_le _, hS⟩ ⟨rfl, rfl, rfl, rfl, rfl, rfl, trivial⟩ (fun h => h) ?_
  intro ⟨⟨k, z⟩, hk, hS⟩
  dsimp only at hS hk ⊢
  refine Ja ?_;refine Jk ?_;refine Jb ?_
  refine CW.seq ?_
  refine CW.ite rfl (fun hlt => ?_) (fun hge => ?_)
  · have hlt' : k < l.length := by simpa using hlt
    have hlt2 : k < p.2.2.1.length := by omega
    have hlt3 : k < (l.zip p.2.2.1).length := by rw [List.length_zip]; omega
    rw [foldX_step hlt3, List.getElem_zip] at hS
    obtain ⟨B1, O1, es1, hA, hl1, hr, hm⟩ := sl_get hl (List.getElem?_eq_getElem hlt')
    obtain rfl := str_cell hr
    obtain ⟨B2, O2, es2, hA2, hl2, hr2, hm2⟩ := sl_get hkd (List.getElem?_eq_getElem hlt2)
    obtain rfl := str_cell hr2
    refine JM ?_
    refine CW.seq ?_
    refine CW.block ?_
    refine Ja ?_;refine Jc ?_
    refine RW.indexAddrE hA rfl rfl (by omega) hlt rfl ?_
    skip
    refine RW.load_ro rfl hle (hm 0 _ rfl) rfl rfl ?_
    refine Jd ?_;refine Jd ?_;refine Jb ?_
    refine CW.region ?_
    refine Jc ?_;refine Jc ?_;refine Jc ?_;refine Je ?_;refine JA ?_;refine Jc ?_
    refine RW.indexAddrE hA2 rfl rfl (by omega) (by omega) rfl ?_
    skip
    refine RW.load_ro rfl hle (hm2 0 _ rfl) rfl rfl ?_
    refine RW.take [1, 0] ?_
    refine RW.callE (r := [_]) (frH bc) hS Tryz.call180 rfl (fun w2 F2 hw2 hF2 h1 _ => argF_ret (RS.callF hR hw2 hF2) h1) rfl rfl rfl fun z' u' hz hS => ?_
    refine RW.nil ?_
    refine PW.code ?_
    refine CW.region ?_
    refine RW.add rfl rfl (w64 (by omega) (by omega)) rfl ?_
    refine Jc ?_
    refine RW.nil ?_
    exact PW.againT ⟨(k + 1, z'), hlt', hS⟩ [1, 0] ⟨rfl, rfl, rfl, rfl, rfl, rfl, trivial⟩ rfl (by show l.length - (k + 1) < l.length - k; omega)
  · have hge' : l.length ≤ k := by simpa using hge
    rw [foldX_end (by rw [List.length_zip]; omega)] at hS
    refine CW.exit rfl ?_
    exact PW.ret (rs := []) (vs := []) Tryz.results134 rfl ResOK.nil fun w hw => XP.ok (V := fun _ _ => .tuple #[]) () hS (hw.sub (List.Sublist.cons _ (List.Sublist.refl _)))
set_option maxHeartbeats 4000000 in
theorem literalF_ret {br bc : Nat} {s : kStat.V} {at_ : Int} {x : RC} {y : Sc} {cs : List Value} {l : kLitT.V} {w : World} {F : Nat → Prop} (hR : RS w (fun b => ¬ F b) br s at_ x) (hl : Rd kLitT (mem w (fun b => ¬ F b)) cs l) (hK : fourK s)
    (hH : Sep (frH bc) w F) :
    RetE Tryz.prog 54 [.pointer (some ⟨br, 0, none⟩), .pointer (some ⟨bc, 0, none⟩), .agg cs.toArray] w F (literalD s at_ true y l) (fun _ _ => .tuple #[]) (fun _ (_ : Unit) => frH bc) := by
  generalize hS : literalD s at_ true y l = SP
  have hS := hS.symm
  unfold literalD at hS
  obtain ⟨A, c, rfl, hargs⟩ := Rd.litT hl
  have hle : Mem.le (mem w (fun b => ¬ F b)) (mem w (fun b => ¬ F b)) := Mem.le_refl _
  refine Calls.enter Tryz.func54 rfl _ rfl rfl (S := F) (H := frH bc) hH ?_
  refine CW.seqR ?_
  refine RW.box_agg rfl rfl fun b5 _ => ?_
  refine RW.next ?_
  refine CW.seqA (by kernel_rfl) rfl ?_
  refine AW.val rfl (fun _ _ => by refine Jc ?_;exact RW.done rfl) ?_;refine AW.val rfl (fun _ _ => by refine Jf ?_;exact RW.done rfl) ?_;refine AW.val rfl (fun _ _ => by refine Je ?_;exact RW.done rfl) ?_
  (apply AW.val rfl; · intro Gx X; (first | refine RW.yes rfl ?_ | skip); refine RW.load_ro rfl hle (hR.cell 12 _ rfl) rfl rfl ?_; exact RW.done rfl)
  refine AW.val rfl (fun _ _ => by refine Je ?_;exact RW.done rfl) ?_;refine AW.val rfl (fun _ _ => by refine JA ?_;exact RW.done rfl) ?_
  (apply AW.val rfl; · intro Gx X; (first | refine RW.yes rfl ?_ | skip); refine RW.lookupMOk (D := indexD ((sPreds s).map nameOf)) hR.preds rfl rfl rfl rfl ?_; exact RW.done rfl)
  refine AW.val rfl (fun _ _ => by refine Jc ?_;exact RW.done rfl) ?_;refine AW.val rfl (fun _ _ => by refine Jt ?_;exact RW.done rfl) ?_;refine AW.val rfl (fun _ _ => by refine Jt ?_;exact RW.done rfl) ?_;refine AW.val rfl (fun _ _ => by refine Jd ?_;exact RW.done rfl) ?_;refine AW.val rfl (fun _ _ => by refine Jd ?_;exact RW.done rfl) ?_
  refine AW.stop (by kernel_rfl) (by kernel_rfl) fun bs => ?_
  refine Jb ?_;refine Ja ?_;refine Jc ?_;refine Jc ?_
  refine RW.want hS rfl (rfl) (fun w hw => RS.at_cell hR hw) rfl rfl rfl fun hb hS => ?_
  have hp := pSome (s := s) hb
  have hi := pIdx_lt l.2.1 hp
  have hf := predAt_four hK l.2.1
  obtain ⟨B2, O2, es2, hA2, _, hr2, hm2⟩ := sl_get hR.stat.preds (predAt_get l.2.1 hp)
  have hr2' := hr2
  obtain ⟨PA, pc, PB, pd, rfl, hpk, hpv⟩ := Rd.predT hr2
  generalize hpn : predAt s l.2.1 = p at *
  refine Jb ?_;refine Ja ?_;refine Jc ?_;refine Jf ?_;refine Je ?_;refine Je ?_
  refine RW.load_ro rfl hle (hR.cell 3 _ rfl) rfl rfl ?_
  refine Jc ?_
  refine RW.indexAddrE hA2 rfl rfl hi.1 hi.2 rfl ?_
  refine RW.load_ros rfl hle hm2 rfl rfl (Nat.zero_lt_succ _) rfl ?_
  refine RW.alloc (c := [.string ByteArray.empty, .int .i64 0, .slice none 0 0, .slice none 0 0]) rfl rfl fun b8 _ => ?_
  refine RW.store_whole [] rfl rfl rfl rfl rfl (by simp [Value.oneCell']) ?_
  refine Jb ?_;refine Ja ?_;refine Jc ?_;refine Je ?_;refine JA ?_;refine Jj ?_
  refine RW.want hS rfl (rfl) (fun w hw => RS.at_cell hR hw) rfl rfl rfl fun hb hS => ?_
  refine Jb ?_;refine Ja ?_;refine Jc ?_;refine Jc ?_;refine Je ?_;refine JB ?_;refine JE ?_
  refine RW.take [2, 0, 1] ?_
  refine RW.callE (r := [_, _]) (frH bc) hS Tryz.call134 rfl (fun w2 F2 hw2 hF2 h1 _ => argsF_ret (RS.callF hR hw2 hF2) (hargs.mono (ro_callF hw2 hF2)) (hr2'.mono (ro_callF hw2 hF2)) h1) rfl rfl rfl fun z u hz hS => ?_
  refine RW.take [1, 2, 0] ?_
  refine Jb ?_;refine Ja ?_;refine Jc ?_;refine Je ?_;refine JB ?_;refine Je ?_;refine JA ?_;refine Ji ?_;refine Jq ?_;refine Jc ?_
  refine RW.splitD 48 rfl (fun h1 => ?_) (fun h1 => ?_)
  · refine Jy ?_;refine Je ?_;refine Jy ?_;refine JB ?_;refine Jy ?_;refine Jc ?_
    cases hv : l.2.2.2.1 with
    | true =>
      rw [hv] at h1
      refine Jz ?_;refine Jz ?_;refine Jz ?_;refine Jy ?_;refine Jv ?_;refine Jv ?_
      refine RW.want hS rfl (by rw [hv]; simp [← h1]) (fun w hw => RS.at_cell hR hw) rfl rfl rfl fun hb hS => ?_
      refine Jb ?_
      refine CW.region ?_
      refine Jc ?_;refine Je ?_;refine JB ?_;refine Js ?_;refine Jc ?_;refine Jy ?_;refine Je ?_;refine Jy ?_;refine JA ?_;refine Jy ?_;refine Je ?_;refine Jy ?_;refine JB ?_;refine Jy ?_
      refine RW.call Tryz.call135 rfl (fun w2 hw => has_ret (N := mem w (fun b => ¬ F b)) (ro_call hw) hpv) rfl ?_
      refine Jw ?_
      refine RW.want hS rfl (by rw [hv]; rfl) (fun w hw => RS.at_cell hR hw) rfl rfl rfl fun hb hS => ?_
      exact RW.nil (PW.ret (rs := []) (vs := []) Tryz.results54 rfl ResOK.nil fun w hw => XP.ok (V := fun _ _ => .tuple #[]) () hS (hw.take [2]))
    | false =>
      rw [hv] at h1
      refine Jy ?_;refine Je ?_;refine Jy ?_;refine JB ?_;refine Jy ?_;refine Ji ?_;refine Jy ?_;refine Jw ?_;refine Jv ?_
      refine RW.want hS rfl (by rw [hv]; simp [← h1]) (fun w hw => RS.at_cell hR hw) rfl rfl rfl fun hb hS => ?_
      refine Jb ?_
      refine CW.region ?_
      refine Jc ?_;refine Je ?_;refine JB ?_;refine Js ?_;refine Jc ?_;refine Jz ?_;refine Jz ?_;refine Jz ?_;refine Jz ?_;refine Jz ?_;refine Jv ?_
      refine RW.want hS rfl (by rw [hv]; rfl) (fun w hw => RS.at_cell hR hw) rfl rfl rfl fun hb hS => ?_
      exact RW.nil (PW.ret (rs := []) (vs := []) Tryz.results54 rfl ResOK.nil fun w hw => XP.ok (V := fun _ _ => .tuple #[]) () hS (hw.take [2]))
  · refine Jz ?_;refine Jz ?_;refine Jz ?_;refine Jz ?_;refine Jz ?_;refine Jz ?_;refine Jz ?_;refine Jw ?_
    refine RW.want hS rfl ((by rw [decide_eq_false h1, Bool.false_and])) (fun w hw => RS.at_cell hR hw) rfl rfl rfl fun hb _ => absurd hb (by decide)
end Go.Proofs.YtkfmlekomfnleaaGreat
