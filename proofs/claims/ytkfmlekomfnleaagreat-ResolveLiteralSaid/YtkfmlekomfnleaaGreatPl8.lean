/- Parts of the proof: The document's find, its lists of names, by the calculus. · The document's small functions: IsName, IsVar, May, day, has, sameNames, named. · The document's checks of items without variables: has, sameNames, named, pred, class, total. · The document's pred, class, total. · The document's class, total. · The document's Book: arg, loose, args. Conditions: none. -/
import Derived.Test.YtkfmlekomfnleaaGreatPl7
/- The document's find, its lists of names, by the calculus. Conditions: none. -/
set_option linter.unusedVariables false
set_option linter.unusedSimpArgs false
set_option maxRecDepth 10000
namespace Go.Proofs.YtkfmlekomfnleaaGreat
open Go Go.RowKit Go.MapKept

theorem fst?_step {l : List Str} {n : Str} {k : Nat} (h : k < l.length) : fst? (l.drop k) n = if l[k] = n then some 0 else (fst? (l.drop (k + 1)) n).map (· + 1) := by
  rw [List.drop_eq_getElem_cons h, fst?]
theorem sl_sizes {M : Mem} {by_ : Nat} {b : K} {cs : List Value} {xs : List (K.pr .str b).V} (h : Rd (.sl by_ (.pr .str b)) M cs xs) : ∀ a ∈ xs.map nameOf, a.size ≤ reach := by
  intro a ha
  obtain ⟨x, hx, rfl⟩ := List.mem_map.1 ha
  obtain ⟨A, c, rfl⟩ := sl_cell h
  obtain ⟨i, hi⟩ := List.mem_iff_getElem?.1 hx
  obtain ⟨_, _, _, _, _, hr, _⟩ := sl_get h hi
  obtain ⟨c1, c2, _, h1, _⟩ := hr
  exact h1.2
theorem rd_strs {v : Value} {names : List Str} {pre r : List HP} {w : World} {A : Nat → Prop} (h : Sep (pre ++ ownHP 9 1 v (names.map strE) :: r) w A) (hs : ∀ a ∈ names, a.size ≤ reach) (hl : names.length * 16 ≤ reach) : Rd kStrs (mem w (fun b => ¬ No b)) [v] names := by
  obtain ⟨F, _, hp, _⟩ := Sep.pull h
  refine rd_of_own (t := .str) hp rfl (mem_up fun _ _ k => k) ⟨by rw [List.length_map], fun i cs a hc ha => ?_⟩ hl
  rw [List.getElem?_map, ha] at hc
  cases hc
  exact ⟨rfl, hs a (List.mem_of_getElem? ha)⟩
/-- An own slice's shape. -/
theorem own_shapeN {w0 w : World} {S : Nat → Prop} {pre r : List HP} {e : TypeId} {sz : Nat} {v : Value} {es : List (List Value)} (h : St w0 S (pre ++ ownHP e sz v es :: r) w) : ∃ A c, v = .slice A es.length c ∧ (es ≠ [] → ∃ B, A = some ⟨B, 0, none⟩) := by
  rcases own_form h with ⟨h1, h2⟩ | ⟨B, c, h1, _⟩
  · exact ⟨none, 0, by rw [h1, h2]; rfl, fun h => absurd h2 h⟩
  · exact ⟨_, c, h1, fun _ => ⟨B, rfl⟩⟩
attribute [local irreducible] RW CW
theorem refFind_ret {A : Option Addr} {c : Nat} {l : List Str} {name : Str} {w : World} (h : Rd kStrs (mem w (fun b => ¬ No b)) [.slice A l.length c] l) : Ret Tryz.prog 44 [.slice A l.length c, .string name] w (.int .i64 ((fst? l name).getD (-1))) := by
  have hsm := sl_small h
  unfold reach at hsm
  have hle : Mem.le (mem w (fun b => ¬ No b)) (mem w (fun b => ¬ No b)) := Mem.le_refl _
  refine Calls.enter Tryz.func44 rfl _ rfl rfl (S := No) (H := []) trivial ?_
  refine Ja ?_;refine Jd ?_;refine Jb ?_
  refine CW.seq ?_
  refine Ja ?_;refine Jd ?_;refine Jb ?_
  refine CW.block ?_
  refine CW.loop (ι := { k : Nat // k ≤ l.length ∧ fst? l name = (fst? (l.drop k) name).map (· + (k : Int)) }) (fun k => [(0, .slice A l.length c), (1, .string name), (5, .int .i64 k.1)]) (fun _ => []) (fun k => l.length - k.1) ⟨0, Nat.zero_le _, by rw [List.drop_zero]; cases fst? l name <;> simp⟩ ⟨rfl, rfl, rfl, trivial⟩ (fun h => h) ?_
  intro ⟨k, hk, hS⟩
  dsimp only at hk hS ⊢
  refine CW.seq ?_
  refine Ja ?_;refine Jc ?_;refine Jc ?_;refine Jg ?_;refine Jk ?_;refine Jb ?_
  refine CW.ite rfl (fun hlt => ?_) (fun hge => ?_)
  · have hlt' : k < l.length := by simpa using hlt
    obtain ⟨B1, O1, es1, hA, hl1, hr, hm⟩ := sl_get h (List.getElem?_eq_getElem hlt')
    obtain rfl := str_cell hr
    rw [fst?_step hlt'] at hS
    refine CW.skip ?_
    refine PW.code ?_
    refine CW.seq ?_
    refine CW.block ?_
    refine Ja ?_;refine Jc ?_;refine Jc ?_
    refine RW.indexAddrE hA rfl rfl (by omega) hlt rfl ?_
    skip
    refine RW.load_ro rfl hle (hm 0 _ rfl) rfl rfl ?_
    refine Jc ?_;refine Jo ?_;refine Jb ?_
    refine CW.ite rfl (fun he => ?_) (fun he => ?_)
    · rw [if_pos he] at hS
      refine Ja ?_;refine Jc ?_;refine Jd ?_;refine Jb ?_
      exact CW.ret1 rfl Tryz.results44 rfl rfl fun w hw => ⟨by rw [hS]; simp, hw.kp⟩
    · rw [if_neg he] at hS
      refine CW.skip ?_
      refine PW.code ?_
      refine CW.region ?_
      refine Jc ?_
      refine RW.add rfl rfl (w64 (by omega) (by omega)) rfl ?_
      refine Jd ?_
      refine RW.nil ?_
      exact PW.again ⟨k + 1, hlt', by rw [hS, Option.map_map]; cases fst? (l.drop (k + 1)) name <;> simp; omega⟩ ⟨rfl, rfl, rfl, trivial⟩ (fun h => h) (by show l.length - (k + 1) < l.length - k; omega)
  have hge' : l.length ≤ k := by simpa using hge
  rw [List.drop_eq_nil_of_le hge'] at hS
  refine CW.exit rfl ?_
  refine PW.code ?_
  refine Ja ?_;refine Jd ?_;refine Jb ?_
  exact CW.ret1 rfl Tryz.results44 rfl rfl fun w hw => ⟨by rw [hS]; rfl, hw.kp⟩
set_option maxHeartbeats 4000000 in
theorem ref_members_ret {s : kStat.V} {x : RC} {w : World} (hst : StatOn (mem w (fun b => ¬ No b)) s x) : RetC Tryz.prog 57 [.agg (x.stat s).toArray] w No (fun v : Value => v) (fun v => [ownHP 9 1 v (((sMembers s).map nameOf).map strE)]) := by
  have hsm := sl_small hst.members
  unfold reach at hsm
  have hle : Mem.le (mem w (fun b => ¬ No b)) (mem w (fun b => ¬ No b)) := Mem.le_refl _
  refine Calls.enter Tryz.func57 rfl _ rfl rfl (S := No) (H := []) trivial ?_
  refine CW.seqR ?_
  refine RW.box_agg (l := x.stat s) rfl rfl fun b1 _ => ?_
  refine RW.add_ (ownHP 9 1 (.slice none 0 0) []) (fun w _ => .inl ⟨rfl, rfl⟩) ?_
  refine Jd ?_;refine Jb ?_;refine Ja ?_;refine Jd ?_;refine Jb ?_
  refine CW.seq ?_
  refine Ja ?_;refine Jd ?_;refine Jb ?_
  refine CW.block ?_
  refine CW.loop (ι := { q : Nat × Value // q.1 ≤ (sMembers s).length }) (fun q => [(1, ptrV b1), (3, q.1.2), (4, .int .i64 q.1.1)]) (fun q => [ownHP 9 1 q.1.2 ((((sMembers s).map nameOf).take q.1.1).map strE), blk b1 (x.stat s) 31]) (fun q => (sMembers s).length - q.1.1) ⟨(0, .slice none 0 0), Nat.zero_le _⟩ ⟨rfl, rfl, rfl, trivial⟩ (fun h => h) ?_
  intro ⟨⟨j, v⟩, hj⟩
  dsimp only at hj ⊢
  refine CW.seq ?_
  refine Ja ?_;refine Jc ?_;refine Je ?_;refine JB ?_;refine Jg ?_;refine Jk ?_;refine Jb ?_
  refine CW.ite rfl (fun hlt => ?_) (fun hge => ?_)
  · have hlt' : j < (sMembers s).length := by simpa using hlt
    obtain ⟨B1, O1, cs, hA, hl1, hr, hm⟩ := sl_get hst.members (List.getElem?_eq_getElem hlt')
    obtain ⟨c2, rfl⟩ := rd_name hr
    refine CW.skip ?_
    refine PW.code ?_
    refine CW.seq ?_
    refine CW.block ?_
    refine CW.region ?_
    refine Jc ?_;refine Je ?_;refine JB ?_;refine Jc ?_
    refine RW.indexAddrE hA rfl rfl (by omega) hlt rfl ?_
    refine Je ?_
    refine RW.load_ro rfl hle (hm 0 _ rfl) rfl rfl ?_
    refine RW.buildSlice (e := 9) (c := [.string (nameOf (sMembers s)[j])]) rfl (fun w => by kernel_rfl) rfl fun b19 _ => ?_
    refine RW.append [_] (e := 9) (sz := 1) (news := [[.string (nameOf (sMembers s)[j])]]) (zc := [.string ByteArray.empty]) rfl rfl rfl rfl rfl (by simp) (by simp [Value.oneCell']) (fun w hw hn => ?_) ?_ ?_ rfl fun v' => ?_
    · exact ⟨b19, 0, rfl, CellsAt.of_blk (St.blk (pre := []) hw)⟩
    · simp only [List.length_map, List.length_take]; omega
    · simp only [List.length_map, List.length_take]; unfold maxN; omega
    dsimp only [List.cons_append, List.nil_append]
    refine Jd ?_;refine RW.nil (PW.code ?_)
    refine CW.region ?_
    refine Jc ?_
    refine RW.add rfl rfl (w64 (by omega) (by omega)) rfl ?_
    refine Jd ?_
    refine RW.nil ?_
    refine PW.againT ⟨(j + 1, v'), hlt'⟩ [1, 2] ⟨rfl, rfl, rfl, trivial⟩ ?_ (by show (sMembers s).length - (j + 1) < (sMembers s).length - j; omega)
    dsimp only
    rw [List.take_succ_eq_append_getElem (by rw [List.length_map]; exact hlt'), List.map_append, List.getElem_map]
    rfl
  have hge' : (sMembers s).length ≤ j := by simpa using hge
  rw [List.take_of_length_le (by rw [List.length_map]; exact hge')]
  refine CW.exit rfl ?_
  refine PW.code ?_
  refine Ja ?_;refine Jc ?_;refine Jd ?_;refine Jb ?_
  exact CW.ret1 rfl Tryz.results57 rfl rfl fun w hw => ⟨v, rfl, hw.take [0]⟩
set_option maxHeartbeats 4000000 in
theorem ref_preds_ret {s : kStat.V} {x : RC} {w : World} (hst : StatOn (mem w (fun b => ¬ No b)) s x) : RetC Tryz.prog 55 [.agg (x.stat s).toArray] w No (fun v : Value => v) (fun v => [ownHP 9 1 v (((sPreds s).map nameOf).map strE)]) := by
  have hsm := sl_small hst.preds
  unfold reach at hsm
  have hle : Mem.le (mem w (fun b => ¬ No b)) (mem w (fun b => ¬ No b)) := Mem.le_refl _
  refine Calls.enter Tryz.func55 rfl _ rfl rfl (S := No) (H := []) trivial ?_
  refine CW.seqR ?_
  refine RW.box_agg (l := x.stat s) rfl rfl fun b1 _ => ?_
  refine RW.add_ (ownHP 9 1 (.slice none 0 0) []) (fun w _ => .inl ⟨rfl, rfl⟩) ?_
  refine Jd ?_;refine Jb ?_;refine Ja ?_;refine Jd ?_;refine Jb ?_
  refine CW.seq ?_
  refine Ja ?_;refine Jd ?_;refine Jb ?_
  refine CW.block ?_
  refine CW.loop (ι := { q : Nat × Value // q.1 ≤ (sPreds s).length }) (fun q => [(1, ptrV b1), (3, q.1.2), (4, .int .i64 q.1.1)]) (fun q => [ownHP 9 1 q.1.2 ((((sPreds s).map nameOf).take q.1.1).map strE), blk b1 (x.stat s) 31]) (fun q => (sPreds s).length - q.1.1) ⟨(0, .slice none 0 0), Nat.zero_le _⟩ ⟨rfl, rfl, rfl, trivial⟩ (fun h => h) ?_
  intro ⟨⟨j, v⟩, hj⟩
  dsimp only at hj ⊢
  refine CW.seq ?_
  refine Ja ?_;refine Jc ?_;refine Je ?_;refine JB ?_;refine Jg ?_;refine Jk ?_;refine Jb ?_
  refine CW.ite rfl (fun hlt => ?_) (fun hge => ?_)
  · have hlt' : j < (sPreds s).length := by simpa using hlt
    obtain ⟨B1, O1, cs, hA, hl1, hr, hm⟩ := sl_get hst.preds (List.getElem?_eq_getElem hlt')
    obtain ⟨c2, rfl⟩ := rd_name hr
    refine CW.skip ?_
    refine PW.code ?_
    refine CW.seq ?_
    refine CW.block ?_
    refine CW.region ?_
    refine Jc ?_;refine Je ?_;refine JB ?_;refine Jc ?_
    refine RW.indexAddrE hA rfl rfl (by omega) hlt rfl ?_
    refine Je ?_
    refine RW.load_ro rfl hle (hm 0 _ rfl) rfl rfl ?_
    refine RW.buildSlice (e := 9) (c := [.string (nameOf (sPreds s)[j])]) rfl (fun w => by kernel_rfl) rfl fun b19 _ => ?_
    refine RW.append [_] (e := 9) (sz := 1) (news := [[.string (nameOf (sPreds s)[j])]]) (zc := [.string ByteArray.empty]) rfl rfl rfl rfl rfl (by simp) (by simp [Value.oneCell']) (fun w hw hn => ?_) ?_ ?_ rfl fun v' => ?_
    · exact ⟨b19, 0, rfl, CellsAt.of_blk (St.blk (pre := []) hw)⟩
    · simp only [List.length_map, List.length_take]; omega
    · simp only [List.length_map, List.length_take]; unfold maxN; omega
    dsimp only [List.cons_append, List.nil_append]
    refine Jd ?_;refine RW.nil (PW.code ?_)
    refine CW.region ?_
    refine Jc ?_
    refine RW.add rfl rfl (w64 (by omega) (by omega)) rfl ?_
    refine Jd ?_
    refine RW.nil ?_
    refine PW.againT ⟨(j + 1, v'), hlt'⟩ [1, 2] ⟨rfl, rfl, rfl, trivial⟩ ?_ (by show (sPreds s).length - (j + 1) < (sPreds s).length - j; omega)
    dsimp only
    rw [List.take_succ_eq_append_getElem (by rw [List.length_map]; exact hlt'), List.map_append, List.getElem_map]
    rfl
  have hge' : (sPreds s).length ≤ j := by simpa using hge
  rw [List.take_of_length_le (by rw [List.length_map]; exact hge')]
  refine CW.exit rfl ?_
  refine PW.code ?_
  refine Ja ?_;refine Jc ?_;refine Jd ?_;refine Jb ?_
  exact CW.ret1 rfl Tryz.results55 rfl rfl fun w hw => ⟨v, rfl, hw.take [0]⟩
set_option maxHeartbeats 4000000 in
theorem ref_schemas_ret {s : kStat.V} {x : RC} {w : World} (hst : StatOn (mem w (fun b => ¬ No b)) s x) : RetC Tryz.prog 127 [.agg (x.stat s).toArray] w No (fun v : Value => v) (fun v => [ownHP 9 1 v (((sRules s).map nameOf).map strE)]) := by
  have hsm := sl_small hst.rules
  unfold reach at hsm
  have hle : Mem.le (mem w (fun b => ¬ No b)) (mem w (fun b => ¬ No b)) := Mem.le_refl _
  refine Calls.enter Tryz.func127 rfl _ rfl rfl (S := No) (H := []) trivial ?_
  refine CW.seqR ?_
  refine RW.box_agg (l := x.stat s) rfl rfl fun b1 _ => ?_
  refine RW.add_ (ownHP 9 1 (.slice none 0 0) []) (fun w _ => .inl ⟨rfl, rfl⟩) ?_
  refine Jd ?_;refine Jb ?_;refine Ja ?_;refine Jd ?_;refine Jb ?_
  refine CW.seq ?_
  refine Ja ?_;refine Jd ?_;refine Jb ?_
  refine CW.block ?_
  refine CW.loop (ι := { q : Nat × Value // q.1 ≤ (sRules s).length }) (fun q => [(1, ptrV b1), (3, q.1.2), (4, .int .i64 q.1.1)]) (fun q => [ownHP 9 1 q.1.2 ((((sRules s).map nameOf).take q.1.1).map strE), blk b1 (x.stat s) 31]) (fun q => (sRules s).length - q.1.1) ⟨(0, .slice none 0 0), Nat.zero_le _⟩ ⟨rfl, rfl, rfl, trivial⟩ (fun h => h) ?_
  intro ⟨⟨j, v⟩, hj⟩
  dsimp only at hj ⊢
  refine CW.seq ?_
  refine Ja ?_;refine Jc ?_;refine Je ?_;refine JB ?_;refine Jg ?_;refine Jk ?_;refine Jb ?_
  refine CW.ite rfl (fun hlt => ?_) (fun hge => ?_)
  · have hlt' : j < (sRules s).length := by simpa using hlt
    obtain ⟨B1, O1, cs, hA, hl1, hr, hm⟩ := sl_get hst.rules (List.getElem?_eq_getElem hlt')
    obtain ⟨c2, rfl⟩ := rd_name hr
    refine CW.skip ?_
    refine PW.code ?_
    refine CW.seq ?_
    refine CW.block ?_
    refine CW.region ?_
    refine Jc ?_;refine Je ?_;refine JB ?_;refine Jc ?_
    refine RW.indexAddrE hA rfl rfl (by omega) hlt rfl ?_
    refine Je ?_
    refine RW.load_ro rfl hle (hm 0 _ rfl) rfl rfl ?_
    refine RW.buildSlice (e := 9) (c := [.string (nameOf (sRules s)[j])]) rfl (fun w => by kernel_rfl) rfl fun b19 _ => ?_
    refine RW.append [_] (e := 9) (sz := 1) (news := [[.string (nameOf (sRules s)[j])]]) (zc := [.string ByteArray.empty]) rfl rfl rfl rfl rfl (by simp) (by simp [Value.oneCell']) (fun w hw hn => ?_) ?_ ?_ rfl fun v' => ?_
    · exact ⟨b19, 0, rfl, CellsAt.of_blk (St.blk (pre := []) hw)⟩
    · simp only [List.length_map, List.length_take]; omega
    · simp only [List.length_map, List.length_take]; unfold maxN; omega
    dsimp only [List.cons_append, List.nil_append]
    refine Jd ?_;refine RW.nil (PW.code ?_)
    refine CW.region ?_
    refine Jc ?_
    refine RW.add rfl rfl (w64 (by omega) (by omega)) rfl ?_
    refine Jd ?_
    refine RW.nil ?_
    refine PW.againT ⟨(j + 1, v'), hlt'⟩ [1, 2] ⟨rfl, rfl, rfl, trivial⟩ ?_ (by show (sRules s).length - (j + 1) < (sRules s).length - j; omega)
    dsimp only
    rw [List.take_succ_eq_append_getElem (by rw [List.length_map]; exact hlt'), List.map_append, List.getElem_map]
    rfl
  have hge' : (sRules s).length ≤ j := by simpa using hge
  rw [List.take_of_length_le (by rw [List.length_map]; exact hge')]
  refine CW.exit rfl ?_
  refine PW.code ?_
  refine Ja ?_;refine Jc ?_;refine Jd ?_;refine Jb ?_
  exact CW.ret1 rfl Tryz.results127 rfl rfl fun w hw => ⟨v, rfl, hw.take [0]⟩
set_option maxHeartbeats 4000000 in
theorem ref_sources_ret {s : kStat.V} {x : RC} {w : World} (hst : StatOn (mem w (fun b => ¬ No b)) s x) : RetC Tryz.prog 123 [.agg (x.stat s).toArray] w No (fun v : Value => v) (fun v => [ownHP 9 1 v (((sSources s).map nameOf).map strE)]) := by
  have hsm := sl_small hst.sources
  unfold reach at hsm
  have hle : Mem.le (mem w (fun b => ¬ No b)) (mem w (fun b => ¬ No b)) := Mem.le_refl _
  refine Calls.enter Tryz.func123 rfl _ rfl rfl (S := No) (H := []) trivial ?_
  refine CW.seqR ?_
  refine RW.box_agg (l := x.stat s) rfl rfl fun b1 _ => ?_
  refine RW.add_ (ownHP 9 1 (.slice none 0 0) []) (fun w _ => .inl ⟨rfl, rfl⟩) ?_
  refine Jd ?_;refine Jb ?_;refine Ja ?_;refine Jd ?_;refine Jb ?_
  refine CW.seq ?_
  refine Ja ?_;refine Jd ?_;refine Jb ?_
  refine CW.block ?_
  refine CW.loop (ι := { q : Nat × Value // q.1 ≤ (sSources s).length }) (fun q => [(1, ptrV b1), (3, q.1.2), (4, .int .i64 q.1.1)]) (fun q => [ownHP 9 1 q.1.2 ((((sSources s).map nameOf).take q.1.1).map strE), blk b1 (x.stat s) 31]) (fun q => (sSources s).length - q.1.1) ⟨(0, .slice none 0 0), Nat.zero_le _⟩ ⟨rfl, rfl, rfl, trivial⟩ (fun h => h) ?_
  intro ⟨⟨j, v⟩, hj⟩
  dsimp only at hj ⊢
  refine CW.seq ?_
  refine Ja ?_;refine Jc ?_;refine Je ?_;refine JB ?_;refine Jg ?_;refine Jk ?_;refine Jb ?_
  refine CW.ite rfl (fun hlt => ?_) (fun hge => ?_)
  · have hlt' : j < (sSources s).length := by simpa using hlt
    obtain ⟨B1, O1, cs, hA, hl1, hr, hm⟩ := sl_get hst.sources (List.getElem?_eq_getElem hlt')
    obtain ⟨c2, rfl⟩ := rd_name hr
    refine CW.skip ?_
    refine PW.code ?_
    refine CW.seq ?_
    refine CW.block ?_
    refine CW.region ?_
    refine Jc ?_;refine Je ?_;refine JB ?_;refine Jc ?_
    refine RW.indexAddrE hA rfl rfl (by omega) hlt rfl ?_
    refine Je ?_
    refine RW.load_ro rfl hle (hm 0 _ rfl) rfl rfl ?_
    refine RW.buildSlice (e := 9) (c := [.string (nameOf (sSources s)[j])]) rfl (fun w => by kernel_rfl) rfl fun b19 _ => ?_
    refine RW.append [_] (e := 9) (sz := 1) (news := [[.string (nameOf (sSources s)[j])]]) (zc := [.string ByteArray.empty]) rfl rfl rfl rfl rfl (by simp) (by simp [Value.oneCell']) (fun w hw hn => ?_) ?_ ?_ rfl fun v' => ?_
    · exact ⟨b19, 0, rfl, CellsAt.of_blk (St.blk (pre := []) hw)⟩
    · simp only [List.length_map, List.length_take]; omega
    · simp only [List.length_map, List.length_take]; unfold maxN; omega
    dsimp only [List.cons_append, List.nil_append]
    refine Jd ?_;refine RW.nil (PW.code ?_)
    refine CW.region ?_
    refine Jc ?_
    refine RW.add rfl rfl (w64 (by omega) (by omega)) rfl ?_
    refine Jd ?_
    refine RW.nil ?_
    refine PW.againT ⟨(j + 1, v'), hlt'⟩ [1, 2] ⟨rfl, rfl, rfl, trivial⟩ ?_ (by show (sSources s).length - (j + 1) < (sSources s).length - j; omega)
    dsimp only
    rw [List.take_succ_eq_append_getElem (by rw [List.length_map]; exact hlt'), List.map_append, List.getElem_map]
    rfl
  have hge' : (sSources s).length ≤ j := by simpa using hge
  rw [List.take_of_length_le (by rw [List.length_map]; exact hge')]
  refine CW.exit rfl ?_
  refine PW.code ?_
  refine Ja ?_;refine Jc ?_;refine Jd ?_;refine Jb ?_
  exact CW.ret1 rfl Tryz.results123 rfl rfl fun w hw => ⟨v, rfl, hw.take [0]⟩
set_option maxHeartbeats 4000000 in
theorem ref_totals_ret {s : kStat.V} {x : RC} {w : World} (hst : StatOn (mem w (fun b => ¬ No b)) s x) : RetC Tryz.prog 171 [.agg (x.stat s).toArray] w No (fun v : Value => v) (fun v => [ownHP 9 1 v (((sTotals s).map nameOf).map strE)]) := by
  have hsm := sl_small hst.totals
  unfold reach at hsm
  have hle : Mem.le (mem w (fun b => ¬ No b)) (mem w (fun b => ¬ No b)) := Mem.le_refl _
  refine Calls.enter Tryz.func171 rfl _ rfl rfl (S := No) (H := []) trivial ?_
  refine CW.seqR ?_
  refine RW.box_agg (l := x.stat s) rfl rfl fun b1 _ => ?_
  refine RW.add_ (ownHP 9 1 (.slice none 0 0) []) (fun w _ => .inl ⟨rfl, rfl⟩) ?_
  refine Jd ?_;refine Jb ?_;refine Ja ?_;refine Jd ?_;refine Jb ?_
  refine CW.seq ?_
  refine Ja ?_;refine Jd ?_;refine Jb ?_
  refine CW.block ?_
  refine CW.loop (ι := { q : Nat × Value // q.1 ≤ (sTotals s).length }) (fun q => [(1, ptrV b1), (3, q.1.2), (4, .int .i64 q.1.1)]) (fun q => [ownHP 9 1 q.1.2 ((((sTotals s).map nameOf).take q.1.1).map strE), blk b1 (x.stat s) 31]) (fun q => (sTotals s).length - q.1.1) ⟨(0, .slice none 0 0), Nat.zero_le _⟩ ⟨rfl, rfl, rfl, trivial⟩ (fun h => h) ?_
  intro ⟨⟨j, v⟩, hj⟩
  dsimp only at hj ⊢
  refine CW.seq ?_
  refine Ja ?_;refine Jc ?_;refine Je ?_;refine JB ?_;refine Jg ?_;refine Jk ?_;refine Jb ?_
  refine CW.ite rfl (fun hlt => ?_) (fun hge => ?_)
  · have hlt' : j < (sTotals s).length := by simpa using hlt
    obtain ⟨B1, O1, cs, hA, hl1, hr, hm⟩ := sl_get hst.totals (List.getElem?_eq_getElem hlt')
    obtain ⟨c2, rfl⟩ := rd_name hr
    refine CW.skip ?_
    refine PW.code ?_
    refine CW.seq ?_
    refine CW.block ?_
    refine CW.region ?_
    refine Jc ?_;refine Je ?_;refine JB ?_;refine Jc ?_
    refine RW.indexAddrE hA rfl rfl (by omega) hlt rfl ?_
    refine Je ?_
    refine RW.load_ro rfl hle (hm 0 _ rfl) rfl rfl ?_
    refine RW.buildSlice (e := 9) (c := [.string (nameOf (sTotals s)[j])]) rfl (fun w => by kernel_rfl) rfl fun b19 _ => ?_
    refine RW.append [_] (e := 9) (sz := 1) (news := [[.string (nameOf (sTotals s)[j])]]) (zc := [.string ByteArray.empty]) rfl rfl rfl rfl rfl (by simp) (by simp [Value.oneCell']) (fun w hw hn => ?_) ?_ ?_ rfl fun v' => ?_
    · exact ⟨b19, 0, rfl, CellsAt.of_blk (St.blk (pre := []) hw)⟩
    · simp only [List.length_map, List.length_take]; omega
    · simp only [List.length_map, List.length_take]; unfold maxN; omega
    dsimp only [List.cons_append, List.nil_append]
    refine Jd ?_;refine RW.nil (PW.code ?_)
    refine CW.region ?_
    refine Jc ?_
    refine RW.add rfl rfl (w64 (by omega) (by omega)) rfl ?_
    refine Jd ?_
    refine RW.nil ?_
    refine PW.againT ⟨(j + 1, v'), hlt'⟩ [1, 2] ⟨rfl, rfl, rfl, trivial⟩ ?_ (by show (sTotals s).length - (j + 1) < (sTotals s).length - j; omega)
    dsimp only
    rw [List.take_succ_eq_append_getElem (by rw [List.length_map]; exact hlt'), List.map_append, List.getElem_map]
    rfl
  have hge' : (sTotals s).length ≤ j := by simpa using hge
  rw [List.take_of_length_le (by rw [List.length_map]; exact hge')]
  refine CW.exit rfl ?_
  refine PW.code ?_
  refine Ja ?_;refine Jc ?_;refine Jd ?_;refine Jb ?_
  exact CW.ret1 rfl Tryz.results171 rfl rfl fun w hw => ⟨v, rfl, hw.take [0]⟩
end Go.Proofs.YtkfmlekomfnleaaGreat
/- The document's small functions: IsName, IsVar, May, day, has, sameNames, named. Conditions: none. -/
set_option linter.unusedVariables false
set_option linter.unusedSimpArgs false
set_option maxRecDepth 10000
namespace Go.Proofs.YtkfmlekomfnleaaGreat
open Go Go.RowKit Go.MapKept

attribute [local irreducible] RW CW
theorem r7_small_ret {c : Nat} {w : World} : Ret Tryz.prog 194 [.int .u8 c] w (.bool (smallD c)) := by
  refine Calls.enter Tryz.func194 rfl _ rfl rfl (S := No) (H := []) trivial ?_
  refine Ja ?_;refine Jd ?_;refine Jb ?_;refine Ja ?_;refine Jc ?_;refine Jn ?_;refine Jc ?_
  refine RW.splitD 5 rfl (fun h => ?_) (fun h => ?_)
  · refine Jy ?_;refine Jc ?_;refine Jy ?_;refine Jl ?_;refine Jv ?_;refine Jd ?_;refine Jb ?_
    refine CW.ret1 rfl Tryz.results194 rfl rfl fun w hw => ⟨?_, hw.kp⟩
    unfold smallD
    rw [decide_eq_true (show 97 ≤ c by omega), Bool.true_and, show decide ((c : Int) ≤ 122) = decide (c ≤ 122) from decide_eq_decide.2 (by omega)]
  · refine Jz ?_;refine Jz ?_;refine Jw ?_;refine Jd ?_;refine Jb ?_
    refine CW.ret1 rfl Tryz.results194 rfl rfl fun w hw => ⟨?_, hw.kp⟩
    unfold smallD
    rw [decide_eq_false (show ¬ 97 ≤ c by omega), Bool.false_and]
theorem r7_capital_ret {c : Nat} {w : World} : Ret Tryz.prog 176 [.int .u8 c] w (.bool (bigD c)) := by
  refine Calls.enter Tryz.func176 rfl _ rfl rfl (S := No) (H := []) trivial ?_
  refine Ja ?_;refine Jd ?_;refine Jb ?_;refine Ja ?_;refine Jc ?_;refine Jn ?_;refine Jc ?_
  refine RW.splitD 5 rfl (fun h => ?_) (fun h => ?_)
  · refine Jy ?_;refine Jc ?_;refine Jy ?_;refine Jl ?_;refine Jv ?_;refine Jd ?_;refine Jb ?_
    refine CW.ret1 rfl Tryz.results176 rfl rfl fun w hw => ⟨?_, hw.kp⟩
    unfold bigD
    rw [decide_eq_true (show 65 ≤ c by omega), Bool.true_and, show decide ((c : Int) ≤ 90) = decide (c ≤ 90) from decide_eq_decide.2 (by omega)]
  · refine Jz ?_;refine Jz ?_;refine Jw ?_;refine Jd ?_;refine Jb ?_
    refine CW.ret1 rfl Tryz.results176 rfl rfl fun w hw => ⟨?_, hw.kp⟩
    unfold bigD
    rw [decide_eq_false (show ¬ 65 ≤ c by omega), Bool.false_and]
def mayD (v : Int) : Bool := decide (-1000000000000000 ≤ v) && decide (v ≤ 1000000000000000)
theorem ref_May_ret {v : Int} {w : World} : Ret Tryz.prog 169 [.int .i64 v] w (.bool (mayD v)) := by
  refine Calls.enter Tryz.func169 rfl _ rfl rfl (S := No) (H := []) trivial ?_
  refine Ja ?_;refine Jd ?_;refine Jb ?_;refine Ja ?_;refine Jc ?_;refine Jn ?_;refine Jc ?_
  refine RW.splitD 5 rfl (fun h => ?_) (fun h => ?_)
  · refine Jy ?_;refine Jc ?_;refine Jy ?_;refine Jl ?_;refine Jv ?_;refine Jd ?_;refine Jb ?_
    refine CW.ret1 rfl Tryz.results169 rfl rfl fun w hw => ⟨?_, hw.kp⟩
    unfold mayD
    rw [decide_eq_true (show -1000000000000000 ≤ v from h), Bool.true_and]
  · refine Jz ?_;refine Jz ?_;refine Jw ?_;refine Jd ?_;refine Jb ?_
    refine CW.ret1 rfl Tryz.results169 rfl rfl fun w hw => ⟨?_, hw.kp⟩
    unfold mayD
    rw [decide_eq_false (show ¬ -1000000000000000 ≤ v from h), Bool.false_and]
theorem ref_day_ret {v : Int} {w : World} : Ret Tryz.prog 128 [.int .i64 v] w (.bool (dayD v)) := by
  refine Calls.enter Tryz.func128 rfl _ rfl rfl (S := No) (H := []) trivial ?_
  refine Ja ?_;refine Jd ?_;refine Jb ?_;refine Ja ?_;refine Jc ?_;refine Jn ?_;refine Jc ?_
  refine RW.splitD 5 rfl (fun h => ?_) (fun h => ?_)
  · refine Jy ?_;refine Jc ?_;refine Jy ?_;refine Jl ?_;refine Jv ?_;refine Jd ?_;refine Jb ?_
    refine CW.ret1 rfl Tryz.results128 rfl rfl fun w hw => ⟨?_, hw.kp⟩
    unfold dayD
    rw [decide_eq_true (show 1 ≤ v from h), Bool.true_and]
  · refine Jz ?_;refine Jz ?_;refine Jw ?_;refine Jd ?_;refine Jb ?_
    refine CW.ret1 rfl Tryz.results128 rfl rfl fun w hw => ⟨?_, hw.kp⟩
    unfold dayD
    rw [decide_eq_false (show ¬ 1 ≤ v from h), Bool.false_and]
theorem r7_rest_ret {c : Nat} {w : World} : Ret Tryz.prog 177 [.int .u8 c] w (.bool (smallD c || restD c)) := by
  have fin : ∀ b : Bool, (decide (48 ≤ c) && decide (c ≤ 57)) = b → restD c = (b || decide ((c : Int) = 95)) := fun b h => by
    unfold restD; rw [h]; congr 1; simp; omega
  refine Calls.enter Tryz.func177 rfl _ rfl rfl (S := No) (H := []) trivial ?_
  refine Ja ?_;refine Jd ?_;refine Jb ?_;refine Ja ?_;refine Jc ?_
  refine RW.call Tryz.call194 rfl (fun w2 hw => r7_small_ret) rfl ?_
  refine Jc ?_
  cases hs : smallD c with
  | true =>
    refine Jz ?_;refine Jz ?_;refine Jz ?_;refine Jz ?_;refine Jz ?_;refine Jz ?_;refine Jv ?_;refine Jc ?_;refine Jz ?_;refine Jz ?_;refine Jv ?_;refine Jd ?_;refine Jb ?_
    exact CW.ret1 rfl Tryz.results177 rfl rfl fun w hw => ⟨rfl, hw.kp⟩
  | false =>
    refine Jy ?_;refine Jc ?_;refine Jy ?_;refine Jn ?_;refine Jy ?_;refine Jc ?_
    refine RW.splitD 8 rfl (fun h => ?_) (fun h => ?_)
    · refine Jy ?_;refine Jc ?_;refine Jy ?_;refine Jl ?_;refine Jy ?_;refine Jv ?_;refine Jw ?_;refine Jc ?_
      refine RW.splitD 13 rfl (fun h2 => ?_) (fun h2 => ?_)
      · refine Jz ?_;refine Jz ?_;refine Jv ?_;refine Jd ?_;refine Jb ?_
        refine CW.ret1 rfl Tryz.results177 rfl rfl fun w hw => ⟨?_, hw.kp⟩
        rw [fin true (by simp; omega)]; rfl
      · refine Jy ?_;refine Jc ?_;refine Jy ?_;refine Ji ?_;refine Jw ?_;refine Jd ?_;refine Jb ?_
        refine CW.ret1 rfl Tryz.results177 rfl rfl fun w hw => ⟨?_, hw.kp⟩
        rw [fin false (by simp; omega)]; rfl
    · refine Jz ?_;refine Jz ?_;refine Jy ?_;refine Jw ?_;refine Jw ?_;refine Jc ?_;refine Jy ?_;refine Jc ?_;refine Jy ?_;refine Ji ?_;refine Jw ?_;refine Jd ?_;refine Jb ?_
      refine CW.ret1 rfl Tryz.results177 rfl rfl fun w hw => ⟨?_, hw.kp⟩
      rw [fin false (by simp; omega)]; rfl
/-- The bytes behind the first. -/
theorem any_tail {p : Nat → Bool} {s : ByteArray} {c : UInt8} (h0 : s[0]? = some c) (hp : p c.toNat = false) {k : Nat} (h : ∀ i, 1 ≤ i → i < s.size → ∀ (hi : i < s.size), p s[i].toNat = false) : anyB p s = false := by
  cases ha : anyB p s with
  | false => rfl
  | true =>
    obtain ⟨i, hi, hq⟩ := anyB_iff.1 ha
    rcases Nat.eq_zero_or_pos i with rfl | hpos
    · have : s[0]? = some s[0] := getElem?_pos s 0 hi
      rw [h0] at this
      cases this
      rw [hp] at hq; cases hq
    · rw [h i hpos hi hi] at hq; cases hq
theorem any_at {p : Nat → Bool} {s : ByteArray} {i : Nat} (hi : i < s.size) (hp : p s[i].toNat = true) : anyB p s = true := anyB_iff.2 ⟨i, hi, hp⟩
theorem IsName_no {c : Nat} : noName c = !(smallD c || restD c) := by
  rw [Bool.eq_iff_iff]
  simp only [noName, smallD, bigD, restD, Bool.or_eq_true, Bool.and_eq_true, Bool.not_eq_true', Bool.or_eq_false_iff, Bool.and_eq_false_iff, decide_eq_true_eq, decide_eq_false_iff_not]
  omega
set_option maxHeartbeats 4000000 in
theorem r7_IsName_ret {s : ByteArray} {w : World} : Ret Tryz.prog 181 [.string s] w (.bool (isNameD s)) := by
  unfold isNameD
  refine Calls.enter Tryz.func181 rfl _ rfl rfl (S := No) (H := []) trivial ?_
  refine Ja ?_;refine Jd ?_;refine Jb ?_
  refine CW.seq ?_
  refine Ja ?_;refine Jc ?_;refine Jo ?_;refine Jc ?_
  refine RW.splitD 6 rfl (fun h => ?_) (fun h => ?_)
  · refine Jz ?_;refine Jz ?_;refine Jz ?_;refine Jv ?_;refine Jc ?_;refine Jz ?_;refine Jz ?_;refine Jz ?_;refine Jz ?_;refine Jv ?_;refine Jb ?_
    refine CW.ct rfl ?_
    refine Ja ?_;refine Jd ?_;refine Jb ?_
    refine CW.ret1 rfl Tryz.results181 rfl rfl fun w hw => ⟨?_, hw.kp⟩
    rw [show s = ByteArray.empty from h]; rfl
  obtain ⟨h0, h1⟩ := bytes_empty h
  rw [headB_at h1]
  refine Jy ?_;refine Jc ?_;refine Jy ?_;refine Jh ?_;refine Jy ?_;refine Jm ?_;refine Jw ?_;refine Jc ?_
  refine RW.splitD 11 rfl (fun h2 => ?_) (fun h2 => ?_)
  · refine Jz ?_;refine Jz ?_;refine Jz ?_;refine Jz ?_;refine Jv ?_;refine Jb ?_
    refine CW.ct rfl ?_
    refine Ja ?_;refine Jd ?_;refine Jb ?_
    refine CW.ret1 rfl Tryz.results181 rfl rfl fun w hw => ⟨?_, hw.kp⟩
    rw [decide_eq_false (show ¬ s.size ≤ 32 by omega), Bool.and_false, Bool.false_and]
  have hsz : s.size ≤ 32 := by omega
  rw [decide_eq_true hsz, Bool.and_true]
  refine Jy ?_;refine Jc ?_;refine Jy ?_
  refine RW.indexS rfl rfl rfl h1 rfl ?_
  refine Jy ?_
  refine RW.call Tryz.call194 rfl (fun w2 hw => r7_small_ret) rfl ?_
  refine Jy ?_;refine Js ?_;refine Jw ?_;refine Jb ?_
  refine CW.cond rfl (fun h3 => ?_) (fun h3 => ?_)
  · refine Ja ?_;refine Jd ?_;refine Jb ?_
    refine CW.ret1 rfl Tryz.results181 rfl rfl fun w hw => ⟨?_, hw.kp⟩
    simp only [Bool.not_eq_true'] at h3
    rw [h3, Bool.false_and]
  simp only [Bool.not_eq_false'] at h3
  rw [h3, Bool.true_and]
  have hp0 : noName s[0].toNat = false := by rw [IsName_no, h3, Bool.true_or]; rfl
  refine CW.skip ?_
  refine PW.code ?_
  refine CW.seq ?_
  refine Ja ?_;refine Jd ?_;refine Jb ?_
  refine CW.block ?_
  refine CW.loop (ι := { k : Nat // 1 ≤ k ∧ k ≤ s.size ∧ ∀ i, 1 ≤ i → i < k → ∀ (hi : i < s.size), noName s[i].toNat = false }) (fun k => [(0, .string s), (3, .int .i64 k.1)]) (fun _ => []) (fun k => s.size - k.1) ⟨1, Nat.le_refl _, h0, fun i h1 h2 => absurd h2 (by omega)⟩ ⟨rfl, rfl, trivial⟩ (fun h => h) ?_
  intro ⟨k, hk1, hk, hS⟩
  dsimp only at hk hk1 hS ⊢
  refine CW.seq ?_
  refine Ja ?_;refine Jc ?_;refine Jc ?_;refine Jh ?_;refine Jk ?_;refine Jb ?_
  refine CW.ite rfl (fun hlt => ?_) (fun hge => ?_)
  · have hlt' : k < s.size := by omega
    refine CW.skip ?_
    refine PW.code ?_
    refine CW.seq ?_
    refine CW.block ?_
    refine CW.seqR ?_
    refine Jc ?_;refine Jc ?_
    refine RW.indexS rfl rfl rfl (getElem?_pos s k hlt') rfl ?_
    skip
    refine RW.call Tryz.call177 rfl (fun w2 hw => r7_rest_ret) rfl ?_
    refine Js ?_;refine Jb ?_
    have bad : (!(smallD s[k].toNat || restD s[k].toNat)) = true → anyB noName s = true := fun h => any_at hlt' (by rw [IsName_no]; exact h)
    have good : (!(smallD s[k].toNat || restD s[k].toNat)) = false → noName s[k].toNat = false := fun h => by rw [IsName_no]; exact h
    refine CW.cond rfl (fun h4 => ?_) (fun h4 => ?_)
    · refine Ja ?_;refine Jd ?_;refine Jb ?_
      refine CW.ret1 rfl Tryz.results181 rfl rfl fun w hw => ⟨?_, hw.kp⟩
      rw [bad h4]; rfl
    refine CW.skip ?_
    refine PW.code ?_
    refine CW.region ?_
    refine Jc ?_
    refine RW.add rfl rfl (w64 (by omega) (by omega)) rfl ?_
    refine Jd ?_
    refine RW.nil ?_
    exact PW.again ⟨k + 1, by omega, hlt', fun i h2 h3 hi => by
      rcases Nat.lt_or_ge i k with h5 | h5
      · exact hS i h2 h5 hi
      · obtain rfl : i = k := by omega
        exact good h4⟩ ⟨rfl, rfl, trivial⟩ (fun h => h) (by show s.size - (k + 1) < s.size - k; omega)
  have hge' : s.size ≤ k := by omega
  refine CW.exit rfl ?_
  refine PW.code ?_
  refine Ja ?_;refine Jd ?_;refine Jb ?_
  refine CW.ret1 rfl Tryz.results181 rfl rfl fun w hw => ⟨?_, hw.kp⟩
  rw [any_tail (k := k) h1 hp0 fun i h2 h3 hi => hS i h2 (by omega) hi]
  rfl
theorem r8_IsName_ret {s : ByteArray} {w : World} : Ret Tryz.prog 136 [.string s] w (.bool (isNameD s)) := by
  refine Calls.enter Tryz.func136 rfl _ rfl rfl (S := No) (H := []) trivial ?_
  refine Ja ?_;refine Jd ?_;refine Jb ?_;refine Ja ?_;refine Jc ?_
  refine RW.call Tryz.call181 rfl (fun w2 hw => r7_IsName_ret) rfl ?_
  refine Jd ?_;refine Jb ?_
  exact CW.ret1 rfl Tryz.results136 rfl rfl fun w hw => ⟨rfl, hw.kp⟩
theorem IsVar_no {c : Nat} : noVar c = !((smallD c || restD c) || bigD c) := by
  rw [Bool.eq_iff_iff]
  simp only [noVar, smallD, bigD, restD, Bool.or_eq_true, Bool.and_eq_true, Bool.not_eq_true', Bool.or_eq_false_iff, Bool.and_eq_false_iff, decide_eq_true_eq, decide_eq_false_iff_not]
  omega
set_option maxHeartbeats 4000000 in
theorem r7_IsVar_ret {s : ByteArray} {w : World} : Ret Tryz.prog 130 [.string s] w (.bool (isVarD s)) := by
  unfold isVarD
  refine Calls.enter Tryz.func130 rfl _ rfl rfl (S := No) (H := []) trivial ?_
  refine Ja ?_;refine Jd ?_;refine Jb ?_
  refine CW.seq ?_
  refine Ja ?_;refine Jc ?_;refine Jo ?_;refine Jc ?_
  refine RW.splitD 6 rfl (fun h => ?_) (fun h => ?_)
  · refine Jz ?_;refine Jz ?_;refine Jz ?_;refine Jv ?_;refine Jc ?_;refine Jz ?_;refine Jz ?_;refine Jz ?_;refine Jz ?_;refine Jv ?_;refine Jb ?_
    refine CW.ct rfl ?_
    refine Ja ?_;refine Jd ?_;refine Jb ?_
    refine CW.ret1 rfl Tryz.results130 rfl rfl fun w hw => ⟨?_, hw.kp⟩
    rw [show s = ByteArray.empty from h]; rfl
  obtain ⟨h0, h1⟩ := bytes_empty h
  rw [headB_at h1]
  refine Jy ?_;refine Jc ?_;refine Jy ?_;refine Jh ?_;refine Jy ?_;refine Jm ?_;refine Jw ?_;refine Jc ?_
  refine RW.splitD 11 rfl (fun h2 => ?_) (fun h2 => ?_)
  · refine Jz ?_;refine Jz ?_;refine Jz ?_;refine Jz ?_;refine Jv ?_;refine Jb ?_
    refine CW.ct rfl ?_
    refine Ja ?_;refine Jd ?_;refine Jb ?_
    refine CW.ret1 rfl Tryz.results130 rfl rfl fun w hw => ⟨?_, hw.kp⟩
    rw [decide_eq_false (show ¬ s.size ≤ 32 by omega), Bool.and_false, Bool.false_and]
  have hsz : s.size ≤ 32 := by omega
  rw [decide_eq_true hsz, Bool.and_true]
  refine Jy ?_;refine Jc ?_;refine Jy ?_
  refine RW.indexS rfl rfl rfl h1 rfl ?_
  refine Jy ?_
  refine RW.call Tryz.call176 rfl (fun w2 hw => r7_capital_ret) rfl ?_
  refine Jy ?_;refine Js ?_;refine Jw ?_;refine Jb ?_
  refine CW.cond rfl (fun h3 => ?_) (fun h3 => ?_)
  · refine Ja ?_;refine Jd ?_;refine Jb ?_
    refine CW.ret1 rfl Tryz.results130 rfl rfl fun w hw => ⟨?_, hw.kp⟩
    simp only [Bool.not_eq_true'] at h3
    rw [h3, Bool.false_and]
  simp only [Bool.not_eq_false'] at h3
  rw [h3, Bool.true_and]
  have hp0 : noVar s[0].toNat = false := by rw [IsVar_no, h3, Bool.or_true]; rfl
  refine CW.skip ?_
  refine PW.code ?_
  refine CW.seq ?_
  refine Ja ?_;refine Jd ?_;refine Jb ?_
  refine CW.block ?_
  refine CW.loop (ι := { k : Nat // 1 ≤ k ∧ k ≤ s.size ∧ ∀ i, 1 ≤ i → i < k → ∀ (hi : i < s.size), noVar s[i].toNat = false }) (fun k => [(0, .string s), (3, .int .i64 k.1)]) (fun _ => []) (fun k => s.size - k.1) ⟨1, Nat.le_refl _, h0, fun i h1 h2 => absurd h2 (by omega)⟩ ⟨rfl, rfl, trivial⟩ (fun h => h) ?_
  intro ⟨k, hk1, hk, hS⟩
  dsimp only at hk hk1 hS ⊢
  refine CW.seq ?_
  refine Ja ?_;refine Jc ?_;refine Jc ?_;refine Jh ?_;refine Jk ?_;refine Jb ?_
  refine CW.ite rfl (fun hlt => ?_) (fun hge => ?_)
  · have hlt' : k < s.size := by omega
    refine CW.skip ?_
    refine PW.code ?_
    refine CW.seq ?_
    refine CW.block ?_
    refine CW.seqR ?_
    refine Jc ?_;refine Jc ?_
    refine RW.indexS rfl rfl rfl (getElem?_pos s k hlt') rfl ?_
    skip
    refine RW.call Tryz.call177 rfl (fun w2 hw => r7_rest_ret) rfl ?_
    cases h4 : (smallD s[k].toNat || restD s[k].toNat) with
    | true =>
      refine Js ?_;refine Jc ?_;refine Jz ?_;refine Jz ?_;refine Jz ?_;refine Jz ?_;refine Jz ?_;refine Jw ?_;refine Jb ?_
      refine CW.cf rfl ?_
      refine CW.skip ?_
      refine PW.code ?_
      refine CW.region ?_
      refine Jc ?_
      refine RW.add rfl rfl (w64 (by omega) (by omega)) rfl ?_
      refine Jd ?_
      refine RW.nil ?_
      exact PW.again ⟨k + 1, by omega, hlt', fun i h2 h3 hi => by
        rcases Nat.lt_or_ge i k with h5 | h5
        · exact hS i h2 h5 hi
        · obtain rfl : i = k := by omega
          rw [IsVar_no, h4]; rfl⟩ ⟨rfl, rfl, trivial⟩ (fun h => h) (by show s.size - (k + 1) < s.size - k; omega)
    | false =>
      refine Js ?_;refine Jc ?_;refine Jy ?_;refine Jc ?_;refine Jy ?_;refine Jc ?_;refine Jy ?_
      refine RW.indexS rfl rfl rfl (getElem?_pos s k hlt') rfl ?_
      refine Jy ?_
      refine RW.call Tryz.call176 rfl (fun w2 hw => r7_capital_ret) rfl ?_
      refine Jy ?_;refine Js ?_;refine Jv ?_;refine Jb ?_
      refine CW.cond rfl (fun h5 => ?_) (fun h5 => ?_)
      · refine Ja ?_;refine Jd ?_;refine Jb ?_
        refine CW.ret1 rfl Tryz.results130 rfl rfl fun w hw => ⟨?_, hw.kp⟩
        rw [any_at (p := noVar) hlt' (by rw [IsVar_no, h4]; exact h5)]; rfl
      refine CW.skip ?_
      refine PW.code ?_
      refine CW.region ?_
      refine Jc ?_
      refine RW.add rfl rfl (w64 (by omega) (by omega)) rfl ?_
      refine Jd ?_
      refine RW.nil ?_
      exact PW.again ⟨k + 1, by omega, hlt', fun i h2 h3 hi => by
        rcases Nat.lt_or_ge i k with h6 | h6
        · exact hS i h2 h6 hi
        · obtain rfl : i = k := by omega
          rw [IsVar_no, h4]; exact h5⟩ ⟨rfl, rfl, trivial⟩ (fun h => h) (by show s.size - (k + 1) < s.size - k; omega)
  have hge' : s.size ≤ k := by omega
  refine CW.exit rfl ?_
  refine PW.code ?_
  refine Ja ?_;refine Jd ?_;refine Jb ?_
  refine CW.ret1 rfl Tryz.results130 rfl rfl fun w hw => ⟨?_, hw.kp⟩
  rw [any_tail (k := k) h1 hp0 fun i h2 h3 hi => hS i h2 (by omega) hi]
  rfl
theorem r8_IsVar_ret {s : ByteArray} {w : World} : Ret Tryz.prog 43 [.string s] w (.bool (isVarD s)) := by
  refine Calls.enter Tryz.func43 rfl _ rfl rfl (S := No) (H := []) trivial ?_
  refine Ja ?_;refine Jd ?_;refine Jb ?_;refine Ja ?_;refine Jc ?_
  refine RW.call Tryz.call130 rfl (fun w2 hw => r7_IsVar_ret) rfl ?_
  refine Jd ?_;refine Jb ?_
  exact CW.ret1 rfl Tryz.results43 rfl rfl fun w hw => ⟨rfl, hw.kp⟩
end Go.Proofs.YtkfmlekomfnleaaGreat
/- The document's checks of items without variables: has, sameNames, named, pred, class, total. Conditions: none. -/
set_option linter.unusedVariables false
set_option linter.unusedSimpArgs false
set_option maxRecDepth 10000
namespace Go.Proofs.YtkfmlekomfnleaaGreat
open Go Go.RowKit Go.MapKept

def NamesOK (l : List Str) : Prop := (∀ a ∈ l, a.size ≤ reach) ∧ l.length * 16 ≤ reach
theorem names_ok {M : Mem} {by_ : Nat} {b : K} {cs : List Value} {xs : List (K.pr .str b).V} (h : Rd (.sl by_ (.pr .str b)) M cs xs) (hb : 16 ≤ by_) : NamesOK (xs.map nameOf) := by
  refine ⟨sl_sizes h, ?_⟩
  rw [List.length_map]
  exact Nat.le_trans (Nat.mul_le_mul_left _ hb) (sl_small h)
abbrev mN (s : kStat.V) : List Str := (sMembers s).map nameOf
abbrev pN (s : kStat.V) : List Str := (sPreds s).map nameOf
abbrev uN (s : kStat.V) : List Str := (sSources s).map nameOf
abbrev rN (s : kStat.V) : List Str := (sRules s).map nameOf
abbrev tN (s : kStat.V) : List Str := (sTotals s).map nameOf
/-- The number of a name, or -1. -/
abbrev atN (l : List Str) (x : Str) : Int := (fst? l x).getD (-1)
theorem atN_neg {l : List Str} {x : Str} : atN l x < 0 ↔ fst? l x = none := by
  unfold atN
  cases h : fst? l x with
  | none => simp
  | some i => have := (fst?_some h).1; simp; omega
theorem atN_in {l : List Str} {x : Str} (h : ¬ atN l x < 0) : ∃ k : Nat, k < l.length ∧ atN l x = (k : Int) ∧ l[k]? = some x := by
  unfold atN at h ⊢
  cases hf : fst? l x with
  | none => rw [hf] at h; exact absurd (by decide) h
  | some i =>
    obtain ⟨h1, h2, h3⟩ := fst?_some hf
    exact ⟨i.toNat, by omega, by show i = _; omega, h3⟩
def rNm (l : List Str) (x : Str) (n : Nat) : Int := if isNameD x = true then (if atN l x < (n : Int) then 6 else 0) else 71
theorem take_small {M : Mem} {by_ : Nat} {t : K} {A : Option Addr} {c : Nat} {xs : List t.V} (h : Rd (.sl by_ t) M [.slice A xs.length c] xs) (k : Nat) (hk : k ≤ xs.length) : Rd (.sl by_ t) M [.slice A k c] (xs.take k) ∧ xs.length ≤ c := by
  obtain ⟨A', c', he, h2, h3, h4, h5⟩ := h
  have := (List.cons.inj he).1
  injection this with e1 _ e3
  subst e1; subst e3
  have hl : (xs.take k).length = k := by rw [List.length_take]; omega
  refine ⟨⟨A, c, by rw [hl], by rw [hl]; omega, h3, by rw [hl]; exact Nat.le_trans (Nat.mul_le_mul_right _ hk) h4, fun hne => ?_⟩, h2⟩
  have hne2 : xs ≠ [] := fun e => hne (by rw [e]; simp)
  obtain ⟨B, O, hA, hj⟩ := h5 hne2
  refine ⟨B, O, hA, fun j x hx => hj j x ?_⟩
  rw [List.getElem?_take] at hx
  split at hx
  · exact hx
  · cases hx
attribute [local irreducible] RW CW
theorem find_own {w0 w : World} {S : Nat → Prop} {v : Value} {l : List Str} {name : Str} {pre r : List HP} (h : St w0 S (pre ++ ownHP 9 1 v (l.map strE) :: r) w) (hn : NamesOK l) : Ret Tryz.prog 44 [v, .string name] w (.int .i64 (atN l name)) := by
  have g := rd_strs h.sep hn.1 hn.2
  obtain ⟨A, c, e1, _⟩ := own_shapeN h
  rw [List.length_map] at e1
  subst e1
  exact refFind_ret g
theorem named_ret {A : Option Addr} {c : Nat} {l : List Str} {n : Nat} {x : Str} {w : World} (h : Rd kStrs (mem w (fun b => ¬ No b)) [.slice A l.length c] l) (hx : l[n]? = some x) : Ret Tryz.prog 120 [.slice A l.length c, .int .i64 n] w (.int .i64 (rNm l x n)) := by
  have hle : Mem.le (mem w (fun b => ¬ No b)) (mem w (fun b => ¬ No b)) := Mem.le_refl _
  have hlt := (List.getElem?_eq_some_iff.1 hx).1
  obtain ⟨B1, O1, es1, hA, hl1, hr, hm⟩ := sl_get h hx
  obtain rfl := str_cell hr
  unfold rNm
  refine Calls.enter Tryz.func120 rfl _ rfl rfl (S := No) (H := []) trivial ?_
  refine Ja ?_;refine Jd ?_;refine Jb ?_
  refine CW.seq ?_
  refine Ja ?_;refine Jc ?_;refine Jc ?_
  refine RW.indexAddrE hA rfl rfl (by omega) (by omega) rfl ?_
  refine RW.load_ro rfl hle (hm 0 _ rfl) rfl rfl ?_
  skip
  refine RW.call Tryz.call136 rfl (fun w2 hw => r8_IsName_ret) rfl ?_
  refine Js ?_;refine Jb ?_
  cases hn : isNameD x with
  | false =>
    refine CW.ct rfl ?_
    refine Ja ?_;refine Jd ?_;refine Jb ?_
    exact CW.ret1 rfl Tryz.results120 rfl rfl fun w hw => ⟨rfl, hw.kp⟩
  | true =>
    refine CW.cf rfl ?_
    refine CW.skip ?_
    refine PW.code ?_
    refine CW.seq ?_
    refine Ja ?_;refine Jc ?_;refine Jc ?_;refine Jc ?_
    refine RW.indexAddrE hA rfl rfl (by omega) (by omega) rfl ?_
    refine RW.load_ro rfl hle (hm 0 _ rfl) rfl rfl ?_
    skip
    refine RW.call Tryz.call44 rfl (fun w2 hw => refFind_ret (h.mono (ro_call hw))) rfl ?_
    refine Jc ?_;refine Jk ?_;refine Jb ?_
    refine CW.ite rfl (fun h2 => ?_) (fun h2 => ?_)
    · refine Ja ?_;refine Jd ?_;refine Jb ?_
      exact CW.ret1 rfl Tryz.results120 rfl rfl fun w hw => ⟨by rw [if_pos rfl, if_pos h2], hw.kp⟩
    · refine CW.skip ?_
      refine PW.code ?_
      refine Ja ?_;refine Jd ?_;refine Jb ?_
      exact CW.ret1 rfl Tryz.results120 rfl rfl fun w hw => ⟨by rw [if_pos rfl, if_neg h2], hw.kp⟩
theorem named_own {w0 w : World} {S : Nat → Prop} {v : Value} {l : List Str} {n : Nat} {x : Str} {pre r : List HP} (h : St w0 S (pre ++ ownHP 9 1 v (l.map strE) :: r) w) (hn : NamesOK l) (hx : l[n]? = some x) : Ret Tryz.prog 120 [v, .int .i64 n] w (.int .i64 (rNm l x n)) := by
  have g := rd_strs h.sep hn.1 hn.2
  obtain ⟨A, c, e1, _⟩ := own_shapeN h
  rw [List.length_map] at e1
  subst e1
  exact named_ret g hx
def hasD (l : List Int) (v : Int) : Bool := l.any fun y => decide (y = v)
theorem ref_has_ret {A : Option Addr} {n c : Nat} {l : List Int} {v : Int} {w : World} (hn : n = l.length) (h : Rd kInts (mem w (fun b => ¬ No b)) [.slice A n c] l) : Ret Tryz.prog 138 [.slice A n c, .int .i64 v] w (.bool (hasD l v)) := by
  subst hn
  have hsm := sl_small h
  unfold reach at hsm
  have hle : Mem.le (mem w (fun b => ¬ No b)) (mem w (fun b => ¬ No b)) := Mem.le_refl _
  refine Calls.enter Tryz.func138 rfl _ rfl rfl (S := No) (H := []) trivial ?_
  refine Ja ?_;refine Jd ?_;refine Jb ?_
  refine CW.seq ?_
  refine Ja ?_;refine Jd ?_;refine Jb ?_
  refine CW.block ?_
  refine CW.loop (ι := { k : Nat // k ≤ l.length ∧ hasD l v = hasD (l.drop k) v }) (fun k => [(0, .slice A l.length c), (1, .int .i64 v), (5, .int .i64 k.1)]) (fun _ => []) (fun k => l.length - k.1) ⟨0, Nat.zero_le _, rfl⟩ ⟨rfl, rfl, rfl, trivial⟩ (fun h => h) ?_
  intro ⟨k, hk, hS⟩
  dsimp only at hk hS ⊢
  refine CW.seq ?_
  refine Ja ?_;refine Jc ?_;refine Jc ?_;refine Jg ?_;refine Jk ?_;refine Jb ?_
  refine CW.ite rfl (fun hlt => ?_) (fun hge => ?_)
  · have hlt' : k < l.length := by simpa using hlt
    obtain ⟨B1, O1, es1, hA, hl1, hr, hm⟩ := sl_get h (List.getElem?_eq_getElem hlt')
    obtain rfl := int_cell hr
    rw [List.drop_eq_getElem_cons hlt'] at hS
    refine CW.skip ?_
    refine PW.code ?_
    refine CW.seq ?_
    refine CW.block ?_
    refine Ja ?_;refine Jc ?_;refine Jc ?_
    refine RW.indexAddrE hA rfl rfl (by omega) hlt rfl ?_
    refine RW.load_ro rfl hle (hm 0 _ rfl) rfl rfl ?_
    refine Jc ?_;refine Ji ?_;refine Jb ?_
    refine CW.ite rfl (fun he => ?_) (fun he => ?_)
    · refine Ja ?_;refine Jd ?_;refine Jb ?_
      refine CW.ret1 rfl Tryz.results138 rfl rfl fun w hw => ⟨?_, hw.kp⟩
      rw [hS, hasD, List.any_cons, decide_eq_true he]
      rfl
    · refine CW.skip ?_
      refine PW.code ?_
      refine CW.region ?_
      refine Jc ?_
      refine RW.add rfl rfl (w64 (by omega) (by omega)) rfl ?_
      refine Jd ?_
      refine RW.nil ?_
      exact PW.again ⟨k + 1, hlt', by rw [hS, hasD, List.any_cons, decide_eq_false he]; rfl⟩ ⟨rfl, rfl, rfl, trivial⟩ (fun h => h) (by show l.length - (k + 1) < l.length - k; omega)
  have hge' : l.length ≤ k := by simpa using hge
  rw [List.drop_eq_nil_of_le hge'] at hS
  refine CW.exit rfl ?_
  refine PW.code ?_
  refine Ja ?_;refine Jd ?_;refine Jb ?_
  exact CW.ret1 rfl Tryz.results138 rfl rfl fun w hw => ⟨by rw [hS]; rfl, hw.kp⟩
theorem sameNames_ret {A B : Option Addr} {c d : Nat} {l m : List Str} {w : World} (h1 : Rd kStrs (mem w (fun b => ¬ No b)) [.slice A l.length c] l) (h2 : Rd kStrs (mem w (fun b => ¬ No b)) [.slice B m.length d] m) : Ret Tryz.prog 170 [.slice A l.length c, .slice B m.length d] w (.bool (decide (l = m))) := by
  have hsm := sl_small h1
  unfold reach at hsm
  have hle : Mem.le (mem w (fun b => ¬ No b)) (mem w (fun b => ¬ No b)) := Mem.le_refl _
  refine Calls.enter Tryz.func170 rfl _ rfl rfl (S := No) (H := []) trivial ?_
  refine Ja ?_;refine Jd ?_;refine Jb ?_
  refine CW.seq ?_
  refine Ja ?_;refine Jc ?_;refine Jg ?_;refine Jc ?_;refine Jg ?_;refine Jj ?_;refine Jb ?_
  refine CW.ite rfl (fun hne => ?_) (fun heq => ?_)
  · refine Ja ?_;refine Jd ?_;refine Jb ?_
    refine CW.ret1 rfl Tryz.results170 rfl rfl fun w hw => ⟨?_, hw.kp⟩
    rw [decide_eq_false (fun e => hne (by rw [e]))]
  have hlen : l.length = m.length := by omega
  refine CW.skip ?_
  refine PW.code ?_
  refine CW.seq ?_
  refine Ja ?_;refine Jd ?_;refine Jb ?_
  refine CW.block ?_
  refine CW.loop (ι := { k : Nat // k ≤ l.length ∧ l.take k = m.take k }) (fun k => [(0, .slice A l.length c), (1, .slice B m.length d), (5, .int .i64 k.1)]) (fun _ => []) (fun k => l.length - k.1) ⟨0, Nat.zero_le _, rfl⟩ ⟨rfl, rfl, rfl, trivial⟩ (fun h => h) ?_
  intro ⟨k, hk, hS⟩
  dsimp only at hk hS ⊢
  refine CW.seq ?_
  refine Ja ?_;refine Jc ?_;refine Jc ?_;refine Jg ?_;refine Jk ?_;refine Jb ?_
  refine CW.ite rfl (fun hlt => ?_) (fun hge => ?_)
  · have hlt' : k < l.length := by simpa using hlt
    have hltm : k < m.length := by omega
    obtain ⟨B1, O1, es1, hA, hl1, hr, hm⟩ := sl_get h1 (List.getElem?_eq_getElem hlt')
    obtain rfl := str_cell hr
    obtain ⟨B2, O2, es2, hB, hl2, hr2, hm2⟩ := sl_get h2 (List.getElem?_eq_getElem hltm)
    obtain rfl := str_cell hr2
    refine CW.skip ?_
    refine PW.code ?_
    refine CW.seq ?_
    refine CW.block ?_
    refine CW.seqA (by kernel_rfl) rfl ?_
    refine AW.val rfl (fun _ _ => by refine Jc ?_;exact RW.done rfl) ?_;refine AW.val rfl (fun _ _ => by refine Jc ?_;exact RW.done rfl) ?_
    (apply AW.val rfl; · intro Gx X; (first | refine RW.yes rfl ?_ | skip); refine RW.indexAddrE hA rfl rfl (by omega) hlt rfl ?_; exact RW.done rfl)
    (apply AW.val rfl; · intro Gx X; (first | refine RW.yes rfl ?_ | skip); refine RW.load_ro rfl hle (hm 0 _ rfl) rfl rfl ?_; exact RW.done rfl)
    refine AW.val rfl (fun _ _ => by refine Jc ?_;exact RW.done rfl) ?_;refine AW.val rfl (fun _ _ => by refine Jc ?_;exact RW.done rfl) ?_
    (apply AW.val rfl; · intro Gx X; (first | refine RW.yes rfl ?_ | skip); refine RW.indexAddrE hB rfl rfl (by omega) (by omega) rfl ?_; exact RW.done rfl)
    (apply AW.val rfl; · intro Gx X; (first | refine RW.yes rfl ?_ | skip); refine RW.load_ro rfl hle (hm2 0 _ rfl) rfl rfl ?_; exact RW.done rfl)
    refine AW.val rfl (fun _ _ => by refine Jp ?_;exact RW.done rfl) ?_
    refine AW.stop (by kernel_rfl) (by kernel_rfl) fun bs => ?_
    refine Jb ?_
    refine CW.ite rfl (fun hne => ?_) (fun he => ?_)
    · refine Ja ?_;refine Jd ?_;refine Jb ?_
      refine CW.ret1 rfl Tryz.results170 rfl rfl fun w hw => ⟨?_, hw.kp⟩
      rw [decide_eq_false (fun e => hne (by subst e; rfl))]
    have he := Decidable.of_not_not he
    refine CW.skip ?_
    refine PW.code ?_
    refine CW.region ?_
    refine Jc ?_
    refine RW.add rfl rfl (w64 (by omega) (by omega)) rfl ?_
    refine Jd ?_
    refine RW.nil ?_
    exact PW.again ⟨k + 1, hlt', by rw [List.take_succ_eq_append_getElem hlt', List.take_succ_eq_append_getElem hltm, hS, he]⟩ ⟨rfl, rfl, rfl, trivial⟩ (fun h => h) (by show l.length - (k + 1) < l.length - k; omega)
  have hge' : l.length ≤ k := by simpa using hge
  rw [List.take_of_length_le hge', List.take_of_length_le (by omega)] at hS
  refine CW.exit rfl ?_
  refine PW.code ?_
  refine Ja ?_;refine Jd ?_;refine Jb ?_
  exact CW.ret1 rfl Tryz.results170 rfl rfl fun w hw => ⟨by rw [decide_eq_true hS], hw.kp⟩
end Go.Proofs.YtkfmlekomfnleaaGreat
/- The document's pred, class, total. Conditions: none. -/
set_option linter.unusedVariables false
set_option linter.unusedSimpArgs false
set_option maxRecDepth 10000
namespace Go.Proofs.YtkfmlekomfnleaaGreat
open Go Go.RowKit Go.MapKept

/-- A number for a slice of one's own. -/
def encU (L n : Nat) : Value := if n = 0 then .slice none 0 0 else .slice (some ⟨(n - 1) / 9223372036854775808, 0, none⟩) L ((n - 1) % 9223372036854775808)
theorem enc_ownU {w0 w : World} {S : Nat → Prop} {pre r : List HP} {e : TypeId} {sz : Nat} {v : Value} {es : List (List Value)} (h : St w0 S (pre ++ ownHP e sz v es :: r) w) : ∃ n, v = encU es.length n := by
  rcases own_form h with ⟨h1, h2⟩ | ⟨B, c, h1, _, h3, _⟩
  · exact ⟨0, by rw [h1]; unfold encU; rw [if_pos rfl]⟩
  · obtain ⟨n, e1, e2⟩ := enc B c h3
    refine ⟨n + 1, ?_⟩
    unfold encU
    rw [if_neg (by omega), Nat.add_sub_cancel, h1, e1, e2]
def rKinds (s : kStat.V) (l : List Str) : Bool := l.all fun k => decide (¬ atN (sKinds s) k < 0)
theorem rKinds_cons {s : kStat.V} {x : Str} {l : List Str} : rKinds s (x :: l) = (decide (¬ atN (sKinds s) x < 0) && rKinds s l) := rfl
def rVals : List Int → List Int → Bool
  | _, [] => true
  | pre, v :: r => !(!mayD v || decide (v < 0) || hasD pre v) && rVals (pre ++ [v]) r
def rPred (s : kStat.V) (p : kPredT.V) (n : Nat) : Int :=
  if rNm (pN s) p.1 n = 0 then
    if p.2.1 < 1 then 84 else if 3 < p.2.1 then 84
    else if 4 < (p.2.2.1.length : Int) then 3 else if 64 < (p.2.2.2.length : Int) then 3
    else if rKinds s p.2.2.1 = true then
      if decide (p.2.1 = 3) = decide (0 < (p.2.2.2.length : Int)) then (if rVals [] p.2.2.2 = true then 0 else 85) else 85
    else 81
  else rNm (pN s) p.1 n
theorem pred_of {s : kStat.V} {x : Str} {k : Nat} (h : atN (pN s) x = (k : Int)) (hk : k < (sPreds s).length) : predAt s x = (sPreds s)[k] := by
  unfold predAt pIdx pGet
  rw [indexD_get]
  unfold atN at h
  cases hf : fst? (pN s) x with
  | none => rw [hf] at h; simp at h
  | some i =>
    rw [hf] at h
    simp only [Option.getD_some] at h
    subst h
    show ((sPreds s)[k]?).getD noPred = _
    rw [List.getElem?_eq_getElem hk]
    rfl
def rCls (s : kStat.V) (n : Nat) (l : List Str) : List Str → Nat → Int
  | [], _ => 0
  | x :: r, i =>
    if atN (pN s) x < 0 then 82 else if ¬ (predAt s x).2.1 = 1 then 84
    else if (predAt s x).2.2.1 = (predAt s (l[0]?.getD ByteArray.empty)).2.2.1 then
      if atN l x < (i : Int) then 6 else if ((sClasses s).take n).any (fun c => decide (0 ≤ atN c x)) = true then 6 else rCls s n l r (i + 1)
    else 87
def rClass (s : kStat.V) (n : Nat) (l : List Str) : Int :=
  if (l.length : Int) < 2 then 3 else if 16 < (l.length : Int) then 3 else rCls s n l l 0
def rTotL (s : kStat.V) (t : kTotal.V) : List Str → Nat → Int
  | [], _ => 0
  | x :: r, i =>
    if atN (pN s) x < 0 then 82 else if ¬ (predAt s x).2.1 = 3 then 84
    else if ¬ ((predAt s x).2.2.1.length : Int) = 1 then 83 else if ¬ ((predAt s x).2.2.1[0]?).getD ByteArray.empty = t.2.1 then 83
    else if atN t.2.2.1 x < (i : Int) then 6 else rTotL s t r (i + 1)
def rTotal (s : kStat.V) (t : kTotal.V) (n : Nat) : Int :=
  if rNm (tN s) t.1 n = 0 then
    if atN (sKinds s) t.2.1 < 0 then 81
    else if (t.2.2.1.length : Int) = 0 then 3 else if 16 < (t.2.2.1.length : Int) then 3
    else if rTotL s t t.2.2.1 0 = 0 then
      if (t.2.2.2.1 && (!mayD t.2.2.2.2 || decide (t.2.2.2.2 < 0))) = true then 22 else if (!t.2.2.2.1 && decide (¬ t.2.2.2.2 = 0)) = true then 1 else 0
    else rTotL s t t.2.2.1 0
  else rNm (tN s) t.1 n
attribute [local irreducible] RW CW
set_option maxHeartbeats 16000000 in
theorem ref_pred_ret {s : kStat.V} {x : RC} {n : Nat} {p : kPredT.V} {w : World} (hst : StatOn (mem w (fun b => ¬ No b)) s x) (hx : (sPreds s)[n]? = some p) : Ret Tryz.prog 121 [.agg (x.stat s).toArray, .int .i64 n] w (.int .i64 (rPred s p n)) := by
  have hle : Mem.le (mem w (fun b => ¬ No b)) (mem w (fun b => ¬ No b)) := Mem.le_refl _
  have hlt := (List.getElem?_eq_some_iff.1 hx).1
  have hsm := sl_small hst.preds
  unfold reach at hsm
  obtain ⟨B0, O0, cs0, hA, hl1, hr, hm⟩ := sl_get hst.preds hx
  have hnm := names_ok hst.preds (by decide)
  have hx' : (pN s)[n]? = some p.1 := by rw [List.getElem?_map, hx]; rfl
  obtain ⟨KA, kc, VA, vc, rfl, hks, hvs⟩ := Rd.predT hr
  have hk1 := sl_small hks
  have hv1 := sl_small hvs
  unfold reach at hk1 hv1
  unfold rPred
  refine Calls.enter Tryz.func121 rfl _ rfl rfl (S := No) (H := []) trivial ?_
  refine CW.seqR ?_
  refine RW.box_agg (l := x.stat s) rfl rfl fun b2 _ => ?_
  refine Jd ?_;refine Jb ?_;refine Ja ?_;refine JE ?_
  refine RW.callN Tryz.call55 rfl (fun w2 hw => ref_preds_ret (StatOn.mono hst (ro_call hw))) rfl fun v => ?_
  refine Jc ?_
  refine RW.call Tryz.call120 rfl (fun w2 hw => named_own (pre := []) hw hnm hx') rfl ?_
  refine RW.take [1] ?_
  refine Jd ?_;refine Jb ?_
  refine CW.seq ?_
  refine Ja ?_;refine Jc ?_;refine Jj ?_;refine Jb ?_
  refine CW.ite rfl (fun h1 => ?_) (fun h1 => ?_)
  · refine Ja ?_;refine Jc ?_;refine Jd ?_;refine Jb ?_
    exact CW.ret1 rfl Tryz.results121 rfl rfl fun w hw => ⟨by rw [if_neg h1], hw.kp⟩
  have h1 := Decidable.of_not_not h1
  rw [if_pos h1]
  refine CW.skip ?_
  refine PW.code ?_
  refine Ja ?_;refine Je ?_;refine JA ?_;refine Jc ?_
  refine RW.indexAddrE hA rfl rfl (by omega) (by omega) rfl ?_
  refine RW.load_ros (cs := [.string p.1, .int .i64 p.2.1, .slice KA p.2.2.1.length kc, .slice VA p.2.2.2.length vc]) rfl hle hm rfl rfl (by simp) rfl ?_
  refine RW.alloc (c := [.string ByteArray.empty, .int .i64 0, .slice none 0 0, .slice none 0 0]) rfl rfl fun b6 _ => ?_
  refine RW.store_whole [] rfl rfl (vs := [.string p.1, .int .i64 p.2.1, .slice KA p.2.2.1.length kc, .slice VA p.2.2.2.length vc]) rfl rfl rfl (by simp [Value.oneCell']) ?_
  refine Jb ?_
  refine CW.seq ?_
  refine Ja ?_;refine Je ?_;refine JA ?_;refine Jk ?_;refine Jc ?_
  refine RW.splitD 24 rfl (fun h2 => ?_) (fun h2 => ?_)
  · refine Jz ?_;refine Jz ?_;refine Jz ?_;refine Jv ?_;refine Jb ?_
    refine CW.ct rfl ?_
    refine Ja ?_;refine Jd ?_;refine Jb ?_
    exact CW.ret1 rfl Tryz.results121 rfl rfl fun w hw => ⟨by rw [if_pos h2], hw.kp⟩
  rw [if_neg h2]
  refine Jy ?_;refine Je ?_;refine Jy ?_;refine JA ?_;refine Jy ?_;refine Jm ?_;refine Jw ?_;refine Jb ?_
  refine CW.ite rfl (fun h3 => ?_) (fun h3 => ?_)
  · refine Ja ?_;refine Jd ?_;refine Jb ?_
    exact CW.ret1 rfl Tryz.results121 rfl rfl fun w hw => ⟨by rw [if_pos h3], hw.kp⟩
  rw [if_neg h3]
  refine CW.skip ?_
  refine PW.code ?_
  refine CW.seq ?_
  refine Ja ?_;refine Je ?_;refine JA ?_;refine Jg ?_;refine Jm ?_;refine Jc ?_
  refine RW.splitD 33 rfl (fun h4 => ?_) (fun h4 => ?_)
  · refine Jz ?_;refine Jz ?_;refine Jz ?_;refine Jz ?_;refine Jv ?_;refine Jb ?_
    refine CW.ct rfl ?_
    refine Ja ?_;refine Jd ?_;refine Jb ?_
    exact CW.ret1 rfl Tryz.results121 rfl rfl fun w hw => ⟨by rw [if_pos h4], hw.kp⟩
  rw [if_neg h4]
  refine Jy ?_;refine Je ?_;refine Jy ?_;refine JA ?_;refine Jy ?_;refine Jg ?_;refine Jy ?_;refine Jm ?_;refine Jw ?_;refine Jb ?_
  refine CW.ite rfl (fun h5 => ?_) (fun h5 => ?_)
  · refine Ja ?_;refine Jd ?_;refine Jb ?_
    exact CW.ret1 rfl Tryz.results121 rfl rfl fun w hw => ⟨by rw [if_pos h5], hw.kp⟩
  rw [if_neg h5]
  refine CW.skip ?_
  refine PW.code ?_
  refine CW.seq ?_
  refine Ja ?_;refine Jd ?_;refine Jb ?_
  refine CW.block ?_
  refine CW.loop (ι := { k : Nat // k ≤ p.2.2.1.length ∧ rKinds s p.2.2.1 = rKinds s (p.2.2.1.drop k) }) (fun k => [(2, ptrV b2), (6, ptrV b6), (1, .int .i64 n), (7, .int .i64 k.1)]) (fun _ => [blk b6 [.string p.1, .int .i64 p.2.1, .slice KA p.2.2.1.length kc, .slice VA p.2.2.2.length vc] 151, blk b2 (x.stat s) 31]) (fun k => p.2.2.1.length - k.1) ⟨0, Nat.zero_le _, rfl⟩ ⟨rfl, rfl, rfl, rfl, trivial⟩ (fun h => h) ?_
  intro ⟨k, hk, hS⟩
  dsimp only at hk hS ⊢
  refine CW.seq ?_
  refine Ja ?_;refine Jc ?_;refine Je ?_;refine JA ?_;refine Jg ?_;refine Jk ?_;refine Jb ?_
  refine CW.ite rfl (fun hltk => ?_) (fun hgek => ?_)
  · have hltk' : k < p.2.2.1.length := by simpa using hltk
    obtain ⟨B1, O1, es1, hA1, hl2, hr1, hm1⟩ := sl_get hks (List.getElem?_eq_getElem hltk')
    obtain rfl := str_cell hr1
    rw [List.drop_eq_getElem_cons hltk', rKinds_cons] at hS
    refine CW.skip ?_
    refine PW.code ?_
    refine CW.seq ?_
    refine CW.block ?_
    refine CW.seqA (by kernel_rfl) rfl ?_
    refine AW.val rfl (fun _ _ => by refine Je ?_;exact RW.done rfl) ?_;refine AW.val rfl (fun _ _ => by refine JB ?_;exact RW.done rfl) ?_;refine AW.val rfl (fun _ _ => by refine Je ?_;exact RW.done rfl) ?_;refine AW.val rfl (fun _ _ => by refine JA ?_;exact RW.done rfl) ?_;refine AW.val rfl (fun _ _ => by refine Jc ?_;exact RW.done rfl) ?_
    (apply AW.val rfl; · intro Gx X; (first | refine RW.yes rfl ?_ | skip); refine RW.indexAddrE hA1 rfl rfl (by omega) hltk rfl ?_; exact RW.done rfl)
    (apply AW.val rfl; · intro Gx X; (first | refine RW.yes rfl ?_ | skip); refine RW.load_ro rfl hle (hm1 0 _ rfl) rfl rfl ?_; exact RW.done rfl)
    (apply AW.val rfl; · intro Gx X; (first | refine RW.yes rfl ?_ | skip); refine RW.call Tryz.call44 rfl (fun w2 hw => refFind_ret (StatOn.mono hst (ro_call hw)).kinds) rfl ?_; exact RW.done rfl)
    refine AW.val rfl (fun _ _ => by refine Jk ?_;exact RW.done rfl) ?_
    refine AW.stop (by kernel_rfl) (by kernel_rfl) fun bs => ?_
    refine Jb ?_
    refine CW.ite rfl (fun he => ?_) (fun he => ?_)
    · refine Ja ?_;refine Jd ?_;refine Jb ?_
      refine CW.ret1 rfl Tryz.results121 rfl rfl fun w hw => ⟨?_, hw.kp⟩
      rw [hS, decide_eq_false (fun h => h he), Bool.false_and, if_neg (by simp)]
    · refine CW.skip ?_
      refine PW.code ?_
      refine CW.region ?_
      refine Jc ?_
      refine RW.add rfl rfl (w64 (by omega) (by omega)) rfl ?_
      refine Jd ?_
      refine RW.nil ?_
      exact PW.again ⟨k + 1, hltk', by rw [hS, decide_eq_true he]; rfl⟩ ⟨rfl, rfl, rfl, rfl, trivial⟩ (fun h => h) (by show p.2.2.1.length - (k + 1) < p.2.2.1.length - k; omega)
  have hgek' : p.2.2.1.length ≤ k := by simpa using hgek
  rw [List.drop_eq_nil_of_le hgek'] at hS
  rw [hS, if_pos (show rKinds s [] = true from rfl)]
  refine CW.exit rfl ?_
  refine PW.code ?_
  refine CW.seq ?_
  refine Ja ?_;refine Je ?_;refine JA ?_;refine Ji ?_;refine Je ?_;refine JA ?_;refine Jg ?_;refine Jm ?_;refine Jr ?_;refine Jb ?_
  refine CW.ite rfl (fun h6 => ?_) (fun h6 => ?_)
  · refine Ja ?_;refine Jd ?_;refine Jb ?_
    exact CW.ret1 rfl Tryz.results121 rfl rfl fun w hw => ⟨by rw [if_neg h6], hw.kp⟩
  have h6 := Decidable.of_not_not h6
  rw [if_pos h6]
  refine CW.skip ?_
  refine PW.code ?_
  refine CW.seq ?_
  refine Ja ?_;refine Jd ?_;refine Jb ?_
  refine CW.block ?_
  clear hS hk
  refine CW.loop (ι := { k : Nat // k ≤ p.2.2.2.length ∧ rVals [] p.2.2.2 = rVals (p.2.2.2.take k) (p.2.2.2.drop k) }) (fun k => [(2, ptrV b2), (6, ptrV b6), (1, .int .i64 n), (8, .int .i64 k.1)]) (fun _ => [blk b6 [.string p.1, .int .i64 p.2.1, .slice KA p.2.2.1.length kc, .slice VA p.2.2.2.length vc] 151, blk b2 (x.stat s) 31]) (fun k => p.2.2.2.length - k.1) ⟨0, Nat.zero_le _, rfl⟩ ⟨rfl, rfl, rfl, rfl, trivial⟩ (fun h => h) ?_
  intro ⟨i, hi, hS⟩
  dsimp only at hi hS ⊢
  refine CW.seq ?_
  refine Ja ?_;refine Jc ?_;refine Je ?_;refine JA ?_;refine Jg ?_;refine Jk ?_;refine Jb ?_
  refine CW.ite rfl (fun hlti => ?_) (fun hgei => ?_)
  · have hlti' : i < p.2.2.2.length := by simpa using hlti
    obtain ⟨B1, O1, es1, hA1, hl2, hr1, hm1⟩ := sl_get hvs (List.getElem?_eq_getElem hlti')
    obtain rfl := int_cell hr1
    obtain ⟨htk, htc⟩ := take_small hvs i hi
    rw [List.drop_eq_getElem_cons hlti', rVals] at hS
    have hts : p.2.2.2.take (i + 1) = p.2.2.2.take i ++ [p.2.2.2[i]] := List.take_succ_eq_append_getElem hlti'
    refine CW.skip ?_
    refine PW.code ?_
    refine CW.seq ?_
    refine CW.block ?_
    refine CW.seq ?_
    cases hmay : mayD p.2.2.2[i] with
    | false =>
      rw [hmay] at hS
      refine CW.anyV (by kernel_rfl) rfl ?_
      refine AW.val rfl (fun _ _ => by refine Je ?_;exact RW.done rfl) ?_;refine AW.val rfl (fun _ _ => by refine JA ?_;exact RW.done rfl) ?_;refine AW.val rfl (fun _ _ => by refine Jc ?_;exact RW.done rfl) ?_
      (apply AW.val rfl; · intro Gx X; (first | refine RW.yes rfl ?_ | skip); refine RW.indexAddrE hA1 rfl rfl (by omega) hlti rfl ?_; exact RW.done rfl)
      (apply AW.val rfl; · intro Gx X; (first | refine RW.yes rfl ?_ | skip); refine RW.load_ro rfl hle (hm1 0 _ rfl) rfl rfl ?_; exact RW.done rfl)
      (apply AW.val rfl; · intro Gx X; (first | refine RW.yes rfl ?_ | skip); refine RW.call Tryz.call169 rfl (fun w2 hw => hmay ▸ ref_May_ret) rfl ?_; exact RW.done rfl)
      refine AW.val rfl (fun _ _ => by refine Js ?_;exact RW.done rfl) ?_;refine AW.val rfl (fun _ _ => by refine Jc ?_;exact RW.done rfl) ?_;refine AW.val rfl (fun _ _ => by refine Jz ?_;exact RW.done rfl) ?_;refine AW.val rfl (fun _ _ => by refine Jz ?_;exact RW.done rfl) ?_;refine AW.val rfl (fun _ _ => by refine Jz ?_;exact RW.done rfl) ?_;refine AW.val rfl (fun _ _ => by refine Jz ?_;exact RW.done rfl) ?_;refine AW.val rfl (fun _ _ => by refine Jz ?_;exact RW.done rfl) ?_;refine AW.val rfl (fun _ _ => by refine Jz ?_;exact RW.done rfl) ?_;refine AW.val rfl (fun _ _ => by refine Jv ?_;exact RW.done rfl) ?_;refine AW.val rfl (fun _ _ => by refine Jc ?_;exact RW.done rfl) ?_;refine AW.val rfl (fun _ _ => by refine Jz ?_;exact RW.done rfl) ?_;refine AW.val rfl (fun _ _ => by refine Jz ?_;exact RW.done rfl) ?_;refine AW.val rfl (fun _ _ => by refine Jz ?_;exact RW.done rfl) ?_;refine AW.val rfl (fun _ _ => by refine Jz ?_;exact RW.done rfl) ?_;refine AW.val rfl (fun _ _ => by refine Jz ?_;exact RW.done rfl) ?_;refine AW.val rfl (fun _ _ => by refine Jz ?_;exact RW.done rfl) ?_;refine AW.val rfl (fun _ _ => by refine Jz ?_;exact RW.done rfl) ?_;refine AW.val rfl (fun _ _ => by refine Jz ?_;exact RW.done rfl) ?_;refine AW.val rfl (fun _ _ => by refine Jz ?_;exact RW.done rfl) ?_;refine AW.val rfl (fun _ _ => by refine Jz ?_;exact RW.done rfl) ?_;refine AW.val rfl (fun _ _ => by refine Jv ?_;exact RW.done rfl) ?_
      refine AW.stop (by kernel_rfl) (by kernel_rfl) fun bs => ?_
      refine Jb ?_
      refine CW.ct rfl ?_
      refine Ja ?_;refine Jd ?_;refine Jb ?_
      exact CW.ret1 rfl Tryz.results121 rfl rfl fun w hw => ⟨by rw [hS]; rfl, hw.kp⟩
    | true =>
      rw [hmay] at hS
      by_cases hneg : p.2.2.2[i] < 0
      · rw [decide_eq_true hneg] at hS
        refine CW.anyV (by kernel_rfl) rfl ?_
        refine AW.val rfl (fun _ _ => by refine Je ?_;exact RW.done rfl) ?_;refine AW.val rfl (fun _ _ => by refine JA ?_;exact RW.done rfl) ?_;refine AW.val rfl (fun _ _ => by refine Jc ?_;exact RW.done rfl) ?_
        (apply AW.val rfl; · intro Gx X; (first | refine RW.yes rfl ?_ | skip); refine RW.indexAddrE hA1 rfl rfl (by omega) hlti rfl ?_; exact RW.done rfl)
        (apply AW.val rfl; · intro Gx X; (first | refine RW.yes rfl ?_ | skip); refine RW.load_ro rfl hle (hm1 0 _ rfl) rfl rfl ?_; exact RW.done rfl)
        (apply AW.val rfl; · intro Gx X; (first | refine RW.yes rfl ?_ | skip); refine RW.call Tryz.call169 rfl (fun w2 hw => hmay ▸ ref_May_ret) rfl ?_; exact RW.done rfl)
        refine AW.val rfl (fun _ _ => by refine Js ?_;exact RW.done rfl) ?_;refine AW.val rfl (fun _ _ => by refine Jc ?_;exact RW.done rfl) ?_;refine AW.val rfl (fun _ _ => by refine RW.yes rfl ?_;refine Je ?_;exact RW.done rfl) ?_;refine AW.val rfl (fun _ _ => by refine RW.yes rfl ?_;refine JA ?_;exact RW.done rfl) ?_;refine AW.val rfl (fun _ _ => by refine RW.yes rfl ?_;refine Jc ?_;exact RW.done rfl) ?_
        (apply AW.val rfl; · intro Gx X; (first | refine RW.yes rfl ?_ | skip); refine RW.indexAddrE hA1 rfl rfl (by omega) hlti rfl ?_; exact RW.done rfl)
        (apply AW.val rfl; · intro Gx X; (first | refine RW.yes rfl ?_ | skip); refine RW.load_ro rfl hle (hm1 0 _ rfl) rfl rfl ?_; exact RW.done rfl)
        (apply AW.val rfl; · intro Gx X; (first | refine RW.yes rfl ?_ | skip); refine RW.lss rfl rfl rfl ?_; exact RW.done_eq (v := .bool true) rfl (by rw [decide_eq_true hneg]))
        refine AW.val rfl (fun _ _ => by refine Jw ?_;exact RW.done rfl) ?_;refine AW.val rfl (fun _ _ => by refine Jc ?_;exact RW.done rfl) ?_;refine AW.val rfl (fun _ _ => by refine Jz ?_;exact RW.done rfl) ?_;refine AW.val rfl (fun _ _ => by refine Jz ?_;exact RW.done rfl) ?_;refine AW.val rfl (fun _ _ => by refine Jz ?_;exact RW.done rfl) ?_;refine AW.val rfl (fun _ _ => by refine Jz ?_;exact RW.done rfl) ?_;refine AW.val rfl (fun _ _ => by refine Jz ?_;exact RW.done rfl) ?_;refine AW.val rfl (fun _ _ => by refine Jz ?_;exact RW.done rfl) ?_;refine AW.val rfl (fun _ _ => by refine Jz ?_;exact RW.done rfl) ?_;refine AW.val rfl (fun _ _ => by refine Jz ?_;exact RW.done rfl) ?_;refine AW.val rfl (fun _ _ => by refine Jz ?_;exact RW.done rfl) ?_;refine AW.val rfl (fun _ _ => by refine Jz ?_;exact RW.done rfl) ?_;refine AW.val rfl (fun _ _ => by refine Jv ?_;exact RW.done rfl) ?_
        refine AW.stop (by kernel_rfl) (by kernel_rfl) fun bs => ?_
        refine Jb ?_
        refine CW.ct rfl ?_
        refine Ja ?_;refine Jd ?_;refine Jb ?_
        exact CW.ret1 rfl Tryz.results121 rfl rfl fun w hw => ⟨by rw [hS]; rfl, hw.kp⟩
      · rw [decide_eq_false hneg] at hS
        refine CW.anyV (by kernel_rfl) rfl ?_
        refine AW.val rfl (fun _ _ => by refine Je ?_;exact RW.done rfl) ?_;refine AW.val rfl (fun _ _ => by refine JA ?_;exact RW.done rfl) ?_;refine AW.val rfl (fun _ _ => by refine Jc ?_;exact RW.done rfl) ?_
        (apply AW.val rfl; · intro Gx X; (first | refine RW.yes rfl ?_ | skip); refine RW.indexAddrE hA1 rfl rfl (by omega) hlti rfl ?_; exact RW.done rfl)
        (apply AW.val rfl; · intro Gx X; (first | refine RW.yes rfl ?_ | skip); refine RW.load_ro rfl hle (hm1 0 _ rfl) rfl rfl ?_; exact RW.done rfl)
        (apply AW.val rfl; · intro Gx X; (first | refine RW.yes rfl ?_ | skip); refine RW.call Tryz.call169 rfl (fun w2 hw => hmay ▸ ref_May_ret) rfl ?_; exact RW.done rfl)
        refine AW.val rfl (fun _ _ => by refine Js ?_;exact RW.done rfl) ?_;refine AW.val rfl (fun _ _ => by refine Jc ?_;exact RW.done rfl) ?_;refine AW.val rfl (fun _ _ => by refine RW.yes rfl ?_;refine Je ?_;exact RW.done rfl) ?_;refine AW.val rfl (fun _ _ => by refine RW.yes rfl ?_;refine JA ?_;exact RW.done rfl) ?_;refine AW.val rfl (fun _ _ => by refine RW.yes rfl ?_;refine Jc ?_;exact RW.done rfl) ?_
        (apply AW.val rfl; · intro Gx X; (first | refine RW.yes rfl ?_ | skip); refine RW.indexAddrE hA1 rfl rfl (by omega) hlti rfl ?_; exact RW.done rfl)
        (apply AW.val rfl; · intro Gx X; (first | refine RW.yes rfl ?_ | skip); refine RW.load_ro rfl hle (hm1 0 _ rfl) rfl rfl ?_; exact RW.done rfl)
        (apply AW.val rfl; · intro Gx X; (first | refine RW.yes rfl ?_ | skip); refine RW.lss rfl rfl rfl ?_; exact RW.done_eq (v := .bool false) rfl (by rw [decide_eq_false hneg]))
        refine AW.val rfl (fun _ _ => by refine Jw ?_;exact RW.done rfl) ?_;refine AW.val rfl (fun _ _ => by refine Jc ?_;exact RW.done rfl) ?_;refine AW.val rfl (fun _ _ => by refine RW.yes rfl ?_;refine Je ?_;exact RW.done rfl) ?_;refine AW.val rfl (fun _ _ => by refine RW.yes rfl ?_;refine JA ?_;exact RW.done rfl) ?_;refine AW.val rfl (fun _ _ => by refine RW.yes rfl ?_;refine Jc ?_;exact RW.done rfl) ?_
        (apply AW.val rfl; · intro Gx X; (first | refine RW.yes rfl ?_ | skip); refine RW.slice_h rfl rfl (by omega) (by omega) rfl ?_; exact RW.done rfl)
        refine AW.val rfl (fun _ _ => by refine RW.yes rfl ?_;refine Je ?_;exact RW.done rfl) ?_;refine AW.val rfl (fun _ _ => by refine RW.yes rfl ?_;refine JA ?_;exact RW.done rfl) ?_;refine AW.val rfl (fun _ _ => by refine RW.yes rfl ?_;refine Jc ?_;exact RW.done rfl) ?_
        (apply AW.val rfl; · intro Gx X; (first | refine RW.yes rfl ?_ | skip); refine RW.indexAddrE hA1 rfl rfl (by omega) hlti rfl ?_; exact RW.done rfl)
        (apply AW.val rfl; · intro Gx X; (first | refine RW.yes rfl ?_ | skip); refine RW.load_ro rfl hle (hm1 0 _ rfl) rfl rfl ?_; exact RW.done rfl)
        (apply AW.val rfl; · intro Gx X; (first | refine RW.yes rfl ?_ | skip); refine RW.call Tryz.call138 rfl (fun w2 hw => ref_has_ret (by simp; omega) (htk.mono (ro_call hw))) rfl ?_; exact RW.done rfl)
        refine AW.val rfl (fun _ _ => by refine Jw ?_;exact RW.done rfl) ?_
        refine AW.stop (by kernel_rfl) (by kernel_rfl) fun bs => ?_
        refine Jb ?_
        cases hhas : hasD (p.2.2.2.take i) p.2.2.2[i] with
        | true =>
          rw [hhas] at hS
          refine CW.ct rfl ?_
          refine Ja ?_;refine Jd ?_;refine Jb ?_
          exact CW.ret1 rfl Tryz.results121 rfl rfl fun w hw => ⟨by rw [hS]; rfl, hw.kp⟩
        | false =>
          rw [hhas] at hS
          refine CW.cf rfl ?_
          refine CW.skip ?_
          refine PW.code ?_
          refine CW.region ?_
          refine Jc ?_
          refine RW.add rfl rfl (w64 (by omega) (by omega)) rfl ?_
          refine Jd ?_
          refine RW.nil ?_
          exact PW.again ⟨i + 1, hlti', by rw [hS, hts]; rfl⟩ ⟨rfl, rfl, rfl, rfl, trivial⟩ (fun h => h) (by show p.2.2.2.length - (i + 1) < p.2.2.2.length - i; omega)
  have hgei' : p.2.2.2.length ≤ i := by simpa using hgei
  rw [List.drop_eq_nil_of_le hgei'] at hS
  refine CW.exit rfl ?_
  refine PW.code ?_
  refine Ja ?_;refine Jd ?_;refine Jb ?_
  exact CW.ret1 rfl Tryz.results121 rfl rfl fun w hw => ⟨by rw [hS]; rfl, hw.kp⟩
end Go.Proofs.YtkfmlekomfnleaaGreat
/- The document's class, total. Conditions: none. -/
set_option linter.unusedVariables false
set_option linter.unusedSimpArgs false
set_option maxRecDepth 10000
namespace Go.Proofs.YtkfmlekomfnleaaGreat
open Go Go.RowKit Go.MapKept

theorem any_step {α : Type} {f : α → Bool} {l : List α} {q : Nat} (hq : q < l.length) (h : (l.take q).any f = false) (h2 : f l[q] = false) : (l.take (q + 1)).any f = false := by
  rw [List.take_succ_eq_append_getElem hq, List.any_append, h]
  simp [h2]
theorem any_hit {α : Type} {f : α → Bool} {l : List α} {q n : Nat} (hq : q < l.length) (hn : q < n) (h2 : f l[q] = true) : (l.take n).any f = true := by
  rw [List.any_eq_true]
  exact ⟨l[q], List.mem_take_iff_getElem.2 ⟨q, by omega, rfl⟩, h2⟩
attribute [local irreducible] RW CW
set_option maxHeartbeats 16000000 in
theorem ref_class_ret {s : kStat.V} {x : RC} {n : Nat} {l : List Str} {w : World} (hst : StatOn (mem w (fun b => ¬ No b)) s x) (hx : (sClasses s)[n]? = some l) : Ret Tryz.prog 122 [.agg (x.stat s).toArray, .int .i64 n] w (.int .i64 (rClass s n l)) := by
  have hle : Mem.le (mem w (fun b => ¬ No b)) (mem w (fun b => ¬ No b)) := Mem.le_refl _
  have hlt := (List.getElem?_eq_some_iff.1 hx).1
  have hsm := sl_small hst.classes
  have hsp := sl_small hst.preds
  unfold reach at hsm hsp
  have hnm := names_ok hst.preds (by decide)
  have hpl : (pN s).length = (sPreds s).length := List.length_map _
  obtain ⟨B0, O0, cs0, hA, hl1, hr, hm⟩ := sl_get hst.classes hx
  obtain ⟨LA, lc, rfl⟩ := sl_cell hr
  have hll := sl_small hr
  unfold reach at hll
  unfold rClass
  refine Calls.enter Tryz.func122 rfl _ rfl rfl (S := No) (H := []) trivial ?_
  refine CW.seqR ?_
  refine RW.box_agg (l := x.stat s) rfl rfl fun b2 _ => ?_
  refine Jd ?_;refine Jb ?_;refine Ja ?_;refine Je ?_;refine JA ?_;refine Jc ?_
  refine RW.indexAddrE hA rfl rfl (by omega) (by omega) rfl ?_
  refine RW.load_ro rfl hle (hm 0 _ rfl) rfl rfl ?_
  refine Jd ?_;refine Jb ?_
  refine CW.seq ?_
  refine Ja ?_;refine Jc ?_;refine Jg ?_;refine Jk ?_;refine Jc ?_
  refine RW.splitD 18 rfl (fun h2 => ?_) (fun h2 => ?_)
  · refine Jz ?_;refine Jz ?_;refine Jz ?_;refine Jv ?_;refine Jb ?_
    refine CW.ct rfl ?_
    refine Ja ?_;refine Jd ?_;refine Jb ?_
    exact CW.ret1 rfl Tryz.results122 rfl rfl fun w hw => ⟨by rw [if_pos h2], hw.kp⟩
  rw [if_neg h2]
  refine Jy ?_;refine Jc ?_;refine Jy ?_;refine Jg ?_;refine Jy ?_;refine Jm ?_;refine Jw ?_;refine Jb ?_
  refine CW.ite rfl (fun h3 => ?_) (fun h3 => ?_)
  · refine Ja ?_;refine Jd ?_;refine Jb ?_
    exact CW.ret1 rfl Tryz.results122 rfl rfl fun w hw => ⟨by rw [if_pos h3], hw.kp⟩
  rw [if_neg h3]
  refine CW.skip ?_
  refine PW.code ?_
  refine CW.seq ?_
  refine Ja ?_;refine Jd ?_;refine Jb ?_
  refine CW.block ?_
  have hlen : 0 < l.length := by omega
  have e0 : l[0]?.getD ByteArray.empty = l[0] := by rw [List.getElem?_eq_getElem hlen]; rfl
  refine CW.loop (ι := { i : Nat // i ≤ l.length ∧ rCls s n l l 0 = rCls s n l (l.drop i) i ∧ (i = 0 ∨ ¬ atN (pN s) l[0] < 0) }) (fun i => [(2, ptrV b2), (1, .int .i64 n), (5, .slice LA l.length lc), (6, .int .i64 i.1)]) (fun _ => [blk b2 (x.stat s) 31]) (fun i => l.length - i.1) ⟨0, Nat.zero_le _, rfl, .inl rfl⟩ ⟨rfl, rfl, rfl, rfl, trivial⟩ (fun h => h) ?_
  intro ⟨i, hi, hS, hF⟩
  dsimp only at hi hS hF ⊢
  refine CW.seq ?_
  refine Ja ?_;refine Jc ?_;refine Jc ?_;refine Jg ?_;refine Jk ?_;refine Jb ?_
  refine CW.ite rfl (fun hlti => ?_) (fun hgei => ?_)
  rotate_left
  · have hgei' : l.length ≤ i := by simpa using hgei
    rw [List.drop_eq_nil_of_le hgei'] at hS
    refine CW.exit rfl ?_
    refine PW.code ?_
    refine Ja ?_;refine Jd ?_;refine Jb ?_
    exact CW.ret1 rfl Tryz.results122 rfl rfl fun w hw => ⟨by rw [hS]; rfl, hw.kp⟩
  have hlti' : i < l.length := by simpa using hlti
  obtain ⟨B1, O1, es1, hA1, hl2, hr1, hm1⟩ := sl_get hr (List.getElem?_eq_getElem hlti')
  obtain rfl := str_cell hr1
  obtain ⟨B2, O2, es2, hA2, hl3, hr2, hm2⟩ := sl_get hr (List.getElem?_eq_getElem hlen)
  obtain rfl := str_cell hr2
  rw [List.drop_eq_getElem_cons hlti', rCls] at hS
  refine CW.skip ?_
  refine PW.code ?_
  refine CW.seq ?_
  refine CW.block ?_
  refine CW.seqA (by kernel_rfl) rfl ?_
  refine AW.val rfl (fun _ _ => by refine JE ?_;exact RW.done rfl) ?_
  (apply AW.gen (fun n => encU (pN s).length n) (fun n => ownHP 9 1 (encU (pN s).length n) ((pN s).map strE)) rfl; · intro Gx X; refine RW.callN Tryz.call55 rfl (fun w2 hw => ref_preds_ret (StatOn.mono hst (ro_call hw))) rfl fun v => ?_; refine RW.have_ (φ := ∃ n, v = encU (pN s).length n) (fun w hw => by have := enc_ownU (pre := []) hw; rwa [List.length_map] at this) (fun ⟨n, hn⟩ => ?_); subst hn; exact RW.done_gen (b := n) rfl)
  refine AW.val rfl (fun _ _ => by refine Jc ?_;exact RW.done rfl) ?_;refine AW.val rfl (fun _ _ => by refine Jc ?_;exact RW.done rfl) ?_
  (apply AW.val rfl; · intro Gx X; (first | refine RW.yes rfl ?_ | skip); refine RW.indexAddrE hA1 rfl rfl (by omega) hlti rfl ?_; exact RW.done rfl)
  (apply AW.val rfl; · intro Gx X; (first | refine RW.yes rfl ?_ | skip); refine RW.load_ro rfl hle (hm1 0 _ rfl) rfl rfl ?_; exact RW.done rfl)
  refine AW.stop (by kernel_rfl) (by kernel_rfl) fun bs => ?_
  refine RW.call Tryz.call44 rfl (fun w2 hw => find_own (pre := [_]) hw hnm) rfl ?_
  refine RW.take [0] ?_
  refine Jd ?_;refine Jb ?_
  refine CW.seq ?_
  refine Ja ?_;refine Jc ?_;refine Jk ?_;refine Jb ?_
  refine CW.ite rfl (fun h4 => ?_) (fun h4 => ?_)
  · refine Ja ?_;refine Jd ?_;refine Jb ?_
    exact CW.ret1 rfl Tryz.results122 rfl rfl fun w hw => ⟨by rw [hS, if_pos h4], hw.kp⟩
  rw [if_neg h4] at hS
  obtain ⟨k, hk, ek, hkx⟩ := atN_in h4
  have hk2 : k < (sPreds s).length := by omega
  obtain ⟨B3, O3, es3, hA3, hl4, hr3, hm3⟩ := sl_get hst.preds (List.getElem?_eq_getElem hk2)
  rw [pred_of ek hk2] at hS
  generalize hp : (sPreds s)[k] = p at *
  obtain ⟨KA, kc, VA, vc, rfl, hks, hvs⟩ := Rd.predT hr3
  rw [ek]
  refine CW.skip ?_
  refine PW.code ?_
  refine CW.seq ?_
  refine Ja ?_;refine Je ?_;refine JA ?_;refine Jc ?_
  refine RW.indexAddrE hA3 rfl rfl (by omega) (by omega) rfl ?_
  refine Je ?_
  refine RW.load_ro rfl hle (hm3 1 _ rfl) rfl rfl ?_
  refine Jj ?_;refine Jb ?_
  refine CW.ite rfl (fun h5 => ?_) (fun h5 => ?_)
  · refine Ja ?_;refine Jd ?_;refine Jb ?_
    exact CW.ret1 rfl Tryz.results122 rfl rfl fun w hw => ⟨by rw [hS, if_pos h5], hw.kp⟩
  rw [if_neg h5] at hS
  have hF0 : ¬ atN (pN s) l[0] < 0 := by
    rcases hF with h0 | h0
    · subst h0; rw [ek]; omega
    · exact h0
  obtain ⟨k0, hk0, ek0, hkx0⟩ := atN_in hF0
  have hk02 : k0 < (sPreds s).length := by omega
  obtain ⟨B4, O4, es4, hA4, hl5, hr4, hm4⟩ := sl_get hst.preds (List.getElem?_eq_getElem hk02)
  rw [e0, pred_of ek0 hk02] at hS
  generalize hp0 : (sPreds s)[k0] = p0 at *
  obtain ⟨KA0, kc0, VA0, vc0, rfl, hks0, hvs0⟩ := Rd.predT hr4
  refine CW.skip ?_
  refine PW.code ?_
  refine CW.seqA (by kernel_rfl) rfl ?_
  refine AW.val rfl (fun _ _ => by refine JE ?_;exact RW.done rfl) ?_
  (apply AW.gen (fun n => encU (pN s).length n) (fun n => ownHP 9 1 (encU (pN s).length n) ((pN s).map strE)) rfl; · intro Gx X; refine RW.callN Tryz.call55 rfl (fun w2 hw => ref_preds_ret (StatOn.mono hst (ro_call hw))) rfl fun v => ?_; refine RW.have_ (φ := ∃ n, v = encU (pN s).length n) (fun w hw => by have := enc_ownU (pre := []) hw; rwa [List.length_map] at this) (fun ⟨n, hn⟩ => ?_); subst hn; exact RW.done_gen (b := n) rfl)
  refine AW.val rfl (fun _ _ => by refine Jc ?_;exact RW.done rfl) ?_
  (apply AW.val rfl; · intro Gx X; (first | refine RW.yes rfl ?_ | skip); refine RW.indexAddrE hA2 rfl rfl (by omega) (by omega) rfl ?_; exact RW.done rfl)
  (apply AW.val rfl; · intro Gx X; (first | refine RW.yes rfl ?_ | skip); refine RW.load_ro rfl hle (hm2 0 _ rfl) rfl rfl ?_; exact RW.done rfl)
  refine AW.stop (by kernel_rfl) (by kernel_rfl) fun bs2 => ?_
  refine RW.call Tryz.call44 rfl (fun w2 hw => find_own (pre := [_]) hw hnm) rfl ?_
  refine RW.take [0] ?_
  rw [ek0]
  refine Jd ?_;refine Jb ?_
  refine CW.seq ?_
  refine CW.seqA (by kernel_rfl) rfl ?_
  refine AW.val rfl (fun _ _ => by refine Je ?_;exact RW.done rfl) ?_;refine AW.val rfl (fun _ _ => by refine JA ?_;exact RW.done rfl) ?_;refine AW.val rfl (fun _ _ => by refine Jc ?_;exact RW.done rfl) ?_
  (apply AW.val rfl; · intro Gx X; (first | refine RW.yes rfl ?_ | skip); refine RW.indexAddrE hA3 rfl rfl (by omega) (by omega) rfl ?_; exact RW.done rfl)
  refine AW.val rfl (fun _ _ => by refine Je ?_;exact RW.done rfl) ?_
  (apply AW.val rfl; · intro Gx X; (first | refine RW.yes rfl ?_ | skip); refine RW.load_ro rfl hle (hm3 2 _ rfl) rfl rfl ?_; exact RW.done rfl)
  refine AW.val rfl (fun _ _ => by refine Je ?_;exact RW.done rfl) ?_;refine AW.val rfl (fun _ _ => by refine JA ?_;exact RW.done rfl) ?_;refine AW.val rfl (fun _ _ => by refine Jc ?_;exact RW.done rfl) ?_
  (apply AW.val rfl; · intro Gx X; (first | refine RW.yes rfl ?_ | skip); refine RW.indexAddrE hA4 rfl rfl (by omega) (by omega) rfl ?_; exact RW.done rfl)
  refine AW.val rfl (fun _ _ => by refine Je ?_;exact RW.done rfl) ?_
  (apply AW.val rfl; · intro Gx X; (first | refine RW.yes rfl ?_ | skip); refine RW.load_ro rfl hle (hm4 2 _ rfl) rfl rfl ?_; exact RW.done rfl)
  (apply AW.val rfl; · intro Gx X; (first | refine RW.yes rfl ?_ | skip); refine RW.call Tryz.call170 rfl (fun w2 hw => sameNames_ret (hks.mono (ro_call hw)) (hks0.mono (ro_call hw))) rfl ?_; exact RW.done rfl)
  refine AW.val rfl (fun _ _ => by refine Js ?_;exact RW.done rfl) ?_
  refine AW.stop (by kernel_rfl) (by kernel_rfl) fun bs3 => ?_
  refine Jb ?_
  refine CW.iteN rfl (fun h6 => ?_) (fun h6 => ?_)
  · refine Ja ?_;refine Jd ?_;refine Jb ?_
    exact CW.ret1 rfl Tryz.results122 rfl rfl fun w hw => ⟨by rw [hS, if_neg h6], hw.kp⟩
  rw [if_pos h6] at hS
  refine CW.skip ?_
  refine PW.code ?_
  refine CW.seq ?_
  refine Ja ?_;refine Jc ?_;refine Jc ?_;refine Jc ?_
  refine RW.indexAddrE hA1 rfl rfl (by omega) hlti rfl ?_
  refine RW.load_ro rfl hle (hm1 0 _ rfl) rfl rfl ?_
  skip
  refine RW.call Tryz.call44 rfl (fun w2 hw => refFind_ret (hr.mono (ro_call hw))) rfl ?_
  refine Jc ?_;refine Jk ?_;refine Jb ?_
  refine CW.ite rfl (fun h7 => ?_) (fun h7 => ?_)
  · refine Ja ?_;refine Jd ?_;refine Jb ?_
    exact CW.ret1 rfl Tryz.results122 rfl rfl fun w hw => ⟨by rw [hS, if_pos h7], hw.kp⟩
  rw [if_neg h7] at hS
  refine CW.skip ?_
  refine PW.code ?_
  refine Ja ?_;refine Jd ?_;refine Jb ?_
  refine CW.block ?_
  refine CW.loop (ι := { q : Nat // q ≤ n ∧ ((sClasses s).take q).any (fun c => decide (0 ≤ atN c l[i])) = false }) (fun q => [(2, ptrV b2), (1, .int .i64 n), (5, .slice LA l.length lc), (6, .int .i64 i), (9, .int .i64 q.1)]) (fun _ => [blk b2 (x.stat s) 31]) (fun q => n - q.1) ⟨0, Nat.zero_le _, rfl⟩ ⟨rfl, rfl, rfl, rfl, rfl, trivial⟩ (fun h => h.take [0]) ?_
  intro ⟨q, hq, hT⟩
  dsimp only at hq hT ⊢
  refine CW.seq ?_
  refine Ja ?_;refine Jc ?_;refine Jc ?_;refine Jk ?_;refine Jb ?_
  refine CW.ite rfl (fun hltq => ?_) (fun hgeq => ?_)
  · have hltq' : q < n := by simpa using hltq
    have hqc : q < (sClasses s).length := by omega
    obtain ⟨B5, O5, es5, hA5, hl6, hr5, hm5⟩ := sl_get hst.classes (List.getElem?_eq_getElem hqc)
    obtain ⟨CA, cc, rfl⟩ := sl_cell hr5
    refine CW.skip ?_
    refine PW.code ?_
    refine CW.seq ?_
    refine CW.block ?_
    refine CW.seqA (by kernel_rfl) rfl ?_
    refine AW.val rfl (fun _ _ => by refine Je ?_;exact RW.done rfl) ?_;refine AW.val rfl (fun _ _ => by refine JA ?_;exact RW.done rfl) ?_;refine AW.val rfl (fun _ _ => by refine Jc ?_;exact RW.done rfl) ?_
    (apply AW.val rfl; · intro Gx X; (first | refine RW.yes rfl ?_ | skip); refine RW.indexAddrE hA5 rfl rfl (by omega) (by omega) rfl ?_; exact RW.done rfl)
    (apply AW.val rfl; · intro Gx X; (first | refine RW.yes rfl ?_ | skip); refine RW.load_ro rfl hle (hm5 0 _ rfl) rfl rfl ?_; exact RW.done rfl)
    refine AW.val rfl (fun _ _ => by refine Jc ?_;exact RW.done rfl) ?_;refine AW.val rfl (fun _ _ => by refine Jc ?_;exact RW.done rfl) ?_
    (apply AW.val rfl; · intro Gx X; (first | refine RW.yes rfl ?_ | skip); refine RW.indexAddrE hA1 rfl rfl (by omega) hlti rfl ?_; exact RW.done rfl)
    (apply AW.val rfl; · intro Gx X; (first | refine RW.yes rfl ?_ | skip); refine RW.load_ro rfl hle (hm1 0 _ rfl) rfl rfl ?_; exact RW.done rfl)
    (apply AW.val rfl; · intro Gx X; (first | refine RW.yes rfl ?_ | skip); refine RW.call Tryz.call44 rfl (fun w2 hw => refFind_ret (hr5.mono (ro_call hw))) rfl ?_; exact RW.done rfl)
    refine AW.val rfl (fun _ _ => by refine Jn ?_;exact RW.done rfl) ?_
    refine AW.stop (by kernel_rfl) (by kernel_rfl) fun bs4 => ?_
    refine Jb ?_
    refine CW.ite rfl (fun h8 => ?_) (fun h8 => ?_)
    · refine Ja ?_;refine Jd ?_;refine Jb ?_
      refine CW.ret1 rfl Tryz.results122 rfl rfl fun w hw => ⟨?_, hw.kp⟩
      rw [hS, if_pos (any_hit (f := fun c => decide (0 ≤ atN c l[i])) hqc hltq' (decide_eq_true h8))]
    · refine CW.skip ?_
      refine PW.code ?_
      refine CW.region ?_
      refine Jc ?_
      refine RW.add rfl rfl (w64 (by omega) (by omega)) rfl ?_
      refine Jd ?_
      refine RW.nil ?_
      exact PW.again ⟨q + 1, hltq', any_step hqc hT (decide_eq_false h8)⟩ ⟨rfl, rfl, rfl, rfl, rfl, trivial⟩ (fun h => h.take [0]) (by show n - (q + 1) < n - q; omega)
  have hq' : q = n := by
    have : n ≤ q := by simpa using hgeq
    omega
  subst hq'
  rw [if_neg (by rw [hT]; simp)] at hS
  refine CW.exit rfl ?_
  refine PW.code ?_
  refine CW.region ?_
  refine Jc ?_
  refine RW.add rfl rfl (w64 (by omega) (by omega)) rfl ?_
  refine Jd ?_
  refine RW.nil ?_
  exact PW.again ⟨i + 1, hlti', hS, .inr (by omega)⟩ ⟨rfl, rfl, rfl, rfl, trivial⟩ (fun h => h) (by show l.length - (i + 1) < l.length - i; omega)
set_option maxHeartbeats 16000000 in
theorem ref_total_ret {s : kStat.V} {x : RC} {n : Nat} {t : kTotal.V} {w : World} (hst : StatOn (mem w (fun b => ¬ No b)) s x) (hx : (sTotals s)[n]? = some t) : Ret Tryz.prog 125 [.agg (x.stat s).toArray, .int .i64 n] w (.int .i64 (rTotal s t n)) := by
  have hle : Mem.le (mem w (fun b => ¬ No b)) (mem w (fun b => ¬ No b)) := Mem.le_refl _
  have hlt := (List.getElem?_eq_some_iff.1 hx).1
  have hsm := sl_small hst.totals
  have hsp := sl_small hst.preds
  unfold reach at hsm hsp
  have hnm := names_ok hst.preds (by decide)
  have hnt := names_ok hst.totals (by decide)
  have hpl : (pN s).length = (sPreds s).length := List.length_map _
  have hx' : (tN s)[n]? = some t.1 := by rw [List.getElem?_map, hx]; rfl
  obtain ⟨B0, O0, cs0, hA, hl1, hr, hm⟩ := sl_get hst.totals hx
  obtain ⟨PA, pc, rfl, hps⟩ := Rd.totalT hr
  have hll := sl_small hps
  unfold reach at hll
  unfold rTotal
  refine Calls.enter Tryz.func125 rfl _ rfl rfl (S := No) (H := []) trivial ?_
  refine CW.seqR ?_
  refine RW.box_agg (l := x.stat s) rfl rfl fun b2 _ => ?_
  refine Jd ?_;refine Jb ?_;refine Ja ?_;refine JE ?_
  refine RW.callN Tryz.call171 rfl (fun w2 hw => ref_totals_ret (StatOn.mono hst (ro_call hw))) rfl fun v => ?_
  refine Jc ?_
  refine RW.call Tryz.call120 rfl (fun w2 hw => named_own (pre := []) hw hnt hx') rfl ?_
  refine RW.take [1] ?_
  refine Jd ?_;refine Jb ?_
  refine CW.seq ?_
  refine Ja ?_;refine Jc ?_;refine Jj ?_;refine Jb ?_
  refine CW.ite rfl (fun h1 => ?_) (fun h1 => ?_)
  · refine Ja ?_;refine Jc ?_;refine Jd ?_;refine Jb ?_
    exact CW.ret1 rfl Tryz.results125 rfl rfl fun w hw => ⟨by rw [if_neg h1], hw.kp⟩
  have h1 := Decidable.of_not_not h1
  rw [if_pos h1]
  refine CW.skip ?_
  refine PW.code ?_
  refine Ja ?_;refine Je ?_;refine JA ?_;refine Jc ?_
  refine RW.indexAddrE hA rfl rfl (by omega) (by omega) rfl ?_
  refine RW.load_ros (cs := [.string t.1, .string t.2.1, .slice PA t.2.2.1.length pc, .bool t.2.2.2.1, .int .i64 t.2.2.2.2]) rfl hle hm rfl rfl (by simp) rfl ?_
  refine RW.alloc (c := [.string ByteArray.empty, .string ByteArray.empty, .slice none 0 0, .bool false, .int .i64 0]) rfl rfl fun b6 _ => ?_
  refine RW.store_whole [] rfl rfl (vs := [.string t.1, .string t.2.1, .slice PA t.2.2.1.length pc, .bool t.2.2.2.1, .int .i64 t.2.2.2.2]) rfl rfl rfl (by simp [Value.oneCell']) ?_
  refine Jb ?_
  refine CW.seq ?_
  refine Ja ?_;refine Je ?_;refine JB ?_;refine Je ?_;refine JA ?_
  refine RW.call Tryz.call44 rfl (fun w2 hw => refFind_ret (StatOn.mono hst (ro_call hw)).kinds) rfl ?_
  refine Jk ?_;refine Jb ?_
  refine CW.ite rfl (fun h2 => ?_) (fun h2 => ?_)
  · refine Ja ?_;refine Jd ?_;refine Jb ?_
    exact CW.ret1 rfl Tryz.results125 rfl rfl fun w hw => ⟨by rw [if_pos h2], hw.kp⟩
  rw [if_neg h2]
  refine CW.skip ?_
  refine PW.code ?_
  refine CW.seq ?_
  refine Ja ?_;refine Je ?_;refine JA ?_;refine Jg ?_;refine Ji ?_;refine Jc ?_
  refine RW.splitD 31 rfl (fun h3 => ?_) (fun h3 => ?_)
  · refine Jz ?_;refine Jz ?_;refine Jz ?_;refine Jz ?_;refine Jv ?_;refine Jb ?_
    refine CW.ct rfl ?_
    refine Ja ?_;refine Jd ?_;refine Jb ?_
    exact CW.ret1 rfl Tryz.results125 rfl rfl fun w hw => ⟨by rw [if_pos h3], hw.kp⟩
  rw [if_neg h3]
  refine Jy ?_;refine Je ?_;refine Jy ?_;refine JA ?_;refine Jy ?_;refine Jg ?_;refine Jy ?_;refine Jm ?_;refine Jw ?_;refine Jb ?_
  refine CW.ite rfl (fun h4 => ?_) (fun h4 => ?_)
  · refine Ja ?_;refine Jd ?_;refine Jb ?_
    exact CW.ret1 rfl Tryz.results125 rfl rfl fun w hw => ⟨by rw [if_pos h4], hw.kp⟩
  rw [if_neg h4]
  refine CW.skip ?_
  refine PW.code ?_
  refine CW.seq ?_
  refine Ja ?_;refine Jd ?_;refine Jb ?_
  refine CW.block ?_
  refine CW.loop (ι := { i : Nat // i ≤ t.2.2.1.length ∧ rTotL s t t.2.2.1 0 = rTotL s t (t.2.2.1.drop i) i }) (fun i => [(2, ptrV b2), (6, ptrV b6), (1, .int .i64 n), (7, .int .i64 i.1)]) (fun _ => [blk b6 [.string t.1, .string t.2.1, .slice PA t.2.2.1.length pc, .bool t.2.2.2.1, .int .i64 t.2.2.2.2] 166, blk b2 (x.stat s) 31]) (fun i => t.2.2.1.length - i.1) ⟨0, Nat.zero_le _, rfl⟩ ⟨rfl, rfl, rfl, rfl, trivial⟩ (fun h => h) ?_
  intro ⟨i, hi, hS⟩
  dsimp only at hi hS ⊢
  refine CW.seq ?_
  refine Ja ?_;refine Jc ?_;refine Je ?_;refine JA ?_;refine Jg ?_;refine Jk ?_;refine Jb ?_
  refine CW.ite rfl (fun hlti => ?_) (fun hgei => ?_)
  rotate_left
  · have hgei' : t.2.2.1.length ≤ i := by simpa using hgei
    rw [List.drop_eq_nil_of_le hgei'] at hS
    rw [hS, show rTotL s t [] i = 0 from rfl, if_pos rfl]
    refine CW.exit rfl ?_
    refine PW.code ?_
    refine CW.seq ?_
    have tail : ∀ b : Bool, b = t.2.2.2.1 → (!b && decide (¬ t.2.2.2.2 = 0)) = (!t.2.2.2.1 && decide (¬ t.2.2.2.2 = 0)) := fun b h => by rw [h]
    refine Ja ?_;refine Je ?_;refine JA ?_;refine Jc ?_
    cases hcap : t.2.2.2.1 with
    | false =>
      refine Jz ?_;refine Jz ?_;refine Jz ?_;refine Jz ?_;refine Jz ?_;refine Jz ?_;refine Jz ?_;refine Jz ?_;refine Jz ?_;refine Jw ?_;refine Jb ?_
      refine CW.cf rfl ?_
      refine CW.skip ?_
      refine PW.code ?_
      refine CW.seq ?_
      refine Ja ?_;refine Je ?_;refine JA ?_;refine Js ?_;refine Jc ?_;refine Jy ?_;refine Je ?_;refine Jy ?_;refine JA ?_;refine Jy ?_;refine Jj ?_;refine Jv ?_;refine Jb ?_
      refine CW.ite rfl (fun h9 => ?_) (fun h9 => ?_)
      · refine Ja ?_;refine Jd ?_;refine Jb ?_
        exact CW.ret1 rfl Tryz.results125 rfl rfl fun w hw => ⟨by rw [decide_eq_true h9]; rfl, hw.kp⟩
      · refine CW.skip ?_
        refine PW.code ?_
        refine Ja ?_;refine Jd ?_;refine Jb ?_
        exact CW.ret1 rfl Tryz.results125 rfl rfl fun w hw => ⟨by rw [decide_eq_false h9]; rfl, hw.kp⟩
    | true =>
      refine Jy ?_;refine Je ?_;refine Jy ?_;refine JA ?_;refine Jy ?_
      refine RW.call Tryz.call169 rfl (fun w2 hw => ref_May_ret) rfl ?_
      refine Jy ?_;refine Js ?_;refine Jy ?_;refine Jc ?_
      cases hmay : mayD t.2.2.2.2 with
      | false =>
        refine Jz ?_;refine Jz ?_;refine Jz ?_;refine Jy ?_;refine Jv ?_;refine Jv ?_;refine Jb ?_
        refine CW.ct rfl ?_
        refine Ja ?_;refine Jd ?_;refine Jb ?_
        exact CW.ret1 rfl Tryz.results125 rfl rfl fun w hw => ⟨rfl, hw.kp⟩
      | true =>
        refine Jy ?_;refine Je ?_;refine Jy ?_;refine JA ?_;refine Jy ?_;refine Jk ?_;refine Jy ?_;refine Jw ?_;refine Jv ?_;refine Jb ?_
        refine CW.ite rfl (fun h9 => ?_) (fun h9 => ?_)
        · refine Ja ?_;refine Jd ?_;refine Jb ?_
          exact CW.ret1 rfl Tryz.results125 rfl rfl fun w hw => ⟨by rw [decide_eq_true h9]; rfl, hw.kp⟩
        · refine CW.skip ?_
          refine PW.code ?_
          refine CW.seq ?_
          refine Ja ?_;refine Je ?_;refine JA ?_;refine Js ?_;refine Jc ?_;refine Jz ?_;refine Jz ?_;refine Jz ?_;refine Jw ?_;refine Jb ?_
          refine CW.cf rfl ?_
          refine CW.skip ?_
          refine PW.code ?_
          refine Ja ?_;refine Jd ?_;refine Jb ?_
          exact CW.ret1 rfl Tryz.results125 rfl rfl fun w hw => ⟨by rw [decide_eq_false h9]; rfl, hw.kp⟩
  have hlti' : i < t.2.2.1.length := by simpa using hlti
  obtain ⟨B1, O1, es1, hA1, hl2, hr1, hm1⟩ := sl_get hps (List.getElem?_eq_getElem hlti')
  obtain rfl := str_cell hr1
  rw [List.drop_eq_getElem_cons hlti', rTotL] at hS
  have bad : ∀ e : Int, rTotL s t t.2.2.1 0 = e → ¬ e = 0 → (if rTotL s t t.2.2.1 0 = 0 then (if (t.2.2.2.1 && (!mayD t.2.2.2.2 || decide (t.2.2.2.2 < 0))) = true then (22 : Int) else if (!t.2.2.2.1 && decide (¬ t.2.2.2.2 = 0)) = true then 1 else 0) else rTotL s t t.2.2.1 0) = e := fun e h h0 => by rw [if_neg (by rw [h]; exact h0), h]
  refine CW.skip ?_
  refine PW.code ?_
  refine CW.seq ?_
  refine CW.block ?_
  refine CW.seqA (by kernel_rfl) rfl ?_
  refine AW.val rfl (fun _ _ => by refine JF ?_;exact RW.done rfl) ?_
  (apply AW.gen (fun n => encU (pN s).length n) (fun n => ownHP 9 1 (encU (pN s).length n) ((pN s).map strE)) rfl; · intro Gx X; refine RW.callN Tryz.call55 rfl (fun w2 hw => ref_preds_ret (StatOn.mono hst (ro_call hw))) rfl fun v => ?_; refine RW.have_ (φ := ∃ n, v = encU (pN s).length n) (fun w hw => by have := enc_ownU (pre := []) hw; rwa [List.length_map] at this) (fun ⟨n, hn⟩ => ?_); subst hn; exact RW.done_gen (b := n) rfl)
  refine AW.val rfl (fun _ _ => by refine Je ?_;exact RW.done rfl) ?_;refine AW.val rfl (fun _ _ => by refine JA ?_;exact RW.done rfl) ?_;refine AW.val rfl (fun _ _ => by refine Jc ?_;exact RW.done rfl) ?_
  (apply AW.val rfl; · intro Gx X; (first | refine RW.yes rfl ?_ | skip); refine RW.indexAddrE hA1 rfl rfl (by omega) hlti rfl ?_; exact RW.done rfl)
  (apply AW.val rfl; · intro Gx X; (first | refine RW.yes rfl ?_ | skip); refine RW.load_ro rfl hle (hm1 0 _ rfl) rfl rfl ?_; exact RW.done rfl)
  refine AW.stop (by kernel_rfl) (by kernel_rfl) fun bs => ?_
  refine RW.call Tryz.call44 rfl (fun w2 hw => find_own (pre := [_, _]) hw hnm) rfl ?_
  refine RW.take [0, 1] ?_
  refine Jd ?_;refine Jb ?_
  refine CW.seq ?_
  refine Ja ?_;refine Jc ?_;refine Jk ?_;refine Jb ?_
  refine CW.ite rfl (fun h5 => ?_) (fun h5 => ?_)
  · rw [if_pos h5] at hS
    refine Ja ?_;refine Jd ?_;refine Jb ?_
    exact CW.ret1 rfl Tryz.results125 rfl rfl fun w hw => ⟨by rw [bad _ hS (by decide)], hw.kp⟩
  rw [if_neg h5] at hS
  obtain ⟨k, hk, ek, hkx⟩ := atN_in h5
  have hk2 : k < (sPreds s).length := by omega
  obtain ⟨B3, O3, es3, hA3, hl4, hr3, hm3⟩ := sl_get hst.preds (List.getElem?_eq_getElem hk2)
  rw [pred_of ek hk2] at hS
  generalize hp : (sPreds s)[k] = p at *
  obtain ⟨KA, kc, VA, vc, rfl, hks, hvs⟩ := Rd.predT hr3
  rw [ek]
  refine CW.skip ?_
  refine PW.code ?_
  refine CW.seq ?_
  refine Ja ?_;refine Je ?_;refine JB ?_;refine Jc ?_
  refine RW.indexAddrE hA3 rfl rfl (by omega) (by omega) rfl ?_
  refine Je ?_
  refine RW.load_ro rfl hle (hm3 1 _ rfl) rfl rfl ?_
  refine Jj ?_;refine Jb ?_
  refine CW.ite rfl (fun h6 => ?_) (fun h6 => ?_)
  · rw [if_pos h6] at hS
    refine Ja ?_;refine Jd ?_;refine Jb ?_
    exact CW.ret1 rfl Tryz.results125 rfl rfl fun w hw => ⟨by rw [bad _ hS (by decide)], hw.kp⟩
  rw [if_neg h6] at hS
  refine CW.skip ?_
  refine PW.code ?_
  refine CW.seq ?_
  by_cases h7 : (p.2.2.1.length : Int) = 1
  rotate_left
  · rw [if_pos h7] at hS
    refine CW.seqA (by kernel_rfl) rfl ?_
    refine AW.val rfl (fun _ _ => by refine Je ?_;exact RW.done rfl) ?_;refine AW.val rfl (fun _ _ => by refine JB ?_;exact RW.done rfl) ?_;refine AW.val rfl (fun _ _ => by refine Jc ?_;exact RW.done rfl) ?_
    (apply AW.val rfl; · intro Gx X; (first | refine RW.yes rfl ?_ | skip); refine RW.indexAddrE hA3 rfl rfl (by omega) (by omega) rfl ?_; exact RW.done rfl)
    refine AW.val rfl (fun _ _ => by refine Je ?_;exact RW.done rfl) ?_
    (apply AW.val rfl; · intro Gx X; (first | refine RW.yes rfl ?_ | skip); refine RW.load_ro rfl hle (hm3 2 _ rfl) rfl rfl ?_; exact RW.done rfl)
    (apply AW.val rfl; · intro Gx X; (first | refine RW.yes rfl ?_ | skip); refine RW.len rfl rfl ?_; exact RW.done rfl)
    (apply AW.val rfl; · intro Gx X; (first | refine RW.yes rfl ?_ | skip); refine RW.neq rfl rfl rfl ?_; exact RW.done_eq (v := .bool true) rfl (by rw [decide_eq_true h7]))
    refine AW.val rfl (fun _ _ => by refine Jc ?_;exact RW.done rfl) ?_;refine AW.val rfl (fun _ _ => by refine Jz ?_;exact RW.done rfl) ?_;refine AW.val rfl (fun _ _ => by refine Jz ?_;exact RW.done rfl) ?_;refine AW.val rfl (fun _ _ => by refine Jz ?_;exact RW.done rfl) ?_;refine AW.val rfl (fun _ _ => by refine Jz ?_;exact RW.done rfl) ?_;refine AW.val rfl (fun _ _ => by refine Jz ?_;exact RW.done rfl) ?_;refine AW.val rfl (fun _ _ => by refine Jz ?_;exact RW.done rfl) ?_;refine AW.val rfl (fun _ _ => by refine Jz ?_;exact RW.done rfl) ?_;refine AW.val rfl (fun _ _ => by refine Jz ?_;exact RW.done rfl) ?_;refine AW.val rfl (fun _ _ => by refine Jz ?_;exact RW.done rfl) ?_;refine AW.val rfl (fun _ _ => by refine Jz ?_;exact RW.done rfl) ?_;refine AW.val rfl (fun _ _ => by refine Jz ?_;exact RW.done rfl) ?_;refine AW.val rfl (fun _ _ => by refine Jv ?_;exact RW.done rfl) ?_
    refine AW.stop (by kernel_rfl) (by kernel_rfl) fun bs3 => ?_
    refine Jb ?_
    refine CW.ct rfl ?_
    refine Ja ?_;refine Jd ?_;refine Jb ?_
    exact CW.ret1 rfl Tryz.results125 rfl rfl fun w hw => ⟨by rw [bad _ hS (by decide)], hw.kp⟩
  rw [if_neg (fun h => h h7)] at hS
  have hkl : 0 < p.2.2.1.length := by omega
  obtain ⟨B4, O4, es4, hA4, hl5, hr4, hm4⟩ := sl_get hks (List.getElem?_eq_getElem hkl)
  obtain rfl := str_cell hr4
  rw [show (p.2.2.1[0]?).getD ByteArray.empty = p.2.2.1[0] by rw [List.getElem?_eq_getElem hkl]; rfl] at hS
  refine CW.seqA (by kernel_rfl) rfl ?_
  refine AW.val rfl (fun _ _ => by refine Je ?_;exact RW.done rfl) ?_;refine AW.val rfl (fun _ _ => by refine JB ?_;exact RW.done rfl) ?_;refine AW.val rfl (fun _ _ => by refine Jc ?_;exact RW.done rfl) ?_
  (apply AW.val rfl; · intro Gx X; (first | refine RW.yes rfl ?_ | skip); refine RW.indexAddrE hA3 rfl rfl (by omega) (by omega) rfl ?_; exact RW.done rfl)
  refine AW.val rfl (fun _ _ => by refine Je ?_;exact RW.done rfl) ?_
  (apply AW.val rfl; · intro Gx X; (first | refine RW.yes rfl ?_ | skip); refine RW.load_ro rfl hle (hm3 2 _ rfl) rfl rfl ?_; exact RW.done rfl)
  (apply AW.val rfl; · intro Gx X; (first | refine RW.yes rfl ?_ | skip); refine RW.len rfl rfl ?_; exact RW.done rfl)
  (apply AW.val rfl; · intro Gx X; (first | refine RW.yes rfl ?_ | skip); refine RW.neq rfl rfl rfl ?_; exact RW.done_eq (v := .bool false) rfl (by rw [decide_eq_false (fun h => h h7)]))
  refine AW.val rfl (fun _ _ => by refine Jc ?_;exact RW.done rfl) ?_;refine AW.val rfl (fun _ _ => by refine RW.yes rfl ?_;refine Je ?_;exact RW.done rfl) ?_;refine AW.val rfl (fun _ _ => by refine RW.yes rfl ?_;refine JB ?_;exact RW.done rfl) ?_;refine AW.val rfl (fun _ _ => by refine RW.yes rfl ?_;refine Jc ?_;exact RW.done rfl) ?_
  (apply AW.val rfl; · intro Gx X; (first | refine RW.yes rfl ?_ | skip); refine RW.indexAddrE hA3 rfl rfl (by omega) (by omega) rfl ?_; exact RW.done rfl)
  refine AW.val rfl (fun _ _ => by refine RW.yes rfl ?_;refine Je ?_;exact RW.done rfl) ?_
  (apply AW.val rfl; · intro Gx X; (first | refine RW.yes rfl ?_ | skip); refine RW.load_ro rfl hle (hm3 2 _ rfl) rfl rfl ?_; exact RW.done rfl)
  (apply AW.val rfl; · intro Gx X; (first | refine RW.yes rfl ?_ | skip); refine RW.indexAddrE hA4 rfl rfl (by omega) (by omega) rfl ?_; exact RW.done rfl)
  (apply AW.val rfl; · intro Gx X; (first | refine RW.yes rfl ?_ | skip); refine RW.load_ro rfl hle (hm4 0 _ rfl) rfl rfl ?_; exact RW.done rfl)
  refine AW.val rfl (fun _ _ => by refine RW.yes rfl ?_;refine Je ?_;exact RW.done rfl) ?_;refine AW.val rfl (fun _ _ => by refine RW.yes rfl ?_;refine JA ?_;exact RW.done rfl) ?_;refine AW.val rfl (fun _ _ => by refine RW.yes rfl ?_;refine Jp ?_;exact RW.done rfl) ?_;refine AW.val rfl (fun _ _ => by refine Jw ?_;exact RW.done rfl) ?_
  refine AW.stop (by kernel_rfl) (by kernel_rfl) fun bs3 => ?_
  refine Jb ?_
  refine CW.ite rfl (fun h8 => ?_) (fun h8 => ?_)
  · rw [if_pos h8] at hS
    refine Ja ?_;refine Jd ?_;refine Jb ?_
    exact CW.ret1 rfl Tryz.results125 rfl rfl fun w hw => ⟨by rw [bad _ hS (by decide)], hw.kp⟩
  rw [if_neg h8] at hS
  refine CW.skip ?_
  refine PW.code ?_
  refine CW.seqA (by kernel_rfl) rfl ?_
  refine AW.val rfl (fun _ _ => by refine Je ?_;exact RW.done rfl) ?_;refine AW.val rfl (fun _ _ => by refine JA ?_;exact RW.done rfl) ?_;refine AW.val rfl (fun _ _ => by refine Je ?_;exact RW.done rfl) ?_;refine AW.val rfl (fun _ _ => by refine JA ?_;exact RW.done rfl) ?_;refine AW.val rfl (fun _ _ => by refine Jc ?_;exact RW.done rfl) ?_
  (apply AW.val rfl; · intro Gx X; (first | refine RW.yes rfl ?_ | skip); refine RW.indexAddrE hA1 rfl rfl (by omega) hlti rfl ?_; exact RW.done rfl)
  (apply AW.val rfl; · intro Gx X; (first | refine RW.yes rfl ?_ | skip); refine RW.load_ro rfl hle (hm1 0 _ rfl) rfl rfl ?_; exact RW.done rfl)
  (apply AW.val rfl; · intro Gx X; (first | refine RW.yes rfl ?_ | skip); refine RW.call Tryz.call44 rfl (fun w2 hw => refFind_ret (hps.mono (ro_call hw))) rfl ?_; exact RW.done rfl)
  refine AW.val rfl (fun _ _ => by refine Jc ?_;exact RW.done rfl) ?_;refine AW.val rfl (fun _ _ => by refine Jk ?_;exact RW.done rfl) ?_
  refine AW.stop (by kernel_rfl) (by kernel_rfl) fun bs4 => ?_
  refine Jb ?_
  refine CW.ite rfl (fun h9 => ?_) (fun h9 => ?_)
  · rw [if_pos h9] at hS
    refine Ja ?_;refine Jd ?_;refine Jb ?_
    exact CW.ret1 rfl Tryz.results125 rfl rfl fun w hw => ⟨by rw [bad _ hS (by decide)], hw.kp⟩
  rw [if_neg h9] at hS
  refine CW.skip ?_
  refine PW.code ?_
  refine CW.region ?_
  refine Jc ?_
  refine RW.add rfl rfl (w64 (by omega) (by omega)) rfl ?_
  refine Jd ?_
  refine RW.nil ?_
  exact PW.again ⟨i + 1, hlti', hS⟩ ⟨rfl, rfl, rfl, rfl, trivial⟩ (fun h => h) (by show t.2.2.1.length - (i + 1) < t.2.2.1.length - i; omega)
end Go.Proofs.YtkfmlekomfnleaaGreat
/- The document's Book: arg, loose, args. Conditions: none. -/
set_option linter.unusedVariables false
set_option linter.unusedSimpArgs false
set_option maxRecDepth 10000
namespace Go.Proofs.YtkfmlekomfnleaaGreat
open Go Go.RowKit Go.MapKept

/-- A rule's variables as they come. -/
structure Bk where
  names : List Str
  kinds : List Int
  loose : List Str
abbrev VVV := Value × Value × Value
abbrev numE (x : Int) : List Value := [.int .i64 x]
abbrev bkH (bp : Nat) (b : Bk) (q : VVV) : List HP := [blk bp [q.1, q.2.1, q.2.2] 126, ownHP 9 1 q.1 (b.names.map strE), ownHP 3 1 q.2.1 (b.kinds.map numE), ownHP 9 1 q.2.2 (b.loose.map strE)]
structure BkOK (b : Bk) : Prop where
  len : b.kinds.length = b.names.length
  names : ∀ a ∈ b.names, isVarD a = true
  loose : ∀ a ∈ b.loose, isVarD a = true
theorem var_sizeU {a : Str} (h : isVarD a = true) : a.size ≤ reach := by
  unfold isVarD at h
  simp only [Bool.and_eq_true, decide_eq_true_eq] at h
  have := h.1.2
  unfold reach
  omega
theorem BkOK.namesOK {b : Bk} (h : BkOK b) (hl : b.names.length ≤ 1000000) : NamesOK b.names := ⟨fun a ha => var_sizeU (h.names a ha), by unfold reach; omega⟩
def rArg (s : kStat.V) (b : Bk) (x kind : Str) : Int × Bk :=
  if isNameD x = true then (if atN (mN s) x < 0 then 82 else if (memAt s x).2 = kind then 0 else 81, b)
  else if isVarD x = true then
    if atN b.names x < 0 then (0, ⟨b.names ++ [x], b.kinds ++ [atN (sKinds s) kind], b.loose⟩)
    else if (b.kinds[(atN b.names x).toNat]?).getD 0 = atN (sKinds s) kind then (0, b) else (81, b)
  else (71, b)
def rLoose (s : kStat.V) (b : Bk) (x : Str) : Int × Bk :=
  if isNameD x = true then (if atN (mN s) x < 0 then 82 else 0, b)
  else if isVarD x = true then (0, ⟨b.names, b.kinds, b.loose ++ [x]⟩) else (71, b)
/-- One after another, until a fault. -/
def foldC {α : Type} (f : Bk → α → Int × Bk) : Bk → List α → Int × Bk
  | b, [] => (0, b)
  | b, x :: r => if (f b x).1 = 0 then foldC f (f b x).2 r else f b x
def rArgs (s : kStat.V) (b : Bk) (p : kPredT.V) (l : List Str) : Int × Bk :=
  if ¬ (l.length : Int) = p.2.2.1.length then (83, b) else foldC (fun b (a : Str × Str) => rArg s b a.1 a.2) b (l.zip p.2.2.1)
theorem rArg_ok {s : kStat.V} {b : Bk} {x kind : Str} (h : BkOK b) : BkOK (rArg s b x kind).2 ∧ (rArg s b x kind).2.names.length ≤ b.names.length + 1 ∧ (rArg s b x kind).2.loose.length = b.loose.length := by
  unfold rArg
  split
  · exact ⟨h, Nat.le_succ _, rfl⟩
  · split
    · rename_i hv
      split
      · refine ⟨⟨by simp [h.len], fun a ha => ?_, h.loose⟩, by simp, rfl⟩
        rcases List.mem_append.1 ha with ha | ha
        · exact h.names a ha
        · rw [List.mem_singleton.1 ha]; exact hv
      · split <;> exact ⟨h, Nat.le_succ _, rfl⟩
    · exact ⟨h, Nat.le_succ _, rfl⟩
theorem rLoose_ok {s : kStat.V} {b : Bk} {x : Str} (h : BkOK b) : BkOK (rLoose s b x).2 ∧ (rLoose s b x).2.names.length = b.names.length ∧ (rLoose s b x).2.loose.length ≤ b.loose.length + 1 := by
  unfold rLoose
  split
  · exact ⟨h, rfl, Nat.le_succ _⟩
  · split
    · rename_i hv
      refine ⟨⟨h.len, h.names, fun a ha => ?_⟩, rfl, by simp⟩
      rcases List.mem_append.1 ha with ha | ha
      · exact h.loose a ha
      · rw [List.mem_singleton.1 ha]; exact hv
    · exact ⟨h, rfl, Nat.le_succ _⟩
/-- What a step keeps. -/
def Keeps2 {α : Type} (f : Bk → α → Int × Bk) (c d : Nat) : Prop := ∀ b x, BkOK b → BkOK (f b x).2 ∧ (f b x).2.names.length ≤ b.names.length + c ∧ (f b x).2.loose.length ≤ b.loose.length + d
theorem foldC_ok {α : Type} {f : Bk → α → Int × Bk} {c d : Nat} (hf : Keeps2 f c d) : ∀ {l : List α} {b : Bk}, BkOK b → BkOK (foldC f b l).2 ∧ (foldC f b l).2.names.length ≤ b.names.length + c * l.length ∧ (foldC f b l).2.loose.length ≤ b.loose.length + d * l.length := by
  intro l
  induction l with
  | nil => intro b h; exact ⟨h, Nat.le_add_right _ _, Nat.le_add_right _ _⟩
  | cons x l ih =>
    intro b h
    obtain ⟨h1, h2, h3⟩ := hf b x h
    unfold foldC
    split
    · obtain ⟨g1, g2, g3⟩ := ih h1
      refine ⟨g1, ?_, ?_⟩
      · rw [List.length_cons, Nat.mul_succ]; omega
      · rw [List.length_cons, Nat.mul_succ]; omega
    · refine ⟨h1, ?_, ?_⟩
      · rw [List.length_cons, Nat.mul_succ]; omega
      · rw [List.length_cons, Nat.mul_succ]; omega
theorem foldC_step {α : Type} {f : Bk → α → Int × Bk} {l : List α} {b : Bk} {k : Nat} (hk : k < l.length) (h : (f b l[k]).1 = 0) : foldC f b (l.drop k) = foldC f (f b l[k]).2 (l.drop (k + 1)) := by
  rw [List.drop_eq_getElem_cons hk, foldC, if_pos h]
theorem foldC_bad {α : Type} {f : Bk → α → Int × Bk} {l : List α} {b : Bk} {k : Nat} (hk : k < l.length) (h : ¬ (f b l[k]).1 = 0) : foldC f b (l.drop k) = f b l[k] := by
  rw [List.drop_eq_getElem_cons hk, foldC, if_neg h]
theorem args_ok (s : kStat.V) (b : Bk) (p : kPredT.V) (l : List Str) (h : BkOK b) : BkOK (rArgs s b p l).2 ∧ (rArgs s b p l).2.names.length ≤ b.names.length + p.2.2.1.length ∧ (rArgs s b p l).2.loose.length = b.loose.length := by
  unfold rArgs
  split
  · exact ⟨h, Nat.le_add_right _ _, rfl⟩
  · rename_i hl
    obtain ⟨h1, h2, h3⟩ := foldC_ok (f := fun b (a : Str × Str) => rArg s b a.1 a.2) (c := 1) (d := 0) (fun b x hb => by obtain ⟨a1, a2, a3⟩ := rArg_ok (s := s) (x := x.1) (kind := x.2) hb; exact ⟨a1, a2, by rw [a3]; exact Nat.le_refl _⟩) (l := l.zip p.2.2.1) h
    rw [List.length_zip] at h2 h3
    have hge : ∀ (l2 : List (Str × Str)) (b2 : Bk), (foldC (fun b (a : Str × Str) => rArg s b a.1 a.2) b2 l2).2.loose.length ≥ b2.loose.length ∨ True := fun _ _ => .inr trivial
    refine ⟨h1, by omega, ?_⟩
    have : ∀ (l2 : List (Str × Str)) (b2 : Bk), (foldC (fun b (a : Str × Str) => rArg s b a.1 a.2) b2 l2).2.loose = b2.loose := by
      intro l2
      induction l2 with
      | nil => intro b2; rfl
      | cons y l2 ih =>
        intro b2
        have e : (rArg s b2 y.1 y.2).2.loose = b2.loose := by
          unfold rArg
          split
          · rfl
          · split
            · split
              · rfl
              · split <;> rfl
            · rfl
        unfold foldC
        split
        · rw [ih, e]
        · exact e
    rw [this]
theorem mem_of {s : kStat.V} {x : Str} {k : Nat} (h : atN (mN s) x = (k : Int)) (hk : k < (sMembers s).length) : memAt s x = (sMembers s)[k] := by
  unfold memAt mGet
  rw [indexD_get]
  unfold atN at h
  cases hf : fst? (mN s) x with
  | none => rw [hf] at h; simp at h
  | some i =>
    rw [hf] at h
    simp only [Option.getD_some] at h
    subst h
    show ((sMembers s)[k]?).getD _ = _
    rw [List.getElem?_eq_getElem hk]
    rfl
attribute [local irreducible] RW CW
set_option maxHeartbeats 16000000 in
theorem ref_arg_ret {s : kStat.V} {x : RC} {bp : Nat} {b : Bk} {q : VVV} {a kind : Str} {w : World} {F : Nat → Prop} (hst : StatOn (mem w (fun b => ¬ F b)) s x) (hH : Sep (bkH bp b q) w F) (hb : BkOK b) (hl : b.names.length ≤ 1000000) :
    RetC Tryz.prog 56 [.pointer (some ⟨bp, 0, none⟩), .agg (x.stat s).toArray, .string a, .string kind] w F (fun _ : VVV => .int .i64 (rArg s b a kind).1) (fun q' => bkH bp (rArg s b a kind).2 q') := by
  obtain ⟨v1, v2, v3⟩ := q
  generalize hS : rArg s b a kind = SP
  have hS := hS.symm
  unfold rArg at hS
  have hkl : b.kinds.length ≤ 1000000 := by rw [hb.len]; exact hl
  have hle : Mem.le (mem w (fun b => ¬ F b)) (mem w (fun b => ¬ F b)) := Mem.le_refl _
  have hmn := names_ok hst.members (by decide)
  have hsm := sl_small hst.members
  unfold reach at hsm
  have hml : (mN s).length = (sMembers s).length := List.length_map _
  refine Calls.enter Tryz.func56 rfl _ rfl rfl (S := F) (H := bkH bp b (v1, v2, v3)) hH ?_
  refine CW.seqR ?_
  refine RW.box_agg (l := x.stat s) rfl rfl fun b5 _ => ?_
  dsimp only [bkH]
  refine Jd ?_;refine Jb ?_
  refine CW.seq ?_
  refine Ja ?_;refine Jc ?_
  refine RW.call Tryz.call136 rfl (fun w2 hw => r8_IsName_ret) rfl ?_
  refine Jb ?_
  cases hn : isNameD a with
  | true =>
    rw [if_pos hn] at hS
    refine CW.ct rfl ?_
    refine Ja ?_;refine JE ?_
    refine RW.callN Tryz.call57 rfl (fun w2 hw => ref_members_ret (StatOn.mono hst (ro_call hw))) rfl fun v => ?_
    refine Jc ?_
    refine RW.call Tryz.call44 rfl (fun w2 hw => find_own (pre := []) hw hmn) rfl ?_
    refine RW.take [1, 2, 3, 4, 5] ?_
    refine Jd ?_;refine Jb ?_
    refine CW.seq ?_
    refine Ja ?_;refine Jc ?_;refine Jk ?_;refine Jb ?_
    refine CW.ite rfl (fun h1 => ?_) (fun h1 => ?_)
    · rw [if_pos h1] at hS
      refine Ja ?_;refine Jd ?_;refine Jb ?_
      refine CW.ret1 rfl Tryz.results56 rfl rfl fun w hw => ⟨(v1, v2, v3), by rw [hS], ?_⟩
      rw [hS]
      exact hw.take [1, 2, 3, 4]
    rw [if_neg h1] at hS
    obtain ⟨k, hk, ek, _⟩ := atN_in h1
    have hk2 : k < (sMembers s).length := hml ▸ hk
    rw [mem_of ek hk2] at hS
    obtain ⟨B1, O1, es1, hA1, hl1, hr1, hm1⟩ := sl_get hst.members (List.getElem?_eq_getElem hk2)
    generalize hm : (sMembers s)[k] = m at *
    obtain ⟨_, _, rfl, r1, r2⟩ := hr1
    obtain rfl := str_cell r1
    obtain rfl := str_cell r2
    rw [ek]
    refine CW.skip ?_
    refine PW.code ?_
    refine CW.seq ?_
    refine Ja ?_;refine Je ?_;refine JA ?_;refine Jc ?_
    refine RW.indexAddrE hA1 rfl rfl (by omega) (by omega) rfl ?_
    refine Je ?_
    refine RW.load_ro rfl hle (hm1 1 _ rfl) rfl rfl ?_
    refine Jc ?_;refine Jp ?_;refine Jb ?_
    refine CW.ite rfl (fun h2 => ?_) (fun h2 => ?_)
    · rw [if_neg h2] at hS
      refine Ja ?_;refine Jd ?_;refine Jb ?_
      refine CW.ret1 rfl Tryz.results56 rfl rfl fun w hw => ⟨(v1, v2, v3), by rw [hS], ?_⟩
      rw [hS]
      exact hw.take [1, 2, 3, 4]
    · rw [if_pos (Decidable.of_not_not h2)] at hS
      refine CW.skip ?_
      refine PW.code ?_
      refine Ja ?_;refine Jd ?_;refine Jb ?_
      refine CW.ret1 rfl Tryz.results56 rfl rfl fun w hw => ⟨(v1, v2, v3), by rw [hS], ?_⟩
      rw [hS]
      exact hw.take [1, 2, 3, 4]
  | false =>
    rw [if_neg (by rw [hn]; simp)] at hS
    refine CW.cf rfl ?_
    refine CW.skip ?_
    refine PW.code ?_
    refine CW.seq ?_
    refine Ja ?_;refine Jc ?_
    refine RW.call Tryz.call43 rfl (fun w2 hw => r8_IsVar_ret) rfl ?_
    refine Js ?_;refine Jb ?_
    cases hv : isVarD a with
    | false =>
      rw [if_neg (by rw [hv]; simp)] at hS
      refine CW.ct rfl ?_
      refine Ja ?_;refine Jd ?_;refine Jb ?_
      refine CW.ret1 rfl Tryz.results56 rfl rfl fun w hw => ⟨(v1, v2, v3), by rw [hS], ?_⟩
      rw [hS]
      exact hw.take [1, 2, 3, 4]
    | true =>
    rw [if_pos hv] at hS
    refine CW.cf rfl ?_
    refine CW.skip ?_
    refine PW.code ?_
    refine Ja ?_;refine Je ?_;refine JA ?_;refine Jc ?_
    refine RW.call Tryz.call44 rfl (fun w2 hw => refFind_ret (StatOn.mono hst (ro_call hw)).kinds) rfl ?_
    refine Jd ?_;refine Jb ?_;refine Ja ?_;refine Jc ?_;refine Jf ?_;refine Je ?_;refine JB ?_;refine Jc ?_
    refine RW.call Tryz.call44 rfl (fun w2 hw => find_own (pre := [_, _]) hw (hb.namesOK hl)) rfl ?_
    refine Jd ?_;refine Jb ?_
    refine CW.seq ?_
    refine Ja ?_;refine Jc ?_;refine Jk ?_;refine Jb ?_
    refine CW.ite rfl (fun h1 => ?_) (fun h1 => ?_)
    · rw [if_pos h1] at hS
      refine Ja ?_;refine Jc ?_;refine Jc ?_;refine Jf ?_;refine Je ?_;refine JB ?_;refine Jc ?_
      refine RW.buildSlice (e := 9) (c := [.string a]) rfl (fun w => by kernel_rfl) rfl fun b28 _ => ?_
      refine RW.append [_, _, _] (e := 9) (sz := 1) (news := [[.string a]]) (zc := [.string ByteArray.empty]) rfl rfl rfl rfl rfl (by simp) (by simp [Value.oneCell']) (fun w hw hn => ?_) ?_ ?_ rfl fun u1 => ?_
      · exact ⟨b28, 0, rfl, CellsAt.of_blk (St.blk (pre := []) hw)⟩
      · rw [List.length_map]; omega
      · rw [List.length_map]; unfold maxN; omega
      dsimp only [List.cons_append, List.nil_append]
      refine RW.have_ (φ := u1.cells = #[u1] ∧ u1.oneCell' = true) (fun w hw => ?_) (fun hv1 => ?_)
      · obtain ⟨F2, hp, _⟩ := St.get (pre := [_, _, _]) hw
        rcases hp with ⟨rfl, _⟩ | ⟨B, c, tl, rfl, _⟩ <;> exact ⟨rfl, rfl⟩
      refine Jf ?_;refine Je ?_
      refine RW.store_blk [_, _] rfl rfl rfl hv1.1 hv1.2 (by show 0 < 3; omega) ?_
      refine RW.change [_, _] (blk bp [u1, v2, v3] 126) (fun w F hp => hp) ?_
      refine RW.take [1, 2, 3, 4, 5] ?_
      refine Jb ?_;refine Ja ?_;refine Jc ?_;refine Jc ?_;refine Jf ?_;refine Je ?_;refine JB ?_;refine Jc ?_
      refine RW.buildSlice (e := 3) (c := [.int .i64 (atN (sKinds s) kind)]) rfl (fun w => by kernel_rfl) rfl fun b28 _ => ?_
      refine RW.append [_, _, _, _] (e := 3) (sz := 1) (news := [[.int .i64 (atN (sKinds s) kind)]]) (zc := [.int .i64 0]) rfl rfl rfl rfl rfl (by simp) (by simp [Value.oneCell']) (fun w hw hn => ?_) ?_ ?_ rfl fun u2 => ?_
      · exact ⟨b28, 0, rfl, CellsAt.of_blk (St.blk (pre := []) hw)⟩
      · rw [List.length_map]; omega
      · rw [List.length_map]; unfold maxN; omega
      dsimp only [List.cons_append, List.nil_append]
      refine RW.have_ (φ := u2.cells = #[u2] ∧ u2.oneCell' = true) (fun w hw => ?_) (fun hv2 => ?_)
      · obtain ⟨F2, hp, _⟩ := St.get (pre := [_, _, _, _]) hw
        rcases hp with ⟨rfl, _⟩ | ⟨B, c, tl, rfl, _⟩ <;> exact ⟨rfl, rfl⟩
      refine Jf ?_;refine Je ?_
      refine RW.store_blk [_, _] rfl rfl rfl hv2.1 hv2.2 (by show 1 < 3; omega) ?_
      refine RW.change [_, _] (blk bp [u1, u2, v3] 126) (fun w F hp => hp) ?_
      refine Jb ?_;refine Ja ?_;refine Jd ?_;refine Jb ?_
      refine CW.ret1 rfl Tryz.results56 rfl rfl fun w hw => ⟨(u1, u2, v3), by rw [hS], ?_⟩
      rw [hS]
      dsimp only
      rw [List.map_append, List.map_append]
      exact hw.take [2, 3, 4, 5]
    · rw [if_neg h1] at hS
      obtain ⟨k, hk, ek, _⟩ := atN_in h1
      have hkk : k < b.kinds.length := by rw [hb.len]; exact hk
      rw [ek]
      rw [ek, show (b.kinds[(k : Int).toNat]?).getD 0 = b.kinds[k] by rw [Int.toNat_natCast, List.getElem?_eq_getElem hkk]; rfl] at hS
      have hce : (b.kinds.map numE)[k]? = some (numE b.kinds[k]) := by rw [List.getElem?_map, List.getElem?_eq_getElem hkk]; rfl
      refine CW.have_ (φ := ∃ B c, v2 = .slice (some ⟨B, 0, none⟩) b.kinds.length c) (fun w hw => ?_) (fun ⟨B, c, hBc⟩ => ?_)
      · rcases own_form (pre := [_, _, _]) hw with ⟨_, h2⟩ | ⟨B, c, h2, _⟩
        · rw [h2] at hce; simp at hce
        · rw [List.length_map] at h2; exact ⟨B, c, h2⟩
      subst hBc
      refine CW.skip ?_
      refine PW.code ?_
      refine CW.seq ?_
      refine Ja ?_;refine Jc ?_;refine Jf ?_;refine Je ?_;refine JB ?_;refine Jc ?_
      refine RW.indexAddr rfl rfl (by omega) (by omega) rfl ?_
      refine RW.loadOwn1 [_, _, _] (i := k) (j := 0) rfl (by simp) hce rfl rfl rfl ?_
      refine Jc ?_;refine Jj ?_;refine Jb ?_
      refine CW.ite rfl (fun h2 => ?_) (fun h2 => ?_)
      · rw [if_neg h2] at hS
        refine Ja ?_;refine Jd ?_;refine Jb ?_
        refine CW.ret1 rfl Tryz.results56 rfl rfl fun w hw => ⟨(v1, .slice (some ⟨B, 0, none⟩) b.kinds.length c, v3), by rw [hS], ?_⟩
        rw [hS]
        exact hw.take [1, 2, 3, 4]
      · rw [if_pos (Decidable.of_not_not h2)] at hS
        refine CW.skip ?_
        refine PW.code ?_
        refine Ja ?_;refine Jd ?_;refine Jb ?_
        refine CW.ret1 rfl Tryz.results56 rfl rfl fun w hw => ⟨(v1, .slice (some ⟨B, 0, none⟩) b.kinds.length c, v3), by rw [hS], ?_⟩
        rw [hS]
        exact hw.take [1, 2, 3, 4]
set_option maxHeartbeats 16000000 in
theorem ref_loose_ret {s : kStat.V} {x : RC} {bp : Nat} {b : Bk} {q : VVV} {a : Str} {w : World} {F : Nat → Prop} (hst : StatOn (mem w (fun b => ¬ F b)) s x) (hH : Sep (bkH bp b q) w F) (hl : b.loose.length ≤ 1000000) :
    RetC Tryz.prog 175 [.pointer (some ⟨bp, 0, none⟩), .agg (x.stat s).toArray, .string a] w F (fun _ : VVV => .int .i64 (rLoose s b a).1) (fun q' => bkH bp (rLoose s b a).2 q') := by
  obtain ⟨v1, v2, v3⟩ := q
  generalize hS : rLoose s b a = SP
  have hS := hS.symm
  unfold rLoose at hS
  have hmn := names_ok hst.members (by decide)
  refine Calls.enter Tryz.func175 rfl _ rfl rfl (S := F) (H := bkH bp b (v1, v2, v3)) hH ?_
  refine CW.seqR ?_
  refine RW.box_agg (l := x.stat s) rfl rfl fun b5 _ => ?_
  dsimp only [bkH]
  refine Jd ?_;refine Jb ?_
  refine CW.seq ?_
  refine Ja ?_;refine Jc ?_
  refine RW.call Tryz.call136 rfl (fun w2 hw => r8_IsName_ret) rfl ?_
  refine Jb ?_
  cases hn : isNameD a with
  | true =>
    rw [if_pos hn] at hS
    refine CW.ct rfl ?_
    refine CW.seq ?_
    refine Ja ?_;refine JE ?_
    refine RW.callN Tryz.call57 rfl (fun w2 hw => ref_members_ret (StatOn.mono hst (ro_call hw))) rfl fun v => ?_
    refine Jc ?_
    refine RW.call Tryz.call44 rfl (fun w2 hw => find_own (pre := []) hw hmn) rfl ?_
    refine RW.take [1, 2, 3, 4, 5] ?_
    refine Jk ?_;refine Jb ?_
    refine CW.ite rfl (fun h1 => ?_) (fun h1 => ?_)
    · rw [if_pos h1] at hS
      refine Ja ?_;refine Jd ?_;refine Jb ?_
      refine CW.ret1 rfl Tryz.results175 rfl rfl fun w hw => ⟨(v1, v2, v3), by rw [hS], ?_⟩
      rw [hS]
      exact hw.take [1, 2, 3, 4]
    · rw [if_neg h1] at hS
      refine CW.skip ?_
      refine PW.code ?_
      refine Ja ?_;refine Jd ?_;refine Jb ?_
      refine CW.ret1 rfl Tryz.results175 rfl rfl fun w hw => ⟨(v1, v2, v3), by rw [hS], ?_⟩
      rw [hS]
      exact hw.take [1, 2, 3, 4]
  | false =>
    rw [if_neg (by rw [hn]; simp)] at hS
    refine CW.cf rfl ?_
    refine CW.skip ?_
    refine PW.code ?_
    refine CW.seq ?_
    refine Ja ?_;refine Jc ?_
    refine RW.call Tryz.call43 rfl (fun w2 hw => r8_IsVar_ret) rfl ?_
    refine Js ?_;refine Jb ?_
    cases hv : isVarD a with
    | false =>
      rw [if_neg (by rw [hv]; simp)] at hS
      refine CW.ct rfl ?_
      refine Ja ?_;refine Jd ?_;refine Jb ?_
      refine CW.ret1 rfl Tryz.results175 rfl rfl fun w hw => ⟨(v1, v2, v3), by rw [hS], ?_⟩
      rw [hS]
      exact hw.take [1, 2, 3, 4]
    | true =>
      rw [if_pos hv] at hS
      refine CW.cf rfl ?_
      refine CW.skip ?_
      refine PW.code ?_
      refine Ja ?_;refine Jc ?_;refine Jc ?_;refine Jf ?_;refine Je ?_;refine JB ?_;refine Jc ?_
      refine RW.buildSlice (e := 9) (c := [.string a]) rfl (fun w => by kernel_rfl) rfl fun b28 _ => ?_
      refine RW.append [_, _, _, _, _] (e := 9) (sz := 1) (news := [[.string a]]) (zc := [.string ByteArray.empty]) rfl rfl rfl rfl rfl (by simp) (by simp [Value.oneCell']) (fun w hw hn => ?_) ?_ ?_ rfl fun u3 => ?_
      · exact ⟨b28, 0, rfl, CellsAt.of_blk (St.blk (pre := []) hw)⟩
      · rw [List.length_map]; omega
      · rw [List.length_map]; unfold maxN; omega
      dsimp only [List.cons_append, List.nil_append]
      refine RW.have_ (φ := u3.cells = #[u3] ∧ u3.oneCell' = true) (fun w hw => ?_) (fun hv3 => ?_)
      · obtain ⟨F2, hp, _⟩ := St.get (pre := [_, _, _, _, _]) hw
        rcases hp with ⟨rfl, _⟩ | ⟨B, c, tl, rfl, _⟩ <;> exact ⟨rfl, rfl⟩
      refine Jf ?_;refine Je ?_
      refine RW.store_blk [_, _] rfl rfl rfl hv3.1 hv3.2 (by show 2 < 3; omega) ?_
      refine RW.change [_, _] (blk bp [v1, v2, u3] 126) (fun w F hp => hp) ?_
      refine Jb ?_;refine Ja ?_;refine Jd ?_;refine Jb ?_
      refine CW.ret1 rfl Tryz.results175 rfl rfl fun w hw => ⟨(v1, v2, u3), by rw [hS], ?_⟩
      rw [hS]
      dsimp only
      rw [List.map_append]
      exact hw.take [2, 3, 4, 5]
set_option maxHeartbeats 16000000 in
theorem ref_args_ret {s : kStat.V} {x : RC} {bp : Nat} {b : Bk} {q : VVV} {p : kPredT.V} {pcs : List Value} {A : Option Addr} {c : Nat} {l : List Str} {w : World} {F : Nat → Prop} (hst : StatOn (mem w (fun b => ¬ F b)) s x) (hp : Rd kPredT (mem w (fun b => ¬ F b)) pcs p) (hl : Rd kStrs (mem w (fun b => ¬ F b)) [.slice A l.length c] l) (hH : Sep (bkH bp b q) w F) (hb : BkOK b) (hbd : b.names.length + p.2.2.1.length ≤ 1000000) :
    RetC Tryz.prog 137 [.pointer (some ⟨bp, 0, none⟩), .agg (x.stat s).toArray, .agg pcs.toArray, .slice A l.length c] w F (fun _ : VVV => .int .i64 (rArgs s b p l).1) (fun q' => bkH bp (rArgs s b p l).2 q') := by
  generalize hS : rArgs s b p l = SP
  have hS := hS.symm
  unfold rArgs at hS
  have hle : Mem.le (mem w (fun b => ¬ F b)) (mem w (fun b => ¬ F b)) := Mem.le_refl _
  have hll := sl_small hl
  unfold reach at hll
  obtain ⟨KA, kc, VA, vc, rfl, hks, hvs⟩ := Rd.predT hp
  refine Calls.enter Tryz.func137 rfl _ rfl rfl (S := F) (H := bkH bp b q) hH ?_
  refine CW.seqR ?_
  refine RW.box_agg (l := x.stat s) rfl rfl fun b5 _ => ?_
  refine RW.box_agg (l := [.string p.1, .int .i64 p.2.1, .slice KA p.2.2.1.length kc, .slice VA p.2.2.2.length vc]) rfl rfl fun b6 _ => ?_
  dsimp only [bkH]
  refine Jd ?_;refine Jb ?_
  refine CW.seq ?_
  refine Ja ?_;refine Jc ?_;refine Jg ?_;refine Je ?_;refine JA ?_;refine Jg ?_;refine Jj ?_;refine Jb ?_
  refine CW.ite rfl (fun h1 => ?_) (fun h1 => ?_)
  · rw [if_pos h1] at hS
    refine Ja ?_;refine Jd ?_;refine Jb ?_
    refine CW.ret1 rfl Tryz.results137 rfl rfl fun w hw => ⟨q, by rw [hS], ?_⟩
    rw [hS]
    exact hw.take [2, 3, 4, 5]
  rw [if_neg h1] at hS
  have hlen : l.length = p.2.2.1.length := by omega
  have hzl : (l.zip p.2.2.1).length = l.length := by rw [List.length_zip]; omega
  refine CW.skip ?_
  refine PW.code ?_
  refine CW.seq ?_
  refine Ja ?_;refine Jd ?_;refine Jb ?_
  refine CW.block ?_
  refine CW.loop (ι := { y : Nat × Bk × VVV // y.1 ≤ l.length ∧ BkOK y.2.1 ∧ y.2.1.names.length ≤ b.names.length + y.1 ∧ SP = foldC (fun b (a : Str × Str) => rArg s b a.1 a.2) y.2.1 ((l.zip p.2.2.1).drop y.1) }) (fun y => [(0, ptrV bp), (3, .slice A l.length c), (5, ptrV b5), (6, ptrV b6), (9, .int .i64 y.1.1)]) (fun y => [blk b6 [.string p.1, .int .i64 p.2.1, .slice KA p.2.2.1.length kc, .slice VA p.2.2.2.length vc] 151, blk b5 (x.stat s) 31] ++ bkH bp y.1.2.1 y.1.2.2) (fun y => l.length - y.1.1) ⟨(0, b, q), Nat.zero_le _, hb, Nat.le_refl _, hS⟩ ⟨rfl, rfl, rfl, rfl, rfl, trivial⟩ (fun h => h) ?_
  intro ⟨⟨k, b1, q1⟩, hk, hb1, hn1, hS1⟩
  dsimp only [List.cons_append, List.nil_append] at hk hb1 hn1 hS1 ⊢
  refine CW.seq ?_
  refine Ja ?_;refine Jc ?_;refine Jc ?_;refine Jg ?_;refine Jk ?_;refine Jb ?_
  refine CW.ite rfl (fun hlt => ?_) (fun hge => ?_)
  rotate_left
  · have hge' : l.length ≤ k := by simpa using hge
    rw [List.drop_eq_nil_of_le (by omega)] at hS1
    refine CW.exit rfl ?_
    refine PW.code ?_
    refine Ja ?_;refine Jd ?_;refine Jb ?_
    refine CW.ret1 rfl Tryz.results137 rfl rfl fun w hw => ⟨q1, by rw [hS1]; rfl, ?_⟩
    rw [hS1]
    exact hw.take [2, 3, 4, 5]
  have hlt' : k < l.length := by simpa using hlt
  have hltp : k < p.2.2.1.length := by omega
  have hltz : k < (l.zip p.2.2.1).length := by omega
  have hz : (l.zip p.2.2.1)[k] = (l[k], p.2.2.1[k]) := List.getElem_zip
  obtain ⟨B1, O1, es1, hA1, hl1, hr1, hm1⟩ := sl_get hl (List.getElem?_eq_getElem hlt')
  obtain rfl := str_cell hr1
  obtain ⟨B2, O2, es2, hA2, hl2, hr2, hm2⟩ := sl_get hks (List.getElem?_eq_getElem hltp)
  obtain rfl := str_cell hr2
  refine CW.skip ?_
  refine PW.code ?_
  refine CW.seq ?_
  refine CW.block ?_
  refine CW.seqA (by kernel_rfl) rfl ?_
  refine AW.val rfl (fun _ _ => by refine Jc ?_;exact RW.done rfl) ?_;refine AW.val rfl (fun _ _ => by refine JF ?_;exact RW.done rfl) ?_;refine AW.val rfl (fun _ _ => by refine Jc ?_;exact RW.done rfl) ?_;refine AW.val rfl (fun _ _ => by refine Jc ?_;exact RW.done rfl) ?_
  (apply AW.val rfl; · intro Gx X; (first | refine RW.yes rfl ?_ | skip); refine RW.indexAddrE hA1 rfl rfl (by omega) hlt rfl ?_; exact RW.done rfl)
  (apply AW.val rfl; · intro Gx X; (first | refine RW.yes rfl ?_ | skip); refine RW.load_ro rfl hle (hm1 0 _ rfl) rfl rfl ?_; exact RW.done rfl)
  refine AW.val rfl (fun _ _ => by refine Je ?_;exact RW.done rfl) ?_;refine AW.val rfl (fun _ _ => by refine JA ?_;exact RW.done rfl) ?_;refine AW.val rfl (fun _ _ => by refine Jc ?_;exact RW.done rfl) ?_
  (apply AW.val rfl; · intro Gx X; (first | refine RW.yes rfl ?_ | skip); refine RW.indexAddrE hA2 rfl rfl (by omega) (by omega) rfl ?_; exact RW.done rfl)
  (apply AW.val rfl; · intro Gx X; (first | refine RW.yes rfl ?_ | skip); refine RW.load_ro rfl hle (hm2 0 _ rfl) rfl rfl ?_; exact RW.done rfl)
  refine AW.stop (by kernel_rfl) (by kernel_rfl) fun bs => ?_
  refine RW.callT [2, 3, 4, 5, 0, 1] (bkH bp b1 q1) rfl rfl rfl Tryz.call56 (fun w2 F2 hM h1 _ => ref_arg_ret (StatOn.mono hst hM) h1 hb1 (by omega)) fun q2 => ?_
  refine RW.take [4, 5, 0, 1, 2, 3] ?_
  refine Jd ?_;refine Jb ?_;refine Ja ?_;refine Jc ?_;refine Jj ?_;refine Jb ?_
  obtain ⟨g1, g2, _⟩ := rArg_ok (s := s) (x := l[k]) (kind := p.2.2.1[k]) hb1
  refine CW.ite rfl (fun h2 => ?_) (fun h2 => ?_)
  · rw [foldC_bad hltz (by rw [hz]; exact h2), hz] at hS1
    refine Ja ?_;refine Jc ?_;refine Jd ?_;refine Jb ?_
    refine CW.ret1 rfl Tryz.results137 rfl rfl fun w hw => ⟨q2, by rw [hS1], ?_⟩
    rw [hS1]
    exact hw.take [2, 3, 4, 5]
  have h2 := Decidable.of_not_not h2
  rw [foldC_step hltz (by rw [hz]; exact h2), hz] at hS1
  refine CW.skip ?_
  refine PW.code ?_
  refine CW.region ?_
  refine Jc ?_
  refine RW.add rfl rfl (w64 (by omega) (by omega)) rfl ?_
  refine Jd ?_
  refine RW.nil ?_
  exact PW.again ⟨(k + 1, (rArg s b1 l[k] p.2.2.1[k]).2, q2), hlt', g1, (by show (rArg s b1 l[k] p.2.2.1[k]).2.names.length ≤ b.names.length + (k + 1); omega), hS1⟩ ⟨rfl, rfl, rfl, rfl, rfl, trivial⟩ (fun h => h) (by show l.length - (k + 1) < l.length - k; omega)
end Go.Proofs.YtkfmlekomfnleaaGreat
