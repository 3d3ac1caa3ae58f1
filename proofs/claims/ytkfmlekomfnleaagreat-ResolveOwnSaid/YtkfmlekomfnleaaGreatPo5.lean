/- Parts of the proof: resolve.index, resolve.resolve, by the calculus. · The calculus, fourteenth part: maps of one's own, keys of any kind that compares. · Calls of function values that may unwind; what stays; a resolver's data without its own block. · What the resolver's items come to, as data. · resolve.each, by the calculus, over what the closure does. · The closures of the resolver's items, by the calculus. · The resolver's closure for exceptions: a map of two names. · The resolver's items, by the calculus. Conditions: none. -/
import Derived.Laws.StructEq
import Derived.Test.YtkfmlekomfnleaaGreatPo4
/- resolve.index, resolve.resolve, by the calculus. Conditions: none. -/
set_option linter.unusedVariables false
set_option linter.unusedSimpArgs false
set_option maxRecDepth 10000
namespace Go.Proofs.YtkfmlekomfnleaaGreat
open Go Go.RowKit

attribute [local irreducible] RW CW
theorem indexGo_step {names : List Str} {k : Nat} {m : List (Str × Int)} (h : k < names.length) : indexGo (names.drop k) k m = indexGo (names.drop (k + 1)) ((k + 1 : Nat) : Int) (match getM m names[k] with | some _ => m | none => putM m names[k] k) := by
  rw [List.drop_eq_getElem_cons h, indexGo]; rfl
theorem indexGo_end {names : List Str} {k : Nat} {m : List (Str × Int)} (h : names.length ≤ k) : indexGo (names.drop k) k m = m := by
  rw [List.drop_eq_nil_of_le h]; rfl
theorem nameof1_ret {x : Str} {w : World} : Ret Tryz.prog 88 [.string x] w (.string x) := by
  refine Calls.enter Tryz.func88 rfl _ rfl rfl (S := No) (H := []) trivial ?_
  refine Ja ?_;refine Jd ?_;refine Jb ?_;refine Ja ?_;refine Jc ?_;refine Jd ?_;refine Jb ?_
  exact CW.ret1 rfl Tryz.results88 rfl rfl fun w hw => ⟨rfl, hw.kp⟩
set_option maxHeartbeats 4000000 in
theorem index1_ret {A : Option Addr} {c : Nat} {l : List Str} {w : World} (h : Rd kStrs (mem w (fun b => ¬ No b)) [.slice A l.length c] l) :
    RetC Tryz.prog 87 [.slice A l.length c, .func (.func 88) #[] #[]] w No (fun b : Nat => .map (some b)) (fun b => [mapHP strK intK .string b (indexD l)]) := by
  have hsm := sl_small h
  unfold reach at hsm
  have hle : Mem.le (mem w (fun b => ¬ No b)) (mem w (fun b => ¬ No b)) := Mem.le_refl _
  refine Calls.enter Tryz.func87 rfl _ rfl rfl (S := No) (H := []) trivial ?_
  refine Ja ?_;refine Jd ?_;refine Jb ?_;refine Ja ?_;refine Jc ?_;refine Jg ?_
  refine RW.makeMap (κ := Str) (α := Int) strK intK .string (fun o ho => by cases ho; exact ⟨_, rfl⟩) rfl fun b5 => ?_
  refine Jd ?_;refine Jb ?_
  refine CW.seq ?_
  refine Ja ?_;refine Jc ?_;refine Jg ?_;refine Jc ?_;refine Jb ?_
  refine CW.block ?_
  refine CW.loop (ι := { q : Nat × List (Str × Int) // q.1 ≤ l.length ∧ indexGo (l.drop q.1) q.1 q.2 = indexD l }) (fun q => [(0, .slice A l.length c), (1, .func (.func 88) #[] #[]), (5, .map (some b5)), (13, .slice A l.length c), (14, .int .i64 l.length), (15, .int .i64 q.1.1)]) (fun q => [mapHP strK intK .string b5 q.1.2]) (fun q => l.length - q.1.1) ⟨(0, []), Nat.zero_le _, rfl⟩ ⟨rfl, rfl, rfl, rfl, rfl, rfl, trivial⟩ (fun h => h) ?_
  intro ⟨⟨k, m⟩, hk, hS⟩
  dsimp only at hS hk ⊢
  refine Ja ?_;refine Jk ?_;refine Jb ?_
  refine CW.seq ?_
  refine CW.ite rfl (fun hlt => ?_) (fun hge => ?_)
  · have hlt' : k < l.length := by simpa using hlt
    rw [indexGo_step (by omega)] at hS
    skip
    obtain ⟨B1, O1, es1, hA, hl1, hr, hm⟩ := sl_get h (List.getElem?_eq_getElem hlt')
    obtain rfl := str_cell hr
    have hnames : (l)[k]'hlt' = l[k] := rfl
    refine JM ?_
    refine CW.seq ?_
    refine CW.block ?_
    refine Ja ?_;refine Jc ?_
    refine RW.indexAddrE hA rfl rfl (by omega) hlt rfl ?_
    skip
    refine RW.load_ro rfl hle (hm 0 _ rfl) rfl rfl ?_
    refine Jd ?_;refine Jd ?_;refine Jb ?_;refine Ja ?_;refine Jc ?_;refine Jc ?_;refine Jc ?_
    refine RW.callv (caps := []) Tryz.call88 rfl rfl (fun w hw => nameof1_ret) rfl ?_
    refine RW.lookupOk [] (a0 := (0 : Int)) rfl rfl rfl rfl ?_
    refine Jc ?_;refine Jt ?_;refine Jt ?_;refine Jd ?_;refine Jd ?_;refine Jb ?_;refine Ja ?_;refine Jc ?_;refine Js ?_;refine Jb ?_
    cases hg : getM m l[k] with
    | some u =>
      rw [hg] at hS
      refine CW.cf rfl ?_
      refine CW.skip ?_
      refine PW.code ?_
      refine CW.region ?_
      refine RW.add rfl rfl (w64 (by omega) (by omega)) rfl ?_
      refine Jc ?_
      refine RW.nil ?_
      exact PW.again ⟨(k + 1, m), hlt', hS⟩ ⟨rfl, rfl, rfl, rfl, rfl, rfl, trivial⟩ (fun h => h) (by show l.length - (k + 1) < l.length - k; omega)
    | none =>
      rw [hg] at hS
      refine CW.ct rfl ?_
      refine CW.region ?_
      refine Jc ?_;refine Jc ?_;refine Jc ?_
      refine RW.callv (caps := []) Tryz.call88 rfl rfl (fun w hw => nameof1_ret) rfl ?_
      refine Jc ?_
      refine RW.mapUpdate [] (a := (k : Int)) rfl rfl rfl rfl ?_
      refine RW.nil ?_
      refine PW.code ?_
      refine CW.region ?_
      refine RW.add rfl rfl (w64 (by omega) (by omega)) rfl ?_
      refine Jc ?_
      refine RW.nil ?_
      exact PW.again ⟨(k + 1, putM m l[k] k), hlt', hS⟩ ⟨rfl, rfl, rfl, rfl, rfl, rfl, trivial⟩ (fun h => h) (by show l.length - (k + 1) < l.length - k; omega)
  · have hge' : l.length ≤ k := by simpa using hge
    rw [indexGo_end (by omega)] at hS
    subst hS
    refine CW.exit rfl ?_
    refine PW.code ?_
    refine Ja ?_;refine Jc ?_;refine Jd ?_;refine Jb ?_
    exact CW.ret1 rfl Tryz.results87 rfl rfl fun w hw => ⟨b5, rfl, hw⟩
theorem nameof2_ret {M : Mem} {cs : List Value} {y : (kMember).V} {w : World} (h : Rd kMember M cs y) : Ret Tryz.prog 90 [.agg cs.toArray] w (.string (nameOf y)) := by
  obtain ⟨c2, rfl⟩ := rd_name h
  refine Calls.enter Tryz.func90 rfl _ rfl rfl (S := No) (H := []) trivial ?_
  refine CW.seqR ?_
  refine RW.box_agg rfl rfl fun b1 _ => ?_
  refine Jd ?_;refine Jb ?_;refine Ja ?_;refine Je ?_;refine JA ?_;refine Jd ?_;refine Jb ?_
  exact CW.ret1 rfl Tryz.results90 rfl rfl fun w hw => ⟨rfl, hw.kp⟩
set_option maxHeartbeats 4000000 in
theorem index2_ret {A : Option Addr} {c : Nat} {l : List (kMember).V} {w : World} (h : Rd (.sl 32 kMember) (mem w (fun b => ¬ No b)) [.slice A l.length c] l) :
    RetC Tryz.prog 89 [.slice A l.length c, .func (.func 90) #[] #[]] w No (fun b : Nat => .map (some b)) (fun b => [mapHP strK intK .string b (indexD (l.map nameOf))]) := by
  have hsm := sl_small h
  unfold reach at hsm
  have hle : Mem.le (mem w (fun b => ¬ No b)) (mem w (fun b => ¬ No b)) := Mem.le_refl _
  refine Calls.enter Tryz.func89 rfl _ rfl rfl (S := No) (H := []) trivial ?_
  refine Ja ?_;refine Jd ?_;refine Jb ?_;refine Ja ?_;refine Jc ?_;refine Jg ?_
  refine RW.makeMap (κ := Str) (α := Int) strK intK .string (fun o ho => by cases ho; exact ⟨_, rfl⟩) rfl fun b5 => ?_
  refine Jd ?_;refine Jb ?_
  refine CW.seq ?_
  refine Ja ?_;refine Jc ?_;refine Jg ?_;refine Jc ?_;refine Jb ?_
  refine CW.block ?_
  refine CW.loop (ι := { q : Nat × List (Str × Int) // q.1 ≤ l.length ∧ indexGo ((l.map nameOf).drop q.1) q.1 q.2 = indexD (l.map nameOf) }) (fun q => [(0, .slice A l.length c), (1, .func (.func 90) #[] #[]), (5, .map (some b5)), (13, .slice A l.length c), (14, .int .i64 l.length), (15, .int .i64 q.1.1)]) (fun q => [mapHP strK intK .string b5 q.1.2]) (fun q => l.length - q.1.1) ⟨(0, []), Nat.zero_le _, rfl⟩ ⟨rfl, rfl, rfl, rfl, rfl, rfl, trivial⟩ (fun h => h) ?_
  intro ⟨⟨k, m⟩, hk, hS⟩
  dsimp only at hS hk ⊢
  refine Ja ?_;refine Jk ?_;refine Jb ?_
  refine CW.seq ?_
  refine CW.ite rfl (fun hlt => ?_) (fun hge => ?_)
  · have hlt' : k < l.length := by simpa using hlt
    rw [indexGo_step (by rw [List.length_map]; omega)] at hS
    rw [List.getElem_map] at hS
    obtain ⟨B1, O1, cs, hA, hl1, hr, hm⟩ := sl_get h (List.getElem?_eq_getElem hlt')
    refine JM ?_
    refine CW.seq ?_
    refine CW.block ?_
    refine Ja ?_;refine Jc ?_
    refine RW.indexAddrE hA rfl rfl (by omega) hlt rfl ?_
    refine RW.load_ros rfl hle hm rfl hl1 (by rw [hl1]; decide) rfl ?_
    refine RW.alloc rfl rfl fun b7 _ => ?_
    refine Jd ?_
    refine RW.store_whole [] rfl rfl (vs := cs) rfl hl1 hl1 (Rd.one hr) ?_
    refine Jb ?_;refine Ja ?_;refine Jc ?_;refine Jc ?_
    refine RW.load_whole [] rfl hl1 rfl rfl ?_
    refine RW.callv (caps := []) Tryz.call90 rfl rfl (fun w hw => nameof2_ret hr) rfl ?_
    refine RW.lookupOk [_] (a0 := (0 : Int)) rfl rfl rfl rfl ?_
    refine Jc ?_;refine Jt ?_;refine Jt ?_;refine Jd ?_;refine Jd ?_;refine Jb ?_;refine Ja ?_;refine Jc ?_;refine Js ?_;refine Jb ?_
    cases hg : getM m (nameOf l[k]) with
    | some u =>
      rw [hg] at hS
      refine CW.cf rfl ?_
      refine CW.skip ?_
      refine PW.code ?_
      refine CW.region ?_
      refine RW.add rfl rfl (w64 (by omega) (by omega)) rfl ?_
      refine Jc ?_
      refine RW.nil ?_
      exact PW.again ⟨(k + 1, m), hlt', hS⟩ ⟨rfl, rfl, rfl, rfl, rfl, rfl, trivial⟩ (fun h => h.sub (List.Sublist.cons _ (List.Sublist.refl _))) (by show l.length - (k + 1) < l.length - k; omega)
    | none =>
      rw [hg] at hS
      refine CW.ct rfl ?_
      refine CW.region ?_
      refine Jc ?_;refine Jc ?_
      refine RW.load_whole [] rfl hl1 rfl rfl ?_
      refine RW.callv (caps := []) Tryz.call90 rfl rfl (fun w hw => nameof2_ret hr) rfl ?_
      refine Jc ?_
      refine RW.mapUpdate [_] (a := (k : Int)) rfl rfl rfl rfl ?_
      refine RW.nil ?_
      refine PW.code ?_
      refine CW.region ?_
      refine RW.add rfl rfl (w64 (by omega) (by omega)) rfl ?_
      refine Jc ?_
      refine RW.nil ?_
      exact PW.again ⟨(k + 1, putM m (nameOf l[k]) k), hlt', hS⟩ ⟨rfl, rfl, rfl, rfl, rfl, rfl, trivial⟩ (fun h => h.sub (List.Sublist.cons _ (List.Sublist.refl _))) (by show l.length - (k + 1) < l.length - k; omega)
  · have hge' : l.length ≤ k := by simpa using hge
    rw [indexGo_end (by rw [List.length_map]; omega)] at hS
    subst hS
    refine CW.exit rfl ?_
    refine PW.code ?_
    refine Ja ?_;refine Jc ?_;refine Jd ?_;refine Jb ?_
    exact CW.ret1 rfl Tryz.results89 rfl rfl fun w hw => ⟨b5, rfl, hw⟩
theorem nameof3_ret {M : Mem} {cs : List Value} {y : (kPredT).V} {w : World} (h : Rd kPredT M cs y) : Ret Tryz.prog 92 [.agg cs.toArray] w (.string (nameOf y)) := by
  obtain ⟨c2, rfl⟩ := rd_name h
  refine Calls.enter Tryz.func92 rfl _ rfl rfl (S := No) (H := []) trivial ?_
  refine CW.seqR ?_
  refine RW.box_agg rfl rfl fun b1 _ => ?_
  refine Jd ?_;refine Jb ?_;refine Ja ?_;refine Je ?_;refine JA ?_;refine Jd ?_;refine Jb ?_
  exact CW.ret1 rfl Tryz.results92 rfl rfl fun w hw => ⟨rfl, hw.kp⟩
set_option maxHeartbeats 4000000 in
theorem index3_ret {A : Option Addr} {c : Nat} {l : List (kPredT).V} {w : World} (h : Rd (.sl 72 kPredT) (mem w (fun b => ¬ No b)) [.slice A l.length c] l) :
    RetC Tryz.prog 91 [.slice A l.length c, .func (.func 92) #[] #[]] w No (fun b : Nat => .map (some b)) (fun b => [mapHP strK intK .string b (indexD (l.map nameOf))]) := by
  have hsm := sl_small h
  unfold reach at hsm
  have hle : Mem.le (mem w (fun b => ¬ No b)) (mem w (fun b => ¬ No b)) := Mem.le_refl _
  refine Calls.enter Tryz.func91 rfl _ rfl rfl (S := No) (H := []) trivial ?_
  refine Ja ?_;refine Jd ?_;refine Jb ?_;refine Ja ?_;refine Jc ?_;refine Jg ?_
  refine RW.makeMap (κ := Str) (α := Int) strK intK .string (fun o ho => by cases ho; exact ⟨_, rfl⟩) rfl fun b5 => ?_
  refine Jd ?_;refine Jb ?_
  refine CW.seq ?_
  refine Ja ?_;refine Jc ?_;refine Jg ?_;refine Jc ?_;refine Jb ?_
  refine CW.block ?_
  refine CW.loop (ι := { q : Nat × List (Str × Int) // q.1 ≤ l.length ∧ indexGo ((l.map nameOf).drop q.1) q.1 q.2 = indexD (l.map nameOf) }) (fun q => [(0, .slice A l.length c), (1, .func (.func 92) #[] #[]), (5, .map (some b5)), (13, .slice A l.length c), (14, .int .i64 l.length), (15, .int .i64 q.1.1)]) (fun q => [mapHP strK intK .string b5 q.1.2]) (fun q => l.length - q.1.1) ⟨(0, []), Nat.zero_le _, rfl⟩ ⟨rfl, rfl, rfl, rfl, rfl, rfl, trivial⟩ (fun h => h) ?_
  intro ⟨⟨k, m⟩, hk, hS⟩
  dsimp only at hS hk ⊢
  refine Ja ?_;refine Jk ?_;refine Jb ?_
  refine CW.seq ?_
  refine CW.ite rfl (fun hlt => ?_) (fun hge => ?_)
  · have hlt' : k < l.length := by simpa using hlt
    rw [indexGo_step (by rw [List.length_map]; omega)] at hS
    rw [List.getElem_map] at hS
    obtain ⟨B1, O1, cs, hA, hl1, hr, hm⟩ := sl_get h (List.getElem?_eq_getElem hlt')
    refine JM ?_
    refine CW.seq ?_
    refine CW.block ?_
    refine Ja ?_;refine Jc ?_
    refine RW.indexAddrE hA rfl rfl (by omega) hlt rfl ?_
    refine RW.load_ros rfl hle hm rfl hl1 (by rw [hl1]; decide) rfl ?_
    refine RW.alloc rfl rfl fun b7 _ => ?_
    refine Jd ?_
    refine RW.store_whole [] rfl rfl (vs := cs) rfl hl1 hl1 (Rd.one hr) ?_
    refine Jb ?_;refine Ja ?_;refine Jc ?_;refine Jc ?_
    refine RW.load_whole [] rfl hl1 rfl rfl ?_
    refine RW.callv (caps := []) Tryz.call92 rfl rfl (fun w hw => nameof3_ret hr) rfl ?_
    refine RW.lookupOk [_] (a0 := (0 : Int)) rfl rfl rfl rfl ?_
    refine Jc ?_;refine Jt ?_;refine Jt ?_;refine Jd ?_;refine Jd ?_;refine Jb ?_;refine Ja ?_;refine Jc ?_;refine Js ?_;refine Jb ?_
    cases hg : getM m (nameOf l[k]) with
    | some u =>
      rw [hg] at hS
      refine CW.cf rfl ?_
      refine CW.skip ?_
      refine PW.code ?_
      refine CW.region ?_
      refine RW.add rfl rfl (w64 (by omega) (by omega)) rfl ?_
      refine Jc ?_
      refine RW.nil ?_
      exact PW.again ⟨(k + 1, m), hlt', hS⟩ ⟨rfl, rfl, rfl, rfl, rfl, rfl, trivial⟩ (fun h => h.sub (List.Sublist.cons _ (List.Sublist.refl _))) (by show l.length - (k + 1) < l.length - k; omega)
    | none =>
      rw [hg] at hS
      refine CW.ct rfl ?_
      refine CW.region ?_
      refine Jc ?_;refine Jc ?_
      refine RW.load_whole [] rfl hl1 rfl rfl ?_
      refine RW.callv (caps := []) Tryz.call92 rfl rfl (fun w hw => nameof3_ret hr) rfl ?_
      refine Jc ?_
      refine RW.mapUpdate [_] (a := (k : Int)) rfl rfl rfl rfl ?_
      refine RW.nil ?_
      refine PW.code ?_
      refine CW.region ?_
      refine RW.add rfl rfl (w64 (by omega) (by omega)) rfl ?_
      refine Jc ?_
      refine RW.nil ?_
      exact PW.again ⟨(k + 1, putM m (nameOf l[k]) k), hlt', hS⟩ ⟨rfl, rfl, rfl, rfl, rfl, rfl, trivial⟩ (fun h => h.sub (List.Sublist.cons _ (List.Sublist.refl _))) (by show l.length - (k + 1) < l.length - k; omega)
  · have hge' : l.length ≤ k := by simpa using hge
    rw [indexGo_end (by rw [List.length_map]; omega)] at hS
    subst hS
    refine CW.exit rfl ?_
    refine PW.code ?_
    refine Ja ?_;refine Jc ?_;refine Jd ?_;refine Jb ?_
    exact CW.ret1 rfl Tryz.results91 rfl rfl fun w hw => ⟨b5, rfl, hw⟩
theorem nameof4_ret {M : Mem} {cs : List Value} {y : (kSource).V} {w : World} (h : Rd kSource M cs y) : Ret Tryz.prog 94 [.agg cs.toArray] w (.string (nameOf y)) := by
  obtain ⟨c2, rfl⟩ := rd_name h
  refine Calls.enter Tryz.func94 rfl _ rfl rfl (S := No) (H := []) trivial ?_
  refine CW.seqR ?_
  refine RW.box_agg rfl rfl fun b1 _ => ?_
  refine Jd ?_;refine Jb ?_;refine Ja ?_;refine Je ?_;refine JA ?_;refine Jd ?_;refine Jb ?_
  exact CW.ret1 rfl Tryz.results94 rfl rfl fun w hw => ⟨rfl, hw.kp⟩
set_option maxHeartbeats 4000000 in
theorem index4_ret {A : Option Addr} {c : Nat} {l : List (kSource).V} {w : World} (h : Rd (.sl 24 kSource) (mem w (fun b => ¬ No b)) [.slice A l.length c] l) :
    RetC Tryz.prog 93 [.slice A l.length c, .func (.func 94) #[] #[]] w No (fun b : Nat => .map (some b)) (fun b => [mapHP strK intK .string b (indexD (l.map nameOf))]) := by
  have hsm := sl_small h
  unfold reach at hsm
  have hle : Mem.le (mem w (fun b => ¬ No b)) (mem w (fun b => ¬ No b)) := Mem.le_refl _
  refine Calls.enter Tryz.func93 rfl _ rfl rfl (S := No) (H := []) trivial ?_
  refine Ja ?_;refine Jd ?_;refine Jb ?_;refine Ja ?_;refine Jc ?_;refine Jg ?_
  refine RW.makeMap (κ := Str) (α := Int) strK intK .string (fun o ho => by cases ho; exact ⟨_, rfl⟩) rfl fun b5 => ?_
  refine Jd ?_;refine Jb ?_
  refine CW.seq ?_
  refine Ja ?_;refine Jc ?_;refine Jg ?_;refine Jc ?_;refine Jb ?_
  refine CW.block ?_
  refine CW.loop (ι := { q : Nat × List (Str × Int) // q.1 ≤ l.length ∧ indexGo ((l.map nameOf).drop q.1) q.1 q.2 = indexD (l.map nameOf) }) (fun q => [(0, .slice A l.length c), (1, .func (.func 94) #[] #[]), (5, .map (some b5)), (13, .slice A l.length c), (14, .int .i64 l.length), (15, .int .i64 q.1.1)]) (fun q => [mapHP strK intK .string b5 q.1.2]) (fun q => l.length - q.1.1) ⟨(0, []), Nat.zero_le _, rfl⟩ ⟨rfl, rfl, rfl, rfl, rfl, rfl, trivial⟩ (fun h => h) ?_
  intro ⟨⟨k, m⟩, hk, hS⟩
  dsimp only at hS hk ⊢
  refine Ja ?_;refine Jk ?_;refine Jb ?_
  refine CW.seq ?_
  refine CW.ite rfl (fun hlt => ?_) (fun hge => ?_)
  · have hlt' : k < l.length := by simpa using hlt
    rw [indexGo_step (by rw [List.length_map]; omega)] at hS
    rw [List.getElem_map] at hS
    obtain ⟨B1, O1, cs, hA, hl1, hr, hm⟩ := sl_get h (List.getElem?_eq_getElem hlt')
    refine JM ?_
    refine CW.seq ?_
    refine CW.block ?_
    refine Ja ?_;refine Jc ?_
    refine RW.indexAddrE hA rfl rfl (by omega) hlt rfl ?_
    refine RW.load_ros rfl hle hm rfl hl1 (by rw [hl1]; decide) rfl ?_
    refine RW.alloc rfl rfl fun b7 _ => ?_
    refine Jd ?_
    refine RW.store_whole [] rfl rfl (vs := cs) rfl hl1 hl1 (Rd.one hr) ?_
    refine Jb ?_;refine Ja ?_;refine Jc ?_;refine Jc ?_
    refine RW.load_whole [] rfl hl1 rfl rfl ?_
    refine RW.callv (caps := []) Tryz.call94 rfl rfl (fun w hw => nameof4_ret hr) rfl ?_
    refine RW.lookupOk [_] (a0 := (0 : Int)) rfl rfl rfl rfl ?_
    refine Jc ?_;refine Jt ?_;refine Jt ?_;refine Jd ?_;refine Jd ?_;refine Jb ?_;refine Ja ?_;refine Jc ?_;refine Js ?_;refine Jb ?_
    cases hg : getM m (nameOf l[k]) with
    | some u =>
      rw [hg] at hS
      refine CW.cf rfl ?_
      refine CW.skip ?_
      refine PW.code ?_
      refine CW.region ?_
      refine RW.add rfl rfl (w64 (by omega) (by omega)) rfl ?_
      refine Jc ?_
      refine RW.nil ?_
      exact PW.again ⟨(k + 1, m), hlt', hS⟩ ⟨rfl, rfl, rfl, rfl, rfl, rfl, trivial⟩ (fun h => h.sub (List.Sublist.cons _ (List.Sublist.refl _))) (by show l.length - (k + 1) < l.length - k; omega)
    | none =>
      rw [hg] at hS
      refine CW.ct rfl ?_
      refine CW.region ?_
      refine Jc ?_;refine Jc ?_
      refine RW.load_whole [] rfl hl1 rfl rfl ?_
      refine RW.callv (caps := []) Tryz.call94 rfl rfl (fun w hw => nameof4_ret hr) rfl ?_
      refine Jc ?_
      refine RW.mapUpdate [_] (a := (k : Int)) rfl rfl rfl rfl ?_
      refine RW.nil ?_
      refine PW.code ?_
      refine CW.region ?_
      refine RW.add rfl rfl (w64 (by omega) (by omega)) rfl ?_
      refine Jc ?_
      refine RW.nil ?_
      exact PW.again ⟨(k + 1, putM m (nameOf l[k]) k), hlt', hS⟩ ⟨rfl, rfl, rfl, rfl, rfl, rfl, trivial⟩ (fun h => h.sub (List.Sublist.cons _ (List.Sublist.refl _))) (by show l.length - (k + 1) < l.length - k; omega)
  · have hge' : l.length ≤ k := by simpa using hge
    rw [indexGo_end (by rw [List.length_map]; omega)] at hS
    subst hS
    refine CW.exit rfl ?_
    refine PW.code ?_
    refine Ja ?_;refine Jc ?_;refine Jd ?_;refine Jb ?_
    exact CW.ret1 rfl Tryz.results93 rfl rfl fun w hw => ⟨b5, rfl, hw⟩
theorem nameof5_ret {M : Mem} {cs : List Value} {y : (kRule).V} {w : World} (h : Rd kRule M cs y) : Ret Tryz.prog 96 [.agg cs.toArray] w (.string (nameOf y)) := by
  obtain ⟨c2, rfl⟩ := rd_name h
  refine Calls.enter Tryz.func96 rfl _ rfl rfl (S := No) (H := []) trivial ?_
  refine CW.seqR ?_
  refine RW.box_agg rfl rfl fun b1 _ => ?_
  refine Jd ?_;refine Jb ?_;refine Ja ?_;refine Je ?_;refine JA ?_;refine Jd ?_;refine Jb ?_
  exact CW.ret1 rfl Tryz.results96 rfl rfl fun w hw => ⟨rfl, hw.kp⟩
set_option maxHeartbeats 4000000 in
theorem index5_ret {A : Option Addr} {c : Nat} {l : List (kRule).V} {w : World} (h : Rd (.sl 144 kRule) (mem w (fun b => ¬ No b)) [.slice A l.length c] l) :
    RetC Tryz.prog 95 [.slice A l.length c, .func (.func 96) #[] #[]] w No (fun b : Nat => .map (some b)) (fun b => [mapHP strK intK .string b (indexD (l.map nameOf))]) := by
  have hsm := sl_small h
  unfold reach at hsm
  have hle : Mem.le (mem w (fun b => ¬ No b)) (mem w (fun b => ¬ No b)) := Mem.le_refl _
  refine Calls.enter Tryz.func95 rfl _ rfl rfl (S := No) (H := []) trivial ?_
  refine Ja ?_;refine Jd ?_;refine Jb ?_;refine Ja ?_;refine Jc ?_;refine Jg ?_
  refine RW.makeMap (κ := Str) (α := Int) strK intK .string (fun o ho => by cases ho; exact ⟨_, rfl⟩) rfl fun b5 => ?_
  refine Jd ?_;refine Jb ?_
  refine CW.seq ?_
  refine Ja ?_;refine Jc ?_;refine Jg ?_;refine Jc ?_;refine Jb ?_
  refine CW.block ?_
  refine CW.loop (ι := { q : Nat × List (Str × Int) // q.1 ≤ l.length ∧ indexGo ((l.map nameOf).drop q.1) q.1 q.2 = indexD (l.map nameOf) }) (fun q => [(0, .slice A l.length c), (1, .func (.func 96) #[] #[]), (5, .map (some b5)), (13, .slice A l.length c), (14, .int .i64 l.length), (15, .int .i64 q.1.1)]) (fun q => [mapHP strK intK .string b5 q.1.2]) (fun q => l.length - q.1.1) ⟨(0, []), Nat.zero_le _, rfl⟩ ⟨rfl, rfl, rfl, rfl, rfl, rfl, trivial⟩ (fun h => h) ?_
  intro ⟨⟨k, m⟩, hk, hS⟩
  dsimp only at hS hk ⊢
  refine Ja ?_;refine Jk ?_;refine Jb ?_
  refine CW.seq ?_
  refine CW.ite rfl (fun hlt => ?_) (fun hge => ?_)
  · have hlt' : k < l.length := by simpa using hlt
    rw [indexGo_step (by rw [List.length_map]; omega)] at hS
    rw [List.getElem_map] at hS
    obtain ⟨B1, O1, cs, hA, hl1, hr, hm⟩ := sl_get h (List.getElem?_eq_getElem hlt')
    refine JM ?_
    refine CW.seq ?_
    refine CW.block ?_
    refine Ja ?_;refine Jc ?_
    refine RW.indexAddrE hA rfl rfl (by omega) hlt rfl ?_
    refine RW.load_ros rfl hle hm rfl hl1 (by rw [hl1]; decide) rfl ?_
    refine RW.alloc rfl rfl fun b7 _ => ?_
    refine Jd ?_
    refine RW.store_whole [] rfl rfl (vs := cs) rfl hl1 hl1 (Rd.one hr) ?_
    refine Jb ?_;refine Ja ?_;refine Jc ?_;refine Jc ?_
    refine RW.load_whole [] rfl hl1 rfl rfl ?_
    refine RW.callv (caps := []) Tryz.call96 rfl rfl (fun w hw => nameof5_ret hr) rfl ?_
    refine RW.lookupOk [_] (a0 := (0 : Int)) rfl rfl rfl rfl ?_
    refine Jc ?_;refine Jt ?_;refine Jt ?_;refine Jd ?_;refine Jd ?_;refine Jb ?_;refine Ja ?_;refine Jc ?_;refine Js ?_;refine Jb ?_
    cases hg : getM m (nameOf l[k]) with
    | some u =>
      rw [hg] at hS
      refine CW.cf rfl ?_
      refine CW.skip ?_
      refine PW.code ?_
      refine CW.region ?_
      refine RW.add rfl rfl (w64 (by omega) (by omega)) rfl ?_
      refine Jc ?_
      refine RW.nil ?_
      exact PW.again ⟨(k + 1, m), hlt', hS⟩ ⟨rfl, rfl, rfl, rfl, rfl, rfl, trivial⟩ (fun h => h.sub (List.Sublist.cons _ (List.Sublist.refl _))) (by show l.length - (k + 1) < l.length - k; omega)
    | none =>
      rw [hg] at hS
      refine CW.ct rfl ?_
      refine CW.region ?_
      refine Jc ?_;refine Jc ?_
      refine RW.load_whole [] rfl hl1 rfl rfl ?_
      refine RW.callv (caps := []) Tryz.call96 rfl rfl (fun w hw => nameof5_ret hr) rfl ?_
      refine Jc ?_
      refine RW.mapUpdate [_] (a := (k : Int)) rfl rfl rfl rfl ?_
      refine RW.nil ?_
      refine PW.code ?_
      refine CW.region ?_
      refine RW.add rfl rfl (w64 (by omega) (by omega)) rfl ?_
      refine Jc ?_
      refine RW.nil ?_
      exact PW.again ⟨(k + 1, putM m (nameOf l[k]) k), hlt', hS⟩ ⟨rfl, rfl, rfl, rfl, rfl, rfl, trivial⟩ (fun h => h.sub (List.Sublist.cons _ (List.Sublist.refl _))) (by show l.length - (k + 1) < l.length - k; omega)
  · have hge' : l.length ≤ k := by simpa using hge
    rw [indexGo_end (by rw [List.length_map]; omega)] at hS
    subst hS
    refine CW.exit rfl ?_
    refine PW.code ?_
    refine Ja ?_;refine Jc ?_;refine Jd ?_;refine Jb ?_
    exact CW.ret1 rfl Tryz.results95 rfl rfl fun w hw => ⟨b5, rfl, hw⟩
theorem nameof6_ret {M : Mem} {cs : List Value} {y : (kTotal).V} {w : World} (h : Rd kTotal M cs y) : Ret Tryz.prog 98 [.agg cs.toArray] w (.string (nameOf y)) := by
  obtain ⟨c2, rfl⟩ := rd_name h
  refine Calls.enter Tryz.func98 rfl _ rfl rfl (S := No) (H := []) trivial ?_
  refine CW.seqR ?_
  refine RW.box_agg rfl rfl fun b1 _ => ?_
  refine Jd ?_;refine Jb ?_;refine Ja ?_;refine Je ?_;refine JA ?_;refine Jd ?_;refine Jb ?_
  exact CW.ret1 rfl Tryz.results98 rfl rfl fun w hw => ⟨rfl, hw.kp⟩
set_option maxHeartbeats 4000000 in
theorem index6_ret {A : Option Addr} {c : Nat} {l : List (kTotal).V} {w : World} (h : Rd (.sl 72 kTotal) (mem w (fun b => ¬ No b)) [.slice A l.length c] l) :
    RetC Tryz.prog 97 [.slice A l.length c, .func (.func 98) #[] #[]] w No (fun b : Nat => .map (some b)) (fun b => [mapHP strK intK .string b (indexD (l.map nameOf))]) := by
  have hsm := sl_small h
  unfold reach at hsm
  have hle : Mem.le (mem w (fun b => ¬ No b)) (mem w (fun b => ¬ No b)) := Mem.le_refl _
  refine Calls.enter Tryz.func97 rfl _ rfl rfl (S := No) (H := []) trivial ?_
  refine Ja ?_;refine Jd ?_;refine Jb ?_;refine Ja ?_;refine Jc ?_;refine Jg ?_
  refine RW.makeMap (κ := Str) (α := Int) strK intK .string (fun o ho => by cases ho; exact ⟨_, rfl⟩) rfl fun b5 => ?_
  refine Jd ?_;refine Jb ?_
  refine CW.seq ?_
  refine Ja ?_;refine Jc ?_;refine Jg ?_;refine Jc ?_;refine Jb ?_
  refine CW.block ?_
  refine CW.loop (ι := { q : Nat × List (Str × Int) // q.1 ≤ l.length ∧ indexGo ((l.map nameOf).drop q.1) q.1 q.2 = indexD (l.map nameOf) }) (fun q => [(0, .slice A l.length c), (1, .func (.func 98) #[] #[]), (5, .map (some b5)), (13, .slice A l.length c), (14, .int .i64 l.length), (15, .int .i64 q.1.1)]) (fun q => [mapHP strK intK .string b5 q.1.2]) (fun q => l.length - q.1.1) ⟨(0, []), Nat.zero_le _, rfl⟩ ⟨rfl, rfl, rfl, rfl, rfl, rfl, trivial⟩ (fun h => h) ?_
  intro ⟨⟨k, m⟩, hk, hS⟩
  dsimp only at hS hk ⊢
  refine Ja ?_;refine Jk ?_;refine Jb ?_
  refine CW.seq ?_
  refine CW.ite rfl (fun hlt => ?_) (fun hge => ?_)
  · have hlt' : k < l.length := by simpa using hlt
    rw [indexGo_step (by rw [List.length_map]; omega)] at hS
    rw [List.getElem_map] at hS
    obtain ⟨B1, O1, cs, hA, hl1, hr, hm⟩ := sl_get h (List.getElem?_eq_getElem hlt')
    refine JM ?_
    refine CW.seq ?_
    refine CW.block ?_
    refine Ja ?_;refine Jc ?_
    refine RW.indexAddrE hA rfl rfl (by omega) hlt rfl ?_
    refine RW.load_ros rfl hle hm rfl hl1 (by rw [hl1]; decide) rfl ?_
    refine RW.alloc rfl rfl fun b7 _ => ?_
    refine Jd ?_
    refine RW.store_whole [] rfl rfl (vs := cs) rfl hl1 hl1 (Rd.one hr) ?_
    refine Jb ?_;refine Ja ?_;refine Jc ?_;refine Jc ?_
    refine RW.load_whole [] rfl hl1 rfl rfl ?_
    refine RW.callv (caps := []) Tryz.call98 rfl rfl (fun w hw => nameof6_ret hr) rfl ?_
    refine RW.lookupOk [_] (a0 := (0 : Int)) rfl rfl rfl rfl ?_
    refine Jc ?_;refine Jt ?_;refine Jt ?_;refine Jd ?_;refine Jd ?_;refine Jb ?_;refine Ja ?_;refine Jc ?_;refine Js ?_;refine Jb ?_
    cases hg : getM m (nameOf l[k]) with
    | some u =>
      rw [hg] at hS
      refine CW.cf rfl ?_
      refine CW.skip ?_
      refine PW.code ?_
      refine CW.region ?_
      refine RW.add rfl rfl (w64 (by omega) (by omega)) rfl ?_
      refine Jc ?_
      refine RW.nil ?_
      exact PW.again ⟨(k + 1, m), hlt', hS⟩ ⟨rfl, rfl, rfl, rfl, rfl, rfl, trivial⟩ (fun h => h.sub (List.Sublist.cons _ (List.Sublist.refl _))) (by show l.length - (k + 1) < l.length - k; omega)
    | none =>
      rw [hg] at hS
      refine CW.ct rfl ?_
      refine CW.region ?_
      refine Jc ?_;refine Jc ?_
      refine RW.load_whole [] rfl hl1 rfl rfl ?_
      refine RW.callv (caps := []) Tryz.call98 rfl rfl (fun w hw => nameof6_ret hr) rfl ?_
      refine Jc ?_
      refine RW.mapUpdate [_] (a := (k : Int)) rfl rfl rfl rfl ?_
      refine RW.nil ?_
      refine PW.code ?_
      refine CW.region ?_
      refine RW.add rfl rfl (w64 (by omega) (by omega)) rfl ?_
      refine Jc ?_
      refine RW.nil ?_
      exact PW.again ⟨(k + 1, putM m (nameOf l[k]) k), hlt', hS⟩ ⟨rfl, rfl, rfl, rfl, rfl, rfl, trivial⟩ (fun h => h.sub (List.Sublist.cons _ (List.Sublist.refl _))) (by show l.length - (k + 1) < l.length - k; omega)
  · have hge' : l.length ≤ k := by simpa using hge
    rw [indexGo_end (by rw [List.length_map]; omega)] at hS
    subst hS
    refine CW.exit rfl ?_
    refine PW.code ?_
    refine Ja ?_;refine Jc ?_;refine Jd ?_;refine Jb ?_
    exact CW.ret1 rfl Tryz.results97 rfl rfl fun w hw => ⟨b5, rfl, hw⟩
@[reducible] def RC.with (x : RC) (b1 b2 b3 b4 b5 b6 : Nat) : RC := ⟨x.A1, x.A2, x.A3, x.A4, x.A5, x.A6, x.A7, x.A8, x.c1, x.c2, x.c3, x.c4, x.c5, x.c6, x.c7, x.c8, b1, b2, b3, b4, b5, b6⟩
/-- The chunks of a resolver's maps. -/
abbrev mapsH (s : kStat.V) (x : RC) : List HP := [mapHP strK intK .string x.b1 (indexD (sKinds s)), mapHP strK intK .string x.b2 (indexD ((sMembers s).map nameOf)), mapHP strK intK .string x.b3 (indexD ((sPreds s).map nameOf)), mapHP strK intK .string x.b4 (indexD ((sSources s).map nameOf)), mapHP strK intK .string x.b5 (indexD ((sRules s).map nameOf)), mapHP strK intK .string x.b6 (indexD ((sTotals s).map nameOf))]
set_option maxHeartbeats 8000000 in
theorem resolve_ret {s : kStat.V} {x : RC} {w : World} (hst : StatOn (mem w (fun b => ¬ No b)) s x) :
    RetC Tryz.prog 36 [.agg (x.stat s).toArray] w No (fun q : Nat × RC => .pointer (some ⟨q.1, 0, none⟩)) (fun q => (blk q.1 (q.2.cells s 0) 112 :: mapsH s q.2) ++ [pureHP (q.2 = x.with q.2.b1 q.2.b2 q.2.b3 q.2.b4 q.2.b5 q.2.b6)]) := by
  refine Calls.enter Tryz.func36 rfl _ rfl rfl (S := No) (H := []) trivial ?_
  refine CW.seqR ?_
  refine RW.box_agg rfl rfl fun b1 _ => ?_
  refine Jd ?_;refine Jb ?_
  refine CW.keep [(1, .pointer (some ⟨b1, 0, none⟩))] ⟨rfl, trivial⟩ ?_
  refine CW.seqA (by kernel_rfl) rfl ?_
  refine AW.val rfl (fun _ _ => by refine JE ?_;exact RW.done rfl) ?_;refine AW.val rfl (fun _ _ => by refine Je ?_;exact RW.done rfl) ?_;refine AW.val rfl (fun _ _ => by refine JA ?_;exact RW.done rfl) ?_
  (apply AW.gen (fun b => .map (some b)) (fun b => mapHP strK intK .string b (indexD (sKinds s))) rfl; · intro Gx X; refine RW.callN Tryz.call87 rfl (fun w2 hw => index1_ret (hst.kinds.mono (ro_call hw))) rfl fun b => ?_; exact RW.done_gen rfl)
  refine AW.val rfl (fun _ _ => by refine Je ?_;exact RW.done rfl) ?_;refine AW.val rfl (fun _ _ => by refine JA ?_;exact RW.done rfl) ?_
  (apply AW.gen (fun b => .map (some b)) (fun b => mapHP strK intK .string b (indexD ((sMembers s).map nameOf))) rfl; · intro Gx X; refine RW.callN Tryz.call89 rfl (fun w2 hw => index2_ret (hst.members.mono (ro_call hw))) rfl fun b => ?_; exact RW.done_gen rfl)
  refine AW.val rfl (fun _ _ => by refine Je ?_;exact RW.done rfl) ?_;refine AW.val rfl (fun _ _ => by refine JA ?_;exact RW.done rfl) ?_
  (apply AW.gen (fun b => .map (some b)) (fun b => mapHP strK intK .string b (indexD ((sPreds s).map nameOf))) rfl; · intro Gx X; refine RW.callN Tryz.call91 rfl (fun w2 hw => index3_ret (hst.preds.mono (ro_call hw))) rfl fun b => ?_; exact RW.done_gen rfl)
  refine AW.val rfl (fun _ _ => by refine Je ?_;exact RW.done rfl) ?_;refine AW.val rfl (fun _ _ => by refine JA ?_;exact RW.done rfl) ?_
  (apply AW.gen (fun b => .map (some b)) (fun b => mapHP strK intK .string b (indexD ((sSources s).map nameOf))) rfl; · intro Gx X; refine RW.callN Tryz.call93 rfl (fun w2 hw => index4_ret (hst.sources.mono (ro_call hw))) rfl fun b => ?_; exact RW.done_gen rfl)
  refine AW.val rfl (fun _ _ => by refine Je ?_;exact RW.done rfl) ?_;refine AW.val rfl (fun _ _ => by refine JA ?_;exact RW.done rfl) ?_
  (apply AW.gen (fun b => .map (some b)) (fun b => mapHP strK intK .string b (indexD ((sRules s).map nameOf))) rfl; · intro Gx X; refine RW.callN Tryz.call95 rfl (fun w2 hw => index5_ret (hst.rules.mono (ro_call hw))) rfl fun b => ?_; exact RW.done_gen rfl)
  refine AW.val rfl (fun _ _ => by refine Je ?_;exact RW.done rfl) ?_;refine AW.val rfl (fun _ _ => by refine JA ?_;exact RW.done rfl) ?_
  (apply AW.gen (fun b => .map (some b)) (fun b => mapHP strK intK .string b (indexD ((sTotals s).map nameOf))) rfl; · intro Gx X; refine RW.callN Tryz.call97 rfl (fun w2 hw => index6_ret (hst.totals.mono (ro_call hw))) rfl fun b => ?_; exact RW.done_gen rfl)
  refine AW.stop (by kernel_rfl) (by kernel_rfl) fun bs => ?_
  refine RW.build (v := .agg #[.string s.1, .slice x.A1 (sKinds s).length x.c1, .slice x.A2 (sMembers s).length x.c2, .slice x.A3 (sPreds s).length x.c3, .slice x.A4 (sClasses s).length x.c4, .slice x.A5 (sSources s).length x.c5, .slice x.A6 (sRules s).length x.c6, .slice x.A7 (sExcepts s).length x.c7, .slice x.A8 (sTotals s).length x.c8, .int .i64 0, .map (some (bs 6)), .map (some (bs 9)), .map (some (bs 12)), .map (some (bs 15)), .map (some (bs 18)), .map (some (bs 21))]) rfl (fun w => by kernel_rfl) rfl ?_
  refine RW.box_agg (l := (x.with (bs 6) (bs 9) (bs 12) (bs 15) (bs 18) (bs 21)).cells s 0) rfl rfl fun b23 _ => ?_
  refine RW.add_ (pureHP True) (fun _ _ => trivial) ?_
  refine Jd ?_;refine Jb ?_
  refine CW.ret1 rfl Tryz.results36 rfl rfl fun w hw => ⟨(b23, x.with (bs 6) (bs 9) (bs 12) (bs 15) (bs 18) (bs 21)), rfl, ?_⟩
  exact (hw.take [1, 8, 7, 6, 5, 4, 3, 0]).change (pre := [_, _, _, _, _, _, _]) (r := []) (fun _ _ => rfl)
end Go.Proofs.YtkfmlekomfnleaaGreat
/- The calculus, fourteenth part: maps of one's own, keys of any kind that compares. Conditions: none; everything holds over any program. -/
set_option linter.unusedVariables false
set_option linter.unusedSimpArgs false
namespace Go.Proofs.YtkfmlekomfnleaaGreat
open Go Go.RowKit Go.MapKept

/-- Keys of a type. -/
class KeyR (P : Program) {κ : Type} (ι : κ → Value) (kt : TypeId) : Prop where
  inj : ∀ a b, ι a = ι b → a = b
  check : ∀ (w : World) (e : Bool) (k : κ), (Instr.checkKey e 10000 kt (ι k)).run P w = .ok () w
  find : ∀ (k : κ) (l : List MapEntry), (∀ e ∈ l, ∃ k', e.key = ι k') →
    ((∀ w : World, (Instr.findKey kt (ι k) l).run P w = .ok none w) ∧ ∀ e ∈ l, e.key ≠ ι k) ∨ ∃ j e, (∀ w : World, (Instr.findKey kt (ι k) l).run P w = .ok (some (j, e.val)) w) ∧ l[j]? = some e ∧ e.key = ι k
  stays : ∀ (w : World) (k : κ), (Instr.keyThatStays (ι k) (ι k)).run P w = .ok (ι k) w
/-- Keys that are compared one by one. -/
theorem find_asking {P : Program} {κ : Type} {ι : κ → Value} {kt : TypeId} {d : TypeDesc} (inj : ∀ a b, ι a = ι b → a = b) (hu : P.underlying kt = some d) (hnow : ∀ a b, Instr.sameNow d (ι a) (ι b) = none)
    (heq : ∀ (w : World) (a b : κ), ∃ r : Bool, (Op.equal kt (ι a) (ι b)).run P w = .ok r w ∧ (r = true ↔ a = b)) (k : κ) (l : List MapEntry) (hl : ∀ e ∈ l, ∃ k', e.key = ι k') :
    ((∀ w : World, (Instr.findKey kt (ι k) l).run P w = .ok none w) ∧ ∀ e ∈ l, e.key ≠ ι k) ∨ ∃ j e, (∀ w : World, (Instr.findKey kt (ι k) l).run P w = .ok (some (j, e.val)) w) ∧ l[j]? = some e ∧ e.key = ι k := by
  have ask : ∀ (l : List MapEntry) (i : Nat), (∀ e ∈ l, ∃ k', e.key = ι k') → ((∀ w : World, (Instr.findAsking kt (ι k) l i).run P w = .ok none w) ∧ ∀ e ∈ l, e.key ≠ ι k) ∨ ∃ j e, (∀ w : World, (Instr.findAsking kt (ι k) l i).run P w = .ok (some (i + j, e.val)) w) ∧ l[j]? = some e ∧ e.key = ι k := by
    intro l
    induction l with
    | nil => intro i _; exact .inl ⟨fun w => by simp [Instr.findAsking], by simp⟩
    | cons e l ih =>
      intro i hl
      obtain ⟨k', hk'⟩ := hl e (by simp)
      by_cases hkk : k = k'
      · subst hkk
        refine .inr ⟨0, e, fun w => ?_, rfl, hk'⟩
        obtain ⟨r, hr, hiff⟩ := heq w k k
        rw [hiff.2 rfl] at hr
        simp [Instr.findAsking, hk', hr, Result.andThen]
      · have hrun : ∀ w : World, (Instr.findAsking kt (ι k) (e :: l) i).run P w = (Instr.findAsking kt (ι k) l (i + 1)).run P w := fun w => by
          obtain ⟨r, hr, hiff⟩ := heq w k k'
          have : r = false := by cases r with | false => rfl | true => exact absurd (hiff.1 rfl) hkk
          rw [this] at hr
          simp [Instr.findAsking, hk', hr, Result.andThen]
        rcases ih (i + 1) (fun e he => hl e (by simp [he])) with ⟨h1, h2⟩ | ⟨j, e2, h1, h2, h3⟩
        · refine .inl ⟨fun w => (hrun w).trans (h1 w), fun e' he' => ?_⟩
          rcases List.mem_cons.1 he' with rfl | he'
          · rw [hk']; exact fun h => hkk (inj _ _ h).symm
          · exact h2 e' he'
        · exact .inr ⟨j + 1, e2, fun w => by rw [hrun, h1, show i + 1 + j = i + (j + 1) by omega], by simpa using h2, h3⟩
  cases l with
  | nil => exact .inl ⟨fun w => by simp [Instr.findKey, run_underlying hu, Instr.findNow, Result.andThen], by simp⟩
  | cons e l =>
    obtain ⟨k', hk'⟩ := hl e (by simp)
    have hn : Instr.findNow d (ι k) (e :: l) 0 = none := by simp [Instr.findNow, hk', hnow]
    have hrun : ∀ w : World, (Instr.findKey kt (ι k) (e :: l)).run P w = (Instr.findAsking kt (ι k) (e :: l) 0).run P w := fun w => by simp [Instr.findKey, run_underlying hu, hn, Result.andThen]
    rcases ask (e :: l) 0 hl with ⟨h1, h2⟩ | ⟨j, e2, h1, h2, h3⟩
    · exact .inl ⟨fun w => (hrun w).trans (h1 w), h2⟩
    · exact .inr ⟨j, e2, fun w => by rw [hrun, h1, Nat.zero_add], h2, h3⟩
/-- Two strings. -/
abbrev strs2 (x : ByteArray × ByteArray) : Value := .agg #[.string x.1, .string x.2]
theorem keyR_strs2 {P : Program} {kt t1 : TypeId} {f1 f2 : Field} {z z1 : Value} {by_ sz1 by1 : Nat} [T : Ty P kt (.struct #[f1, f2]) z 2 by_] [T1 : Ty P t1 .string z1 sz1 by1] (h1 : f1.type = t1) (h2 : f2.type = t1) (o1 : f1.offset = 0) (o2 : f2.offset = 1) (n1 : (f1.name = "_") = False) (n2 : (f2.name = "_") = False) (hp : P.stoodInHeld kt = false) : KeyR P strs2 kt := by
  have hu := T.und
  have hfs : P.fieldsOf kt = #[f1, f2] := by simp [Program.fieldsOf, hu]
  have part1 : ∀ (w : World) (a b : ByteArray), (part t1 #[.string a, .string b] 0).run P w = .ok (.string a) w := fun w a b => by
    simp [part, T1.runAgg, isAggD, Result.andThen]
  have part2 : ∀ (w : World) (a b : ByteArray), (part t1 #[.string a, .string b] 1).run P w = .ok (.string b) w := fun w a b => by
    simp [part, T1.runAgg, isAggD, Result.andThen]
  have ck : ∀ (w : World) (e : Bool) (n : Nat) (x : ByteArray), (Instr.checkKey e (n + 1) t1 (.string x)).run P w = .ok () w := fun w e n x => by
    simp [Instr.checkKey, T1.runUnd, Result.andThen]
  have inj : ∀ a b, strs2 a = strs2 b → a = b := fun a b h => by
    injection h with h
    have := congrArg Array.toList h
    simp only [List.cons.injEq, Value.string.injEq, and_true] at this
    exact Prod.ext this.1 this.2
  have heq : ∀ (w : World) (a b : ByteArray × ByteArray), ∃ r : Bool, (Op.equal kt (strs2 a) (strs2 b)).run P w = .ok r w ∧ (r = true ↔ a = b) := fun w a b => by
    refine ⟨(a.1.toList == b.1.toList) && (a.2.toList == b.2.toList), ?_, ?_⟩
    · show (Op.equalIn (9999 + 1) kt _ _).run P w = _
      rw [run_equalIn_agg w 9999 kt _ _ (by rw [hfs]; exact hu) hp, hfs]
      have e1 : ∀ (x y : ByteArray), (Op.equalIn (9998 + 1) t1 (.string x) (.string y)).run P w = .ok (x.toList == y.toList) w := fun x y => run_equalIn_string w 9998 t1 x y T1.und
      simp only [Op.eqFields, ne_eq, n1, n2, not_false_eq_true, if_true, Sem.run_bind, h1, h2, o1, o2, part1, part2, Result.andThen_ok, show (9999 : Nat) = 9998 + 1 from rfl, e1]
      generalize hA : (a.1.toList == b.1.toList) = A
      generalize hB : (a.2.toList == b.2.toList) = B
      cases A <;> cases B <;> simp [Sem.run_bind, part1, part2, e1, Result.andThen, hA, hB, -beq_eq_false_iff_ne, -beq_iff_eq]
    · rw [← beq_toListBytes, ← beq_toListBytes, Bool.and_eq_true, bytes_beq, bytes_beq]
      exact ⟨fun h => Prod.ext h.1 h.2, fun h => by subst h; exact ⟨rfl, rfl⟩⟩
  refine ⟨inj, fun w e k => ?_, fun k l hl => find_asking inj hu (fun a b => rfl) heq k l hl, fun w k => ?_⟩
  · show (Instr.checkKey e (9998 + 1 + 1) kt (strs2 k)).run P w = _
    rw [Instr.checkKey]
    simp only [Sem.run_bind, T.runUnd, Result.andThen_ok, strs2]
    rw [← Array.forIn_toList]
    simp [n1, n2, h1, h2, o1, o2, part1, part2, ck , show (9999 : Nat) = 9998 + 1 from rfl, Result.andThen]
  · have hb : ∀ (n : Nat) (x : ByteArray), Instr.sameBits (n + 1) (.string x) (.string x) = true := fun n x => by simp [Instr.sameBits, bytes_beq]
    have : Instr.sameBits (9998 + 1 + 1) (strs2 k) (strs2 k) = true := by
      rw [Instr.sameBits]
      simp [hb]
    show (Instr.keyThatStays (strs2 k) (strs2 k)).run P w = _
    simp only [Instr.keyThatStays]
    rw [show (10000 : Nat) = 9998 + 1 + 1 from rfl, this]
    simp
section
variable {P : Program} {E : Env} {ops : Array Oper} {Q : Pst} {rest : List Oper} {G : List (Nat × Value)} {H : List HP}
variable {dst : Nat} {ty : TypeId} {pos : String} {af : Array Edge} {t kt et : TypeId} {d kd ed : TypeDesc} {z kz ez v : Value} {sz by_ ksz kby esz eby : Nat} {x y u : Operand}
variable {κ α : Type} {ι : κ → Value} {υ : α → Value} {D : List (κ × α)} {b : Nat} {k : κ} {es : Array MapEntry} {clock : Nat}
theorem map_findR [DecidableEq κ] [KR : KeyR P ι kt] (h : es.toList.map (fun e => (e.key, e.val)) = D.map (fun x => (ι x.1, υ x.2))) (hs : Stamped es clock) (k : κ) :
    ((∀ w : World, (Instr.findKey kt (ι k) es.toList).run P w = .ok none w) ∧ getM D k = none ∧ (∀ x ∈ es.toList, x.key ≠ ι k) ∧ ∀ v, putM D k v = D ++ [(k, v)]) ∨
    ∃ j e u, (∀ w : World, (Instr.findKey kt (ι k) es.toList).run P w = .ok (some (j, υ u)) w) ∧ es[j]? = some e ∧ e.key = ι k ∧ e.val = υ u ∧ getM D k = some u ∧ ∀ v, putM D k v = D.set j (k, v) := by
  rcases KR.find k es.toList (fun e he => by
    have : (e.key, e.val) ∈ D.map (fun x => (ι x.1, υ x.2)) := by rw [← h]; exact List.mem_map.2 ⟨e, he, rfl⟩
    obtain ⟨y, _, hy⟩ := List.mem_map.1 this
    injection hy with h1 h2
    exact ⟨y.1, h1.symm⟩) with ⟨h1, h2⟩ | ⟨j, e, h1, h2, h3⟩
  · have hn : ∀ x ∈ D, x.1 ≠ k := fun x hx he => by
      have : (ι x.1, υ x.2) ∈ es.toList.map (fun e => (e.key, e.val)) := by rw [h]; exact List.mem_map.2 ⟨x, hx, rfl⟩
      obtain ⟨y, hy, he'⟩ := List.mem_map.1 this
      injection he' with h4 h5
      exact h2 y hy (by rw [h4, he])
    exact .inl ⟨h1, getM_none hn, h2, fun v => putM_none hn v⟩
  · have hj : (D.map (fun x => (ι x.1, υ x.2)))[j]? = some (e.key, e.val) := by rw [← h, List.getElem?_map, h2]; rfl
    rw [List.getElem?_map] at hj
    cases hd : D[j]? with
    | none => rw [hd] at hj; cases hj
    | some x =>
      rw [hd] at hj
      simp only [Option.map_some, Option.some.injEq, Prod.mk.injEq] at hj
      have hk : x.1 = k := KR.inj _ _ (hj.1.trans h3)
      obtain ⟨x1, x2⟩ := x
      simp only at hk hj
      subst hk
      obtain ⟨g1, g2⟩ := getM_at (map_nodup h hs) hd
      rw [← hj.2] at h1
      exact .inr ⟨j, e, x2, h1, by rw [← Array.getElem?_toList]; exact h2, h3, hj.2.symm, g1, g2⟩
theorem map_setR {j : Nat} {e : MapEntry} {a : α} (hm : es.toList.map (fun e => (e.key, e.val)) = D.map (fun x => (ι x.1, υ x.2))) (hs : Stamped es clock) (hj : es[j]? = some e) (hk : e.key = ι k) :
    Stamped (es.modify j fun e => { e with key := ι k, val := υ a }) clock ∧ (es.modify j fun e => { e with key := ι k, val := υ a }).toList.map (fun e => (e.key, e.val)) = (D.set j (k, a)).map (fun x => (ι x.1, υ x.2)) := by
  refine ⟨stamped_modify hs _ _ (fun _ _ => rfl) (fun e' _ he' => by rw [hj] at he'; cases he'; exact hk.symm), ?_⟩
  rw [List.map_set, ← hm]
  apply List.ext_getElem?
  intro i
  simp only [List.getElem?_map, Array.getElem?_toList, Array.getElem?_modify, List.getElem?_set, List.length_map, Array.length_toList]
  by_cases hij : j = i
  · subst hij
    have hlt := (Array.getElem?_eq_some_iff.1 hj).1
    simp [hlt]
  · simp [hij]
theorem run_lookup_R [DecidableEq κ] [T : Ty P t (.map kt et) z sz by_] [TE : Ty P et ed ez esz eby] [KR : KeyR P ι kt] {w : World} {a0 : α} (hz : ez = υ a0) (h : MapAt w ι υ b D) (k : κ) (ok : Bool) :
    (Instr.lookup t (.map (some b)) (ι k) ok).run P w = .ok (if ok then .tuple #[υ ((getM D k).getD a0), .bool (getM D k).isSome] else υ ((getM D k).getD a0)) w := by
  obtain ⟨es, clock, hb, hs, hm⟩ := h
  rcases map_findR (P := P) (kt := kt) hm hs k with ⟨h1, h2, _, _⟩ | ⟨j, e, a, h1, _, _, _, h2, _⟩
  · cases ok <;> simp [Instr.lookup, T.runUnd, Go.MapKept.run_getObj_map hb, KR.check, h1, TE.runZero, Result.andThen, h2, hz]
  · cases ok <;> simp [Instr.lookup, T.runUnd, Go.MapKept.run_getObj_map hb, KR.check, h1, Result.andThen, h2]
theorem RW.lookupR [DecidableEq κ] [T : Ty P t (.map kt et) z sz by_] [TE : Ty P et ed ez esz eby] [KR : KeyR P ι kt] (pre : List HP) {r : List HP} {a0 : α} (hz : ez = υ a0) (hx : ev G x = some (.map (some b))) (hy : ev G y = some (ι k)) (hN : Nat.blt dst E.N = true)
    (kk : RW P E ops Q rest ((dst, υ ((getM D k).getD a0)) :: G) (pre ++ mapHP ι υ kd b D :: r)) : RW P E ops Q (⟨some dst, .lookup t x y false, ty, pos, af, none⟩ :: rest) G (pre ++ mapHP ι υ kd b D :: r) :=
  RW.val hN (fun a w hf hw => by
    obtain ⟨F, hp, _⟩ := hw.get
    simp [execOp, hf.eval hx, hf.eval hy, run_lookup_R hz hp.2 k false, Result.andThen]) kk
theorem RW.lookupOkR [DecidableEq κ] [T : Ty P t (.map kt et) z sz by_] [TE : Ty P et ed ez esz eby] [KR : KeyR P ι kt] (pre : List HP) {r : List HP} {a0 : α} (hz : ez = υ a0) (hx : ev G x = some (.map (some b))) (hy : ev G y = some (ι k)) (hN : Nat.blt dst E.N = true)
    (kk : RW P E ops Q rest ((dst, .tuple #[υ ((getM D k).getD a0), .bool (getM D k).isSome]) :: G) (pre ++ mapHP ι υ kd b D :: r)) : RW P E ops Q (⟨some dst, .lookup t x y true, ty, pos, af, none⟩ :: rest) G (pre ++ mapHP ι υ kd b D :: r) :=
  RW.val hN (fun a w hf hw => by
    obtain ⟨F, hp, _⟩ := hw.get
    simp [execOp, hf.eval hx, hf.eval hy, run_lookup_R hz hp.2 k true, Result.andThen]) kk
/-- A look into a map that one may read for good. -/
theorem RW.mapUpdateR [DecidableEq κ] [T : Ty P t (.map kt et) z sz by_] [KR : KeyR P ι kt] (pre : List HP) {r : List HP} {a : α} {dst : Option Nat} (hdst : dst = none) (hx : ev G x = some (.map (some b))) (hy : ev G y = some (ι k)) (hu : ev G u = some (υ a))
    (kk : RW P E ops Q rest G (pre ++ mapHP ι υ kd b (putM D k a) :: r)) : RW P E ops Q (⟨dst, .mapUpdate t x y u, ty, pos, af, none⟩ :: rest) G (pre ++ mapHP ι υ kd b D :: r) := by
  subst hdst
  exact RW.step rfl (fun f w hf hw => by
    obtain ⟨F, ⟨_, es, clock, hb, hs, hm⟩, _⟩ := hw.get
    rcases map_findR (P := P) (kt := kt) hm hs k with ⟨h1, _, h2, h3⟩ | ⟨j, e, u0, h1, hj, hk, _, _, h3⟩
    · have hrun : (execOp f.eval ⟨none, .mapUpdate t x y u, ty, pos, af, none⟩).run P w = .ok .skip { w with heap := w.heap.setIfInBounds b (.map (es.push { key := ι k, val := υ a, born := clock }) (clock + 1)) } := by
        simp [execOp, hf.eval hx, hf.eval hy, hf.eval hu, Instr.mapUpdate, T.runUnd, Go.MapKept.run_getObj_map hb, KR.check, h1, Go.MapKept.run_setObj_map _ hb, Result.andThen]
      rw [hrun]
      refine kk _ _ (hf.skip _) (hw.setobj (fun F hp => hp.1) (fun F hp => ⟨hp.1, _, _, (heap_set hb).1, stamped_push hs h2, ?_⟩))
      rw [h3, Array.toList_push, List.map_append, List.map_append, hm]; rfl
    · have hrun : (execOp f.eval ⟨none, .mapUpdate t x y u, ty, pos, af, none⟩).run P w = .ok .skip { w with heap := w.heap.setIfInBounds b (.map (es.modify j fun e => { e with key := ι k, val := υ a }) clock) } := by
        simp [execOp, hf.eval hx, hf.eval hy, hf.eval hu, Instr.mapUpdate, T.runUnd, Go.MapKept.run_getObj_map hb, KR.check, h1, hj, hk, KR.stays, Go.MapKept.run_setObj_map _ hb, Result.andThen]
      rw [hrun]
      obtain ⟨g1, g2⟩ := map_setR (a := a) hm hs hj hk
      exact kk _ _ (hf.skip _) (hw.setobj (fun F hp => hp.1) (fun F hp => ⟨hp.1, _, _, (heap_set hb).1, g1, by rw [h3]; exact g2⟩)))
theorem RW.mapEntryR [DecidableEq κ] [T : Ty P t (.map kt et) z sz by_] [TE : Ty P et ed ez esz eby] [KR : KeyR P ι kt] (pre : List HP) {r : List HP} {a0 : α} (hz : ez = υ a0) (hx : ev G x = some (.map (some b))) (hy : ev G y = some (ι k)) (hN : Nat.blt dst E.N = true)
    (kk : ∀ s, RW P E ops Q rest ((dst, .tuple #[υ ((getM D k).getD a0), .int .i64 s]) :: G) (pre ++ mapEnt ι υ kd b (putM D k ((getM D k).getD a0)) k s :: r)) : RW P E ops Q (⟨some dst, .mapEntry t x y, ty, pos, af, none⟩ :: rest) G (pre ++ mapHP ι υ kd b D :: r) :=
  RW.step rfl (fun f w hf hw => by
    obtain ⟨F, ⟨_, es, clock, hb, hs, hm⟩, _⟩ := hw.get
    rcases map_findR (P := P) (kt := kt) hm hs k with ⟨h1, h4, h2, h3⟩ | ⟨j, e, u0, h1, hj, hk, hv, h4, h3⟩
    · have hrun : (execOp f.eval ⟨some dst, .mapEntry t x y, ty, pos, af, none⟩).run P w = .ok (.value (.tuple #[υ ((getM D k).getD a0), .int .i64 clock])) { w with heap := w.heap.setIfInBounds b (.map (es.push { key := ι k, val := υ a0, born := clock }) (clock + 1)) } := by
        simp [execOp, hf.eval hx, hf.eval hy, Instr.mapEntry, T.runUnd, Go.MapKept.run_getObj_map hb, KR.check, h1, Go.MapKept.run_setObj_map _ hb, Result.andThen, TE.runZero, hz, h4, goInt]
      rw [hrun]
      refine kk _ _ _ (hf.put hN _) (hw.setobj (fun F hp => hp.1) (fun F hp => ⟨hp.1, _, _, es.size, { key := ι k, val := υ a0, born := clock }, (heap_set hb).1, stamped_push hs h2, ?_, by simp, rfl, rfl⟩))
      rw [h3, h4, Array.toList_push, List.map_append, List.map_append, hm]; rfl
    · have hrun : (execOp f.eval ⟨some dst, .mapEntry t x y, ty, pos, af, none⟩).run P w = .ok (.value (.tuple #[υ ((getM D k).getD a0), .int .i64 e.born])) { w with heap := w.heap.setIfInBounds b (.map (es.modify j fun e => { e with key := ι k }) clock) } := by
        simp [execOp, hf.eval hx, hf.eval hy, Instr.mapEntry, T.runUnd, Go.MapKept.run_getObj_map hb, KR.check, h1, hj, hk, KR.stays, Go.MapKept.run_setObj_map _ hb, Result.andThen, h4, goInt]
      rw [hrun]
      have hself : (es.modify j fun e => { e with key := ι k }) = es := by
        apply Array.ext_getElem?
        intro i
        rw [Array.getElem?_modify]
        by_cases hij : j = i
        · subst hij
          rw [if_pos rfl, hj]
          simp [← hk]
        · rw [if_neg hij]
      rw [hself]
      refine kk _ _ _ (hf.put hN _) (hw.setobj (fun F hp => hp.1) (fun F hp => ⟨hp.1, es, clock, j, e, (heap_set hb).1, hs, ?_, hj, hk, rfl⟩))
      obtain ⟨_, g2⟩ := map_setR (a := u0) hm hs hj hk
      rw [h4]
      show _ = (putM D k u0).map _
      rw [h3, ← g2]
      congr 1
      apply List.ext_getElem?
      intro i
      rw [Array.getElem?_toList, Array.getElem?_toList, Array.getElem?_modify]
      by_cases hij : j = i
      · subst hij
        rw [if_pos rfl, hj]
        simp [← hk, ← hv]
      · rw [if_neg hij])
theorem RW.entryStoreR [DecidableEq κ] [T : Ty P t (.map kt et) z sz by_] [KR : KeyR P ι kt] (pre : List HP) {r : List HP} {a : α} {s : Int} {dst : Option Nat} (hdst : dst = none) (hx : ev G x = some (.map (some b))) (hy : ev G y = some (.int .i64 s)) (hu : ev G u = some (υ a))
    (kk : RW P E ops Q rest G (pre ++ mapHP ι υ kd b (putM D k a) :: r)) : RW P E ops Q (⟨dst, .entryStore t x y u, ty, pos, af, none⟩ :: rest) G (pre ++ mapEnt ι υ kd b D k s :: r) := by
  subst hdst
  exact RW.step rfl (fun f w hf hw => by
    obtain ⟨F, ⟨_, es, clock, j, e, hb, hs, hm, hj, hk, hborn⟩, _⟩ := hw.get
    have hidx : es.findIdx? (fun e => (e.born : Int) == s) = some j := by
      rw [Array.findIdx?_eq_some_iff_getElem]
      obtain ⟨hlt, he⟩ := Array.getElem?_eq_some_iff.1 hj
      refine ⟨hlt, by rw [he]; simpa using hborn, fun i hi => ?_⟩
      have h2 := hs.2.1
      rw [List.nodup_iff_pairwise_ne, List.pairwise_iff_getElem] at h2
      have h3 := h2 i j (by simp; omega) (by simpa using hlt) hi
      simp only [List.getElem_map, Array.getElem_toList] at h3
      rw [he] at h3
      simp only [beq_iff_eq, ← hborn]
      intro h4
      exact h3 (by omega)
    have hrun : (execOp f.eval ⟨none, .entryStore t x y u, ty, pos, af, none⟩).run P w = .ok .skip { w with heap := w.heap.setIfInBounds b (.map (es.modify j fun e => { e with val := υ a }) clock) } := by
      simp [execOp, hf.eval hx, hf.eval hy, hf.eval hu, Instr.entryStore, Go.MapKept.run_getObj_map hb, asInt, asIntOf, hidx, Go.MapKept.run_setObj_map _ hb, Result.andThen]
    rw [hrun]
    have hself : (es.modify j fun e => { e with val := υ a }) = (es.modify j fun e => { e with key := ι k, val := υ a }) := by
      apply Array.ext_getElem?
      intro i
      rw [Array.getElem?_modify, Array.getElem?_modify]
      by_cases hij : j = i
      · subst hij
        rw [if_pos rfl, if_pos rfl, hj]
        simp [← hk]
      · rw [if_neg hij, if_neg hij]
    rw [hself]
    obtain ⟨g1, g2⟩ := map_setR (a := a) hm hs hj hk
    have hput : putM D k a = D.set j (k, a) := by
      rcases map_findR (P := P) (kt := kt) hm hs k with ⟨_, _, h2, _⟩ | ⟨j', e', u0, _, hj', hk', _, _, h3⟩
      · exact absurd hk (h2 e (by rw [← Array.getElem?_toList] at hj; exact List.mem_of_getElem? hj))
      · have : j' = j := by
          have h2 := hs.2.2
          rw [List.nodup_iff_pairwise_ne, List.pairwise_iff_getElem] at h2
          obtain ⟨l1, e1⟩ := Array.getElem?_eq_some_iff.1 hj
          obtain ⟨l2, e2⟩ := Array.getElem?_eq_some_iff.1 hj'
          rcases Nat.lt_trichotomy j j' with h | h | h
          · have := h2 j j' (by simpa using l1) (by simpa using l2) h
            simp only [List.getElem_map, Array.getElem_toList] at this
            rw [e1, e2] at this
            exact absurd (hk.trans hk'.symm) this
          · exact h.symm
          · have := h2 j' j (by simpa using l2) (by simpa using l1) h
            simp only [List.getElem_map, Array.getElem_toList] at this
            rw [e1, e2] at this
            exact absurd (hk'.trans hk.symm) this
        subst this
        exact h3 a
    exact kk _ _ (hf.skip _) (hw.setobj (fun F hp => hp.1) (fun F hp => ⟨hp.1, _, _, (heap_set hb).1, g1, by rw [hput]; exact g2⟩)))
/-- A map, all of it known. -/
def mapFix (b : Nat) (es : Array MapEntry) (clock : Nat) : HP where
  p w F := F b ∧ w.heap[b]? = some (.map es clock)
  st := fun h _ ⟨hb, h1⟩ => ⟨hb, (h b hb (Array.getElem?_eq_some_iff.1 h1).1).trans h1⟩
  up := fun h ⟨hb, k⟩ => ⟨h b hb, k⟩
theorem RW.lookupFix [DecidableEq κ] [T : Ty P t (.map kt et) z sz by_] [TE : Ty P et ed ez esz eby] [KR : KeyR P ι kt] (pre : List HP) {r : List HP} {a0 : α} (hm : es.toList.map (fun e => (e.key, e.val)) = D.map (fun x => (ι x.1, υ x.2))) (hs : Stamped es clock) (hz : ez = υ a0) (hx : ev G x = some (.map (some b))) (hy : ev G y = some (ι k)) (hN : Nat.blt dst E.N = true)
    (kk : RW P E ops Q rest ((dst, υ ((getM D k).getD a0)) :: G) (pre ++ mapFix b es clock :: r)) : RW P E ops Q (⟨some dst, .lookup t x y false, ty, pos, af, none⟩ :: rest) G (pre ++ mapFix b es clock :: r) :=
  RW.val hN (fun a w hf hw => by
    obtain ⟨F, hp, _⟩ := hw.get
    simp [execOp, hf.eval hx, hf.eval hy, run_lookup_R hz ⟨es, clock, hp.2, hs, hm⟩ k false, Result.andThen]) kk
theorem RW.lookupEnt [DecidableEq κ] [T : Ty P t (.map kt et) z sz by_] [TE : Ty P et ed ez esz eby] [KR : KeyR P ι kt] (pre : List HP) {r : List HP} {a0 : α} {k' : κ} {s : Int} (hz : ez = υ a0) (hx : ev G x = some (.map (some b))) (hy : ev G y = some (ι k)) (hN : Nat.blt dst E.N = true)
    (kk : RW P E ops Q rest ((dst, υ ((getM D k).getD a0)) :: G) (pre ++ mapEnt ι υ kd b D k' s :: r)) : RW P E ops Q (⟨some dst, .lookup t x y false, ty, pos, af, none⟩ :: rest) G (pre ++ mapEnt ι υ kd b D k' s :: r) :=
  RW.val hN (fun a w hf hw => by
    obtain ⟨F, ⟨_, es, clock, _, _, h1, h2, h3, _⟩, _⟩ := hw.get
    simp [execOp, hf.eval hx, hf.eval hy, run_lookup_R hz ⟨es, clock, h1, h2, h3⟩ k false, Result.andThen]) kk
/-- The entry's stamp is told by the map alone. -/
theorem entry_fix [DecidableEq κ] [T : Ty P t (.map kt et) z sz by_] [TE : Ty P et ed ez esz eby] [KR : KeyR P ι kt] {a0 : α} (hm : es.toList.map (fun e => (e.key, e.val)) = D.map (fun x => (ι x.1, υ x.2))) (hs : Stamped es clock) (hz : ez = υ a0) (b : Nat) (k : κ) :
    ∃ st : Int, ∀ w : World, w.heap[b]? = some (.map es clock) → ∃ (es' : Array MapEntry) (clock' j : Nat) (e : MapEntry), (Instr.mapEntry t (.map (some b)) (ι k)).run P w = .ok (.tuple #[υ ((getM D k).getD a0), .int .i64 st]) { w with heap := w.heap.setIfInBounds b (.map es' clock') } ∧
      Stamped es' clock' ∧ es'.toList.map (fun e => (e.key, e.val)) = (putM D k ((getM D k).getD a0)).map (fun x => (ι x.1, υ x.2)) ∧ es'[j]? = some e ∧ e.key = ι k ∧ (e.born : Int) = st := by
  rcases map_findR (P := P) (kt := kt) hm hs k with ⟨h1, h4, h2, h3⟩ | ⟨j, e, u0, h1, hj, hk, hv, h4, h3⟩
  · refine ⟨clock, fun w hb => ⟨es.push { key := ι k, val := υ a0, born := clock }, clock + 1, es.size, { key := ι k, val := υ a0, born := clock }, ?_, stamped_push hs h2, ?_, by simp, rfl, rfl⟩⟩
    · simp [Instr.mapEntry, T.runUnd, Go.MapKept.run_getObj_map hb, KR.check, h1, Go.MapKept.run_setObj_map _ hb, Result.andThen, TE.runZero, hz, h4, goInt]
    · rw [h3, h4, Array.toList_push, List.map_append, List.map_append, hm]; rfl
  · refine ⟨e.born, fun w hb => ⟨es, clock, j, e, ?_, hs, ?_, hj, hk, rfl⟩⟩
    · have hrun : (Instr.mapEntry t (.map (some b)) (ι k)).run P w = .ok (.tuple #[υ ((getM D k).getD a0), .int .i64 e.born]) { w with heap := w.heap.setIfInBounds b (.map (es.modify j fun e => { e with key := ι k }) clock) } := by
        simp [Instr.mapEntry, T.runUnd, Go.MapKept.run_getObj_map hb, KR.check, h1, hj, hk, KR.stays, Go.MapKept.run_setObj_map _ hb, Result.andThen, h4, goInt]
      have hself : (es.modify j fun e => { e with key := ι k }) = es := by
        apply Array.ext_getElem?
        intro i
        rw [Array.getElem?_modify]
        by_cases hij : j = i
        · subst hij
          rw [if_pos rfl, hj]
          simp [← hk]
        · rw [if_neg hij]
      rw [hrun, hself]
    · obtain ⟨_, g2⟩ := map_setR (a := u0) hm hs hj hk
      rw [h4]
      show _ = (putM D k u0).map _
      rw [h3, ← g2]
      congr 1
      apply List.ext_getElem?
      intro i
      rw [Array.getElem?_toList, Array.getElem?_toList, Array.getElem?_modify]
      by_cases hij : j = i
      · subst hij
        rw [if_pos rfl, hj]
        simp [← hk, ← hv]
      · rw [if_neg hij]
theorem RW.mapEntryFix [DecidableEq κ] [T : Ty P t (.map kt et) z sz by_] [TE : Ty P et ed ez esz eby] [KR : KeyR P ι kt] (pre : List HP) {r : List HP} {a0 : α} {st : Int}
    (hst : ∀ w : World, w.heap[b]? = some (.map es clock) → ∃ (es' : Array MapEntry) (clock' j : Nat) (e : MapEntry), (Instr.mapEntry t (.map (some b)) (ι k)).run P w = .ok (.tuple #[υ ((getM D k).getD a0), .int .i64 st]) { w with heap := w.heap.setIfInBounds b (.map es' clock') } ∧
      Stamped es' clock' ∧ es'.toList.map (fun e => (e.key, e.val)) = (putM D k ((getM D k).getD a0)).map (fun x => (ι x.1, υ x.2)) ∧ es'[j]? = some e ∧ e.key = ι k ∧ (e.born : Int) = st)
    (hx : ev G x = some (.map (some b))) (hy : ev G y = some (ι k)) (hN : Nat.blt dst E.N = true)
    (kk : RW P E ops Q rest ((dst, .tuple #[υ ((getM D k).getD a0), .int .i64 st]) :: G) (pre ++ mapEnt ι υ kd b (putM D k ((getM D k).getD a0)) k st :: r)) : RW P E ops Q (⟨some dst, .mapEntry t x y, ty, pos, af, none⟩ :: rest) G (pre ++ mapFix b es clock :: r) :=
  RW.step rfl (fun f w hf hw => by
    obtain ⟨F, ⟨_, hb⟩, _⟩ := hw.get
    obtain ⟨es', clock', j, e, hr, h1, h2, h3, h4, h5⟩ := hst w hb
    have hrun : (execOp f.eval ⟨some dst, .mapEntry t x y, ty, pos, af, none⟩).run P w = .ok (.value (.tuple #[υ ((getM D k).getD a0), .int .i64 st])) { w with heap := w.heap.setIfInBounds b (.map es' clock') } := by
      simp [execOp, hf.eval hx, hf.eval hy, hr, Result.andThen]
    rw [hrun]
    exact kk _ _ (hf.put hN _) (hw.setobj (fun F hp => hp.1) (fun F hp => ⟨hp.1, es', clock', j, e, (heap_set hb).1, h1, h2, h3, h4, h5⟩)))
end
end Go.Proofs.YtkfmlekomfnleaaGreat
/- Calls of function values that may unwind; what stays; a resolver's data without its own block. Conditions: none. -/
set_option linter.unusedVariables false
set_option linter.unusedSimpArgs false
set_option maxRecDepth 10000
namespace Go.Proofs.YtkfmlekomfnleaaGreat
open Go Go.RowKit

section
variable {P : Program} {E : Env} {ops : Array Oper} {Q : Pst} {rest : List Oper} {G : List (Nat × Value)} {H : List HP}
variable {ty : TypeId} {pos : String} {af : Array Edge}
/-- A call of a function value, some arguments bound already. -/
theorem RW.callw_gen {dst : Option Nat} {fv : Operand} {l : List Operand} {vs pre caps : List Value} {at_ : Array TypeId} {f : FuncId} (hcall : ∀ args w, (callFunc f args).run P w = .ok (.enter f args) w) (hfv : ev G fv = some (.func (.func f) pre.toArray caps.toArray)) (hl : evs G l = some vs)
    (hc : ∀ a w, Fr E.N E.ds a G → St E.w0 E.S H w → Calls P f (pre ++ (vs ++ caps)).toArray w fun
      | .returned v, w'' => wpList P ops Q.fn rest (a.put dst v) w''
      | .panicked chain, w'' => Q.pan chain a w''
      | .outgrown, _ => LetsOut Q.fn) : RW P E ops Q (⟨dst, .call ⟨.value fv, l.toArray, at_⟩, ty, pos, af, none⟩ :: rest) G H :=
  RW.step rfl (fun a w hf hw => by
    have hrun : (execOp a.eval ⟨dst, .call ⟨.value fv, l.toArray, at_⟩, ty, pos, af, none⟩).run P w = .ok (.enter f (pre ++ (vs ++ caps)).toArray) w := by
      simp [execOp, resolve, hf.eval hfv, Deferred.ofValue, invoke, hf.evals hl, hcall]
    rw [hrun]
    exact hc a w hf hw)
/-- .. that may unwind, and turns the chunks C. -/
theorem RW.callwE {fn : Func} {dst : Nat} {fv : Operand} {l : List Operand} {vs pre caps : List Value} {at_ : Array TypeId} {f : FuncId} {α β γ δ : Type} {SP : Ex γ} {V' : γ → δ → Value} {c' : γ → δ → List HP} {sp : Ex α} {k : α → Ex γ} {V : α → β → Value} {c : α → β → List HP} (C : List HP) {r : List HP} (hSP : SP = bnd sp k)
    (hcall : ∀ args w, (callFunc f args).run P w = .ok (.enter f args) w) (hfv : ev G fv = some (.func (.func f) pre.toArray caps.toArray)) (hl : evs G l = some vs)
    (hc : ∀ w F, St E.w0 E.S (C ++ r) w → (∀ b, F b → E.S b ∨ E.w0.heap.size ≤ b) → Sep C w F → Sep r w (fun b => (E.S b ∨ E.w0.heap.size ≤ b) ∧ ¬ F b) → RetE P f (pre ++ (vs ++ caps)) w F sp V c) (hQ : Q.pan = PanP P fn (XP E.w0 E.S SP V' c')) (hds : E.ds = []) (hN : Nat.blt dst E.N = true)
    (kk : ∀ x y, sp = .ok x → SP = k x → RW P E ops Q rest ((dst, V x y) :: G) (c x y ++ r)) : RW P E ops Q (⟨some dst, .call ⟨.value fv, l.toArray, at_⟩, ty, pos, af, none⟩ :: rest) G (C ++ r) :=
  RW.callw_gen hcall hfv hl (fun a w hf hw => by
    obtain ⟨F, hF, h1, h2⟩ := Sep.split hw.sep
    refine (hc w F hw (fun b hb => (hF b hb).1) h1 h2).mono ?_
    intro e w' he
    unfold XP at he
    cases sp with
    | error er =>
      obtain ⟨rfl, hx⟩ := he
      show Q.pan _ a w'
      rw [hQ]
      exact ⟨⟨by rw [hf.defers, hds], XP.err (hSP.trans rfl) (St.turnF hw.kp hF h2 hx)⟩⟩
    | ok x =>
      obtain ⟨y, rfl, hx⟩ := he
      exact kk x y rfl hSP _ _ (hf.put hN _) (St.turnF hw.kp hF h2 hx))
end
/-- What one may read stays, and may be read. -/
def Stay (w : World) (F : Nat → Prop) (w2 : World) (F2 : Nat → Prop) : Prop := ∀ b, b < w.heap.size → ¬ F b → ¬ F2 b ∧ w2.heap[b]? = w.heap[b]?
theorem Stay.of {E : Env} {H : List HP} {w : World} {F : Nat → Prop} (hw : St E.w0 E.S H w) (hF : ∀ b, F b → E.S b ∨ E.w0.heap.size ≤ b) : Stay E.w0 E.S w F :=
  fun b hl hb => ⟨fun k => (hF b k).elim hb (fun k2 => absurd hl (by omega)), hw.kp.block b hl hb⟩
theorem Stay.trans {w w2 w3 : World} {F F2 F3 : Nat → Prop} (h : Stay w F w2 F2) (hs : w.heap.size ≤ w2.heap.size) (k : Stay w2 F2 w3 F3) : Stay w F w3 F3 :=
  fun b hl hb => ⟨(k b (by omega) (h b hl hb).1).1, (k b (by omega) (h b hl hb).1).2.trans (h b hl hb).2⟩
theorem Stay.mem {w w2 : World} {F F2 : Nat → Prop} (h : Stay w F w2 F2) : Mem.le (mem w (fun b => ¬ F b)) (mem w2 (fun b => ¬ F2 b)) := fun B O v hv => by
  have hl := World.block_lt_of_cell? w _ hv.2
  obtain ⟨h1, h2⟩ := h B hl hv.1.1
  exact ⟨⟨h1, (frozen_same h2 _).trans hv.1.2⟩, by simpa [World.cell?, h2] using hv.2⟩
theorem Stay.map {w w2 : World} {F F2 : Nat → Prop} (h : Stay w F w2 F2) {b : Nat} {D : List (Str × Int)} (hm : MapOn w (fun b => ¬ F b) b D) : MapOn w2 (fun b => ¬ F2 b) b D := by
  obtain ⟨h1, h2⟩ := h b hm.2.lt hm.1
  obtain ⟨es, clock, h3, h4⟩ := hm.2
  exact ⟨h1, es, clock, h2.trans h3, h4⟩
/-- A resolver's data, its own block left out. -/
structure RD (w : World) (ok : Nat → Prop) (s : kStat.V) (x : RC) : Prop where
  stat : StatOn (mem w ok) s x
  kinds : MapOn w ok x.b1 (indexD (sKinds s))
  members : MapOn w ok x.b2 (indexD ((sMembers s).map nameOf))
  preds : MapOn w ok x.b3 (indexD ((sPreds s).map nameOf))
  sources : MapOn w ok x.b4 (indexD ((sSources s).map nameOf))
  rules : MapOn w ok x.b5 (indexD ((sRules s).map nameOf))
  totals : MapOn w ok x.b6 (indexD ((sTotals s).map nameOf))
theorem RD.stay {w w2 : World} {F F2 : Nat → Prop} {s : kStat.V} {x : RC} (h : RD w (fun b => ¬ F b) s x) (k : Stay w F w2 F2) : RD w2 (fun b => ¬ F2 b) s x :=
  ⟨h.stat.mono k.mem, k.map h.kinds, k.map h.members, k.map h.preds, k.map h.sources, k.map h.rules, k.map h.totals⟩
theorem blk_mem {w : World} {ok : Nat → Prop} {b : Nat} {c : List Value} {t : TypeId} (hb : ok b) (h : w.heap[b]? = some (.cells c.toArray t (0, 0))) : ∀ (j : Nat) (v : Value), c[j]? = some v → mem w ok b j v := fun j v hj =>
  ⟨⟨hb, unfrozen_of_blk h _⟩, by have := cell_of_blk h hj; exact this⟩
theorem RD.rs {w : World} {ok : Nat → Prop} {br : Nat} {s : kStat.V} {at_ : Int} {x : RC} {t : TypeId} (h : RD w ok s x) (hb : ok br) (hc : w.heap[br]? = some (.cells (x.cells s at_).toArray t (0, 0))) : RS w ok br s at_ x :=
  ⟨blk_mem hb hc, h.stat, h.kinds, h.members, h.preds, h.sources, h.rules, h.totals⟩
/-- The chunk that lies behind the others, apart from what the call turns. -/
theorem Sep.apart {c : HP} {C : List HP} {w : World} {A : Nat → Prop} : Sep (c :: C) w A → ∃ F : Nat → Prop, c.p w F ∧ ∀ b, F b → A b := fun ⟨F, hF, hc, _⟩ => ⟨F, hc, fun b hb => (hF b hb).1⟩
theorem Sep.blk_at {b : Nat} {c : List Value} {t : TypeId} {C : List HP} {w : World} {A : Nat → Prop} (h : Sep (blk b c t :: C) w A) : A b ∧ w.heap[b]? = some (.cells c.toArray t (0, 0)) := by
  obtain ⟨F, hF, hc, _⟩ := h
  exact ⟨(hF b hc.1).1, hc.2⟩
/-- Items one by one, counted. -/
def eachD {α σ : Type} (f : Int → Int → σ → α → Ex σ) : Int → Int → σ → List α → Ex (Int × σ)
  | at_, _, y, [] => .ok (at_, y)
  | at_, i, y, x :: l => bnd (f at_ i y x) fun y' => eachD f (at_ + 1) (i + 1) y' l
theorem eachD_step {α σ : Type} {f : Int → Int → σ → α → Ex σ} {at_ i : Int} {y : σ} {l : List α} {k : Nat} (hk : k < l.length) : eachD f at_ i y (l.drop k) = bnd (f at_ i y l[k]) fun y' => eachD f (at_ + 1) (i + 1) y' (l.drop (k + 1)) := by
  rw [List.drop_eq_getElem_cons hk, eachD]
theorem eachD_end {α σ : Type} {f : Int → Int → σ → α → Ex σ} {at_ i : Int} {y : σ} {l : List α} {k : Nat} (hk : l.length ≤ k) : eachD f at_ i y (l.drop k) = .ok (at_, y) := by
  rw [List.drop_eq_nil_of_le hk, eachD]
theorem eachD_at {α σ : Type} {f : Int → Int → σ → α → Ex σ} : ∀ {l : List α} {at_ i : Int} {y : σ} {z : Int × σ}, eachD f at_ i y l = .ok z → z.1 = at_ + l.length := by
  intro l
  induction l with
  | nil => intro at_ i y z h; cases h; simp
  | cons x l ih =>
    intro at_ i y z h
    obtain ⟨y', _, h⟩ := bnd_inv h
    rw [ih h]
    simp only [List.length_cons]
    omega
end Go.Proofs.YtkfmlekomfnleaaGreat
/- What the resolver's items come to, as data. Conditions: none. -/
set_option linter.unusedVariables false
set_option linter.unusedSimpArgs false
set_option maxRecDepth 10000
namespace Go.Proofs.YtkfmlekomfnleaaGreat
open Go Go.RowKit

def kindItemD (s : kStat.V) (at_ i : Int) (_ : Unit) (x : Str) : Ex Unit := bnd (freshD (sKinds s) at_ x i) fun _ => .ok ()
def memberItemD (s : kStat.V) (at_ i : Int) (_ : Unit) (x : kMember.V) : Ex Unit := bnd (freshD ((sMembers s).map nameOf) at_ x.1 i) fun _ => bnd (kindD s at_ x.2) fun _ => .ok ()
def predItemD (s : kStat.V) (at_ i : Int) (_ : Unit) (x : kPredT.V) : Ex Unit := predD s at_ x i
def classItemD (s : kStat.V) (at_ i : Int) (m : List (Str × Int)) (l : List Str) : Ex (List (Str × Int)) := bnd (classD s at_ l m) .ok
def sourceItemD (s : kStat.V) (at_ i : Int) (_ : Unit) (x : kSource.V) : Ex Unit := bnd (freshD ((sSources s).map nameOf) at_ x.1 i) fun _ => bnd (wantD (decide (0 ≤ x.2) && decide (x.2 ≤ 1000)) 4 at_) fun _ => .ok ()
def rulesItemD (s : kStat.V) (at_ i : Int) (_ : Unit) (x : kRule.V) : Ex Unit := ruleItemD s at_ x i
def rGet (s : kStat.V) (name : Str) : Option Int := getM (indexD ((sRules s).map nameOf)) name
abbrev Strs2 := Str × Str
def exceptItemD (s : kStat.V) (at_ i : Int) (m : List (Strs2 × Int)) (x : kExc.V) : Ex (List (Strs2 × Int)) :=
  bnd (wantD ((rGet s x.1).isSome && (rGet s x.2).isSome) 82 at_) fun _ => bnd (wantD (decide ((getM m x).getD 0 = 0)) 6 at_) fun _ => .ok (putM m x 1)
def totalItemD (s : kStat.V) (at_ i : Int) (_ : Unit) (x : kTotal.V) : Ex Unit := totalD s at_ x i
def countsD (s : kStat.V) : Bool :=
  decide (((sKinds s).length : Int) ≤ 16) && decide (((sMembers s).length : Int) ≤ 64) && decide (((sPreds s).length : Int) ≤ 256) && decide (((sClasses s).length : Int) ≤ 64) && decide (((sSources s).length : Int) ≤ 64) && decide (((sRules s).length : Int) ≤ 512) && decide (((sExcepts s).length : Int) ≤ 512) && decide (((sTotals s).length : Int) ≤ 64)
def itemsD (s : kStat.V) (a0 : Int) : Ex Int :=
  bnd (wantD (countsD s) 3 a0) fun _ =>
  bnd (eachD (kindItemD s) a0 0 () (sKinds s)) fun z =>
  bnd (eachD (memberItemD s) z.1 0 () (sMembers s)) fun z =>
  bnd (eachD (predItemD s) z.1 0 () (sPreds s)) fun z =>
  bnd (eachD (classItemD s) z.1 0 [] (sClasses s)) fun z =>
  bnd (eachD (sourceItemD s) z.1 0 () (sSources s)) fun z =>
  bnd (eachD (rulesItemD s) z.1 0 () (sRules s)) fun z =>
  bnd (eachD (exceptItemD s) z.1 0 [] (sExcepts s)) fun z =>
  bnd (eachD (totalItemD s) z.1 0 () (sTotals s)) fun z => .ok z.1
/-- Every item has passed. -/
theorem eachD_all {α σ : Type} {f : Int → Int → σ → α → Ex σ} {φ : α → Prop} (hf : ∀ a i y x y', f a i y x = .ok y' → φ x) : ∀ {l : List α} {at_ i : Int} {y : σ} {z : Int × σ}, eachD f at_ i y l = .ok z → ∀ x ∈ l, φ x := by
  intro l
  induction l with
  | nil => intro at_ i y z _ x hx; cases hx
  | cons x l ih =>
    intro at_ i y z h x' hx'
    obtain ⟨y', h1, h⟩ := bnd_inv h
    rcases List.mem_cons.1 hx' with rfl | hx'
    · exact hf _ _ _ _ _ h1
    · exact ih h x' hx'
theorem want_inv {b : Bool} {e at_ : Int} {u : Unit} (h : wantD b e at_ = .ok u) : b = true := by
  cases b with
  | true => rfl
  | false => cases h
theorem predD_four {s : kStat.V} {at_ i : Int} {p : kPredT.V} {u : Unit} (h : predD s at_ p i = .ok u) : p.2.2.1.length ≤ 4 := by
  obtain ⟨_, _, h⟩ := bnd_inv h
  obtain ⟨_, _, h⟩ := bnd_inv h
  obtain ⟨_, h1, h⟩ := bnd_inv h
  have := want_inv h1
  simp only [Bool.and_eq_true, decide_eq_true_eq] at this
  omega
theorem fourK_of {s : kStat.V} {at_ : Int} {z : Int × Unit} (h : eachD (predItemD s) at_ 0 () (sPreds s) = .ok z) : fourK s := eachD_all (fun _ _ _ _ _ h => predD_four h) h
/-- An answer whose errors are errors. -/
def NZ {α : Type} (x : Ex α) : Prop := ∀ e, x = .error e → e.1 ≠ 0
theorem NZ.ok {α : Type} {x : α} : NZ (.ok x : Ex α) := fun e h => by cases h
theorem NZ.bnd {α β : Type} {x : Ex α} {k : α → Ex β} (h : NZ x) (hk : ∀ y, x = .ok y → NZ (k y)) : NZ (Go.Proofs.YtkfmlekomfnleaaGreat.bnd x k) := by
  cases x with
  | error e => exact fun e' h' => by cases h'; exact h _ rfl
  | ok y => exact hk y rfl
theorem NZ.want {b : Bool} {e at_ : Int} (he : e ≠ 0) : NZ (wantD b e at_) := by
  cases b with
  | true => exact NZ.ok
  | false => exact fun e' h' => by cases h'; exact he
theorem NZ.fold {σ α : Type} {f : σ → α → Ex σ} (h : ∀ m x, NZ (f m x)) : ∀ {l : List α} {m : σ}, NZ (foldX f m l) := by
  intro l
  induction l with
  | nil => intro m; exact NZ.ok
  | cons x l ih => intro m; exact NZ.bnd (h m x) fun _ _ => ih
theorem NZ.each {σ α : Type} {f : Int → Int → σ → α → Ex σ} (h : ∀ a i m x, NZ (f a i m x)) : ∀ {l : List α} {a i : Int} {m : σ}, NZ (eachD f a i m l) := by
  intro l
  induction l with
  | nil => intro a i m; exact NZ.ok
  | cons x l ih => intro a i m; exact NZ.bnd (h a i m x) fun _ _ => ih
theorem nz_fresh {l : List Str} {a i : Int} {n : Str} : NZ (freshD l a n i) := NZ.bnd (NZ.want (by decide)) fun _ _ => NZ.bnd (NZ.want (by decide)) fun _ _ => NZ.ok
theorem nz_kind {s : kStat.V} {a : Int} {n : Str} : NZ (kindD s a n) := NZ.bnd (NZ.want (by decide)) fun _ _ => NZ.ok
theorem nz_pred {s : kStat.V} {a i : Int} {p : kPredT.V} : NZ (predD s a p i) := by
  refine NZ.bnd nz_fresh fun _ _ => NZ.bnd (NZ.want (by decide)) fun _ _ => NZ.bnd (NZ.want (by decide)) fun _ _ => NZ.bnd (NZ.fold fun _ _ => nz_kind) fun _ _ => ?_
  split
  · exact NZ.bnd (NZ.want (by decide)) fun _ _ => NZ.bnd (NZ.fold fun _ _ => NZ.bnd (NZ.want (by decide)) fun _ _ => NZ.ok) fun _ _ => NZ.ok
  · exact NZ.bnd (NZ.want (by decide)) fun _ _ => NZ.ok
theorem nz_class {s : kStat.V} {a : Int} {l : List Str} {m : List (Str × Int)} : NZ (classD s a l m) :=
  NZ.bnd (NZ.want (by decide)) fun _ _ => NZ.bnd (NZ.fold fun _ _ => NZ.bnd (NZ.want (by decide)) fun _ _ => NZ.bnd (NZ.want (by decide)) fun _ _ => NZ.bnd (NZ.want (by decide)) fun _ _ => NZ.bnd (NZ.want (by decide)) fun _ _ => NZ.ok) fun _ _ => NZ.ok
theorem nz_arg {s : kStat.V} {a : Int} {fr : Bool} {x : Sc} {v k : Str} : NZ (argD s a fr x v k) := by
  unfold argD
  split
  · exact NZ.bnd (NZ.want (by decide)) fun _ _ => NZ.bnd (NZ.want (by decide)) fun _ _ => NZ.ok
  · exact NZ.bnd (NZ.want (by decide)) fun _ _ => NZ.bnd (NZ.want (by decide)) fun _ _ => NZ.bnd (NZ.want (by decide)) fun _ _ => NZ.ok
theorem nz_args {s : kStat.V} {a : Int} {fr : Bool} {x : Sc} {l : List Str} {p : kPredT.V} : NZ (argsD s a fr x l p) := NZ.bnd (NZ.want (by decide)) fun _ _ => NZ.bnd (NZ.fold fun _ _ => nz_arg) fun _ _ => NZ.ok
theorem nz_literal {s : kStat.V} {a : Int} {fr : Bool} {x : Sc} {l : kLitT.V} : NZ (literalD s a fr x l) :=
  NZ.bnd (NZ.want (by decide)) fun _ _ => NZ.bnd (NZ.want (by decide)) fun _ _ => NZ.bnd nz_args fun _ _ => NZ.bnd (NZ.want (by decide)) fun _ _ => NZ.bnd (NZ.want (by decide)) fun _ _ => NZ.ok
theorem nz_term {s : kStat.V} {a : Int} {fr : Bool} {x : Sc} {t : kTerm.V} : NZ (termD s a fr x t) := by
  unfold termD
  split
  · exact NZ.bnd (NZ.want (by decide)) fun _ _ => NZ.bnd (NZ.want (by decide)) fun _ _ => NZ.ok
  · exact NZ.bnd (NZ.want (by decide)) fun _ _ => NZ.bnd (NZ.want (by decide)) fun _ _ => NZ.bnd (NZ.want (by decide)) fun _ _ => NZ.bnd nz_args fun _ _ => NZ.ok
theorem nz_unlike {s : kStat.V} {a : Int} {x : Sc} {v : Str} : NZ (unlikeD s a x v) := by
  unfold unlikeD
  split
  · exact NZ.ok
  · exact NZ.bnd (NZ.want (by decide)) fun _ _ => NZ.bnd (NZ.want (by decide)) fun _ _ => NZ.ok
theorem nz_guard {s : kStat.V} {a : Int} {fr : Bool} {x : Sc} {g : kGuard.V} : NZ (guardD s a fr x g) := NZ.bnd (NZ.want (by decide)) fun _ _ => NZ.bnd (NZ.fold fun _ _ => NZ.fold fun _ _ => nz_term) fun _ _ => NZ.ok
theorem nz_premise {s : kStat.V} {a : Int} {fr : Bool} {x : Sc} {p : kPrem.V} : NZ (premiseD s a fr x p) := by
  unfold premiseD
  split
  · exact NZ.bnd nz_literal fun _ _ => NZ.ok
  · split
    · exact NZ.bnd nz_guard fun _ _ => NZ.ok
    · split
      · exact NZ.bnd nz_unlike fun _ _ => NZ.bnd nz_unlike fun _ _ => NZ.ok
      · exact NZ.bnd (NZ.want (by decide)) fun _ _ => NZ.ok
theorem nz_rule {s : kStat.V} {a : Int} {x : kRule.V} : NZ (ruleD s a x) := NZ.bnd (NZ.fold fun _ _ => nz_premise) fun _ _ => NZ.bnd nz_literal fun _ _ => NZ.bnd (NZ.fold fun _ _ => NZ.bnd (NZ.want (by decide)) fun _ _ => NZ.ok) fun _ _ => NZ.ok
theorem nz_ruleItem {s : kStat.V} {a i : Int} {x : kRule.V} : NZ (ruleItemD s a x i) :=
  NZ.bnd nz_fresh fun _ _ => NZ.bnd (NZ.want (by decide)) fun _ _ => NZ.bnd (NZ.want (by decide)) fun _ _ => NZ.bnd (NZ.want (by decide)) fun _ _ => NZ.bnd (NZ.want (by decide)) fun _ _ => NZ.bnd (NZ.want (by decide)) fun _ _ => NZ.bnd nz_rule fun _ _ => NZ.ok
theorem nz_total {s : kStat.V} {a i : Int} {x : kTotal.V} : NZ (totalD s a x i) :=
  NZ.bnd nz_fresh fun _ _ => NZ.bnd nz_kind fun _ _ => NZ.bnd (NZ.want (by decide)) fun _ _ => NZ.bnd (NZ.fold fun _ _ => NZ.bnd (NZ.want (by decide)) fun _ _ => NZ.bnd (NZ.want (by decide)) fun _ _ => NZ.bnd (NZ.want (by decide)) fun _ _ => NZ.bnd (NZ.want (by decide)) fun _ _ => NZ.ok) fun _ _ =>
  NZ.bnd (NZ.want (by decide)) fun _ _ => NZ.bnd (NZ.want (by decide)) fun _ _ => NZ.ok
theorem nz_items {s : kStat.V} {a : Int} : NZ (itemsD s a) :=
  NZ.bnd (NZ.want (by decide)) fun _ _ => NZ.bnd (NZ.each fun _ _ _ _ => NZ.bnd nz_fresh fun _ _ => NZ.ok) fun _ _ => NZ.bnd (NZ.each fun _ _ _ _ => NZ.bnd nz_fresh fun _ _ => NZ.bnd nz_kind fun _ _ => NZ.ok) fun _ _ => NZ.bnd (NZ.each fun _ _ _ _ => nz_pred) fun _ _ =>
  NZ.bnd (NZ.each fun _ _ _ _ => NZ.bnd nz_class fun _ _ => NZ.ok) fun _ _ => NZ.bnd (NZ.each fun _ _ _ _ => NZ.bnd nz_fresh fun _ _ => NZ.bnd (NZ.want (by decide)) fun _ _ => NZ.ok) fun _ _ => NZ.bnd (NZ.each fun _ _ _ _ => nz_ruleItem) fun _ _ =>
  NZ.bnd (NZ.each fun _ _ _ _ => NZ.bnd (NZ.want (by decide)) fun _ _ => NZ.bnd (NZ.want (by decide)) fun _ _ => NZ.ok) fun _ _ => NZ.bnd (NZ.each fun _ _ _ _ => nz_total) fun _ _ => NZ.ok
end Go.Proofs.YtkfmlekomfnleaaGreat
/- resolve.each, by the calculus, over what the closure does. Conditions: none. -/
set_option linter.unusedVariables false
set_option linter.unusedSimpArgs false
set_option maxRecDepth 10000
namespace Go.Proofs.YtkfmlekomfnleaaGreat
open Go Go.RowKit

attribute [local irreducible] RW CW
theorem at_cells (x : RC) (s : kStat.V) (a b : Int) : (x.cells s a).set 9 (.int .i64 b) = x.cells s b := rfl
set_option maxHeartbeats 4000000 in
theorem each1_ret {σ : Type} {br : Nat} {s : kStat.V} {at0 : Int} {x : RC} {w : World} {F : Nat → Prop} {l : List Str} {A : Option Addr} {c : Nat} {pre caps : List Value} {g : FuncId} {f : Int → Int → σ → Str → Ex σ} {y0 : σ} (C : σ → List HP)
    (hD : RD w (fun b => ¬ F b) s x) (hl : Rd kStrs (mem w (fun b => ¬ F b)) [.slice A l.length c] l) (hH : Sep (C y0 ++ [blk br (x.cells s at0) 112]) w F) (hg : ∀ args w, (callFunc g args).run Tryz.prog w = .ok (.enter g args) w)
    (hb : ∀ (w2 : World) (F2 : Nat → Prop) (at_ i : Int) (y : σ) (e : Str) (v : Value), Stay w F w2 F2 → RS w2 (fun b => ¬ F2 b) br s at_ x → Sep (C y) w2 F2 → Rd .str (mem w2 (fun b => ¬ F2 b)) [v] e → RetE Tryz.prog g (pre ++ ([v, .int .i64 i] ++ caps)) w2 F2 (f at_ i y e) (fun _ _ => .tuple #[]) (fun y' (_ : Unit) => C y'))
    (h0 : 0 ≤ at0) (h1 : at0 ≤ 1000000) (hn : l.length ≤ 1000000) :
    RetE Tryz.prog 101 [.pointer (some ⟨br, 0, none⟩), .slice A l.length c, .func (.func g) pre.toArray caps.toArray] w F (eachD f at0 0 y0 l) (fun _ _ => .tuple #[]) (fun z (_ : Unit) => C z.2 ++ [blk br (x.cells s z.1) 112]) := by
  generalize hS : eachD f at0 0 y0 l = SP
  have hS := hS.symm
  have hle : Mem.le (mem w (fun b => ¬ F b)) (mem w (fun b => ¬ F b)) := Mem.le_refl _
  refine Calls.enter Tryz.func101 rfl _ rfl rfl (S := F) (H := C y0 ++ [blk br (x.cells s at0) 112]) hH ?_
  refine Ja ?_;refine Jc ?_;refine Jg ?_;refine Jc ?_;refine Jb ?_
  refine CW.block ?_
  refine CW.loop (ι := { q : Nat × Int × σ // q.1 ≤ l.length ∧ q.2.1 = at0 + q.1 ∧ SP = eachD f q.2.1 q.1 q.2.2 (l.drop q.1) }) (fun q => [(0, .pointer (some ⟨br, 0, none⟩)), (2, .func (.func g) pre.toArray caps.toArray), (8, .slice A l.length c), (9, .int .i64 l.length), (10, .int .i64 q.1.1)])
    (fun q => C q.1.2.2 ++ [blk br (x.cells s q.1.2.1) 112]) (fun q => l.length - q.1.1) ⟨(0, at0, y0), Nat.zero_le _, by simp, hS⟩ ⟨rfl, rfl, rfl, rfl, rfl, trivial⟩ (fun h => h) ?_
  intro ⟨⟨k, at_, y⟩, hk, hat, hS⟩
  dsimp only at hS hk hat ⊢
  refine Ja ?_;refine Jk ?_;refine Jb ?_
  refine CW.seq ?_
  refine CW.ite rfl (fun hlt => ?_) (fun hge => ?_)
  · have hlt' : k < l.length := by simpa using hlt
    rw [eachD_step hlt'] at hS
    obtain ⟨B1, O1, cs, hA, hl1, hr, hm⟩ := sl_get hl (List.getElem?_eq_getElem hlt')
    obtain rfl := str_cell hr
    refine JM ?_
    refine CW.seq ?_
    refine CW.block ?_
    refine Ja ?_;refine Jc ?_
    refine RW.indexAddrE hA rfl rfl (by omega) hlt rfl ?_
    skip
    refine RW.load_ro rfl hle (hm 0 _ rfl) rfl rfl ?_
    refine Jd ?_;refine Jd ?_;refine Jb ?_;refine Ja ?_;refine Jc ?_;refine Jc ?_;refine Jc ?_
    refine RW.callwE (r := [blk br (x.cells s at_) 112]) (C y) hS hg rfl rfl (fun w2 F2 hw2 hF2 h1 h2 => hb w2 F2 at_ k y _ _ (Stay.of hw2 hF2) (RD.rs (hD.stay (Stay.of hw2 hF2)) (Sep.blk_at h2).1.2 (Sep.blk_at h2).2) h1 (hr.mono (Stay.of hw2 hF2).mem)) rfl rfl rfl fun y' _ hy hS => ?_
    refine Jb ?_
    refine CW.region ?_
    refine Jc ?_;refine Jf ?_;refine Je ?_
    refine RW.load_blk (C y') rfl rfl rfl rfl ?_
    refine RW.add rfl rfl (w64 (by omega) (by omega)) rfl ?_
    refine Jf ?_;refine Je ?_
    refine RW.store_blk (C y') rfl rfl rfl rfl rfl (by show 9 < 16; omega) ?_
    rw [show (x.cells s at_).set (0 + 9) (.int .i64 (at_ + 1)) = x.cells s (at_ + 1) from rfl]
    refine RW.nil (PW.code ?_)
    refine CW.region ?_
    refine RW.add rfl rfl (w64 (by omega) (by omega)) rfl ?_
    refine Jc ?_
    refine RW.nil ?_
    exact PW.again ⟨(k + 1, at_ + 1, y'), hlt', (by show at_ + 1 = at0 + ((k + 1 : Nat) : Int); omega), hS⟩ ⟨rfl, rfl, rfl, rfl, rfl, trivial⟩ (fun h => h) (by show l.length - (k + 1) < l.length - k; omega)
  · have hge' : l.length ≤ k := by simpa using hge
    rw [eachD_end hge'] at hS
    refine CW.exit rfl ?_
    exact PW.ret (rs := []) (vs := []) Tryz.results101 rfl ResOK.nil fun w hw => XP.ok (V := fun _ _ => .tuple #[]) () hS hw
set_option maxHeartbeats 4000000 in
theorem each2_ret {σ : Type} {br : Nat} {s : kStat.V} {at0 : Int} {x : RC} {w : World} {F : Nat → Prop} {l : List kMember.V} {A : Option Addr} {c : Nat} {pre caps : List Value} {g : FuncId} {f : Int → Int → σ → kMember.V → Ex σ} {y0 : σ} (C : σ → List HP)
    (hD : RD w (fun b => ¬ F b) s x) (hl : Rd (.sl 32 kMember) (mem w (fun b => ¬ F b)) [.slice A l.length c] l) (hH : Sep (C y0 ++ [blk br (x.cells s at0) 112]) w F) (hg : ∀ args w, (callFunc g args).run Tryz.prog w = .ok (.enter g args) w)
    (hb : ∀ (w2 : World) (F2 : Nat → Prop) (at_ i : Int) (y : σ) (e : kMember.V) (cs : List Value), Stay w F w2 F2 → RS w2 (fun b => ¬ F2 b) br s at_ x → Sep (C y) w2 F2 → Rd kMember (mem w2 (fun b => ¬ F2 b)) cs e → RetE Tryz.prog g (pre ++ ([.agg cs.toArray, .int .i64 i] ++ caps)) w2 F2 (f at_ i y e) (fun _ _ => .tuple #[]) (fun y' (_ : Unit) => C y'))
    (h0 : 0 ≤ at0) (h1 : at0 ≤ 1000000) (hn : l.length ≤ 1000000) :
    RetE Tryz.prog 104 [.pointer (some ⟨br, 0, none⟩), .slice A l.length c, .func (.func g) pre.toArray caps.toArray] w F (eachD f at0 0 y0 l) (fun _ _ => .tuple #[]) (fun z (_ : Unit) => C z.2 ++ [blk br (x.cells s z.1) 112]) := by
  generalize hS : eachD f at0 0 y0 l = SP
  have hS := hS.symm
  have hle : Mem.le (mem w (fun b => ¬ F b)) (mem w (fun b => ¬ F b)) := Mem.le_refl _
  refine Calls.enter Tryz.func104 rfl _ rfl rfl (S := F) (H := C y0 ++ [blk br (x.cells s at0) 112]) hH ?_
  refine Ja ?_;refine Jc ?_;refine Jg ?_;refine Jc ?_;refine Jb ?_
  refine CW.block ?_
  refine CW.loop (ι := { q : Nat × Int × σ // q.1 ≤ l.length ∧ q.2.1 = at0 + q.1 ∧ SP = eachD f q.2.1 q.1 q.2.2 (l.drop q.1) }) (fun q => [(0, .pointer (some ⟨br, 0, none⟩)), (2, .func (.func g) pre.toArray caps.toArray), (8, .slice A l.length c), (9, .int .i64 l.length), (10, .int .i64 q.1.1)])
    (fun q => C q.1.2.2 ++ [blk br (x.cells s q.1.2.1) 112]) (fun q => l.length - q.1.1) ⟨(0, at0, y0), Nat.zero_le _, by simp, hS⟩ ⟨rfl, rfl, rfl, rfl, rfl, trivial⟩ (fun h => h) ?_
  intro ⟨⟨k, at_, y⟩, hk, hat, hS⟩
  dsimp only at hS hk hat ⊢
  refine Ja ?_;refine Jk ?_;refine Jb ?_
  refine CW.seq ?_
  refine CW.ite rfl (fun hlt => ?_) (fun hge => ?_)
  · have hlt' : k < l.length := by simpa using hlt
    rw [eachD_step hlt'] at hS
    obtain ⟨B1, O1, cs, hA, hl1, hr, hm⟩ := sl_get hl (List.getElem?_eq_getElem hlt')
    refine JM ?_
    refine CW.seq ?_
    refine CW.block ?_
    refine Ja ?_;refine Jc ?_
    refine RW.indexAddrE hA rfl rfl (by omega) hlt rfl ?_
    refine RW.load_ros rfl hle hm rfl hl1 (by rw [hl1]; decide) rfl ?_
    refine RW.alloc rfl rfl fun b7 _ => ?_
    refine Jd ?_
    refine RW.store_whole [] rfl rfl (vs := cs) rfl hl1 hl1 (Rd.one hr) ?_
    refine Jb ?_;refine Ja ?_;refine Jc ?_
    refine RW.load_whole [] rfl hl1 rfl rfl ?_
    refine Jc ?_
    refine RW.drop (H' := C y ++ [blk br (x.cells s at_) 112]) (List.Sublist.cons _ (List.Sublist.refl _)) ?_
    refine RW.callwE (r := [blk br (x.cells s at_) 112]) (C y) hS hg rfl rfl (fun w2 F2 hw2 hF2 h1 h2 => hb w2 F2 at_ k y _ _ (Stay.of hw2 hF2) (RD.rs (hD.stay (Stay.of hw2 hF2)) (Sep.blk_at h2).1.2 (Sep.blk_at h2).2) h1 (hr.mono (Stay.of hw2 hF2).mem)) rfl rfl rfl fun y' _ hy hS => ?_
    refine Jb ?_
    refine CW.region ?_
    refine Jc ?_;refine Jf ?_;refine Je ?_
    refine RW.load_blk (C y') rfl rfl rfl rfl ?_
    refine RW.add rfl rfl (w64 (by omega) (by omega)) rfl ?_
    refine Jf ?_;refine Je ?_
    refine RW.store_blk (C y') rfl rfl rfl rfl rfl (by show 9 < 16; omega) ?_
    rw [show (x.cells s at_).set (0 + 9) (.int .i64 (at_ + 1)) = x.cells s (at_ + 1) from rfl]
    refine RW.nil (PW.code ?_)
    refine CW.region ?_
    refine RW.add rfl rfl (w64 (by omega) (by omega)) rfl ?_
    refine Jc ?_
    refine RW.nil ?_
    exact PW.again ⟨(k + 1, at_ + 1, y'), hlt', (by show at_ + 1 = at0 + ((k + 1 : Nat) : Int); omega), hS⟩ ⟨rfl, rfl, rfl, rfl, rfl, trivial⟩ (fun h => h) (by show l.length - (k + 1) < l.length - k; omega)
  · have hge' : l.length ≤ k := by simpa using hge
    rw [eachD_end hge'] at hS
    refine CW.exit rfl ?_
    exact PW.ret (rs := []) (vs := []) Tryz.results104 rfl ResOK.nil fun w hw => XP.ok (V := fun _ _ => .tuple #[]) () hS hw
set_option maxHeartbeats 4000000 in
theorem each3_ret {σ : Type} {br : Nat} {s : kStat.V} {at0 : Int} {x : RC} {w : World} {F : Nat → Prop} {l : List kPredT.V} {A : Option Addr} {c : Nat} {pre caps : List Value} {g : FuncId} {f : Int → Int → σ → kPredT.V → Ex σ} {y0 : σ} (C : σ → List HP)
    (hD : RD w (fun b => ¬ F b) s x) (hl : Rd (.sl 72 kPredT) (mem w (fun b => ¬ F b)) [.slice A l.length c] l) (hH : Sep (C y0 ++ [blk br (x.cells s at0) 112]) w F) (hg : ∀ args w, (callFunc g args).run Tryz.prog w = .ok (.enter g args) w)
    (hb : ∀ (w2 : World) (F2 : Nat → Prop) (at_ i : Int) (y : σ) (e : kPredT.V) (cs : List Value), Stay w F w2 F2 → RS w2 (fun b => ¬ F2 b) br s at_ x → Sep (C y) w2 F2 → Rd kPredT (mem w2 (fun b => ¬ F2 b)) cs e → RetE Tryz.prog g (pre ++ ([.agg cs.toArray, .int .i64 i] ++ caps)) w2 F2 (f at_ i y e) (fun _ _ => .tuple #[]) (fun y' (_ : Unit) => C y'))
    (h0 : 0 ≤ at0) (h1 : at0 ≤ 1000000) (hn : l.length ≤ 1000000) :
    RetE Tryz.prog 107 [.pointer (some ⟨br, 0, none⟩), .slice A l.length c, .func (.func g) pre.toArray caps.toArray] w F (eachD f at0 0 y0 l) (fun _ _ => .tuple #[]) (fun z (_ : Unit) => C z.2 ++ [blk br (x.cells s z.1) 112]) := by
  generalize hS : eachD f at0 0 y0 l = SP
  have hS := hS.symm
  have hle : Mem.le (mem w (fun b => ¬ F b)) (mem w (fun b => ¬ F b)) := Mem.le_refl _
  refine Calls.enter Tryz.func107 rfl _ rfl rfl (S := F) (H := C y0 ++ [blk br (x.cells s at0) 112]) hH ?_
  refine Ja ?_;refine Jc ?_;refine Jg ?_;refine Jc ?_;refine Jb ?_
  refine CW.block ?_
  refine CW.loop (ι := { q : Nat × Int × σ // q.1 ≤ l.length ∧ q.2.1 = at0 + q.1 ∧ SP = eachD f q.2.1 q.1 q.2.2 (l.drop q.1) }) (fun q => [(0, .pointer (some ⟨br, 0, none⟩)), (2, .func (.func g) pre.toArray caps.toArray), (8, .slice A l.length c), (9, .int .i64 l.length), (10, .int .i64 q.1.1)])
    (fun q => C q.1.2.2 ++ [blk br (x.cells s q.1.2.1) 112]) (fun q => l.length - q.1.1) ⟨(0, at0, y0), Nat.zero_le _, by simp, hS⟩ ⟨rfl, rfl, rfl, rfl, rfl, trivial⟩ (fun h => h) ?_
  intro ⟨⟨k, at_, y⟩, hk, hat, hS⟩
  dsimp only at hS hk hat ⊢
  refine Ja ?_;refine Jk ?_;refine Jb ?_
  refine CW.seq ?_
  refine CW.ite rfl (fun hlt => ?_) (fun hge => ?_)
  · have hlt' : k < l.length := by simpa using hlt
    rw [eachD_step hlt'] at hS
    obtain ⟨B1, O1, cs, hA, hl1, hr, hm⟩ := sl_get hl (List.getElem?_eq_getElem hlt')
    refine JM ?_
    refine CW.seq ?_
    refine CW.block ?_
    refine Ja ?_;refine Jc ?_
    refine RW.indexAddrE hA rfl rfl (by omega) hlt rfl ?_
    refine RW.load_ros rfl hle hm rfl hl1 (by rw [hl1]; decide) rfl ?_
    refine RW.alloc rfl rfl fun b7 _ => ?_
    refine Jd ?_
    refine RW.store_whole [] rfl rfl (vs := cs) rfl hl1 hl1 (Rd.one hr) ?_
    refine Jb ?_;refine Ja ?_;refine Jc ?_
    refine RW.load_whole [] rfl hl1 rfl rfl ?_
    refine Jc ?_
    refine RW.drop (H' := C y ++ [blk br (x.cells s at_) 112]) (List.Sublist.cons _ (List.Sublist.refl _)) ?_
    refine RW.callwE (r := [blk br (x.cells s at_) 112]) (C y) hS hg rfl rfl (fun w2 F2 hw2 hF2 h1 h2 => hb w2 F2 at_ k y _ _ (Stay.of hw2 hF2) (RD.rs (hD.stay (Stay.of hw2 hF2)) (Sep.blk_at h2).1.2 (Sep.blk_at h2).2) h1 (hr.mono (Stay.of hw2 hF2).mem)) rfl rfl rfl fun y' _ hy hS => ?_
    refine Jb ?_
    refine CW.region ?_
    refine Jc ?_;refine Jf ?_;refine Je ?_
    refine RW.load_blk (C y') rfl rfl rfl rfl ?_
    refine RW.add rfl rfl (w64 (by omega) (by omega)) rfl ?_
    refine Jf ?_;refine Je ?_
    refine RW.store_blk (C y') rfl rfl rfl rfl rfl (by show 9 < 16; omega) ?_
    rw [show (x.cells s at_).set (0 + 9) (.int .i64 (at_ + 1)) = x.cells s (at_ + 1) from rfl]
    refine RW.nil (PW.code ?_)
    refine CW.region ?_
    refine RW.add rfl rfl (w64 (by omega) (by omega)) rfl ?_
    refine Jc ?_
    refine RW.nil ?_
    exact PW.again ⟨(k + 1, at_ + 1, y'), hlt', (by show at_ + 1 = at0 + ((k + 1 : Nat) : Int); omega), hS⟩ ⟨rfl, rfl, rfl, rfl, rfl, trivial⟩ (fun h => h) (by show l.length - (k + 1) < l.length - k; omega)
  · have hge' : l.length ≤ k := by simpa using hge
    rw [eachD_end hge'] at hS
    refine CW.exit rfl ?_
    exact PW.ret (rs := []) (vs := []) Tryz.results107 rfl ResOK.nil fun w hw => XP.ok (V := fun _ _ => .tuple #[]) () hS hw
set_option maxHeartbeats 4000000 in
theorem each4_ret {σ : Type} {br : Nat} {s : kStat.V} {at0 : Int} {x : RC} {w : World} {F : Nat → Prop} {l : List (List Str)} {A : Option Addr} {c : Nat} {pre caps : List Value} {g : FuncId} {f : Int → Int → σ → (List Str) → Ex σ} {y0 : σ} (C : σ → List HP)
    (hD : RD w (fun b => ¬ F b) s x) (hl : Rd (.sl 24 kStrs) (mem w (fun b => ¬ F b)) [.slice A l.length c] l) (hH : Sep (C y0 ++ [blk br (x.cells s at0) 112]) w F) (hg : ∀ args w, (callFunc g args).run Tryz.prog w = .ok (.enter g args) w)
    (hb : ∀ (w2 : World) (F2 : Nat → Prop) (at_ i : Int) (y : σ) (e : (List Str)) (v : Value), Stay w F w2 F2 → RS w2 (fun b => ¬ F2 b) br s at_ x → Sep (C y) w2 F2 → Rd kStrs (mem w2 (fun b => ¬ F2 b)) [v] e → RetE Tryz.prog g (pre ++ ([v, .int .i64 i] ++ caps)) w2 F2 (f at_ i y e) (fun _ _ => .tuple #[]) (fun y' (_ : Unit) => C y'))
    (h0 : 0 ≤ at0) (h1 : at0 ≤ 1000000) (hn : l.length ≤ 1000000) :
    RetE Tryz.prog 109 [.pointer (some ⟨br, 0, none⟩), .slice A l.length c, .func (.func g) pre.toArray caps.toArray] w F (eachD f at0 0 y0 l) (fun _ _ => .tuple #[]) (fun z (_ : Unit) => C z.2 ++ [blk br (x.cells s z.1) 112]) := by
  generalize hS : eachD f at0 0 y0 l = SP
  have hS := hS.symm
  have hle : Mem.le (mem w (fun b => ¬ F b)) (mem w (fun b => ¬ F b)) := Mem.le_refl _
  refine Calls.enter Tryz.func109 rfl _ rfl rfl (S := F) (H := C y0 ++ [blk br (x.cells s at0) 112]) hH ?_
  refine Ja ?_;refine Jc ?_;refine Jg ?_;refine Jc ?_;refine Jb ?_
  refine CW.block ?_
  refine CW.loop (ι := { q : Nat × Int × σ // q.1 ≤ l.length ∧ q.2.1 = at0 + q.1 ∧ SP = eachD f q.2.1 q.1 q.2.2 (l.drop q.1) }) (fun q => [(0, .pointer (some ⟨br, 0, none⟩)), (2, .func (.func g) pre.toArray caps.toArray), (8, .slice A l.length c), (9, .int .i64 l.length), (10, .int .i64 q.1.1)])
    (fun q => C q.1.2.2 ++ [blk br (x.cells s q.1.2.1) 112]) (fun q => l.length - q.1.1) ⟨(0, at0, y0), Nat.zero_le _, by simp, hS⟩ ⟨rfl, rfl, rfl, rfl, rfl, trivial⟩ (fun h => h) ?_
  intro ⟨⟨k, at_, y⟩, hk, hat, hS⟩
  dsimp only at hS hk hat ⊢
  refine Ja ?_;refine Jk ?_;refine Jb ?_
  refine CW.seq ?_
  refine CW.ite rfl (fun hlt => ?_) (fun hge => ?_)
  · have hlt' : k < l.length := by simpa using hlt
    rw [eachD_step hlt'] at hS
    obtain ⟨B1, O1, cs, hA, hl1, hr, hm⟩ := sl_get hl (List.getElem?_eq_getElem hlt')
    obtain ⟨A3, c3, rfl⟩ := sl_cell hr
    refine JM ?_
    refine CW.seq ?_
    refine CW.block ?_
    refine Ja ?_;refine Jc ?_
    refine RW.indexAddrE hA rfl rfl (by omega) hlt rfl ?_
    skip
    refine RW.load_ro rfl hle (hm 0 _ rfl) rfl rfl ?_
    refine Jd ?_;refine Jd ?_;refine Jb ?_;refine Ja ?_;refine Jc ?_;refine Jc ?_;refine Jc ?_
    refine RW.callwE (r := [blk br (x.cells s at_) 112]) (C y) hS hg rfl rfl (fun w2 F2 hw2 hF2 h1 h2 => hb w2 F2 at_ k y _ _ (Stay.of hw2 hF2) (RD.rs (hD.stay (Stay.of hw2 hF2)) (Sep.blk_at h2).1.2 (Sep.blk_at h2).2) h1 (hr.mono (Stay.of hw2 hF2).mem)) rfl rfl rfl fun y' _ hy hS => ?_
    refine Jb ?_
    refine CW.region ?_
    refine Jc ?_;refine Jf ?_;refine Je ?_
    refine RW.load_blk (C y') rfl rfl rfl rfl ?_
    refine RW.add rfl rfl (w64 (by omega) (by omega)) rfl ?_
    refine Jf ?_;refine Je ?_
    refine RW.store_blk (C y') rfl rfl rfl rfl rfl (by show 9 < 16; omega) ?_
    rw [show (x.cells s at_).set (0 + 9) (.int .i64 (at_ + 1)) = x.cells s (at_ + 1) from rfl]
    refine RW.nil (PW.code ?_)
    refine CW.region ?_
    refine RW.add rfl rfl (w64 (by omega) (by omega)) rfl ?_
    refine Jc ?_
    refine RW.nil ?_
    exact PW.again ⟨(k + 1, at_ + 1, y'), hlt', (by show at_ + 1 = at0 + ((k + 1 : Nat) : Int); omega), hS⟩ ⟨rfl, rfl, rfl, rfl, rfl, trivial⟩ (fun h => h) (by show l.length - (k + 1) < l.length - k; omega)
  · have hge' : l.length ≤ k := by simpa using hge
    rw [eachD_end hge'] at hS
    refine CW.exit rfl ?_
    exact PW.ret (rs := []) (vs := []) Tryz.results109 rfl ResOK.nil fun w hw => XP.ok (V := fun _ _ => .tuple #[]) () hS hw
set_option maxHeartbeats 4000000 in
theorem each5_ret {σ : Type} {br : Nat} {s : kStat.V} {at0 : Int} {x : RC} {w : World} {F : Nat → Prop} {l : List kSource.V} {A : Option Addr} {c : Nat} {pre caps : List Value} {g : FuncId} {f : Int → Int → σ → kSource.V → Ex σ} {y0 : σ} (C : σ → List HP)
    (hD : RD w (fun b => ¬ F b) s x) (hl : Rd (.sl 24 kSource) (mem w (fun b => ¬ F b)) [.slice A l.length c] l) (hH : Sep (C y0 ++ [blk br (x.cells s at0) 112]) w F) (hg : ∀ args w, (callFunc g args).run Tryz.prog w = .ok (.enter g args) w)
    (hb : ∀ (w2 : World) (F2 : Nat → Prop) (at_ i : Int) (y : σ) (e : kSource.V) (cs : List Value), Stay w F w2 F2 → RS w2 (fun b => ¬ F2 b) br s at_ x → Sep (C y) w2 F2 → Rd kSource (mem w2 (fun b => ¬ F2 b)) cs e → RetE Tryz.prog g (pre ++ ([.agg cs.toArray, .int .i64 i] ++ caps)) w2 F2 (f at_ i y e) (fun _ _ => .tuple #[]) (fun y' (_ : Unit) => C y'))
    (h0 : 0 ≤ at0) (h1 : at0 ≤ 1000000) (hn : l.length ≤ 1000000) :
    RetE Tryz.prog 112 [.pointer (some ⟨br, 0, none⟩), .slice A l.length c, .func (.func g) pre.toArray caps.toArray] w F (eachD f at0 0 y0 l) (fun _ _ => .tuple #[]) (fun z (_ : Unit) => C z.2 ++ [blk br (x.cells s z.1) 112]) := by
  generalize hS : eachD f at0 0 y0 l = SP
  have hS := hS.symm
  have hle : Mem.le (mem w (fun b => ¬ F b)) (mem w (fun b => ¬ F b)) := Mem.le_refl _
  refine Calls.enter Tryz.func112 rfl _ rfl rfl (S := F) (H := C y0 ++ [blk br (x.cells s at0) 112]) hH ?_
  refine Ja ?_;refine Jc ?_;refine Jg ?_;refine Jc ?_;refine Jb ?_
  refine CW.block ?_
  refine CW.loop (ι := { q : Nat × Int × σ // q.1 ≤ l.length ∧ q.2.1 = at0 + q.1 ∧ SP = eachD f q.2.1 q.1 q.2.2 (l.drop q.1) }) (fun q => [(0, .pointer (some ⟨br, 0, none⟩)), (2, .func (.func g) pre.toArray caps.toArray), (8, .slice A l.length c), (9, .int .i64 l.length), (10, .int .i64 q.1.1)])
    (fun q => C q.1.2.2 ++ [blk br (x.cells s q.1.2.1) 112]) (fun q => l.length - q.1.1) ⟨(0, at0, y0), Nat.zero_le _, by simp, hS⟩ ⟨rfl, rfl, rfl, rfl, rfl, trivial⟩ (fun h => h) ?_
  intro ⟨⟨k, at_, y⟩, hk, hat, hS⟩
  dsimp only at hS hk hat ⊢
  refine Ja ?_;refine Jk ?_;refine Jb ?_
  refine CW.seq ?_
  refine CW.ite rfl (fun hlt => ?_) (fun hge => ?_)
  · have hlt' : k < l.length := by simpa using hlt
    rw [eachD_step hlt'] at hS
    obtain ⟨B1, O1, cs, hA, hl1, hr, hm⟩ := sl_get hl (List.getElem?_eq_getElem hlt')
    refine JM ?_
    refine CW.seq ?_
    refine CW.block ?_
    refine Ja ?_;refine Jc ?_
    refine RW.indexAddrE hA rfl rfl (by omega) hlt rfl ?_
    refine RW.load_ros rfl hle hm rfl hl1 (by rw [hl1]; decide) rfl ?_
    refine RW.alloc rfl rfl fun b7 _ => ?_
    refine Jd ?_
    refine RW.store_whole [] rfl rfl (vs := cs) rfl hl1 hl1 (Rd.one hr) ?_
    refine Jb ?_;refine Ja ?_;refine Jc ?_
    refine RW.load_whole [] rfl hl1 rfl rfl ?_
    refine Jc ?_
    refine RW.drop (H' := C y ++ [blk br (x.cells s at_) 112]) (List.Sublist.cons _ (List.Sublist.refl _)) ?_
    refine RW.callwE (r := [blk br (x.cells s at_) 112]) (C y) hS hg rfl rfl (fun w2 F2 hw2 hF2 h1 h2 => hb w2 F2 at_ k y _ _ (Stay.of hw2 hF2) (RD.rs (hD.stay (Stay.of hw2 hF2)) (Sep.blk_at h2).1.2 (Sep.blk_at h2).2) h1 (hr.mono (Stay.of hw2 hF2).mem)) rfl rfl rfl fun y' _ hy hS => ?_
    refine Jb ?_
    refine CW.region ?_
    refine Jc ?_;refine Jf ?_;refine Je ?_
    refine RW.load_blk (C y') rfl rfl rfl rfl ?_
    refine RW.add rfl rfl (w64 (by omega) (by omega)) rfl ?_
    refine Jf ?_;refine Je ?_
    refine RW.store_blk (C y') rfl rfl rfl rfl rfl (by show 9 < 16; omega) ?_
    rw [show (x.cells s at_).set (0 + 9) (.int .i64 (at_ + 1)) = x.cells s (at_ + 1) from rfl]
    refine RW.nil (PW.code ?_)
    refine CW.region ?_
    refine RW.add rfl rfl (w64 (by omega) (by omega)) rfl ?_
    refine Jc ?_
    refine RW.nil ?_
    exact PW.again ⟨(k + 1, at_ + 1, y'), hlt', (by show at_ + 1 = at0 + ((k + 1 : Nat) : Int); omega), hS⟩ ⟨rfl, rfl, rfl, rfl, rfl, trivial⟩ (fun h => h) (by show l.length - (k + 1) < l.length - k; omega)
  · have hge' : l.length ≤ k := by simpa using hge
    rw [eachD_end hge'] at hS
    refine CW.exit rfl ?_
    exact PW.ret (rs := []) (vs := []) Tryz.results112 rfl ResOK.nil fun w hw => XP.ok (V := fun _ _ => .tuple #[]) () hS hw
set_option maxHeartbeats 4000000 in
theorem each6_ret {σ : Type} {br : Nat} {s : kStat.V} {at0 : Int} {x : RC} {w : World} {F : Nat → Prop} {l : List kRule.V} {A : Option Addr} {c : Nat} {pre caps : List Value} {g : FuncId} {f : Int → Int → σ → kRule.V → Ex σ} {y0 : σ} (C : σ → List HP)
    (hD : RD w (fun b => ¬ F b) s x) (hl : Rd (.sl 144 kRule) (mem w (fun b => ¬ F b)) [.slice A l.length c] l) (hH : Sep (C y0 ++ [blk br (x.cells s at0) 112]) w F) (hg : ∀ args w, (callFunc g args).run Tryz.prog w = .ok (.enter g args) w)
    (hb : ∀ (w2 : World) (F2 : Nat → Prop) (at_ i : Int) (y : σ) (e : kRule.V) (cs : List Value), Stay w F w2 F2 → RS w2 (fun b => ¬ F2 b) br s at_ x → Sep (C y) w2 F2 → Rd kRule (mem w2 (fun b => ¬ F2 b)) cs e → RetE Tryz.prog g (pre ++ ([.agg cs.toArray, .int .i64 i] ++ caps)) w2 F2 (f at_ i y e) (fun _ _ => .tuple #[]) (fun y' (_ : Unit) => C y'))
    (h0 : 0 ≤ at0) (h1 : at0 ≤ 1000000) (hn : l.length ≤ 1000000) :
    RetE Tryz.prog 114 [.pointer (some ⟨br, 0, none⟩), .slice A l.length c, .func (.func g) pre.toArray caps.toArray] w F (eachD f at0 0 y0 l) (fun _ _ => .tuple #[]) (fun z (_ : Unit) => C z.2 ++ [blk br (x.cells s z.1) 112]) := by
  generalize hS : eachD f at0 0 y0 l = SP
  have hS := hS.symm
  have hle : Mem.le (mem w (fun b => ¬ F b)) (mem w (fun b => ¬ F b)) := Mem.le_refl _
  refine Calls.enter Tryz.func114 rfl _ rfl rfl (S := F) (H := C y0 ++ [blk br (x.cells s at0) 112]) hH ?_
  refine Ja ?_;refine Jc ?_;refine Jg ?_;refine Jc ?_;refine Jb ?_
  refine CW.block ?_
  refine CW.loop (ι := { q : Nat × Int × σ // q.1 ≤ l.length ∧ q.2.1 = at0 + q.1 ∧ SP = eachD f q.2.1 q.1 q.2.2 (l.drop q.1) }) (fun q => [(0, .pointer (some ⟨br, 0, none⟩)), (2, .func (.func g) pre.toArray caps.toArray), (8, .slice A l.length c), (9, .int .i64 l.length), (10, .int .i64 q.1.1)])
    (fun q => C q.1.2.2 ++ [blk br (x.cells s q.1.2.1) 112]) (fun q => l.length - q.1.1) ⟨(0, at0, y0), Nat.zero_le _, by simp, hS⟩ ⟨rfl, rfl, rfl, rfl, rfl, trivial⟩ (fun h => h) ?_
  intro ⟨⟨k, at_, y⟩, hk, hat, hS⟩
  dsimp only at hS hk hat ⊢
  refine Ja ?_;refine Jk ?_;refine Jb ?_
  refine CW.seq ?_
  refine CW.ite rfl (fun hlt => ?_) (fun hge => ?_)
  · have hlt' : k < l.length := by simpa using hlt
    rw [eachD_step hlt'] at hS
    obtain ⟨B1, O1, cs, hA, hl1, hr, hm⟩ := sl_get hl (List.getElem?_eq_getElem hlt')
    refine JM ?_
    refine CW.seq ?_
    refine CW.block ?_
    refine Ja ?_;refine Jc ?_
    refine RW.indexAddrE hA rfl rfl (by omega) hlt rfl ?_
    refine RW.load_ros rfl hle hm rfl hl1 (by rw [hl1]; decide) rfl ?_
    refine RW.alloc rfl rfl fun b7 _ => ?_
    refine Jd ?_
    refine RW.store_whole [] rfl rfl (vs := cs) rfl hl1 hl1 (Rd.one hr) ?_
    refine Jb ?_;refine Ja ?_;refine Jc ?_
    refine RW.load_whole [] rfl hl1 rfl rfl ?_
    refine Jc ?_
    refine RW.drop (H' := C y ++ [blk br (x.cells s at_) 112]) (List.Sublist.cons _ (List.Sublist.refl _)) ?_
    refine RW.callwE (r := [blk br (x.cells s at_) 112]) (C y) hS hg rfl rfl (fun w2 F2 hw2 hF2 h1 h2 => hb w2 F2 at_ k y _ _ (Stay.of hw2 hF2) (RD.rs (hD.stay (Stay.of hw2 hF2)) (Sep.blk_at h2).1.2 (Sep.blk_at h2).2) h1 (hr.mono (Stay.of hw2 hF2).mem)) rfl rfl rfl fun y' _ hy hS => ?_
    refine Jb ?_
    refine CW.region ?_
    refine Jc ?_;refine Jf ?_;refine Je ?_
    refine RW.load_blk (C y') rfl rfl rfl rfl ?_
    refine RW.add rfl rfl (w64 (by omega) (by omega)) rfl ?_
    refine Jf ?_;refine Je ?_
    refine RW.store_blk (C y') rfl rfl rfl rfl rfl (by show 9 < 16; omega) ?_
    rw [show (x.cells s at_).set (0 + 9) (.int .i64 (at_ + 1)) = x.cells s (at_ + 1) from rfl]
    refine RW.nil (PW.code ?_)
    refine CW.region ?_
    refine RW.add rfl rfl (w64 (by omega) (by omega)) rfl ?_
    refine Jc ?_
    refine RW.nil ?_
    exact PW.again ⟨(k + 1, at_ + 1, y'), hlt', (by show at_ + 1 = at0 + ((k + 1 : Nat) : Int); omega), hS⟩ ⟨rfl, rfl, rfl, rfl, rfl, trivial⟩ (fun h => h) (by show l.length - (k + 1) < l.length - k; omega)
  · have hge' : l.length ≤ k := by simpa using hge
    rw [eachD_end hge'] at hS
    refine CW.exit rfl ?_
    exact PW.ret (rs := []) (vs := []) Tryz.results114 rfl ResOK.nil fun w hw => XP.ok (V := fun _ _ => .tuple #[]) () hS hw
set_option maxHeartbeats 4000000 in
theorem each7_ret {σ : Type} {br : Nat} {s : kStat.V} {at0 : Int} {x : RC} {w : World} {F : Nat → Prop} {l : List kExc.V} {A : Option Addr} {c : Nat} {pre caps : List Value} {g : FuncId} {f : Int → Int → σ → kExc.V → Ex σ} {y0 : σ} (C : σ → List HP)
    (hD : RD w (fun b => ¬ F b) s x) (hl : Rd (.sl 32 kExc) (mem w (fun b => ¬ F b)) [.slice A l.length c] l) (hH : Sep (C y0 ++ [blk br (x.cells s at0) 112]) w F) (hg : ∀ args w, (callFunc g args).run Tryz.prog w = .ok (.enter g args) w)
    (hb : ∀ (w2 : World) (F2 : Nat → Prop) (at_ i : Int) (y : σ) (e : kExc.V) (cs : List Value), Stay w F w2 F2 → RS w2 (fun b => ¬ F2 b) br s at_ x → Sep (C y) w2 F2 → Rd kExc (mem w2 (fun b => ¬ F2 b)) cs e → RetE Tryz.prog g (pre ++ ([.agg cs.toArray, .int .i64 i] ++ caps)) w2 F2 (f at_ i y e) (fun _ _ => .tuple #[]) (fun y' (_ : Unit) => C y'))
    (h0 : 0 ≤ at0) (h1 : at0 ≤ 1000000) (hn : l.length ≤ 1000000) :
    RetE Tryz.prog 116 [.pointer (some ⟨br, 0, none⟩), .slice A l.length c, .func (.func g) pre.toArray caps.toArray] w F (eachD f at0 0 y0 l) (fun _ _ => .tuple #[]) (fun z (_ : Unit) => C z.2 ++ [blk br (x.cells s z.1) 112]) := by
  generalize hS : eachD f at0 0 y0 l = SP
  have hS := hS.symm
  have hle : Mem.le (mem w (fun b => ¬ F b)) (mem w (fun b => ¬ F b)) := Mem.le_refl _
  refine Calls.enter Tryz.func116 rfl _ rfl rfl (S := F) (H := C y0 ++ [blk br (x.cells s at0) 112]) hH ?_
  refine Ja ?_;refine Jc ?_;refine Jg ?_;refine Jc ?_;refine Jb ?_
  refine CW.block ?_
  refine CW.loop (ι := { q : Nat × Int × σ // q.1 ≤ l.length ∧ q.2.1 = at0 + q.1 ∧ SP = eachD f q.2.1 q.1 q.2.2 (l.drop q.1) }) (fun q => [(0, .pointer (some ⟨br, 0, none⟩)), (2, .func (.func g) pre.toArray caps.toArray), (8, .slice A l.length c), (9, .int .i64 l.length), (10, .int .i64 q.1.1)])
    (fun q => C q.1.2.2 ++ [blk br (x.cells s q.1.2.1) 112]) (fun q => l.length - q.1.1) ⟨(0, at0, y0), Nat.zero_le _, by simp, hS⟩ ⟨rfl, rfl, rfl, rfl, rfl, trivial⟩ (fun h => h) ?_
  intro ⟨⟨k, at_, y⟩, hk, hat, hS⟩
  dsimp only at hS hk hat ⊢
  refine Ja ?_;refine Jk ?_;refine Jb ?_
  refine CW.seq ?_
  refine CW.ite rfl (fun hlt => ?_) (fun hge => ?_)
  · have hlt' : k < l.length := by simpa using hlt
    rw [eachD_step hlt'] at hS
    obtain ⟨B1, O1, cs, hA, hl1, hr, hm⟩ := sl_get hl (List.getElem?_eq_getElem hlt')
    refine JM ?_
    refine CW.seq ?_
    refine CW.block ?_
    refine Ja ?_;refine Jc ?_
    refine RW.indexAddrE hA rfl rfl (by omega) hlt rfl ?_
    refine RW.load_ros rfl hle hm rfl hl1 (by rw [hl1]; decide) rfl ?_
    refine RW.alloc rfl rfl fun b7 _ => ?_
    refine Jd ?_
    refine RW.store_whole [] rfl rfl (vs := cs) rfl hl1 hl1 (Rd.one hr) ?_
    refine Jb ?_;refine Ja ?_;refine Jc ?_
    refine RW.load_whole [] rfl hl1 rfl rfl ?_
    refine Jc ?_
    refine RW.drop (H' := C y ++ [blk br (x.cells s at_) 112]) (List.Sublist.cons _ (List.Sublist.refl _)) ?_
    refine RW.callwE (r := [blk br (x.cells s at_) 112]) (C y) hS hg rfl rfl (fun w2 F2 hw2 hF2 h1 h2 => hb w2 F2 at_ k y _ _ (Stay.of hw2 hF2) (RD.rs (hD.stay (Stay.of hw2 hF2)) (Sep.blk_at h2).1.2 (Sep.blk_at h2).2) h1 (hr.mono (Stay.of hw2 hF2).mem)) rfl rfl rfl fun y' _ hy hS => ?_
    refine Jb ?_
    refine CW.region ?_
    refine Jc ?_;refine Jf ?_;refine Je ?_
    refine RW.load_blk (C y') rfl rfl rfl rfl ?_
    refine RW.add rfl rfl (w64 (by omega) (by omega)) rfl ?_
    refine Jf ?_;refine Je ?_
    refine RW.store_blk (C y') rfl rfl rfl rfl rfl (by show 9 < 16; omega) ?_
    rw [show (x.cells s at_).set (0 + 9) (.int .i64 (at_ + 1)) = x.cells s (at_ + 1) from rfl]
    refine RW.nil (PW.code ?_)
    refine CW.region ?_
    refine RW.add rfl rfl (w64 (by omega) (by omega)) rfl ?_
    refine Jc ?_
    refine RW.nil ?_
    exact PW.again ⟨(k + 1, at_ + 1, y'), hlt', (by show at_ + 1 = at0 + ((k + 1 : Nat) : Int); omega), hS⟩ ⟨rfl, rfl, rfl, rfl, rfl, trivial⟩ (fun h => h) (by show l.length - (k + 1) < l.length - k; omega)
  · have hge' : l.length ≤ k := by simpa using hge
    rw [eachD_end hge'] at hS
    refine CW.exit rfl ?_
    exact PW.ret (rs := []) (vs := []) Tryz.results116 rfl ResOK.nil fun w hw => XP.ok (V := fun _ _ => .tuple #[]) () hS hw
set_option maxHeartbeats 4000000 in
theorem each8_ret {σ : Type} {br : Nat} {s : kStat.V} {at0 : Int} {x : RC} {w : World} {F : Nat → Prop} {l : List kTotal.V} {A : Option Addr} {c : Nat} {pre caps : List Value} {g : FuncId} {f : Int → Int → σ → kTotal.V → Ex σ} {y0 : σ} (C : σ → List HP)
    (hD : RD w (fun b => ¬ F b) s x) (hl : Rd (.sl 72 kTotal) (mem w (fun b => ¬ F b)) [.slice A l.length c] l) (hH : Sep (C y0 ++ [blk br (x.cells s at0) 112]) w F) (hg : ∀ args w, (callFunc g args).run Tryz.prog w = .ok (.enter g args) w)
    (hb : ∀ (w2 : World) (F2 : Nat → Prop) (at_ i : Int) (y : σ) (e : kTotal.V) (cs : List Value), Stay w F w2 F2 → RS w2 (fun b => ¬ F2 b) br s at_ x → Sep (C y) w2 F2 → Rd kTotal (mem w2 (fun b => ¬ F2 b)) cs e → RetE Tryz.prog g (pre ++ ([.agg cs.toArray, .int .i64 i] ++ caps)) w2 F2 (f at_ i y e) (fun _ _ => .tuple #[]) (fun y' (_ : Unit) => C y'))
    (h0 : 0 ≤ at0) (h1 : at0 ≤ 1000000) (hn : l.length ≤ 1000000) :
    RetE Tryz.prog 118 [.pointer (some ⟨br, 0, none⟩), .slice A l.length c, .func (.func g) pre.toArray caps.toArray] w F (eachD f at0 0 y0 l) (fun _ _ => .tuple #[]) (fun z (_ : Unit) => C z.2 ++ [blk br (x.cells s z.1) 112]) := by
  generalize hS : eachD f at0 0 y0 l = SP
  have hS := hS.symm
  have hle : Mem.le (mem w (fun b => ¬ F b)) (mem w (fun b => ¬ F b)) := Mem.le_refl _
  refine Calls.enter Tryz.func118 rfl _ rfl rfl (S := F) (H := C y0 ++ [blk br (x.cells s at0) 112]) hH ?_
  refine Ja ?_;refine Jc ?_;refine Jg ?_;refine Jc ?_;refine Jb ?_
  refine CW.block ?_
  refine CW.loop (ι := { q : Nat × Int × σ // q.1 ≤ l.length ∧ q.2.1 = at0 + q.1 ∧ SP = eachD f q.2.1 q.1 q.2.2 (l.drop q.1) }) (fun q => [(0, .pointer (some ⟨br, 0, none⟩)), (2, .func (.func g) pre.toArray caps.toArray), (8, .slice A l.length c), (9, .int .i64 l.length), (10, .int .i64 q.1.1)])
    (fun q => C q.1.2.2 ++ [blk br (x.cells s q.1.2.1) 112]) (fun q => l.length - q.1.1) ⟨(0, at0, y0), Nat.zero_le _, by simp, hS⟩ ⟨rfl, rfl, rfl, rfl, rfl, trivial⟩ (fun h => h) ?_
  intro ⟨⟨k, at_, y⟩, hk, hat, hS⟩
  dsimp only at hS hk hat ⊢
  refine Ja ?_;refine Jk ?_;refine Jb ?_
  refine CW.seq ?_
  refine CW.ite rfl (fun hlt => ?_) (fun hge => ?_)
  · have hlt' : k < l.length := by simpa using hlt
    rw [eachD_step hlt'] at hS
    obtain ⟨B1, O1, cs, hA, hl1, hr, hm⟩ := sl_get hl (List.getElem?_eq_getElem hlt')
    refine JM ?_
    refine CW.seq ?_
    refine CW.block ?_
    refine Ja ?_;refine Jc ?_
    refine RW.indexAddrE hA rfl rfl (by omega) hlt rfl ?_
    refine RW.load_ros rfl hle hm rfl hl1 (by rw [hl1]; decide) rfl ?_
    refine RW.alloc rfl rfl fun b7 _ => ?_
    refine Jd ?_
    refine RW.store_whole [] rfl rfl (vs := cs) rfl hl1 hl1 (Rd.one hr) ?_
    refine Jb ?_;refine Ja ?_;refine Jc ?_
    refine RW.load_whole [] rfl hl1 rfl rfl ?_
    refine Jc ?_
    refine RW.drop (H' := C y ++ [blk br (x.cells s at_) 112]) (List.Sublist.cons _ (List.Sublist.refl _)) ?_
    refine RW.callwE (r := [blk br (x.cells s at_) 112]) (C y) hS hg rfl rfl (fun w2 F2 hw2 hF2 h1 h2 => hb w2 F2 at_ k y _ _ (Stay.of hw2 hF2) (RD.rs (hD.stay (Stay.of hw2 hF2)) (Sep.blk_at h2).1.2 (Sep.blk_at h2).2) h1 (hr.mono (Stay.of hw2 hF2).mem)) rfl rfl rfl fun y' _ hy hS => ?_
    refine Jb ?_
    refine CW.region ?_
    refine Jc ?_;refine Jf ?_;refine Je ?_
    refine RW.load_blk (C y') rfl rfl rfl rfl ?_
    refine RW.add rfl rfl (w64 (by omega) (by omega)) rfl ?_
    refine Jf ?_;refine Je ?_
    refine RW.store_blk (C y') rfl rfl rfl rfl rfl (by show 9 < 16; omega) ?_
    rw [show (x.cells s at_).set (0 + 9) (.int .i64 (at_ + 1)) = x.cells s (at_ + 1) from rfl]
    refine RW.nil (PW.code ?_)
    refine CW.region ?_
    refine RW.add rfl rfl (w64 (by omega) (by omega)) rfl ?_
    refine Jc ?_
    refine RW.nil ?_
    exact PW.again ⟨(k + 1, at_ + 1, y'), hlt', (by show at_ + 1 = at0 + ((k + 1 : Nat) : Int); omega), hS⟩ ⟨rfl, rfl, rfl, rfl, rfl, trivial⟩ (fun h => h) (by show l.length - (k + 1) < l.length - k; omega)
  · have hge' : l.length ≤ k := by simpa using hge
    rw [eachD_end hge'] at hS
    refine CW.exit rfl ?_
    exact PW.ret (rs := []) (vs := []) Tryz.results118 rfl ResOK.nil fun w hw => XP.ok (V := fun _ _ => .tuple #[]) () hS hw
end Go.Proofs.YtkfmlekomfnleaaGreat
/- The closures of the resolver's items, by the calculus. Conditions: none. -/
set_option linter.unusedVariables false
set_option linter.unusedSimpArgs false
set_option maxRecDepth 10000
namespace Go.Proofs.YtkfmlekomfnleaaGreat
open Go Go.RowKit

attribute [local irreducible] RW CW
theorem RS.no {w : World} {ok : Nat → Prop} {br : Nat} {s : kStat.V} {at_ : Int} {x : RC} (h : RS w ok br s at_ x) : RS w (fun b => ¬ No b) br s at_ x := h.to (Keeps.refl No w) (fun b hb _ => ⟨fun k => k, fun k => k⟩)
theorem mem_no {w : World} {ok : Nat → Prop} : Mem.le (mem w ok) (mem w (fun b => ¬ No b)) := mem_up fun b _ k => k
theorem RetE.up {P : Program} {f : FuncId} {args : List Value} {w : World} {F : Nat → Prop} {α : Type} {sp : Ex α} {V : α → Value} (h : RetE0 P f args w sp V) : RetE P f args w F sp (fun x (_ : Unit) => V x) (fun _ _ => []) := h.mono (by
  intro e w' he
  unfold XP at he ⊢
  cases sp with
  | error er => exact ⟨he.1, he.2.kp.mono (fun _ k => k.elim), trivial⟩
  | ok x => obtain ⟨y, h1, h2⟩ := he; exact ⟨y, h1, h2.kp.mono (fun _ k => k.elim), trivial⟩)
section
variable {br b2 : Nat} {s : kStat.V} {at_ i : Int} {x : RC} {w : World}
abbrev ptrV (b : Nat) : Value := .pointer (some ⟨b, 0, none⟩)
theorem items1_ret {k : Str} (hR : RS w (fun b => ¬ No b) br s at_ x) (h2 : mem w (fun b => ¬ No b) b2 0 (ptrV br)) :
    RetE0 Tryz.prog 102 [.string k, .int .i64 i, ptrV b2] w (kindItemD s at_ i () k) (fun _ => .tuple #[]) := by
  generalize hS : kindItemD s at_ i () k = SP
  have hS := hS.symm
  unfold kindItemD at hS
  have hle : Mem.le (mem w (fun b => ¬ No b)) (mem w (fun b => ¬ No b)) := Mem.le_refl _
  refine Calls.enter Tryz.func102 rfl _ rfl rfl (S := No) (H := []) trivial ?_
  refine CW.anyV (by kernel_rfl) rfl ?_
  (apply AW.val rfl; · intro Gx X; (first | refine RW.yes rfl ?_ | skip); refine RW.load_ro rfl hle h2 rfl rfl ?_; exact RW.done rfl)
  (apply AW.val rfl; · intro Gx X; (first | refine RW.yes rfl ?_ | skip); refine RW.load_ro rfl hle h2 rfl rfl ?_; exact RW.done rfl)
  refine AW.val rfl (fun _ _ => by refine Jf ?_;exact RW.done rfl) ?_;refine AW.val rfl (fun _ _ => by refine Je ?_;exact RW.done rfl) ?_
  (apply AW.val rfl; · intro Gx X; (first | refine RW.yes rfl ?_ | skip); refine RW.load_ro rfl hle (hR.cell 10 _ rfl) rfl rfl ?_; exact RW.done rfl)
  refine AW.val rfl (fun _ _ => by refine Jc ?_;exact RW.done rfl) ?_;refine AW.val rfl (fun _ _ => by refine Jc ?_;exact RW.done rfl) ?_
  refine AW.stop (by kernel_rfl) (by kernel_rfl) fun bs => ?_
  refine RW.callE0 hS Tryz.call103 rfl (fun w hw => fresh_ret (RS.call hR hw) (RS.call hR hw).kinds) rfl rfl rfl fun _ _ hS => ?_
  exact RW.nil (PW.ret (rs := []) (vs := []) Tryz.results102 rfl ResOK.nil fun w hw => XP.ok () hS (hw.sub (List.nil_sublist _)))
theorem items2_ret {M : Mem} {p : kMember.V} {cs : List Value} (hR : RS w (fun b => ¬ No b) br s at_ x) (h2 : mem w (fun b => ¬ No b) b2 0 (ptrV br)) (hp : Rd kMember M cs p) :
    RetE0 Tryz.prog 105 [.agg cs.toArray, .int .i64 i, ptrV b2] w (memberItemD s at_ i () p) (fun _ => .tuple #[]) := by
  generalize hS : memberItemD s at_ i () p = SP
  have hS := hS.symm
  unfold memberItemD at hS
  obtain ⟨c1, c2, rfl, hp1, hp2⟩ := hp
  obtain rfl := str_cell hp1
  obtain rfl := str_cell hp2
  have hle : Mem.le (mem w (fun b => ¬ No b)) (mem w (fun b => ¬ No b)) := Mem.le_refl _
  refine Calls.enter Tryz.func105 rfl _ rfl rfl (S := No) (H := []) trivial ?_
  refine CW.seqR ?_
  refine RW.box_agg (l := [.string p.1, .string p.2]) rfl rfl fun b3 _ => ?_
  refine RW.next ?_
  refine CW.seqA (by kernel_rfl) rfl ?_
  (apply AW.val rfl; · intro Gx X; (first | refine RW.yes rfl ?_ | skip); refine RW.load_ro rfl hle h2 rfl rfl ?_; exact RW.done rfl)
  (apply AW.val rfl; · intro Gx X; (first | refine RW.yes rfl ?_ | skip); refine RW.load_ro rfl hle h2 rfl rfl ?_; exact RW.done rfl)
  refine AW.val rfl (fun _ _ => by refine Jf ?_;exact RW.done rfl) ?_;refine AW.val rfl (fun _ _ => by refine Je ?_;exact RW.done rfl) ?_
  (apply AW.val rfl; · intro Gx X; (first | refine RW.yes rfl ?_ | skip); refine RW.load_ro rfl hle (hR.cell 11 _ rfl) rfl rfl ?_; exact RW.done rfl)
  refine AW.val rfl (fun _ _ => by refine Je ?_;exact RW.done rfl) ?_;refine AW.val rfl (fun _ _ => by refine JA ?_;exact RW.done rfl) ?_;refine AW.val rfl (fun _ _ => by refine Jc ?_;exact RW.done rfl) ?_
  refine AW.stop (by kernel_rfl) (by kernel_rfl) fun bs => ?_
  refine RW.callE0 hS Tryz.call103 rfl (fun w hw => fresh_ret (RS.call hR hw) (RS.call hR hw).members) rfl rfl rfl fun _ _ hS => ?_
  refine RW.next ?_
  refine CW.region ?_
  refine RW.load_ro rfl hle h2 rfl rfl ?_
  refine Je ?_;refine JA ?_
  refine RW.callE0 hS Tryz.call106 rfl (fun w hw => kind_ret (RS.call hR hw)) rfl rfl rfl fun _ _ hS => ?_
  exact RW.nil (PW.ret (rs := []) (vs := []) Tryz.results105 rfl ResOK.nil fun w hw => XP.ok () hS (hw.sub (List.nil_sublist _)))
theorem items3_ret {b3 bi c : Nat} {A : Option Addr} {l : List Str} {m : List (Str × Int)} {F : Nat → Prop} (hR : RS w (fun b => ¬ F b) br s at_ x) (h2 : mem w (fun b => ¬ F b) b2 0 (ptrV br)) (h3 : mem w (fun b => ¬ F b) b3 0 (.map (some bi))) (hl : Rd kStrs (mem w (fun b => ¬ F b)) [.slice A l.length c] l) (hH : Sep [mapHP strK intK .string bi m] w F) :
    RetE Tryz.prog 110 [.slice A l.length c, .int .i64 i, ptrV b2, ptrV b3] w F (classItemD s at_ i m l) (fun _ _ => .tuple #[]) (fun m' (_ : Unit) => [mapHP strK intK .string bi m']) := by
  generalize hS : classItemD s at_ i m l = SP
  have hS := hS.symm
  unfold classItemD at hS
  have hle : Mem.le (mem w (fun b => ¬ F b)) (mem w (fun b => ¬ F b)) := Mem.le_refl _
  refine Calls.enter Tryz.func110 rfl _ rfl rfl (S := F) (H := [mapHP strK intK .string bi m]) hH ?_
  refine CW.region ?_
  refine RW.load_ro rfl hle h2 rfl rfl ?_
  refine Jc ?_
  refine RW.load_ro rfl hle h3 rfl rfl ?_
  refine RW.callE (r := []) [mapHP strK intK .string bi m] hS Tryz.call111 rfl (fun w2 F2 hw2 hF2 h1 _ => class_ret (RS.callF hR hw2 hF2) (hl.mono (ro_callF hw2 hF2)) h1) rfl rfl rfl fun m' u hm hS => ?_
  exact RW.nil (PW.ret (rs := []) (vs := []) Tryz.results110 rfl ResOK.nil fun w hw => XP.ok (V := fun _ _ => .tuple #[]) () hS hw)
theorem items4_ret {M : Mem} {p : kSource.V} {cs : List Value} (hR : RS w (fun b => ¬ No b) br s at_ x) (h2 : mem w (fun b => ¬ No b) b2 0 (ptrV br)) (hp : Rd kSource M cs p) :
    RetE0 Tryz.prog 113 [.agg cs.toArray, .int .i64 i, ptrV b2] w (sourceItemD s at_ i () p) (fun _ => .tuple #[]) := by
  generalize hS : sourceItemD s at_ i () p = SP
  have hS := hS.symm
  unfold sourceItemD at hS
  obtain ⟨c1, c2, rfl, hp1, hp2⟩ := hp
  obtain rfl := str_cell hp1
  obtain rfl := int_cell hp2
  have hle : Mem.le (mem w (fun b => ¬ No b)) (mem w (fun b => ¬ No b)) := Mem.le_refl _
  refine Calls.enter Tryz.func113 rfl _ rfl rfl (S := No) (H := []) trivial ?_
  refine CW.seqR ?_
  refine RW.box_agg (l := [.string p.1, .int .i64 p.2]) rfl rfl fun b3 _ => ?_
  refine RW.next ?_
  refine CW.seqA (by kernel_rfl) rfl ?_
  (apply AW.val rfl; · intro Gx X; (first | refine RW.yes rfl ?_ | skip); refine RW.load_ro rfl hle h2 rfl rfl ?_; exact RW.done rfl)
  (apply AW.val rfl; · intro Gx X; (first | refine RW.yes rfl ?_ | skip); refine RW.load_ro rfl hle h2 rfl rfl ?_; exact RW.done rfl)
  refine AW.val rfl (fun _ _ => by refine Jf ?_;exact RW.done rfl) ?_;refine AW.val rfl (fun _ _ => by refine Je ?_;exact RW.done rfl) ?_
  (apply AW.val rfl; · intro Gx X; (first | refine RW.yes rfl ?_ | skip); refine RW.load_ro rfl hle (hR.cell 13 _ rfl) rfl rfl ?_; exact RW.done rfl)
  refine AW.val rfl (fun _ _ => by refine Je ?_;exact RW.done rfl) ?_;refine AW.val rfl (fun _ _ => by refine JA ?_;exact RW.done rfl) ?_;refine AW.val rfl (fun _ _ => by refine Jc ?_;exact RW.done rfl) ?_
  refine AW.stop (by kernel_rfl) (by kernel_rfl) fun bs => ?_
  refine RW.callE0 hS Tryz.call103 rfl (fun w hw => fresh_ret (RS.call hR hw) (RS.call hR hw).sources) rfl rfl rfl fun _ _ hS => ?_
  refine RW.next ?_
  refine CW.region ?_
  refine RW.load_ro rfl hle h2 rfl rfl ?_
  refine Je ?_;refine JA ?_;refine Jn ?_;refine Jc ?_
  refine RW.splitD 18 rfl (fun h1 => ?_) (fun h1 => ?_)
  · refine Jy ?_;refine Je ?_;refine Jy ?_;refine JA ?_;refine Jy ?_;refine Jl ?_;refine Jv ?_
    refine RW.want hS rfl ((by rw [decide_eq_true h1, Bool.true_and])) (fun w hw => RS.at_cell hR hw) rfl rfl rfl fun hb hS => ?_
    exact RW.nil (PW.ret (rs := []) (vs := []) Tryz.results113 rfl ResOK.nil fun w hw => XP.ok () hS (hw.sub (List.nil_sublist _)))
  · refine Jz ?_;refine Jz ?_;refine Jz ?_;refine Jw ?_
    refine RW.want hS rfl ((by rw [decide_eq_false h1, Bool.false_and])) (fun w hw => RS.at_cell hR hw) rfl rfl rfl fun hb _ => absurd hb (by decide)
end
end Go.Proofs.YtkfmlekomfnleaaGreat
/- The resolver's closure for exceptions: a map of two names. Conditions: none. -/
set_option linter.unusedVariables false
set_option linter.unusedSimpArgs false
set_option maxRecDepth 10000
namespace Go.Proofs.YtkfmlekomfnleaaGreat
open Go Go.RowKit Go.MapKept

attribute [local irreducible] RW CW
instance keyExc : KeyR Tryz.prog strs2 164 := keyR_strs2 (t1 := 9) rfl rfl rfl rfl (by simp) (by simp) (by kernel_rfl)
abbrev excH (bi : Nat) (m : List (Strs2 × Int)) : HP := mapHP strs2 intK .string bi m
set_option maxHeartbeats 8000000 in
theorem items5_ret {br b2 b3 bi : Nat} {s : kStat.V} {at_ i : Int} {x : RC} {w : World} {M : Mem} {p : kExc.V} {cs : List Value} {m : List (Strs2 × Int)} {F : Nat → Prop} (hR : RS w (fun b => ¬ F b) br s at_ x) (h2 : mem w (fun b => ¬ F b) b2 0 (ptrV br)) (h3 : mem w (fun b => ¬ F b) b3 0 (.map (some bi))) (hp : Rd kExc M cs p) (hH : Sep [excH bi m] w F) :
    RetE Tryz.prog 117 [.agg cs.toArray, .int .i64 i, ptrV b2, ptrV b3] w F (exceptItemD s at_ i m p) (fun _ _ => .tuple #[]) (fun m' (_ : Unit) => [excH bi m']) := by
  generalize hS : exceptItemD s at_ i m p = SP
  have hS := hS.symm
  unfold exceptItemD rGet at hS
  obtain ⟨c1, c2, rfl, hp1, hp2⟩ := hp
  obtain rfl := str_cell hp1
  obtain rfl := str_cell hp2
  have hle : Mem.le (mem w (fun b => ¬ F b)) (mem w (fun b => ¬ F b)) := Mem.le_refl _
  refine Calls.enter Tryz.func117 rfl _ rfl rfl (S := F) (H := [excH bi m]) hH ?_
  refine CW.seqR ?_
  refine RW.box_agg (l := [.string p.1, .string p.2]) rfl rfl fun b4 _ => ?_
  refine RW.next ?_
  refine CW.seqA (by kernel_rfl) rfl ?_
  (apply AW.val rfl; · intro Gx X; (first | refine RW.yes rfl ?_ | skip); refine RW.load_ro rfl hle h2 rfl rfl ?_; exact RW.done rfl)
  refine AW.val rfl (fun _ _ => by refine Jf ?_;exact RW.done rfl) ?_;refine AW.val rfl (fun _ _ => by refine Je ?_;exact RW.done rfl) ?_
  (apply AW.val rfl; · intro Gx X; (first | refine RW.yes rfl ?_ | skip); refine RW.load_ro rfl hle (hR.cell 14 _ rfl) rfl rfl ?_; exact RW.done rfl)
  refine AW.val rfl (fun _ _ => by refine Je ?_;exact RW.done rfl) ?_;refine AW.val rfl (fun _ _ => by refine JA ?_;exact RW.done rfl) ?_
  (apply AW.val rfl; · intro Gx X; (first | refine RW.yes rfl ?_ | skip); refine RW.lookupMOk (D := indexD ((sRules s).map nameOf)) hR.rules rfl rfl rfl rfl ?_; exact RW.done rfl)
  refine AW.val rfl (fun _ _ => by refine Jc ?_;exact RW.done rfl) ?_;refine AW.val rfl (fun _ _ => by refine Jt ?_;exact RW.done rfl) ?_;refine AW.val rfl (fun _ _ => by refine Jt ?_;exact RW.done rfl) ?_;refine AW.val rfl (fun _ _ => by refine Jd ?_;exact RW.done rfl) ?_;refine AW.val rfl (fun _ _ => by refine Jd ?_;exact RW.done rfl) ?_
  refine AW.stop (by kernel_rfl) (by kernel_rfl) fun bs => ?_
  refine RW.next ?_
  refine CW.keep [(2, ptrV b2), (3, ptrV b3), (4, ptrV b4), (7, .bool (getM (indexD ((sRules s).map nameOf)) p.1).isSome)] ⟨rfl, rfl, rfl, rfl, trivial⟩ ?_
  refine CW.seqA (by kernel_rfl) rfl ?_
  (apply AW.val rfl; · intro Gx X; (first | refine RW.yes rfl ?_ | skip); refine RW.load_ro rfl hle h2 rfl rfl ?_; exact RW.done rfl)
  refine AW.val rfl (fun _ _ => by refine Jf ?_;exact RW.done rfl) ?_;refine AW.val rfl (fun _ _ => by refine Je ?_;exact RW.done rfl) ?_
  (apply AW.val rfl; · intro Gx X; (first | refine RW.yes rfl ?_ | skip); refine RW.load_ro rfl hle (hR.cell 14 _ rfl) rfl rfl ?_; exact RW.done rfl)
  refine AW.val rfl (fun _ _ => by refine Je ?_;exact RW.done rfl) ?_;refine AW.val rfl (fun _ _ => by refine JA ?_;exact RW.done rfl) ?_
  (apply AW.val rfl; · intro Gx X; (first | refine RW.yes rfl ?_ | skip); refine RW.lookupMOk (D := indexD ((sRules s).map nameOf)) hR.rules rfl rfl rfl rfl ?_; exact RW.done rfl)
  refine AW.val rfl (fun _ _ => by refine Jc ?_;exact RW.done rfl) ?_;refine AW.val rfl (fun _ _ => by refine Jt ?_;exact RW.done rfl) ?_;refine AW.val rfl (fun _ _ => by refine Jt ?_;exact RW.done rfl) ?_;refine AW.val rfl (fun _ _ => by refine Jd ?_;exact RW.done rfl) ?_;refine AW.val rfl (fun _ _ => by refine Jd ?_;exact RW.done rfl) ?_
  refine AW.stop (by kernel_rfl) (by kernel_rfl) fun bs => ?_
  refine RW.next ?_
  refine CW.keep [(2, ptrV b2), (3, ptrV b3), (4, ptrV b4), (7, .bool (getM (indexD ((sRules s).map nameOf)) p.1).isSome), (9, .bool (getM (indexD ((sRules s).map nameOf)) p.2).isSome)] ⟨rfl, rfl, rfl, rfl, rfl, trivial⟩ ?_
  refine CW.seqR ?_
  refine RW.load_ro rfl hle h2 rfl rfl ?_
  refine Jc ?_;refine Jc ?_
  cases h7 : (getM (indexD ((sRules s).map nameOf)) p.1).isSome with
  | false =>
    rw [h7] at hS
    refine Jz ?_;refine Jw ?_
    refine RW.want hS rfl ((by rfl)) (fun w hw => RS.at_cell hR hw) rfl rfl rfl fun hb _ => absurd hb (by decide)
  | true =>
  rw [h7] at hS
  refine Jy ?_;refine Jc ?_;refine Jv ?_
  refine RW.want hS rfl ((by rw [Bool.true_and])) (fun w hw => RS.at_cell hR hw) rfl rfl rfl fun hb hS => ?_
  refine RW.next ?_
  refine CW.keep [(2, ptrV b2), (3, ptrV b3), (4, ptrV b4)] ⟨rfl, rfl, rfl, trivial⟩ ?_
  refine CW.seqA (by kernel_rfl) rfl ?_
  (apply AW.val rfl; · intro Gx X; (first | refine RW.yes rfl ?_ | skip); refine RW.load_ro rfl hle h2 rfl rfl ?_; exact RW.done rfl)
  (apply AW.val rfl; · intro Gx X; (first | refine RW.yes rfl ?_ | skip); refine RW.load_ro rfl hle h3 rfl rfl ?_; exact RW.done rfl)
  refine AW.val rfl (fun _ _ => by refine JE ?_;exact RW.done rfl) ?_
  (apply AW.val rfl; · intro Gx X; (first | refine RW.yes rfl ?_ | skip); refine RW.lookupR [_] (a0 := (0 : Int)) rfl rfl rfl rfl ?_; exact RW.done rfl)
  refine AW.val rfl (fun _ _ => by refine Ji ?_;exact RW.done rfl) ?_
  refine AW.stop (by kernel_rfl) (by kernel_rfl) fun bs => ?_
  refine RW.want hS rfl (rfl) (fun w hw => RS.at_cell hR hw) rfl rfl rfl fun hb hS => ?_
  have hg : (getM m p).getD 0 = 0 := of_decide_eq_true hb
  refine RW.next ?_
  refine CW.keep [(2, ptrV b2), (3, ptrV b3), (4, ptrV b4)] ⟨rfl, rfl, rfl, trivial⟩ ?_
  refine CW.take [1, 0] ?_
  refine CW.open_ [] (ι := { q : Array MapEntry × Nat // Stamped q.1 q.2 ∧ q.1.toList.map (fun e => (e.key, e.val)) = m.map (fun x => (strs2 x.1, intK x.2)) }) (fun q => mapFix bi q.1.1 q.1.2) (fun w F ⟨hF, es, clock, e1, e2, e3⟩ => ⟨⟨(es, clock), e2, e3⟩, hF, e1⟩) fun q => ?_
  obtain ⟨⟨es, clock⟩, hs, hm⟩ := q
  dsimp only at hs hm ⊢
  obtain ⟨st, hst⟩ := entry_fix (P := Tryz.prog) (t := 197) (υ := intK) (a0 := (0 : Int)) hm hs rfl bi p
  refine CW.of (by kernel_rfl) ?_
  refine WA.anyT 4 (fun b => [if b then mapEnt strs2 intK .string bi (putM m p ((getM m p).getD 0)) p st else mapFix bi es clock, blk b4 [.string p.1, .string p.2] 164]) 6
    [.val (.map (some bi)), .val (.agg #[.string p.1, .string p.2]), .val (.int .i64 0), .val (.int .i64 1), .val (.tuple #[.int .i64 ((getM m p).getD 0), .int .i64 st]), .val (.int .i64 st)] rfl rfl rfl rfl (by kernel_rfl)
    (PutOK.plain (fun dj c t c2 h => by simp at h) (fun c t p c2 h => by simp at h)) (fun i o d hi _ _ h => ?_) (fun k h => by cases h; exact ⟨_, rfl⟩) (fun i o k hi ho hk b => ?_) (fun o v ho hv Gx X => ?_) (fun bs => ?_)
  · have : i = 0 ∨ i = 1 ∨ i = 2 ∨ i = 3 ∨ i = 4 ∨ i = 5 := by omega
    rcases this with rfl | rfl | rfl | rfl | rfl | rfl <;> cases h
  · have : i = 0 ∨ i = 1 ∨ i = 2 ∨ i = 3 ∨ i = 4 ∨ i = 5 ∨ 6 ≤ i := by omega
    rcases this with rfl | rfl | rfl | rfl | rfl | rfl | h6
    · obtain rfl := Option.some.inj ho
      obtain rfl := Option.some.inj hk
      intro Gx X
      refine RW.load_ro rfl hle h3 rfl rfl ?_
      exact RW.done rfl
    · obtain rfl := Option.some.inj ho
      obtain rfl := Option.some.inj hk
      intro Gx X
      refine RW.load_whole [_] rfl rfl rfl rfl ?_
      exact RW.done rfl
    · obtain rfl := Option.some.inj ho
      obtain rfl := Option.some.inj hk
      intro Gx X
      cases b with
      | false =>
        refine RW.lookupFix [] (a0 := (0 : Int)) hm hs rfl rfl rfl rfl ?_
        exact RW.done_eq (v := .int .i64 0) rfl (by rw [hg])
      | true =>
        refine RW.lookupEnt (kd := .string) [] (a0 := (0 : Int)) (k := p) rfl rfl rfl rfl ?_
        exact RW.done_eq (v := .int .i64 0) rfl (by rw [getM_put, if_pos rfl]; show intK ((getM m p).getD 0) = _; rw [hg])
    · obtain rfl := Option.some.inj ho
      obtain rfl := Option.some.inj hk
      intro Gx X
      refine RW.add rfl rfl (w64 (by omega) (by omega)) rfl ?_
      exact RW.done rfl
    · exact absurd rfl hi
    · obtain rfl := Option.some.inj ho
      obtain rfl := Option.some.inj hk
      intro Gx X
      refine RW.extract rfl rfl rfl ?_
      exact RW.done rfl
    · rw [List.getElem?_eq_none (by simpa using h6)] at hk; cases hk
  · obtain rfl := Option.some.inj ho
    cases hv
    refine RW.mapEntryFix (kd := .string) [] (a0 := (0 : Int)) hst rfl rfl rfl ?_
    exact RW.done rfl
  · show RW _ _ _ _ _ _ (mapEnt strs2 intK .string bi (putM m p ((getM m p).getD 0)) p st :: _)
    refine RW.entryStoreR (kd := .string) (kt := 164) [] (a := (1 : Int)) rfl rfl rfl rfl ?_
    rw [putM_put]
    exact RW.nil (PW.ret (rs := []) (vs := []) Tryz.results117 rfl ResOK.nil fun w hw => XP.ok (V := fun _ _ => .tuple #[]) () hS (hw.sub (List.Sublist.cons_cons _ (List.nil_sublist _))))
end Go.Proofs.YtkfmlekomfnleaaGreat
/- The resolver's items, by the calculus. Conditions: none. -/
set_option linter.unusedVariables false
set_option linter.unusedSimpArgs false
set_option maxRecDepth 10000
namespace Go.Proofs.YtkfmlekomfnleaaGreat
open Go Go.RowKit Go.MapKept

attribute [local irreducible] RW CW
theorem at_own {w0 w : World} {S : Nat → Prop} {r : List HP} {br : Nat} {s : kStat.V} {a : Int} {x : RC} (h : St w0 S (blk br (x.cells s a) 112 :: r) w) : w.cell? ⟨br, 9, none⟩ = some (.int .i64 a) := cell_of_blk (St.blk (pre := []) h) rfl
theorem box_at {w : World} {A : Nat → Prop} {F : Nat → Prop} {b : Nat} {v : Value} {t : TypeId} {r : List HP} (h : Sep (blk b [v] t :: r) w (fun b => A b ∧ ¬ F b)) : mem w (fun b => ¬ F b) b 0 v := blk_mem (Sep.blk_at h).1.2 (Sep.blk_at h).2 0 _ rfl
theorem cut_false {a b : Bool} (h : a = false) : false = (a && b) := by rw [h]; rfl
set_option maxHeartbeats 16000000 in
theorem items_ret {br : Nat} {s : kStat.V} {x : RC} {w : World} {F : Nat → Prop} (hD : RD w (fun b => ¬ F b) s x) (hH : Sep [blk br (x.cells s 0) 112] w F) :
    RetE Tryz.prog 38 [ptrV br] w F (itemsD s 0) (fun _ _ => .tuple #[]) (fun z (_ : Unit) => [blk br (x.cells s z) 112]) := by
  generalize hS : itemsD s 0 = SP
  have hS := hS.symm
  unfold itemsD at hS
  refine Calls.enter Tryz.func38 rfl _ rfl rfl (S := F) (H := [blk br (x.cells s 0) 112]) hH ?_
  refine CW.seqR ?_
  refine RW.box_one (v := ptrV br) rfl rfl rfl fun b1 _ => ?_
  refine Jb ?_;refine Ja ?_;refine JA ?_;refine Jf ?_;refine Je ?_
  refine RW.load_part9 [_] rfl rfl rfl rfl ?_
  refine RW.alloc rfl rfl fun b2 _ => ?_
  refine RW.store_whole [] rfl rfl (vs := x.stat s) rfl rfl rfl (by simp [Value.oneCell']) ?_
  refine RW.take [2, 0, 1] ?_
  refine Jb ?_;refine Ja ?_;refine JC ?_;refine Je ?_;refine JB ?_;refine Jg ?_;refine Jl ?_;refine Jc ?_
  refine RW.splitD 14 rfl (fun h0 => ?_) (fun h0 => ?_)
  rotate_left
  · refine Jz ?_;refine Jz ?_;refine Jz ?_;refine Jz ?_;refine Jw ?_;refine Jc ?_;refine Jz ?_;refine Jz ?_;refine Jz ?_;refine Jz ?_;refine Jw ?_;refine Jc ?_;refine Jz ?_;refine Jz ?_;refine Jz ?_;refine Jz ?_;refine Jw ?_;refine Jc ?_;refine Jz ?_;refine Jz ?_;refine Jz ?_;refine Jz ?_;refine Jw ?_;refine Jc ?_;refine Jz ?_;refine Jz ?_;refine Jz ?_;refine Jz ?_;refine Jw ?_;refine Jc ?_;refine Jz ?_;refine Jz ?_;refine Jz ?_;refine Jz ?_;refine Jw ?_;refine Jc ?_;refine Jz ?_;refine Jz ?_;refine Jz ?_;refine Jz ?_;refine Jw ?_
    refine RW.want hS rfl (by unfold countsD; rw [decide_eq_false h0]; simp) (fun w hw => at_own hw) rfl rfl rfl fun hb _ => absurd hb (by decide)
  refine Jy ?_;refine Je ?_;refine Jy ?_;refine JB ?_;refine Jy ?_;refine Jg ?_;refine Jy ?_;refine Jl ?_;refine Jv ?_;refine Jc ?_
  refine RW.splitD 20 rfl (fun h1 => ?_) (fun h1 => ?_)
  rotate_left
  · refine Jz ?_;refine Jz ?_;refine Jz ?_;refine Jz ?_;refine Jw ?_;refine Jc ?_;refine Jz ?_;refine Jz ?_;refine Jz ?_;refine Jz ?_;refine Jw ?_;refine Jc ?_;refine Jz ?_;refine Jz ?_;refine Jz ?_;refine Jz ?_;refine Jw ?_;refine Jc ?_;refine Jz ?_;refine Jz ?_;refine Jz ?_;refine Jz ?_;refine Jw ?_;refine Jc ?_;refine Jz ?_;refine Jz ?_;refine Jz ?_;refine Jz ?_;refine Jw ?_;refine Jc ?_;refine Jz ?_;refine Jz ?_;refine Jz ?_;refine Jz ?_;refine Jw ?_
    refine RW.want hS rfl (by unfold countsD; rw [decide_eq_false h1]; simp) (fun w hw => at_own hw) rfl rfl rfl fun hb _ => absurd hb (by decide)
  refine Jy ?_;refine Je ?_;refine Jy ?_;refine JB ?_;refine Jy ?_;refine Jg ?_;refine Jy ?_;refine Jl ?_;refine Jv ?_;refine Jc ?_
  refine RW.splitD 26 rfl (fun h2 => ?_) (fun h2 => ?_)
  rotate_left
  · refine Jz ?_;refine Jz ?_;refine Jz ?_;refine Jz ?_;refine Jw ?_;refine Jc ?_;refine Jz ?_;refine Jz ?_;refine Jz ?_;refine Jz ?_;refine Jw ?_;refine Jc ?_;refine Jz ?_;refine Jz ?_;refine Jz ?_;refine Jz ?_;refine Jw ?_;refine Jc ?_;refine Jz ?_;refine Jz ?_;refine Jz ?_;refine Jz ?_;refine Jw ?_;refine Jc ?_;refine Jz ?_;refine Jz ?_;refine Jz ?_;refine Jz ?_;refine Jw ?_
    refine RW.want hS rfl (by unfold countsD; rw [decide_eq_false h2]; simp) (fun w hw => at_own hw) rfl rfl rfl fun hb _ => absurd hb (by decide)
  refine Jy ?_;refine Je ?_;refine Jy ?_;refine JB ?_;refine Jy ?_;refine Jg ?_;refine Jy ?_;refine Jl ?_;refine Jv ?_;refine Jc ?_
  refine RW.splitD 32 rfl (fun h3 => ?_) (fun h3 => ?_)
  rotate_left
  · refine Jz ?_;refine Jz ?_;refine Jz ?_;refine Jz ?_;refine Jw ?_;refine Jc ?_;refine Jz ?_;refine Jz ?_;refine Jz ?_;refine Jz ?_;refine Jw ?_;refine Jc ?_;refine Jz ?_;refine Jz ?_;refine Jz ?_;refine Jz ?_;refine Jw ?_;refine Jc ?_;refine Jz ?_;refine Jz ?_;refine Jz ?_;refine Jz ?_;refine Jw ?_
    refine RW.want hS rfl (by unfold countsD; rw [decide_eq_false h3]; simp) (fun w hw => at_own hw) rfl rfl rfl fun hb _ => absurd hb (by decide)
  refine Jy ?_;refine Je ?_;refine Jy ?_;refine JB ?_;refine Jy ?_;refine Jg ?_;refine Jy ?_;refine Jl ?_;refine Jv ?_;refine Jc ?_
  refine RW.splitD 38 rfl (fun h4 => ?_) (fun h4 => ?_)
  rotate_left
  · refine Jz ?_;refine Jz ?_;refine Jz ?_;refine Jz ?_;refine Jw ?_;refine Jc ?_;refine Jz ?_;refine Jz ?_;refine Jz ?_;refine Jz ?_;refine Jw ?_;refine Jc ?_;refine Jz ?_;refine Jz ?_;refine Jz ?_;refine Jz ?_;refine Jw ?_
    refine RW.want hS rfl (by unfold countsD; rw [decide_eq_false h4]; simp) (fun w hw => at_own hw) rfl rfl rfl fun hb _ => absurd hb (by decide)
  refine Jy ?_;refine Je ?_;refine Jy ?_;refine JB ?_;refine Jy ?_;refine Jg ?_;refine Jy ?_;refine Jl ?_;refine Jv ?_;refine Jc ?_
  refine RW.splitD 44 rfl (fun h5 => ?_) (fun h5 => ?_)
  rotate_left
  · refine Jz ?_;refine Jz ?_;refine Jz ?_;refine Jz ?_;refine Jw ?_;refine Jc ?_;refine Jz ?_;refine Jz ?_;refine Jz ?_;refine Jz ?_;refine Jw ?_
    refine RW.want hS rfl (by unfold countsD; rw [decide_eq_false h5]; simp) (fun w hw => at_own hw) rfl rfl rfl fun hb _ => absurd hb (by decide)
  refine Jy ?_;refine Je ?_;refine Jy ?_;refine JB ?_;refine Jy ?_;refine Jg ?_;refine Jy ?_;refine Jl ?_;refine Jv ?_;refine Jc ?_
  refine RW.splitD 50 rfl (fun h6 => ?_) (fun h6 => ?_)
  rotate_left
  · refine Jz ?_;refine Jz ?_;refine Jz ?_;refine Jz ?_;refine Jw ?_
    refine RW.want hS rfl (by unfold countsD; rw [decide_eq_false h6]; simp) (fun w hw => at_own hw) rfl rfl rfl fun hb _ => absurd hb (by decide)
  refine Jy ?_;refine Je ?_;refine Jy ?_;refine JB ?_;refine Jy ?_;refine Jg ?_;refine Jy ?_;refine Jl ?_;refine Jv ?_
  refine RW.want hS rfl (by unfold countsD; rw [decide_eq_true h0, decide_eq_true h1, decide_eq_true h2, decide_eq_true h3, decide_eq_true h4, decide_eq_true h5, decide_eq_true h6]; rfl) (fun w hw => at_own hw) rfl rfl rfl fun hb hS => ?_
  have h7 := of_decide_eq_true hb
  refine Jb ?_;refine Ja ?_;refine JC ?_;refine Je ?_;refine JB ?_;refine Jx ?_
  refine RW.callE (r := [_, _]) [blk br (x.cells s 0) 112] hS Tryz.call101 rfl (fun w2 F2 hw2 hF2 h1 h2 => each1_ret (g := 102) (pre := []) (caps := [ptrV b1]) (C := fun (_ : Unit) => []) (hD.stay (Stay.of hw2 hF2)) (hD.stay (Stay.of hw2 hF2)).stat.kinds h1 Tryz.call102 (fun w3 F3 a i y e v hst hR hsep hrd => by obtain rfl : v = .string e := (List.cons.inj (str_cell hrd)).1; exact RetE.up (items1_ret hR.no (mem_no _ _ _ (hst.mem _ _ _ (box_at (Sep.tail h2)))))) (by omega) (by omega) (by omega)) rfl rfl rfl fun z1 _ hz1 hS => ?_
  have e1 := eachD_at hz1
  refine Jb ?_;refine Ja ?_;refine JC ?_;refine Je ?_;refine JB ?_;refine Jx ?_
  refine RW.callE (r := [_, _]) [blk br (x.cells s z1.1) 112] hS Tryz.call104 rfl (fun w2 F2 hw2 hF2 h1 h2 => each2_ret (g := 105) (pre := []) (caps := [ptrV b1]) (C := fun (_ : Unit) => []) (hD.stay (Stay.of hw2 hF2)) (hD.stay (Stay.of hw2 hF2)).stat.members h1 Tryz.call105 (fun w3 F3 a i y e cs hst hR hsep hrd => RetE.up (items2_ret hR.no (mem_no _ _ _ (hst.mem _ _ _ (box_at (Sep.tail h2)))) hrd)) (by omega) (by omega) (by omega)) rfl rfl rfl fun z2 _ hz2 hS => ?_
  have e2 := eachD_at hz2
  refine Jb ?_;refine Ja ?_;refine JC ?_;refine Je ?_;refine JB ?_;refine JC ?_;refine Jx ?_
  refine RW.callE (r := [_, _]) [blk br (x.cells s z2.1) 112] hS Tryz.call107 rfl (fun w2 F2 hw2 hF2 h1 h2 => each3_ret (g := 108) (pre := [ptrV br]) (caps := []) (C := fun (_ : Unit) => []) (hD.stay (Stay.of hw2 hF2)) (hD.stay (Stay.of hw2 hF2)).stat.preds h1 Tryz.call108 (fun w3 F3 a i y e cs hst hR hsep hrd => RetE.up (pred_ret hR.no (hrd.mono mem_no))) (by omega) (by omega) (by omega)) rfl rfl rfl fun z3 _ hz3 hS => ?_
  have e3 := eachD_at hz3
  refine Jb ?_;refine Ja ?_
  refine RW.makeMap (κ := Str) (α := Int) strK intK .string (fun o ho => by cases ho) rfl fun bi => ?_
  refine RW.alloc rfl rfl fun b3 _ => ?_
  skip
  refine RW.store_blk [] rfl rfl rfl rfl rfl (by decide) ?_
  refine RW.take [2, 3, 4, 0, 1] ?_
  refine Jb ?_;refine Ja ?_;refine JC ?_;refine Je ?_;refine JB ?_;refine Jx ?_
  refine RW.take [4, 0, 3, 1, 2] ?_
  refine RW.callE (r := [_, _, _]) [mapHP strK intK .string bi ([] : List (Str × Int)), blk br (x.cells s z3.1) 112] hS Tryz.call109 rfl (fun w2 F2 hw2 hF2 h1 h2 => each4_ret (g := 110) (pre := []) (caps := [ptrV b1, ptrV b3]) (C := fun m => [mapHP strK intK .string bi m]) (hD.stay (Stay.of hw2 hF2)) (hD.stay (Stay.of hw2 hF2)).stat.classes h1 Tryz.call110 (fun w3 F3 a i y e v hst hR hsep hrd => by obtain ⟨A3, c3, h⟩ := sl_cell hrd; obtain rfl := (List.cons.inj h).1; exact items3_ret hR (hst.mem _ _ _ (box_at (Sep.tail (Sep.tail h2)))) (hst.mem _ _ _ (box_at h2)) hrd hsep) (by omega) (by omega) (by omega)) rfl rfl rfl fun z4 _ hz4 hS => ?_
  have e4 := eachD_at hz4
  refine RW.drop (H' := [blk br (x.cells s z4.1) 112, blk b2 (x.stat s) 31, blk b1 [ptrV br] 105]) (List.Sublist.cons _ (List.Sublist.cons_cons _ (List.Sublist.cons _ (List.Sublist.refl _)))) ?_
  refine Jb ?_;refine Ja ?_;refine JC ?_;refine Je ?_;refine JB ?_;refine Jx ?_
  refine RW.callE (r := [_, _]) [blk br (x.cells s z4.1) 112] hS Tryz.call112 rfl (fun w2 F2 hw2 hF2 h1 h2 => each5_ret (g := 113) (pre := []) (caps := [ptrV b1]) (C := fun (_ : Unit) => []) (hD.stay (Stay.of hw2 hF2)) (hD.stay (Stay.of hw2 hF2)).stat.sources h1 Tryz.call113 (fun w3 F3 a i y e cs hst hR hsep hrd => RetE.up (items4_ret hR.no (mem_no _ _ _ (hst.mem _ _ _ (box_at (Sep.tail h2)))) hrd)) (by omega) (by omega) (by omega)) rfl rfl rfl fun z5 _ hz5 hS => ?_
  have e5 := eachD_at hz5
  refine Jb ?_;refine Ja ?_;refine JC ?_;refine Je ?_;refine JB ?_;refine JC ?_;refine Jx ?_
  refine RW.callE (r := [_, _]) [blk br (x.cells s z5.1) 112] hS Tryz.call114 rfl (fun w2 F2 hw2 hF2 h1 h2 => each6_ret (g := 115) (pre := [ptrV br]) (caps := []) (C := fun (_ : Unit) => []) (hD.stay (Stay.of hw2 hF2)) (hD.stay (Stay.of hw2 hF2)).stat.rules h1 Tryz.call115 (fun w3 F3 a i y e cs hst hR hsep hrd => RetE.up (ruleItem_ret hR.no (hrd.mono mem_no) (fourK_of hz3))) (by omega) (by omega) (by omega)) rfl rfl rfl fun z6 _ hz6 hS => ?_
  have e6 := eachD_at hz6
  refine Jb ?_;refine Ja ?_
  refine RW.makeMap (κ := Strs2) (α := Int) strs2 intK .string (fun o ho => by cases ho) rfl fun be => ?_
  refine RW.alloc rfl rfl fun b4 _ => ?_
  skip
  refine RW.store_blk [] rfl rfl rfl rfl rfl (by decide) ?_
  refine RW.take [2, 3, 4, 0, 1] ?_
  refine Jb ?_;refine Ja ?_;refine JC ?_;refine Je ?_;refine JB ?_;refine Jx ?_
  refine RW.take [4, 0, 3, 1, 2] ?_
  refine RW.callE (r := [_, _, _]) [excH be [], blk br (x.cells s z6.1) 112] hS Tryz.call116 rfl (fun w2 F2 hw2 hF2 h1 h2 => each7_ret (g := 117) (pre := []) (caps := [ptrV b1, ptrV b4]) (C := fun m => [excH be m]) (hD.stay (Stay.of hw2 hF2)) (hD.stay (Stay.of hw2 hF2)).stat.excepts h1 Tryz.call117 (fun w3 F3 a i y e cs hst hR hsep hrd => items5_ret hR (hst.mem _ _ _ (box_at (Sep.tail (Sep.tail h2)))) (hst.mem _ _ _ (box_at h2)) hrd hsep) (by omega) (by omega) (by omega)) rfl rfl rfl fun z7 _ hz7 hS => ?_
  have e7 := eachD_at hz7
  refine RW.drop (H' := [blk br (x.cells s z7.1) 112, blk b2 (x.stat s) 31, blk b1 [ptrV br] 105]) (List.Sublist.cons _ (List.Sublist.cons_cons _ (List.Sublist.cons _ (List.Sublist.refl _)))) ?_
  refine Jb ?_
  refine CW.region ?_
  refine JC ?_;refine Je ?_;refine JB ?_;refine JC ?_;refine Jx ?_
  refine RW.callE (r := [_, _]) [blk br (x.cells s z7.1) 112] hS Tryz.call118 rfl (fun w2 F2 hw2 hF2 h1 h2 => each8_ret (g := 119) (pre := [ptrV br]) (caps := []) (C := fun (_ : Unit) => []) (hD.stay (Stay.of hw2 hF2)) (hD.stay (Stay.of hw2 hF2)).stat.totals h1 Tryz.call119 (fun w3 F3 a i y e cs hst hR hsep hrd => RetE.up (total_ret hR.no (hrd.mono mem_no))) (by omega) (by omega) (by omega)) rfl rfl rfl fun z8 _ hz8 hS => ?_
  have e8 := eachD_at hz8
  exact RW.nil (PW.ret (rs := []) (vs := []) Tryz.results38 rfl ResOK.nil fun w hw => XP.ok (V := fun _ _ => .tuple #[]) () hS (hw.sub (List.Sublist.cons_cons _ (List.nil_sublist _))))
end Go.Proofs.YtkfmlekomfnleaaGreat
