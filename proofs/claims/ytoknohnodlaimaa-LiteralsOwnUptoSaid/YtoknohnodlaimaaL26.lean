/- lexpriorlaw09.LiteralsOwn, by the calculus. -/
import Derived.Test.YtoknohnodlaimaaL25
import Derived.Test.YtoknohnodlaimaaS
set_option linter.unusedVariables false
set_option linter.unusedSimpArgs false
set_option maxRecDepth 10000
namespace Go.Proofs.Ytoknohnodlaimaa
open Go Go.RowKit

attribute [local irreducible] RW CW
/-- Where the literals' arguments lie. -/
def argsAt (es : List (List Value)) (B O : Nat) : Prop := ∃ (i : Nat) (cs : List Value) (o n c k : Nat), es[i]? = some cs ∧ cs[2]? = some (.slice (some ⟨B, o, none⟩) n c) ∧ k < n ∧ O = o + k
theorem reads_args {es : List (List Value)} {i c : Nat} {A : Option Addr} {x : LitD} (h : es[i]? = some [.bool x.neg, .int .i64 x.pred, .slice A x.args.length c, .int .i64 x.value, .int .i64 x.guard]) (hA : x.args ≠ [] → ∃ B O, A = some ⟨B, O, none⟩) (j : Nat) (hj : j < x.args.length) :
    ∃ B O, A = some ⟨B, O, none⟩ ∧ argsAt es B (O + (j : Int).toNat * 1) := by
  obtain ⟨B, O, rfl⟩ := hA (by intro k; rw [k] at hj; simp at hj)
  exact ⟨B, O, rfl, i, _, O, _, _, j, h, rfl, hj, by omega⟩
theorem lits_forms {M : Mem} {es : List (List Value)} {ls : List LitD} (h : All2 (fun cs x => Rd kLit M cs x) es (ls.map litV)) : ∀ (i : Nat) (hi : i < ls.length), ∃ A c, es[i]? = some (ls[i].V A c) ∧ (ls[i].args ≠ [] → ∃ B O, A = some ⟨B, O, none⟩) ∧ ls[i].args.length ≤ 140737488351232 := by
  intro i hi
  have hl : i < es.length := by rw [h.1, List.length_map]; exact hi
  obtain ⟨A, c, he, hr, _⟩ := Rd.lit (h.2 i _ (litV ls[i]) (List.getElem?_eq_getElem hl) (by rw [List.getElem?_map, List.getElem?_eq_getElem hi]; rfl))
  obtain ⟨A', c', he', _, _, hz, hx⟩ := Rd.ints hr
  cases he'
  refine ⟨A, c, by rw [List.getElem?_eq_getElem hl, he], fun hne => ?_, by rw [reach_eq] at hz; show (litOf (litV ls[i])).args.length ≤ _; omega⟩
  obtain ⟨y, hy⟩ : ∃ y, (litOf (litV ls[i])).args[0]? = some y := by
    cases ha : (litOf (litV ls[i])).args with
    | nil => exact absurd ha hne
    | cons y _ => exact ⟨y, rfl⟩
  obtain ⟨_, B, O, hB, _⟩ := hx 0 y hy
  exact ⟨B, O, hB⟩
theorem args_area {es : List (List Value)} {ls : List LitD} {w : World} {F : Nat → Prop} (h : (rdsHP Mem.none kLit es (ls.map litV)).p w F) : (areaHP (argsAt es)).p w F := by
  rintro B O ⟨i, cs, o, n, c, k, h1, h2, h3, rfl⟩
  have hil : i < (ls.map litV).length := by rw [← h.1]; exact (List.getElem?_eq_some_iff.1 h1).1
  obtain ⟨A, c', he, hr, _⟩ := Rd.lit (h.2 i cs _ h1 (List.getElem?_eq_getElem hil))
  subst he
  simp only [LitD.V, List.getElem?_cons_succ, List.getElem?_cons_zero, Option.some.injEq, Value.slice.injEq] at h2
  obtain ⟨rfl, rfl, rfl⟩ := h2
  obtain ⟨A', c'', he', _, _, _, hx⟩ := Rd.ints hr
  cases he'
  obtain ⟨_, B', O', hB, hm⟩ := hx k _ (List.getElem?_eq_getElem h3)
  cases hB
  rcases hm with hm | hm
  · exact hm.elim
  · rw [Nat.mul_one] at hm
    exact ⟨_, hm⟩
theorem lit_area {cs : List Value} {l : LitD} {w : World} {F : Nat → Prop} (h : (rdHP Mem.none kLit cs (litV l)).p w F) : (areaHP (argsAt [cs])).p w F := args_area (es := [cs]) (ls := [l]) (All2.one h)
theorem closeGo_len {preds : List PredD} {cl : List Int} : ∀ {ls o o' : List LitD}, o.length ≤ 4096 → closeGo preds cl ls o = some o' → o'.length ≤ 4096 := by
  intro ls
  induction ls with
  | nil => intro o o' h h2; cases h2; exact h
  | cons x r ih =>
    intro o o' h h2
    rw [closeGo] at h2
    cases ha : addAll (closeAll preds cl x) o with
    | none => rw [ha] at h2; cases h2
    | some o1 =>
      rw [ha] at h2
      exact ih (addAll_bound h ha) h2
theorem closeD_len (preds : List PredD) (cl : List Int) (ls : List LitD) : (closeD preds cl ls).1.length ≤ 4096 := by
  unfold closeD
  split
  · simp
  · split
    · simp
    · split
      · simp
      · rename_i o ho
        exact closeGo_len (Nat.zero_le _) ho
set_option maxHeartbeats 16000000 in
theorem own_ret {N : Mem} {A B D : Option Addr} {c d e : Nat} {ps : List kPred.V} {cl : List Int} {ls : List LitD} {w : World} (hN : Mem.le N (mem w Any)) (hps : Rd kPreds N [.slice A ps.length c] ps) (hcl : Rd kInts N [.slice B cl.length d] cl) (hls : Rd kLits N [.slice D ls.length e] (ls.map litV))
    (hbnd : ∀ p ∈ ps, (ps.length + (predOf p).vals.length + 2) * 56 ≤ reach) : Ret Try.prog 4 [.slice A ps.length c, .slice B cl.length d, .slice D ls.length e] w (.bool true) := by
  have hle : ∀ {H : List HP} {w2 : World}, St w No H w2 → Mem.le (mem w Any) (mem w2 Any) := fun hw2 => Mem.le_trans (any_ro (N := 0) (ds := [])) (ro_le' (E := ⟨0, [], w, No⟩) hw2)
  obtain ⟨D', e', he, _, _, hsz, _⟩ := Rd.lits hls
  cases he
  have hszr := hsz
  rw [reach_eq] at hsz
  refine Calls.enter Try.func4 rfl _ rfl rfl (S := No) (H := []) trivial ?_
  repeat (first|refine Ja ?_|refine Jb ?_|refine Jc ?_|refine Jd ?_|refine Je ?_|refine Jf ?_|refine Jg ?_|refine Jh ?_|refine Ji ?_|refine Jj ?_|refine Jk ?_|refine Jl ?_|refine Jm ?_|refine Jn ?_|refine Jo ?_|refine Jp ?_|refine Jq ?_|refine Jr ?_|refine Js ?_|refine Jt ?_|refine Ju ?_|refine Jv ?_|refine Jw ?_|refine Jx ?_|refine Jy ?_|refine Jz ?_|refine JA ?_|refine JB ?_|refine JC ?_|refine JD ?_|refine JE ?_|refine JF ?_|refine JG ?_|refine JH ?_|refine JI ?_|refine JJ ?_|refine JK ?_|refine JL ?_|refine JM ?_|refine CW.skip (PW.code ?_)|refine RW.nil (PW.code ?_))
  refine CW.seq ?_
  repeat (first|refine Ja ?_|refine Jb ?_|refine Jc ?_|refine Jd ?_|refine Je ?_|refine Jf ?_|refine Jg ?_|refine Jh ?_|refine Ji ?_|refine Jj ?_|refine Jk ?_|refine Jl ?_|refine Jm ?_|refine Jn ?_|refine Jo ?_|refine Jp ?_|refine Jq ?_|refine Jr ?_|refine Js ?_|refine Jt ?_|refine Ju ?_|refine Jv ?_|refine Jw ?_|refine Jx ?_|refine Jy ?_|refine Jz ?_|refine JA ?_|refine JB ?_|refine JC ?_|refine JD ?_|refine JE ?_|refine JF ?_|refine JG ?_|refine JH ?_|refine JI ?_|refine JJ ?_|refine JK ?_|refine JL ?_|refine JM ?_|refine CW.skip (PW.code ?_)|refine RW.nil (PW.code ?_))
  refine RW.call Try.call7 rfl (fun w2 _ => alive_ret w2) rfl ?_
  repeat (first|refine Ja ?_|refine Jb ?_|refine Jc ?_|refine Jd ?_|refine Je ?_|refine Jf ?_|refine Jg ?_|refine Jh ?_|refine Ji ?_|refine Jj ?_|refine Jk ?_|refine Jl ?_|refine Jm ?_|refine Jn ?_|refine Jo ?_|refine Jp ?_|refine Jq ?_|refine Jr ?_|refine Js ?_|refine Jt ?_|refine Ju ?_|refine Jv ?_|refine Jw ?_|refine Jx ?_|refine Jy ?_|refine Jz ?_|refine JA ?_|refine JB ?_|refine JC ?_|refine JD ?_|refine JE ?_|refine JF ?_|refine JG ?_|refine JH ?_|refine JI ?_|refine JJ ?_|refine JK ?_|refine JL ?_|refine JM ?_|refine CW.skip (PW.code ?_)|refine RW.nil (PW.code ?_))
  refine CW.cf rfl ?_
  repeat (first|refine Ja ?_|refine Jb ?_|refine Jc ?_|refine Jd ?_|refine Je ?_|refine Jf ?_|refine Jg ?_|refine Jh ?_|refine Ji ?_|refine Jj ?_|refine Jk ?_|refine Jl ?_|refine Jm ?_|refine Jn ?_|refine Jo ?_|refine Jp ?_|refine Jq ?_|refine Jr ?_|refine Js ?_|refine Jt ?_|refine Ju ?_|refine Jv ?_|refine Jw ?_|refine Jx ?_|refine Jy ?_|refine Jz ?_|refine JA ?_|refine JB ?_|refine JC ?_|refine JD ?_|refine JE ?_|refine JF ?_|refine JG ?_|refine JH ?_|refine JI ?_|refine JJ ?_|refine JK ?_|refine JL ?_|refine JM ?_|refine CW.skip (PW.code ?_)|refine RW.nil (PW.code ?_))
  refine RW.callN Try.call10 rfl (fun w2 hw2 => copyLits_ret (Mem.le_trans hN (hle hw2)) hls) rfl fun y => ?_
  obtain ⟨vo, eo⟩ := y
  refine RW.have_ (φ := _ ∧ ∃ A c, vo = .slice A ls.length c ∧ _ ∧ _ ∧ _ ∧ _ ∧ _) (fun w hw => own_lits (pre := []) hw) (fun ⟨hlo, Ao, co, hvo, _, _, h5o, hBO, _⟩ => ?_)
  subst hvo
  dsimp only
  repeat (first|refine Ja ?_|refine Jb ?_|refine Jc ?_|refine Jd ?_|refine Je ?_|refine Jf ?_|refine Jg ?_|refine Jh ?_|refine Ji ?_|refine Jj ?_|refine Jk ?_|refine Jl ?_|refine Jm ?_|refine Jn ?_|refine Jo ?_|refine Jp ?_|refine Jq ?_|refine Jr ?_|refine Js ?_|refine Jt ?_|refine Ju ?_|refine Jv ?_|refine Jw ?_|refine Jx ?_|refine Jy ?_|refine Jz ?_|refine JA ?_|refine JB ?_|refine JC ?_|refine JD ?_|refine JE ?_|refine JF ?_|refine JG ?_|refine JH ?_|refine JI ?_|refine JJ ?_|refine JK ?_|refine JL ?_|refine JM ?_|refine CW.skip (PW.code ?_)|refine RW.nil (PW.code ?_))
  have hCl := closeD_len (ps.map predOf) cl ls
  have closeOK : ∀ {r : List HP} {w2 : World}, St w No (ownHP 27 5 (.slice Ao ls.length co) eo :: rdsHP Mem.none kLit eo (ls.map litV) :: r) w2 → RetC Try.prog 11 [.slice A ps.length c, .slice B cl.length d, .slice Ao ls.length co] w2 No (fun y : Value × List (List Value) => .tuple #[y.1, .int .i64 (closeD (ps.map predOf) cl ls).2]) (fun y => litsH y.1 y.2 (closeD (ps.map predOf) cl ls).1) := fun {r w2} hw2 =>
    Close_ret (N := mem w2 Any) (Mem.le_refl _) (hps.mono (Mem.le_trans hN (hle hw2))) (hcl.mono (Mem.le_trans hN (hle hw2))) (own_at (pre := []) (t := kLit) hw2 rfl (rds_at (pre := [_]) hw2) (by rw [List.length_map]; exact hszr)) hbnd
  generalize (closeD (ps.map predOf) cl ls).1 = C at hCl closeOK
  generalize (closeD (ps.map predOf) cl ls).2 = Ce at closeOK
  refine RW.callN Try.call11 rfl (fun w2 hw2 => closeOK hw2) rfl fun y => ?_
  obtain ⟨va, ea⟩ := y
  refine RW.have_ (φ := _ ∧ ∃ A c, va = .slice A C.length c ∧ _ ∧ _ ∧ _ ∧ _ ∧ _) (fun w hw => own_lits (pre := []) hw) (fun ⟨_, Aa, ca, hva, _, _, _, _, _⟩ => ?_)
  subst hva
  dsimp only
  repeat (first|refine Ja ?_|refine Jb ?_|refine Jc ?_|refine Jd ?_|refine Je ?_|refine Jf ?_|refine Jg ?_|refine Jh ?_|refine Ji ?_|refine Jj ?_|refine Jk ?_|refine Jl ?_|refine Jm ?_|refine Jn ?_|refine Jo ?_|refine Jp ?_|refine Jq ?_|refine Jr ?_|refine Js ?_|refine Jt ?_|refine Ju ?_|refine Jv ?_|refine Jw ?_|refine Jx ?_|refine Jy ?_|refine Jz ?_|refine JA ?_|refine JB ?_|refine JC ?_|refine JD ?_|refine JE ?_|refine JF ?_|refine JG ?_|refine JH ?_|refine JI ?_|refine JJ ?_|refine JK ?_|refine JL ?_|refine JM ?_|refine CW.skip (PW.code ?_)|refine RW.nil (PW.code ?_))
  refine RW.callN Try.call10 rfl (fun w2 hw2 => copyLits_ret (N := mem w2 Any) (ls := C) (Mem.le_refl _) (own_at (pre := []) (t := kLit) hw2 rfl (rds_at (pre := [_]) hw2) (by rw [List.length_map, reach_eq]; omega))) rfl fun y => ?_
  obtain ⟨vk, ek⟩ := y
  refine RW.have_ (φ := _ ∧ ∃ A c, vk = .slice A C.length c ∧ _ ∧ _ ∧ _ ∧ _ ∧ _) (fun w hw => own_lits (pre := []) hw) (fun ⟨_, Ak, ck, hvk, _, _, _, _, _⟩ => ?_)
  subst hvk
  dsimp only
  repeat (first|refine Ja ?_|refine Jb ?_|refine Jc ?_|refine Jd ?_|refine Je ?_|refine Jf ?_|refine Jg ?_|refine Jh ?_|refine Ji ?_|refine Jj ?_|refine Jk ?_|refine Jl ?_|refine Jm ?_|refine Jn ?_|refine Jo ?_|refine Jp ?_|refine Jq ?_|refine Jr ?_|refine Js ?_|refine Jt ?_|refine Ju ?_|refine Jv ?_|refine Jw ?_|refine Jx ?_|refine Jy ?_|refine Jz ?_|refine JA ?_|refine JB ?_|refine JC ?_|refine JD ?_|refine JE ?_|refine JF ?_|refine JG ?_|refine JH ?_|refine JI ?_|refine JJ ?_|refine JK ?_|refine JL ?_|refine JM ?_|refine CW.skip (PW.code ?_)|refine RW.nil (PW.code ?_))
  refine RW.take [4, 5, 2, 3, 0, 1] ?_
  refine RW.callN Try.call11 rfl (fun w2 hw2 => closeOK hw2) rfl fun y => ?_
  obtain ⟨vb, eb⟩ := y
  refine RW.have_ (φ := _ ∧ ∃ A c, vb = .slice A C.length c ∧ _ ∧ _ ∧ _ ∧ _ ∧ _) (fun w hw => own_lits (pre := []) hw) (fun ⟨hlb, Ab, cb, hvb, _, _, h5b, hBB, _⟩ => ?_)
  subst hvb
  refine RW.have_ (φ := ∀ (i : Nat) (hi : i < C.length), ∃ A c, eb[i]? = some (C[i].V A c) ∧ (C[i].args ≠ [] → ∃ B O, A = some ⟨B, O, none⟩) ∧ C[i].args.length ≤ 140737488351232) (fun w hw => lits_forms (rds_at (pre := [_]) hw)) (fun hfb => ?_)
  dsimp only
  repeat (first|refine Ja ?_|refine Jb ?_|refine Jc ?_|refine Jd ?_|refine Je ?_|refine Jf ?_|refine Jg ?_|refine Jh ?_|refine Ji ?_|refine Jj ?_|refine Jk ?_|refine Jl ?_|refine Jm ?_|refine Jn ?_|refine Jo ?_|refine Jp ?_|refine Jq ?_|refine Jr ?_|refine Js ?_|refine Jt ?_|refine Ju ?_|refine Jv ?_|refine Jw ?_|refine Jx ?_|refine Jy ?_|refine Jz ?_|refine JA ?_|refine JB ?_|refine JC ?_|refine JD ?_|refine JE ?_|refine JF ?_|refine JG ?_|refine JH ?_|refine JI ?_|refine JJ ?_|refine JK ?_|refine JL ?_|refine JM ?_|refine CW.skip (PW.code ?_)|refine RW.nil (PW.code ?_))
  refine CW.take [1, 0, 2, 3, 4, 5, 6, 7] ?_
  refine CW.change [] (areaHP (argsAt eb)) (fun w F hp => args_area hp) ?_
  refine CW.seq ?_
  repeat (first|refine Ja ?_|refine Jb ?_|refine Jc ?_|refine Jd ?_|refine Je ?_|refine Jf ?_|refine Jg ?_|refine Jh ?_|refine Ji ?_|refine Jj ?_|refine Jk ?_|refine Jl ?_|refine Jm ?_|refine Jn ?_|refine Jo ?_|refine Jp ?_|refine Jq ?_|refine Jr ?_|refine Js ?_|refine Jt ?_|refine Ju ?_|refine Jv ?_|refine Jw ?_|refine Jx ?_|refine Jy ?_|refine Jz ?_|refine JA ?_|refine JB ?_|refine JC ?_|refine JD ?_|refine JE ?_|refine JF ?_|refine JG ?_|refine JH ?_|refine JI ?_|refine JJ ?_|refine JK ?_|refine JL ?_|refine JM ?_|refine CW.skip (PW.code ?_)|refine RW.nil (PW.code ?_))
  refine CW.block ?_
  refine CW.loop (ι := { i : Nat // i ≤ C.length }) (fun q => [(0, .slice A ps.length c), (1, .slice B cl.length d), (2, .slice D ls.length e), (7, .slice Ao ls.length co), (8, .slice Aa C.length ca), (10, .slice Ak C.length ck), (11, .slice Ab C.length cb), (13, .int .i64 q.1)]) (fun _ => [areaHP (argsAt eb), ownHP 27 5 (.slice Ab C.length cb) eb, ownHP 27 5 (.slice Ao ls.length co) eo, rdsHP Mem.none kLit eo (ls.map litV), ownHP 27 5 (.slice Aa C.length ca) ea, rdsHP Mem.none kLit ea (C.map litV), ownHP 27 5 (.slice Ak C.length ck) ek, rdsHP Mem.none kLit ek (C.map litV)]) (fun q => C.length - q.1) ⟨0, Nat.zero_le _⟩ ⟨rfl, rfl, rfl, rfl, rfl, rfl, rfl, rfl, trivial⟩ (fun h => h) ?_
  intro ⟨i, hi⟩
  dsimp only
  refine CW.seq ?_
  repeat (first|refine Ja ?_|refine Jb ?_|refine Jc ?_|refine Jd ?_|refine Je ?_|refine Jf ?_|refine Jg ?_|refine Jh ?_|refine Ji ?_|refine Jj ?_|refine Jk ?_|refine Jl ?_|refine Jm ?_|refine Jn ?_|refine Jo ?_|refine Jp ?_|refine Jq ?_|refine Jr ?_|refine Js ?_|refine Jt ?_|refine Ju ?_|refine Jv ?_|refine Jw ?_|refine Jx ?_|refine Jy ?_|refine Jz ?_|refine JA ?_|refine JB ?_|refine JC ?_|refine JD ?_|refine JE ?_|refine JF ?_|refine JG ?_|refine JH ?_|refine JI ?_|refine JJ ?_|refine JK ?_|refine JL ?_|refine JM ?_|refine CW.skip (PW.code ?_)|refine RW.nil (PW.code ?_))
  refine CW.ite rfl (fun hlt => ?_) (fun hge => ?_)
  · have hlt' : i < C.length := by omega
    obtain ⟨A9, c9, he9, hA9, hz9⟩ := hfb i hlt'
    obtain ⟨BB, hB⟩ := hBB (by intro k; rw [k] at hlb; simp at hlb; omega)
    subst hB
    generalize C[i] = x9 at he9 hA9 hz9
    unfold LitD.V at he9
    have hra := reads_args (x := x9) he9 hA9
    repeat (first|refine Ja ?_|refine Jb ?_|refine Jc ?_|refine Jd ?_|refine Je ?_|refine Jf ?_|refine Jg ?_|refine Jh ?_|refine Ji ?_|refine Jj ?_|refine Jk ?_|refine Jl ?_|refine Jm ?_|refine Jn ?_|refine Jo ?_|refine Jp ?_|refine Jq ?_|refine Jr ?_|refine Js ?_|refine Jt ?_|refine Ju ?_|refine Jv ?_|refine Jw ?_|refine Jx ?_|refine Jy ?_|refine Jz ?_|refine JA ?_|refine JB ?_|refine JC ?_|refine JD ?_|refine JE ?_|refine JF ?_|refine JG ?_|refine JH ?_|refine JI ?_|refine JJ ?_|refine JK ?_|refine JL ?_|refine JM ?_|refine CW.skip (PW.code ?_)|refine RW.nil (PW.code ?_))
    refine CW.seq ?_
    refine CW.block ?_
    repeat (first|refine Ja ?_|refine Jb ?_|refine Jc ?_|refine Jd ?_|refine Je ?_|refine Jf ?_|refine Jg ?_|refine Jh ?_|refine Ji ?_|refine Jj ?_|refine Jk ?_|refine Jl ?_|refine Jm ?_|refine Jn ?_|refine Jo ?_|refine Jp ?_|refine Jq ?_|refine Jr ?_|refine Js ?_|refine Jt ?_|refine Ju ?_|refine Jv ?_|refine Jw ?_|refine Jx ?_|refine Jy ?_|refine Jz ?_|refine JA ?_|refine JB ?_|refine JC ?_|refine JD ?_|refine JE ?_|refine JF ?_|refine JG ?_|refine JH ?_|refine JI ?_|refine JJ ?_|refine JK ?_|refine JL ?_|refine JM ?_|refine CW.skip (PW.code ?_)|refine RW.nil (PW.code ?_))
    refine CW.block ?_
    refine CW.loop (ι := { j : Nat // j ≤ x9.args.length }) (fun q => [(0, .slice A ps.length c), (1, .slice B cl.length d), (2, .slice D ls.length e), (7, .slice Ao ls.length co), (8, .slice Aa C.length ca), (10, .slice Ak C.length ck), (11, .slice (some ⟨BB, 0, none⟩) C.length cb), (13, .int .i64 i), (14, .int .i64 q.1)]) (fun _ => [areaHP (argsAt eb), ownHP 27 5 (.slice (some ⟨BB, 0, none⟩) C.length cb) eb, ownHP 27 5 (.slice Ao ls.length co) eo, rdsHP Mem.none kLit eo (ls.map litV), ownHP 27 5 (.slice Aa C.length ca) ea, rdsHP Mem.none kLit ea (C.map litV), ownHP 27 5 (.slice Ak C.length ck) ek, rdsHP Mem.none kLit ek (C.map litV)]) (fun q => x9.args.length - q.1) ⟨0, Nat.zero_le _⟩ ⟨rfl, rfl, rfl, rfl, rfl, rfl, rfl, rfl, rfl, trivial⟩ (fun h => h) ?_
    intro ⟨j, hj⟩
    dsimp only
    refine CW.seq ?_
    repeat (first|refine Ja ?_|refine Jb ?_|refine Jc ?_|refine Jd ?_|refine Je ?_|refine Jf ?_|refine Jg ?_|refine Jh ?_|refine Ji ?_|refine Jj ?_|refine Jk ?_|refine Jl ?_|refine Jm ?_|refine Jn ?_|refine Jo ?_|refine Jp ?_|refine Jq ?_|refine Jr ?_|refine Js ?_|refine Jt ?_|refine Ju ?_|refine Jv ?_|refine Jw ?_|refine Jx ?_|refine Jy ?_|refine Jz ?_|refine JA ?_|refine JB ?_|refine JC ?_|refine JD ?_|refine JE ?_|refine JF ?_|refine JG ?_|refine JH ?_|refine JI ?_|refine JJ ?_|refine JK ?_|refine JL ?_|refine JM ?_|refine CW.skip (PW.code ?_)|refine RW.nil (PW.code ?_))
    refine RW.indexAddr rfl rfl (by omega) hlt rfl ?_
    repeat (first|refine Ja ?_|refine Jb ?_|refine Jc ?_|refine Jd ?_|refine Je ?_|refine Jf ?_|refine Jg ?_|refine Jh ?_|refine Ji ?_|refine Jj ?_|refine Jk ?_|refine Jl ?_|refine Jm ?_|refine Jn ?_|refine Jo ?_|refine Jp ?_|refine Jq ?_|refine Jr ?_|refine Js ?_|refine Jt ?_|refine Ju ?_|refine Jv ?_|refine Jw ?_|refine Jx ?_|refine Jy ?_|refine Jz ?_|refine JA ?_|refine JB ?_|refine JC ?_|refine JD ?_|refine JE ?_|refine JF ?_|refine JG ?_|refine JH ?_|refine JI ?_|refine JJ ?_|refine JK ?_|refine JL ?_|refine JM ?_|refine CW.skip (PW.code ?_)|refine RW.nil (PW.code ?_))
    refine RW.load_fact rfl rfl rfl (fun w hw => (own_elem (pre := [_]) (j := i) hw h5b he9).at_ 2 rfl) ?_
    repeat (first|refine Ja ?_|refine Jb ?_|refine Jc ?_|refine Jd ?_|refine Je ?_|refine Jf ?_|refine Jg ?_|refine Jh ?_|refine Ji ?_|refine Jj ?_|refine Jk ?_|refine Jl ?_|refine Jm ?_|refine Jn ?_|refine Jo ?_|refine Jp ?_|refine Jq ?_|refine Jr ?_|refine Js ?_|refine Jt ?_|refine Ju ?_|refine Jv ?_|refine Jw ?_|refine Jx ?_|refine Jy ?_|refine Jz ?_|refine JA ?_|refine JB ?_|refine JC ?_|refine JD ?_|refine JE ?_|refine JF ?_|refine JG ?_|refine JH ?_|refine JI ?_|refine JJ ?_|refine JK ?_|refine JL ?_|refine JM ?_|refine CW.skip (PW.code ?_)|refine RW.nil (PW.code ?_))
    refine CW.ite rfl (fun hjl => ?_) (fun hjg => ?_)
    · have hjl' : j < x9.args.length := by omega
      obtain ⟨BA, OA, rfl, hφ⟩ := hra j hjl'
      repeat (first|refine Ja ?_|refine Jb ?_|refine Jc ?_|refine Jd ?_|refine Je ?_|refine Jf ?_|refine Jg ?_|refine Jh ?_|refine Ji ?_|refine Jj ?_|refine Jk ?_|refine Jl ?_|refine Jm ?_|refine Jn ?_|refine Jo ?_|refine Jp ?_|refine Jq ?_|refine Jr ?_|refine Js ?_|refine Jt ?_|refine Ju ?_|refine Jv ?_|refine Jw ?_|refine Jx ?_|refine Jy ?_|refine Jz ?_|refine JA ?_|refine JB ?_|refine JC ?_|refine JD ?_|refine JE ?_|refine JF ?_|refine JG ?_|refine JH ?_|refine JI ?_|refine JJ ?_|refine JK ?_|refine JL ?_|refine JM ?_|refine CW.skip (PW.code ?_)|refine RW.nil (PW.code ?_))
      refine CW.seq ?_
      refine CW.block ?_
      refine CW.region ?_
      repeat (first|refine Ja ?_|refine Jb ?_|refine Jc ?_|refine Jd ?_|refine Je ?_|refine Jf ?_|refine Jg ?_|refine Jh ?_|refine Ji ?_|refine Jj ?_|refine Jk ?_|refine Jl ?_|refine Jm ?_|refine Jn ?_|refine Jo ?_|refine Jp ?_|refine Jq ?_|refine Jr ?_|refine Js ?_|refine Jt ?_|refine Ju ?_|refine Jv ?_|refine Jw ?_|refine Jx ?_|refine Jy ?_|refine Jz ?_|refine JA ?_|refine JB ?_|refine JC ?_|refine JD ?_|refine JE ?_|refine JF ?_|refine JG ?_|refine JH ?_|refine JI ?_|refine JJ ?_|refine JK ?_|refine JL ?_|refine JM ?_|refine CW.skip (PW.code ?_)|refine RW.nil (PW.code ?_))
      refine RW.indexAddr rfl rfl (by omega) hlt rfl ?_
      repeat (first|refine Ja ?_|refine Jb ?_|refine Jc ?_|refine Jd ?_|refine Je ?_|refine Jf ?_|refine Jg ?_|refine Jh ?_|refine Ji ?_|refine Jj ?_|refine Jk ?_|refine Jl ?_|refine Jm ?_|refine Jn ?_|refine Jo ?_|refine Jp ?_|refine Jq ?_|refine Jr ?_|refine Js ?_|refine Jt ?_|refine Ju ?_|refine Jv ?_|refine Jw ?_|refine Jx ?_|refine Jy ?_|refine Jz ?_|refine JA ?_|refine JB ?_|refine JC ?_|refine JD ?_|refine JE ?_|refine JF ?_|refine JG ?_|refine JH ?_|refine JI ?_|refine JJ ?_|refine JK ?_|refine JL ?_|refine JM ?_|refine CW.skip (PW.code ?_)|refine RW.nil (PW.code ?_))
      refine RW.load_fact rfl rfl rfl (fun w hw => (own_elem (pre := [_]) (j := i) hw h5b he9).at_ 2 rfl) ?_
      repeat (first|refine Ja ?_|refine Jb ?_|refine Jc ?_|refine Jd ?_|refine Je ?_|refine Jf ?_|refine Jg ?_|refine Jh ?_|refine Ji ?_|refine Jj ?_|refine Jk ?_|refine Jl ?_|refine Jm ?_|refine Jn ?_|refine Jo ?_|refine Jp ?_|refine Jq ?_|refine Jr ?_|refine Js ?_|refine Jt ?_|refine Ju ?_|refine Jv ?_|refine Jw ?_|refine Jx ?_|refine Jy ?_|refine Jz ?_|refine JA ?_|refine JB ?_|refine JC ?_|refine JD ?_|refine JE ?_|refine JF ?_|refine JG ?_|refine JH ?_|refine JI ?_|refine JJ ?_|refine JK ?_|refine JL ?_|refine JM ?_|refine CW.skip (PW.code ?_)|refine RW.nil (PW.code ?_))
      refine RW.indexAddr rfl rfl (by omega) hjl rfl ?_
      refine RW.store_area [] rfl rfl rfl rfl rfl hφ ?_
      repeat (first|refine Ja ?_|refine Jb ?_|refine Jc ?_|refine Jd ?_|refine Je ?_|refine Jf ?_|refine Jg ?_|refine Jh ?_|refine Ji ?_|refine Jj ?_|refine Jk ?_|refine Jl ?_|refine Jm ?_|refine Jn ?_|refine Jo ?_|refine Jp ?_|refine Jq ?_|refine Jr ?_|refine Js ?_|refine Jt ?_|refine Ju ?_|refine Jv ?_|refine Jw ?_|refine Jx ?_|refine Jy ?_|refine Jz ?_|refine JA ?_|refine JB ?_|refine JC ?_|refine JD ?_|refine JE ?_|refine JF ?_|refine JG ?_|refine JH ?_|refine JI ?_|refine JJ ?_|refine JK ?_|refine JL ?_|refine JM ?_|refine CW.skip (PW.code ?_)|refine RW.nil (PW.code ?_))
      refine CW.region ?_
      repeat (first|refine Ja ?_|refine Jb ?_|refine Jc ?_|refine Jd ?_|refine Je ?_|refine Jf ?_|refine Jg ?_|refine Jh ?_|refine Ji ?_|refine Jj ?_|refine Jk ?_|refine Jl ?_|refine Jm ?_|refine Jn ?_|refine Jo ?_|refine Jp ?_|refine Jq ?_|refine Jr ?_|refine Js ?_|refine Jt ?_|refine Ju ?_|refine Jv ?_|refine Jw ?_|refine Jx ?_|refine Jy ?_|refine Jz ?_|refine JA ?_|refine JB ?_|refine JC ?_|refine JD ?_|refine JE ?_|refine JF ?_|refine JG ?_|refine JH ?_|refine JI ?_|refine JJ ?_|refine JK ?_|refine JL ?_|refine JM ?_|refine CW.skip (PW.code ?_)|refine RW.nil (PW.code ?_))
      refine RW.add rfl rfl (w64 (by omega) (by omega)) rfl ?_
      repeat (first|refine Ja ?_|refine Jb ?_|refine Jc ?_|refine Jd ?_|refine Je ?_|refine Jf ?_|refine Jg ?_|refine Jh ?_|refine Ji ?_|refine Jj ?_|refine Jk ?_|refine Jl ?_|refine Jm ?_|refine Jn ?_|refine Jo ?_|refine Jp ?_|refine Jq ?_|refine Jr ?_|refine Js ?_|refine Jt ?_|refine Ju ?_|refine Jv ?_|refine Jw ?_|refine Jx ?_|refine Jy ?_|refine Jz ?_|refine JA ?_|refine JB ?_|refine JC ?_|refine JD ?_|refine JE ?_|refine JF ?_|refine JG ?_|refine JH ?_|refine JI ?_|refine JJ ?_|refine JK ?_|refine JL ?_|refine JM ?_|refine CW.skip (PW.code ?_)|refine RW.nil (PW.code ?_))
      refine RW.nil ?_
      refine PW.again ⟨j + 1, hjl'⟩ ⟨rfl, rfl, rfl, rfl, rfl, rfl, rfl, rfl, rfl, trivial⟩ (fun h => h) (by show x9.args.length - (j + 1) < x9.args.length - j; omega)
    · refine CW.exit rfl ?_
      refine PW.code ?_
      refine CW.region ?_
      repeat (first|refine Ja ?_|refine Jb ?_|refine Jc ?_|refine Jd ?_|refine Je ?_|refine Jf ?_|refine Jg ?_|refine Jh ?_|refine Ji ?_|refine Jj ?_|refine Jk ?_|refine Jl ?_|refine Jm ?_|refine Jn ?_|refine Jo ?_|refine Jp ?_|refine Jq ?_|refine Jr ?_|refine Js ?_|refine Jt ?_|refine Ju ?_|refine Jv ?_|refine Jw ?_|refine Jx ?_|refine Jy ?_|refine Jz ?_|refine JA ?_|refine JB ?_|refine JC ?_|refine JD ?_|refine JE ?_|refine JF ?_|refine JG ?_|refine JH ?_|refine JI ?_|refine JJ ?_|refine JK ?_|refine JL ?_|refine JM ?_|refine CW.skip (PW.code ?_)|refine RW.nil (PW.code ?_))
      refine RW.add rfl rfl (w64 (by omega) (by omega)) rfl ?_
      repeat (first|refine Ja ?_|refine Jb ?_|refine Jc ?_|refine Jd ?_|refine Je ?_|refine Jf ?_|refine Jg ?_|refine Jh ?_|refine Ji ?_|refine Jj ?_|refine Jk ?_|refine Jl ?_|refine Jm ?_|refine Jn ?_|refine Jo ?_|refine Jp ?_|refine Jq ?_|refine Jr ?_|refine Js ?_|refine Jt ?_|refine Ju ?_|refine Jv ?_|refine Jw ?_|refine Jx ?_|refine Jy ?_|refine Jz ?_|refine JA ?_|refine JB ?_|refine JC ?_|refine JD ?_|refine JE ?_|refine JF ?_|refine JG ?_|refine JH ?_|refine JI ?_|refine JJ ?_|refine JK ?_|refine JL ?_|refine JM ?_|refine CW.skip (PW.code ?_)|refine RW.nil (PW.code ?_))
      refine RW.nil ?_
      refine PW.again ⟨i + 1, hlt'⟩ ⟨rfl, rfl, rfl, rfl, rfl, rfl, rfl, rfl, trivial⟩ (fun h => h) (by show C.length - (i + 1) < C.length - i; omega)
  refine CW.exit rfl ?_
  refine PW.code ?_
  refine CW.take [2, 3, 4, 5, 6, 7] ?_
  refine CW.seq ?_
  repeat (first|refine Ja ?_|refine Jb ?_|refine Jc ?_|refine Jd ?_|refine Je ?_|refine Jf ?_|refine Jg ?_|refine Jh ?_|refine Ji ?_|refine Jj ?_|refine Jk ?_|refine Jl ?_|refine Jm ?_|refine Jn ?_|refine Jo ?_|refine Jp ?_|refine Jq ?_|refine Jr ?_|refine Js ?_|refine Jt ?_|refine Ju ?_|refine Jv ?_|refine Jw ?_|refine Jx ?_|refine Jy ?_|refine Jz ?_|refine JA ?_|refine JB ?_|refine JC ?_|refine JD ?_|refine JE ?_|refine JF ?_|refine JG ?_|refine JH ?_|refine JI ?_|refine JJ ?_|refine JK ?_|refine JL ?_|refine JM ?_|refine CW.skip (PW.code ?_)|refine RW.nil (PW.code ?_))
  refine CW.block ?_
  refine CW.loop (ι := { m : Nat // m ≤ ls.length }) (fun q => [(0, .slice A ps.length c), (1, .slice B cl.length d), (2, .slice D ls.length e), (7, .slice Ao ls.length co), (8, .slice Aa C.length ca), (10, .slice Ak C.length ck), (15, .int .i64 q.1)])
    (fun _ => [ownHP 27 5 (.slice Ao ls.length co) eo, rdsHP Mem.none kLit eo (ls.map litV), ownHP 27 5 (.slice Aa C.length ca) ea, rdsHP Mem.none kLit ea (C.map litV), ownHP 27 5 (.slice Ak C.length ck) ek, rdsHP Mem.none kLit ek (C.map litV)])
    (fun q => ls.length - q.1) ⟨0, Nat.zero_le _⟩ ⟨rfl, rfl, rfl, rfl, rfl, rfl, rfl, trivial⟩ (fun h => h) ?_
  intro ⟨m, hm⟩
  dsimp only
  replace hm : m ≤ ls.length := hm
  refine CW.seq ?_
  repeat (first|refine Ja ?_|refine Jb ?_|refine Jc ?_|refine Jd ?_|refine Je ?_|refine Jf ?_|refine Jg ?_|refine Jh ?_|refine Ji ?_|refine Jj ?_|refine Jk ?_|refine Jl ?_|refine Jm ?_|refine Jn ?_|refine Jo ?_|refine Jp ?_|refine Jq ?_|refine Jr ?_|refine Js ?_|refine Jt ?_|refine Ju ?_|refine Jv ?_|refine Jw ?_|refine Jx ?_|refine Jy ?_|refine Jz ?_|refine JA ?_|refine JB ?_|refine JC ?_|refine JD ?_|refine JE ?_|refine JF ?_|refine JG ?_|refine JH ?_|refine JI ?_|refine JJ ?_|refine JK ?_|refine JL ?_|refine JM ?_|refine CW.skip (PW.code ?_)|refine RW.nil (PW.code ?_))
  refine CW.ite rfl (fun hml => ?_) (fun hmg => ?_)
  · have hml' : m < ls.length := by omega
    refine CW.have_ (φ := ∀ (i : Nat) (hi : i < ls.length), ∃ A c, eo[i]? = some (ls[i].V A c) ∧ (ls[i].args ≠ [] → ∃ B O, A = some ⟨B, O, none⟩) ∧ ls[i].args.length ≤ 140737488351232) (fun w hw => lits_forms (rds_at (pre := [_]) hw)) (fun hfo => ?_)
    obtain ⟨A9, c9, he9, _⟩ := hfo m hml'
    have hlm9 : (ls.map litV)[m]? = some (litV ls[m]) := by rw [List.getElem?_map, List.getElem?_eq_getElem hml']; rfl
    generalize ls[m] = x at he9 hlm9
    obtain ⟨BO, hB⟩ := hBO (by intro k; rw [k] at hlo; simp at hlo; omega)
    subst hB
    clear hfo closeOK
    repeat (first|refine Ja ?_|refine Jb ?_|refine Jc ?_|refine Jd ?_|refine Je ?_|refine Jf ?_|refine Jg ?_|refine Jh ?_|refine Ji ?_|refine Jj ?_|refine Jk ?_|refine Jl ?_|refine Jm ?_|refine Jn ?_|refine Jo ?_|refine Jp ?_|refine Jq ?_|refine Jr ?_|refine Js ?_|refine Jt ?_|refine Ju ?_|refine Jv ?_|refine Jw ?_|refine Jx ?_|refine Jy ?_|refine Jz ?_|refine JA ?_|refine JB ?_|refine JC ?_|refine JD ?_|refine JE ?_|refine JF ?_|refine JG ?_|refine JH ?_|refine JI ?_|refine JJ ?_|refine JK ?_|refine JL ?_|refine JM ?_|refine CW.skip (PW.code ?_)|refine RW.nil (PW.code ?_))
    refine CW.seq ?_
    refine CW.block ?_
    repeat (first|refine Ja ?_|refine Jb ?_|refine Jc ?_|refine Jd ?_|refine Je ?_|refine Jf ?_|refine Jg ?_|refine Jh ?_|refine Ji ?_|refine Jj ?_|refine Jk ?_|refine Jl ?_|refine Jm ?_|refine Jn ?_|refine Jo ?_|refine Jp ?_|refine Jq ?_|refine Jr ?_|refine Js ?_|refine Jt ?_|refine Ju ?_|refine Jv ?_|refine Jw ?_|refine Jx ?_|refine Jy ?_|refine Jz ?_|refine JA ?_|refine JB ?_|refine JC ?_|refine JD ?_|refine JE ?_|refine JF ?_|refine JG ?_|refine JH ?_|refine JI ?_|refine JJ ?_|refine JK ?_|refine JL ?_|refine JM ?_|refine CW.skip (PW.code ?_)|refine RW.nil (PW.code ?_))
    refine RW.indexAddr rfl rfl (by omega) hml rfl ?_
    refine RW.load_facts (cs := x.V A9 c9) rfl rfl rfl rfl (fun w hw => own_elem (pre := []) hw h5o he9) ?_
    refine RW.callF Try.call12 rfl (fun w2 hw2 => complement_ret (M := mem w2 Any) (l := x) (Mem.le_refl _) ((rds_at (pre := [_]) hw2).2 m _ _ he9 hlm9)) rfl fun cs2 => ?_
    generalize (compD x).1 = z
    generalize (compD x).2 = ze
    refine RW.have_ (φ := ∀ (i : Nat) (hi : i < [z].length), ∃ A c, [cs2][i]? = some ([z][i].V A c) ∧ ([z][i].args ≠ [] → ∃ B O, A = some ⟨B, O, none⟩) ∧ [z][i].args.length ≤ 140737488351232) (fun w hw => lits_forms (es := [cs2]) (ls := [z]) (M := mem w Any) (All2.one (rd_at (pre := []) hw))) (fun hfz => ?_)
    obtain ⟨A7, c7, he7, hA7, _⟩ := hfz 0 (by simp)
    have he7' : cs2 = z.V A7 c7 := by simpa using he7
    subst he7'
    clear he7 hfz
    replace hA7 : z.args ≠ [] → ∃ B O, A7 = some ⟨B, O, none⟩ := hA7
    refine RW.change [] (areaHP (argsAt [z.V A7 c7])) (fun w F hp => lit_area hp) ?_
    unfold LitD.V
    repeat (first|refine Ja ?_|refine Jb ?_|refine Jc ?_|refine Jd ?_|refine Je ?_|refine Jf ?_|refine Jg ?_|refine Jh ?_|refine Ji ?_|refine Jj ?_|refine Jk ?_|refine Jl ?_|refine Jm ?_|refine Jn ?_|refine Jo ?_|refine Jp ?_|refine Jq ?_|refine Jr ?_|refine Js ?_|refine Jt ?_|refine Ju ?_|refine Jv ?_|refine Jw ?_|refine Jx ?_|refine Jy ?_|refine Jz ?_|refine JA ?_|refine JB ?_|refine JC ?_|refine JD ?_|refine JE ?_|refine JF ?_|refine JG ?_|refine JH ?_|refine JI ?_|refine JJ ?_|refine JK ?_|refine JL ?_|refine JM ?_|refine CW.skip (PW.code ?_)|refine RW.nil (PW.code ?_))
    refine RW.alloc rfl rfl fun b16 _ => ?_
    refine RW.store_whole [] rfl rfl rfl rfl rfl (by simp [Value.oneCell']) ?_
    repeat (first|refine Ja ?_|refine Jb ?_|refine Jc ?_|refine Jd ?_|refine Je ?_|refine Jf ?_|refine Jg ?_|refine Jh ?_|refine Ji ?_|refine Jj ?_|refine Jk ?_|refine Jl ?_|refine Jm ?_|refine Jn ?_|refine Jo ?_|refine Jp ?_|refine Jq ?_|refine Jr ?_|refine Js ?_|refine Jt ?_|refine Ju ?_|refine Jv ?_|refine Jw ?_|refine Jx ?_|refine Jy ?_|refine Jz ?_|refine JA ?_|refine JB ?_|refine JC ?_|refine JD ?_|refine JE ?_|refine JF ?_|refine JG ?_|refine JH ?_|refine JI ?_|refine JJ ?_|refine JK ?_|refine JL ?_|refine JM ?_|refine CW.skip (PW.code ?_)|refine RW.nil (PW.code ?_))
    refine CW.cut (ι := Unit) (fun _ => [(0, .slice A ps.length c), (1, .slice B cl.length d), (2, .slice D ls.length e), (7, .slice (some ⟨BO, 0, none⟩) ls.length co), (8, .slice Aa C.length ca), (10, .slice Ak C.length ck), (15, .int .i64 m)])
      (fun _ => [ownHP 27 5 (.slice (some ⟨BO, 0, none⟩) ls.length co) eo, rdsHP Mem.none kLit eo (ls.map litV), ownHP 27 5 (.slice Aa C.length ca) ea, rdsHP Mem.none kLit ea (C.map litV), ownHP 27 5 (.slice Ak C.length ck) ek, rdsHP Mem.none kLit ek (C.map litV)]) ?_ (fun _ => ?_)
    · repeat (first|refine Ja ?_|refine Jb ?_|refine Jc ?_|refine Jd ?_|refine Je ?_|refine Jf ?_|refine Jg ?_|refine Jh ?_|refine Ji ?_|refine Jj ?_|refine Jk ?_|refine Jl ?_|refine Jm ?_|refine Jn ?_|refine Jo ?_|refine Jp ?_|refine Jq ?_|refine Jr ?_|refine Js ?_|refine Jt ?_|refine Ju ?_|refine Jv ?_|refine Jw ?_|refine Jx ?_|refine Jy ?_|refine Jz ?_|refine JA ?_|refine JB ?_|refine JC ?_|refine JD ?_|refine JE ?_|refine JF ?_|refine JG ?_|refine JH ?_|refine JI ?_|refine JJ ?_|refine JK ?_|refine JL ?_|refine JM ?_|refine CW.skip (PW.code ?_)|refine RW.nil (PW.code ?_))
      refine RW.call Try.call13 rfl (fun w2 _ => num_ret _ w2) rfl ?_
      repeat (first|refine Ja ?_|refine Jb ?_|refine Jc ?_|refine Jd ?_|refine Je ?_|refine Jf ?_|refine Jg ?_|refine Jh ?_|refine Ji ?_|refine Jj ?_|refine Jk ?_|refine Jl ?_|refine Jm ?_|refine Jn ?_|refine Jo ?_|refine Jp ?_|refine Jq ?_|refine Jr ?_|refine Js ?_|refine Jt ?_|refine Ju ?_|refine Jv ?_|refine Jw ?_|refine Jx ?_|refine Jy ?_|refine Jz ?_|refine JA ?_|refine JB ?_|refine JC ?_|refine JD ?_|refine JE ?_|refine JF ?_|refine JG ?_|refine JH ?_|refine JI ?_|refine JJ ?_|refine JK ?_|refine JL ?_|refine JM ?_|refine CW.skip (PW.code ?_)|refine RW.nil (PW.code ?_))
      refine RW.splitD 84 rfl (fun g1 => ?_) (fun g1 => ?_)
      · repeat (first|refine Ja ?_|refine Jb ?_|refine Jc ?_|refine Jd ?_|refine Je ?_|refine Jf ?_|refine Jg ?_|refine Jh ?_|refine Ji ?_|refine Jj ?_|refine Jk ?_|refine Jl ?_|refine Jm ?_|refine Jn ?_|refine Jo ?_|refine Jp ?_|refine Jq ?_|refine Jr ?_|refine Js ?_|refine Jt ?_|refine Ju ?_|refine Jv ?_|refine Jw ?_|refine Jx ?_|refine Jy ?_|refine Jz ?_|refine JA ?_|refine JB ?_|refine JC ?_|refine JD ?_|refine JE ?_|refine JF ?_|refine JG ?_|refine JH ?_|refine JI ?_|refine JJ ?_|refine JK ?_|refine JL ?_|refine JM ?_|refine CW.skip (PW.code ?_)|refine RW.nil (PW.code ?_))
        refine CW.ite rfl (fun g2 => ?_) (fun g2 => ?_)
        · obtain ⟨BZ, OZ, rfl⟩ := hA7 (by intro k; rw [k] at g2; simp at g2)
          refine CW.region ?_
          repeat (first|refine Ja ?_|refine Jb ?_|refine Jc ?_|refine Jd ?_|refine Je ?_|refine Jf ?_|refine Jg ?_|refine Jh ?_|refine Ji ?_|refine Jj ?_|refine Jk ?_|refine Jl ?_|refine Jm ?_|refine Jn ?_|refine Jo ?_|refine Jp ?_|refine Jq ?_|refine Jr ?_|refine Js ?_|refine Jt ?_|refine Ju ?_|refine Jv ?_|refine Jw ?_|refine Jx ?_|refine Jy ?_|refine Jz ?_|refine JA ?_|refine JB ?_|refine JC ?_|refine JD ?_|refine JE ?_|refine JF ?_|refine JG ?_|refine JH ?_|refine JI ?_|refine JJ ?_|refine JK ?_|refine JL ?_|refine JM ?_|refine CW.skip (PW.code ?_)|refine RW.nil (PW.code ?_))
          refine RW.indexAddr rfl rfl (by decide) g2 rfl ?_
          refine RW.store_area [_] rfl rfl rfl rfl rfl ⟨0, _, OZ, _, _, 0, rfl, rfl, by omega, by simp⟩ ?_
          refine RW.nil ?_
          refine PW.meetT () [2, 3, 4, 5, 6, 7] ⟨rfl, rfl, rfl, rfl, rfl, rfl, rfl, trivial⟩ rfl
        · refine CW.skip ?_
          refine PW.meetT () [2, 3, 4, 5, 6, 7] ⟨rfl, rfl, rfl, rfl, rfl, rfl, rfl, trivial⟩ rfl
      · repeat (first|refine Ja ?_|refine Jb ?_|refine Jc ?_|refine Jd ?_|refine Je ?_|refine Jf ?_|refine Jg ?_|refine Jh ?_|refine Ji ?_|refine Jj ?_|refine Jk ?_|refine Jl ?_|refine Jm ?_|refine Jn ?_|refine Jo ?_|refine Jp ?_|refine Jq ?_|refine Jr ?_|refine Js ?_|refine Jt ?_|refine Ju ?_|refine Jv ?_|refine Jw ?_|refine Jx ?_|refine Jy ?_|refine Jz ?_|refine JA ?_|refine JB ?_|refine JC ?_|refine JD ?_|refine JE ?_|refine JF ?_|refine JG ?_|refine JH ?_|refine JI ?_|refine JJ ?_|refine JK ?_|refine JL ?_|refine JM ?_|refine CW.skip (PW.code ?_)|refine RW.nil (PW.code ?_))
        refine CW.cf rfl ?_
        refine CW.skip ?_
        refine PW.meetT () [2, 3, 4, 5, 6, 7] ⟨rfl, rfl, rfl, rfl, rfl, rfl, rfl, trivial⟩ rfl
    repeat (first|refine Ja ?_|refine Jb ?_|refine Jc ?_|refine Jd ?_|refine Je ?_|refine Jf ?_|refine Jg ?_|refine Jh ?_|refine Ji ?_|refine Jj ?_|refine Jk ?_|refine Jl ?_|refine Jm ?_|refine Jn ?_|refine Jo ?_|refine Jp ?_|refine Jq ?_|refine Jr ?_|refine Js ?_|refine Jt ?_|refine Ju ?_|refine Jv ?_|refine Jw ?_|refine Jx ?_|refine Jy ?_|refine Jz ?_|refine JA ?_|refine JB ?_|refine JC ?_|refine JD ?_|refine JE ?_|refine JF ?_|refine JG ?_|refine JH ?_|refine JI ?_|refine JJ ?_|refine JK ?_|refine JL ?_|refine JM ?_|refine CW.skip (PW.code ?_)|refine RW.nil (PW.code ?_))
    refine RW.indexAddr rfl rfl (by omega) hml rfl ?_
    refine RW.load_facts (cs := x.V A9 c9) rfl rfl rfl rfl (fun w hw => own_elem (pre := []) hw h5o he9) ?_
    refine RW.callN Try.call14 rfl (fun w2 hw2 => Mates_ret (M := mem w2 Any) (N := mem w2 Any) (l := x) (Mem.le_refl _) (Mem.le_refl _) (hps.mono (Mem.le_trans hN (hle hw2))) (hcl.mono (Mem.le_trans hN (hle hw2))) ((rds_at (pre := [_]) hw2).2 m _ _ he9 hlm9) hbnd) rfl fun y => ?_
    obtain ⟨vm, em⟩ := y
    have hMl := MatesD_len (ps.map predOf) cl x 140737488351232 (fun p hp => by
      obtain ⟨q, hq, rfl⟩ := List.mem_map.1 hp
      have := hbnd q hq
      rw [reach_eq] at this
      omega)
    have hpl : ps.length ≤ 140737488351232 := by
      obtain ⟨_, _, _, _, _, h72, _⟩ := Rd.preds hps
      rw [reach_eq] at h72
      omega
    rw [List.length_map] at hMl
    generalize (MatesD (ps.map predOf) cl x).1 = ms at hMl
    generalize (MatesD (ps.map predOf) cl x).2 = me
    refine RW.have_ (φ := _ ∧ ∃ A c, vm = .slice A ms.length c ∧ _ ∧ _ ∧ _ ∧ _ ∧ _) (fun w hw => own_lits (pre := []) hw) (fun ⟨hlm, Am, cm, hvm, _, _, h5m, hBM, _⟩ => ?_)
    subst hvm
    refine RW.have_ (φ := ∀ (i : Nat) (hi : i < ms.length), ∃ A c, em[i]? = some (ms[i].V A c) ∧ (ms[i].args ≠ [] → ∃ B O, A = some ⟨B, O, none⟩) ∧ ms[i].args.length ≤ 140737488351232) (fun w hw => lits_forms (rds_at (pre := [_]) hw)) (fun hfm => ?_)
    dsimp only
    repeat (first|refine Ja ?_|refine Jb ?_|refine Jc ?_|refine Jd ?_|refine Je ?_|refine Jf ?_|refine Jg ?_|refine Jh ?_|refine Ji ?_|refine Jj ?_|refine Jk ?_|refine Jl ?_|refine Jm ?_|refine Jn ?_|refine Jo ?_|refine Jp ?_|refine Jq ?_|refine Jr ?_|refine Js ?_|refine Jt ?_|refine Ju ?_|refine Jv ?_|refine Jw ?_|refine Jx ?_|refine Jy ?_|refine Jz ?_|refine JA ?_|refine JB ?_|refine JC ?_|refine JD ?_|refine JE ?_|refine JF ?_|refine JG ?_|refine JH ?_|refine JI ?_|refine JJ ?_|refine JK ?_|refine JL ?_|refine JM ?_|refine CW.skip (PW.code ?_)|refine RW.nil (PW.code ?_))
    refine CW.take [1, 0, 2, 3, 4, 5, 6, 7] ?_
    refine CW.change [] (areaHP (argsAt em)) (fun w F hp => args_area hp) ?_
    refine CW.block ?_
    refine CW.loop (ι := { i : Nat // i ≤ ms.length }) (fun q => [(0, .slice A ps.length c), (1, .slice B cl.length d), (2, .slice D ls.length e), (7, .slice (some ⟨BO, 0, none⟩) ls.length co), (8, .slice Aa C.length ca), (10, .slice Ak C.length ck), (15, .int .i64 m), (18, .slice Am ms.length cm), (20, .int .i64 q.1)]) (fun _ => [areaHP (argsAt em), ownHP 27 5 (.slice Am ms.length cm) em, ownHP 27 5 (.slice (some ⟨BO, 0, none⟩) ls.length co) eo, rdsHP Mem.none kLit eo (ls.map litV), ownHP 27 5 (.slice Aa C.length ca) ea, rdsHP Mem.none kLit ea (C.map litV), ownHP 27 5 (.slice Ak C.length ck) ek, rdsHP Mem.none kLit ek (C.map litV)]) (fun q => ms.length - q.1) ⟨0, Nat.zero_le _⟩ ⟨rfl, rfl, rfl, rfl, rfl, rfl, rfl, rfl, rfl, trivial⟩ (fun h => h) ?_
    intro ⟨i, hi⟩
    dsimp only
    refine CW.seq ?_
    repeat (first|refine Ja ?_|refine Jb ?_|refine Jc ?_|refine Jd ?_|refine Je ?_|refine Jf ?_|refine Jg ?_|refine Jh ?_|refine Ji ?_|refine Jj ?_|refine Jk ?_|refine Jl ?_|refine Jm ?_|refine Jn ?_|refine Jo ?_|refine Jp ?_|refine Jq ?_|refine Jr ?_|refine Js ?_|refine Jt ?_|refine Ju ?_|refine Jv ?_|refine Jw ?_|refine Jx ?_|refine Jy ?_|refine Jz ?_|refine JA ?_|refine JB ?_|refine JC ?_|refine JD ?_|refine JE ?_|refine JF ?_|refine JG ?_|refine JH ?_|refine JI ?_|refine JJ ?_|refine JK ?_|refine JL ?_|refine JM ?_|refine CW.skip (PW.code ?_)|refine RW.nil (PW.code ?_))
    refine CW.ite rfl (fun hlt => ?_) (fun hge => ?_)
    · have hlt' : i < ms.length := by omega
      obtain ⟨A9, c9, he9, hA9, hz9⟩ := hfm i hlt'
      obtain ⟨BM, hB⟩ := hBM (by intro k; rw [k] at hlm; simp at hlm; omega)
      subst hB
      generalize ms[i] = x9 at he9 hA9 hz9
      unfold LitD.V at he9
      have hra := reads_args (x := x9) he9 hA9
      repeat (first|refine Ja ?_|refine Jb ?_|refine Jc ?_|refine Jd ?_|refine Je ?_|refine Jf ?_|refine Jg ?_|refine Jh ?_|refine Ji ?_|refine Jj ?_|refine Jk ?_|refine Jl ?_|refine Jm ?_|refine Jn ?_|refine Jo ?_|refine Jp ?_|refine Jq ?_|refine Jr ?_|refine Js ?_|refine Jt ?_|refine Ju ?_|refine Jv ?_|refine Jw ?_|refine Jx ?_|refine Jy ?_|refine Jz ?_|refine JA ?_|refine JB ?_|refine JC ?_|refine JD ?_|refine JE ?_|refine JF ?_|refine JG ?_|refine JH ?_|refine JI ?_|refine JJ ?_|refine JK ?_|refine JL ?_|refine JM ?_|refine CW.skip (PW.code ?_)|refine RW.nil (PW.code ?_))
      refine CW.seq ?_
      refine CW.block ?_
      repeat (first|refine Ja ?_|refine Jb ?_|refine Jc ?_|refine Jd ?_|refine Je ?_|refine Jf ?_|refine Jg ?_|refine Jh ?_|refine Ji ?_|refine Jj ?_|refine Jk ?_|refine Jl ?_|refine Jm ?_|refine Jn ?_|refine Jo ?_|refine Jp ?_|refine Jq ?_|refine Jr ?_|refine Js ?_|refine Jt ?_|refine Ju ?_|refine Jv ?_|refine Jw ?_|refine Jx ?_|refine Jy ?_|refine Jz ?_|refine JA ?_|refine JB ?_|refine JC ?_|refine JD ?_|refine JE ?_|refine JF ?_|refine JG ?_|refine JH ?_|refine JI ?_|refine JJ ?_|refine JK ?_|refine JL ?_|refine JM ?_|refine CW.skip (PW.code ?_)|refine RW.nil (PW.code ?_))
      refine CW.block ?_
      refine CW.loop (ι := { j : Nat // j ≤ x9.args.length }) (fun q => [(0, .slice A ps.length c), (1, .slice B cl.length d), (2, .slice D ls.length e), (7, .slice (some ⟨BO, 0, none⟩) ls.length co), (8, .slice Aa C.length ca), (10, .slice Ak C.length ck), (15, .int .i64 m), (18, .slice (some ⟨BM, 0, none⟩) ms.length cm), (20, .int .i64 i), (21, .int .i64 q.1)]) (fun _ => [areaHP (argsAt em), ownHP 27 5 (.slice (some ⟨BM, 0, none⟩) ms.length cm) em, ownHP 27 5 (.slice (some ⟨BO, 0, none⟩) ls.length co) eo, rdsHP Mem.none kLit eo (ls.map litV), ownHP 27 5 (.slice Aa C.length ca) ea, rdsHP Mem.none kLit ea (C.map litV), ownHP 27 5 (.slice Ak C.length ck) ek, rdsHP Mem.none kLit ek (C.map litV)]) (fun q => x9.args.length - q.1) ⟨0, Nat.zero_le _⟩ ⟨rfl, rfl, rfl, rfl, rfl, rfl, rfl, rfl, rfl, rfl, trivial⟩ (fun h => h) ?_
      intro ⟨j, hj⟩
      dsimp only
      refine CW.seq ?_
      repeat (first|refine Ja ?_|refine Jb ?_|refine Jc ?_|refine Jd ?_|refine Je ?_|refine Jf ?_|refine Jg ?_|refine Jh ?_|refine Ji ?_|refine Jj ?_|refine Jk ?_|refine Jl ?_|refine Jm ?_|refine Jn ?_|refine Jo ?_|refine Jp ?_|refine Jq ?_|refine Jr ?_|refine Js ?_|refine Jt ?_|refine Ju ?_|refine Jv ?_|refine Jw ?_|refine Jx ?_|refine Jy ?_|refine Jz ?_|refine JA ?_|refine JB ?_|refine JC ?_|refine JD ?_|refine JE ?_|refine JF ?_|refine JG ?_|refine JH ?_|refine JI ?_|refine JJ ?_|refine JK ?_|refine JL ?_|refine JM ?_|refine CW.skip (PW.code ?_)|refine RW.nil (PW.code ?_))
      refine RW.indexAddr rfl rfl (by omega) hlt rfl ?_
      repeat (first|refine Ja ?_|refine Jb ?_|refine Jc ?_|refine Jd ?_|refine Je ?_|refine Jf ?_|refine Jg ?_|refine Jh ?_|refine Ji ?_|refine Jj ?_|refine Jk ?_|refine Jl ?_|refine Jm ?_|refine Jn ?_|refine Jo ?_|refine Jp ?_|refine Jq ?_|refine Jr ?_|refine Js ?_|refine Jt ?_|refine Ju ?_|refine Jv ?_|refine Jw ?_|refine Jx ?_|refine Jy ?_|refine Jz ?_|refine JA ?_|refine JB ?_|refine JC ?_|refine JD ?_|refine JE ?_|refine JF ?_|refine JG ?_|refine JH ?_|refine JI ?_|refine JJ ?_|refine JK ?_|refine JL ?_|refine JM ?_|refine CW.skip (PW.code ?_)|refine RW.nil (PW.code ?_))
      refine RW.load_fact rfl rfl rfl (fun w hw => (own_elem (pre := [_]) (j := i) hw h5m he9).at_ 2 rfl) ?_
      repeat (first|refine Ja ?_|refine Jb ?_|refine Jc ?_|refine Jd ?_|refine Je ?_|refine Jf ?_|refine Jg ?_|refine Jh ?_|refine Ji ?_|refine Jj ?_|refine Jk ?_|refine Jl ?_|refine Jm ?_|refine Jn ?_|refine Jo ?_|refine Jp ?_|refine Jq ?_|refine Jr ?_|refine Js ?_|refine Jt ?_|refine Ju ?_|refine Jv ?_|refine Jw ?_|refine Jx ?_|refine Jy ?_|refine Jz ?_|refine JA ?_|refine JB ?_|refine JC ?_|refine JD ?_|refine JE ?_|refine JF ?_|refine JG ?_|refine JH ?_|refine JI ?_|refine JJ ?_|refine JK ?_|refine JL ?_|refine JM ?_|refine CW.skip (PW.code ?_)|refine RW.nil (PW.code ?_))
      refine CW.ite rfl (fun hjl => ?_) (fun hjg => ?_)
      · have hjl' : j < x9.args.length := by omega
        obtain ⟨BA, OA, rfl, hφ⟩ := hra j hjl'
        repeat (first|refine Ja ?_|refine Jb ?_|refine Jc ?_|refine Jd ?_|refine Je ?_|refine Jf ?_|refine Jg ?_|refine Jh ?_|refine Ji ?_|refine Jj ?_|refine Jk ?_|refine Jl ?_|refine Jm ?_|refine Jn ?_|refine Jo ?_|refine Jp ?_|refine Jq ?_|refine Jr ?_|refine Js ?_|refine Jt ?_|refine Ju ?_|refine Jv ?_|refine Jw ?_|refine Jx ?_|refine Jy ?_|refine Jz ?_|refine JA ?_|refine JB ?_|refine JC ?_|refine JD ?_|refine JE ?_|refine JF ?_|refine JG ?_|refine JH ?_|refine JI ?_|refine JJ ?_|refine JK ?_|refine JL ?_|refine JM ?_|refine CW.skip (PW.code ?_)|refine RW.nil (PW.code ?_))
        refine CW.seq ?_
        refine CW.block ?_
        refine CW.region ?_
        repeat (first|refine Ja ?_|refine Jb ?_|refine Jc ?_|refine Jd ?_|refine Je ?_|refine Jf ?_|refine Jg ?_|refine Jh ?_|refine Ji ?_|refine Jj ?_|refine Jk ?_|refine Jl ?_|refine Jm ?_|refine Jn ?_|refine Jo ?_|refine Jp ?_|refine Jq ?_|refine Jr ?_|refine Js ?_|refine Jt ?_|refine Ju ?_|refine Jv ?_|refine Jw ?_|refine Jx ?_|refine Jy ?_|refine Jz ?_|refine JA ?_|refine JB ?_|refine JC ?_|refine JD ?_|refine JE ?_|refine JF ?_|refine JG ?_|refine JH ?_|refine JI ?_|refine JJ ?_|refine JK ?_|refine JL ?_|refine JM ?_|refine CW.skip (PW.code ?_)|refine RW.nil (PW.code ?_))
        refine RW.indexAddr rfl rfl (by omega) hlt rfl ?_
        repeat (first|refine Ja ?_|refine Jb ?_|refine Jc ?_|refine Jd ?_|refine Je ?_|refine Jf ?_|refine Jg ?_|refine Jh ?_|refine Ji ?_|refine Jj ?_|refine Jk ?_|refine Jl ?_|refine Jm ?_|refine Jn ?_|refine Jo ?_|refine Jp ?_|refine Jq ?_|refine Jr ?_|refine Js ?_|refine Jt ?_|refine Ju ?_|refine Jv ?_|refine Jw ?_|refine Jx ?_|refine Jy ?_|refine Jz ?_|refine JA ?_|refine JB ?_|refine JC ?_|refine JD ?_|refine JE ?_|refine JF ?_|refine JG ?_|refine JH ?_|refine JI ?_|refine JJ ?_|refine JK ?_|refine JL ?_|refine JM ?_|refine CW.skip (PW.code ?_)|refine RW.nil (PW.code ?_))
        refine RW.load_fact rfl rfl rfl (fun w hw => (own_elem (pre := [_]) (j := i) hw h5m he9).at_ 2 rfl) ?_
        repeat (first|refine Ja ?_|refine Jb ?_|refine Jc ?_|refine Jd ?_|refine Je ?_|refine Jf ?_|refine Jg ?_|refine Jh ?_|refine Ji ?_|refine Jj ?_|refine Jk ?_|refine Jl ?_|refine Jm ?_|refine Jn ?_|refine Jo ?_|refine Jp ?_|refine Jq ?_|refine Jr ?_|refine Js ?_|refine Jt ?_|refine Ju ?_|refine Jv ?_|refine Jw ?_|refine Jx ?_|refine Jy ?_|refine Jz ?_|refine JA ?_|refine JB ?_|refine JC ?_|refine JD ?_|refine JE ?_|refine JF ?_|refine JG ?_|refine JH ?_|refine JI ?_|refine JJ ?_|refine JK ?_|refine JL ?_|refine JM ?_|refine CW.skip (PW.code ?_)|refine RW.nil (PW.code ?_))
        refine RW.indexAddr rfl rfl (by omega) hjl rfl ?_
        refine RW.store_area [] rfl rfl rfl rfl rfl hφ ?_
        repeat (first|refine Ja ?_|refine Jb ?_|refine Jc ?_|refine Jd ?_|refine Je ?_|refine Jf ?_|refine Jg ?_|refine Jh ?_|refine Ji ?_|refine Jj ?_|refine Jk ?_|refine Jl ?_|refine Jm ?_|refine Jn ?_|refine Jo ?_|refine Jp ?_|refine Jq ?_|refine Jr ?_|refine Js ?_|refine Jt ?_|refine Ju ?_|refine Jv ?_|refine Jw ?_|refine Jx ?_|refine Jy ?_|refine Jz ?_|refine JA ?_|refine JB ?_|refine JC ?_|refine JD ?_|refine JE ?_|refine JF ?_|refine JG ?_|refine JH ?_|refine JI ?_|refine JJ ?_|refine JK ?_|refine JL ?_|refine JM ?_|refine CW.skip (PW.code ?_)|refine RW.nil (PW.code ?_))
        refine CW.region ?_
        repeat (first|refine Ja ?_|refine Jb ?_|refine Jc ?_|refine Jd ?_|refine Je ?_|refine Jf ?_|refine Jg ?_|refine Jh ?_|refine Ji ?_|refine Jj ?_|refine Jk ?_|refine Jl ?_|refine Jm ?_|refine Jn ?_|refine Jo ?_|refine Jp ?_|refine Jq ?_|refine Jr ?_|refine Js ?_|refine Jt ?_|refine Ju ?_|refine Jv ?_|refine Jw ?_|refine Jx ?_|refine Jy ?_|refine Jz ?_|refine JA ?_|refine JB ?_|refine JC ?_|refine JD ?_|refine JE ?_|refine JF ?_|refine JG ?_|refine JH ?_|refine JI ?_|refine JJ ?_|refine JK ?_|refine JL ?_|refine JM ?_|refine CW.skip (PW.code ?_)|refine RW.nil (PW.code ?_))
        refine RW.add rfl rfl (w64 (by omega) (by omega)) rfl ?_
        repeat (first|refine Ja ?_|refine Jb ?_|refine Jc ?_|refine Jd ?_|refine Je ?_|refine Jf ?_|refine Jg ?_|refine Jh ?_|refine Ji ?_|refine Jj ?_|refine Jk ?_|refine Jl ?_|refine Jm ?_|refine Jn ?_|refine Jo ?_|refine Jp ?_|refine Jq ?_|refine Jr ?_|refine Js ?_|refine Jt ?_|refine Ju ?_|refine Jv ?_|refine Jw ?_|refine Jx ?_|refine Jy ?_|refine Jz ?_|refine JA ?_|refine JB ?_|refine JC ?_|refine JD ?_|refine JE ?_|refine JF ?_|refine JG ?_|refine JH ?_|refine JI ?_|refine JJ ?_|refine JK ?_|refine JL ?_|refine JM ?_|refine CW.skip (PW.code ?_)|refine RW.nil (PW.code ?_))
        refine RW.nil ?_
        refine PW.again ⟨j + 1, hjl'⟩ ⟨rfl, rfl, rfl, rfl, rfl, rfl, rfl, rfl, rfl, rfl, trivial⟩ (fun h => h) (by show x9.args.length - (j + 1) < x9.args.length - j; omega)
      · refine CW.exit rfl ?_
        refine PW.code ?_
        refine CW.region ?_
        repeat (first|refine Ja ?_|refine Jb ?_|refine Jc ?_|refine Jd ?_|refine Je ?_|refine Jf ?_|refine Jg ?_|refine Jh ?_|refine Ji ?_|refine Jj ?_|refine Jk ?_|refine Jl ?_|refine Jm ?_|refine Jn ?_|refine Jo ?_|refine Jp ?_|refine Jq ?_|refine Jr ?_|refine Js ?_|refine Jt ?_|refine Ju ?_|refine Jv ?_|refine Jw ?_|refine Jx ?_|refine Jy ?_|refine Jz ?_|refine JA ?_|refine JB ?_|refine JC ?_|refine JD ?_|refine JE ?_|refine JF ?_|refine JG ?_|refine JH ?_|refine JI ?_|refine JJ ?_|refine JK ?_|refine JL ?_|refine JM ?_|refine CW.skip (PW.code ?_)|refine RW.nil (PW.code ?_))
        refine RW.add rfl rfl (w64 (by omega) (by omega)) rfl ?_
        repeat (first|refine Ja ?_|refine Jb ?_|refine Jc ?_|refine Jd ?_|refine Je ?_|refine Jf ?_|refine Jg ?_|refine Jh ?_|refine Ji ?_|refine Jj ?_|refine Jk ?_|refine Jl ?_|refine Jm ?_|refine Jn ?_|refine Jo ?_|refine Jp ?_|refine Jq ?_|refine Jr ?_|refine Js ?_|refine Jt ?_|refine Ju ?_|refine Jv ?_|refine Jw ?_|refine Jx ?_|refine Jy ?_|refine Jz ?_|refine JA ?_|refine JB ?_|refine JC ?_|refine JD ?_|refine JE ?_|refine JF ?_|refine JG ?_|refine JH ?_|refine JI ?_|refine JJ ?_|refine JK ?_|refine JL ?_|refine JM ?_|refine CW.skip (PW.code ?_)|refine RW.nil (PW.code ?_))
        refine RW.nil ?_
        refine PW.again ⟨i + 1, hlt'⟩ ⟨rfl, rfl, rfl, rfl, rfl, rfl, rfl, rfl, rfl, trivial⟩ (fun h => h) (by show ms.length - (i + 1) < ms.length - i; omega)
    refine CW.exit rfl ?_
    refine PW.code ?_
    refine CW.region ?_
    repeat (first|refine Ja ?_|refine Jb ?_|refine Jc ?_|refine Jd ?_|refine Je ?_|refine Jf ?_|refine Jg ?_|refine Jh ?_|refine Ji ?_|refine Jj ?_|refine Jk ?_|refine Jl ?_|refine Jm ?_|refine Jn ?_|refine Jo ?_|refine Jp ?_|refine Jq ?_|refine Jr ?_|refine Js ?_|refine Jt ?_|refine Ju ?_|refine Jv ?_|refine Jw ?_|refine Jx ?_|refine Jy ?_|refine Jz ?_|refine JA ?_|refine JB ?_|refine JC ?_|refine JD ?_|refine JE ?_|refine JF ?_|refine JG ?_|refine JH ?_|refine JI ?_|refine JJ ?_|refine JK ?_|refine JL ?_|refine JM ?_|refine CW.skip (PW.code ?_)|refine RW.nil (PW.code ?_))
    refine RW.add rfl rfl (w64 (by omega) (by omega)) rfl ?_
    repeat (first|refine Ja ?_|refine Jb ?_|refine Jc ?_|refine Jd ?_|refine Je ?_|refine Jf ?_|refine Jg ?_|refine Jh ?_|refine Ji ?_|refine Jj ?_|refine Jk ?_|refine Jl ?_|refine Jm ?_|refine Jn ?_|refine Jo ?_|refine Jp ?_|refine Jq ?_|refine Jr ?_|refine Js ?_|refine Jt ?_|refine Ju ?_|refine Jv ?_|refine Jw ?_|refine Jx ?_|refine Jy ?_|refine Jz ?_|refine JA ?_|refine JB ?_|refine JC ?_|refine JD ?_|refine JE ?_|refine JF ?_|refine JG ?_|refine JH ?_|refine JI ?_|refine JJ ?_|refine JK ?_|refine JL ?_|refine JM ?_|refine CW.skip (PW.code ?_)|refine RW.nil (PW.code ?_))
    refine RW.nil ?_
    refine PW.againT ⟨m + 1, hml'⟩ [2, 3, 4, 5, 6, 7] ⟨rfl, rfl, rfl, rfl, rfl, rfl, rfl, trivial⟩ rfl (by show ls.length - (m + 1) < ls.length - m; omega)
  · refine CW.exit rfl ?_
    refine PW.code ?_
    repeat (first|refine Ja ?_|refine Jb ?_|refine Jc ?_|refine Jd ?_|refine Je ?_|refine Jf ?_|refine Jg ?_|refine Jh ?_|refine Ji ?_|refine Jj ?_|refine Jk ?_|refine Jl ?_|refine Jm ?_|refine Jn ?_|refine Jo ?_|refine Jp ?_|refine Jq ?_|refine Jr ?_|refine Js ?_|refine Jt ?_|refine Ju ?_|refine Jv ?_|refine Jw ?_|refine Jx ?_|refine Jy ?_|refine Jz ?_|refine JA ?_|refine JB ?_|refine JC ?_|refine JD ?_|refine JE ?_|refine JF ?_|refine JG ?_|refine JH ?_|refine JI ?_|refine JJ ?_|refine JK ?_|refine JL ?_|refine JM ?_|refine CW.skip (PW.code ?_)|refine RW.nil (PW.code ?_))
    refine RW.call Try.call15 rfl (fun w2 hw2 => sameLits_ret (N := mem w2 Any) (ls := C) (Mem.le_refl _) (own_at (pre := [_, _]) (t := kLit) hw2 rfl (rds_at (pre := [_, _, _]) hw2) (by rw [List.length_map, reach_eq]; omega)) (own_at (pre := [_, _, _, _]) (t := kLit) hw2 rfl (rds_at (pre := [_, _, _, _, _]) hw2) (by rw [List.length_map, reach_eq]; omega))) rfl ?_
    repeat (first|refine Ja ?_|refine Jb ?_|refine Jc ?_|refine Jd ?_|refine Je ?_|refine Jf ?_|refine Jg ?_|refine Jh ?_|refine Ji ?_|refine Jj ?_|refine Jk ?_|refine Jl ?_|refine Jm ?_|refine Jn ?_|refine Jo ?_|refine Jp ?_|refine Jq ?_|refine Jr ?_|refine Js ?_|refine Jt ?_|refine Ju ?_|refine Jv ?_|refine Jw ?_|refine Jx ?_|refine Jy ?_|refine Jz ?_|refine JA ?_|refine JB ?_|refine JC ?_|refine JD ?_|refine JE ?_|refine JF ?_|refine JG ?_|refine JH ?_|refine JI ?_|refine JJ ?_|refine JK ?_|refine JL ?_|refine JM ?_|refine CW.skip (PW.code ?_)|refine RW.nil (PW.code ?_))
    refine RW.call Try.call15 rfl (fun w2 hw2 => sameLits_ret (N := mem w2 Any) (ls := ls) (Mem.le_refl _) (own_at (pre := []) (t := kLit) hw2 rfl (rds_at (pre := [_]) hw2) (by rw [List.length_map]; exact hszr)) (hls.mono (Mem.le_trans hN (hle hw2)))) rfl ?_
    repeat (first|refine Ja ?_|refine Jb ?_|refine Jc ?_|refine Jd ?_|refine Je ?_|refine Jf ?_|refine Jg ?_|refine Jh ?_|refine Ji ?_|refine Jj ?_|refine Jk ?_|refine Jl ?_|refine Jm ?_|refine Jn ?_|refine Jo ?_|refine Jp ?_|refine Jq ?_|refine Jr ?_|refine Js ?_|refine Jt ?_|refine Ju ?_|refine Jv ?_|refine Jw ?_|refine Jx ?_|refine Jy ?_|refine Jz ?_|refine JA ?_|refine JB ?_|refine JC ?_|refine JD ?_|refine JE ?_|refine JF ?_|refine JG ?_|refine JH ?_|refine JI ?_|refine JJ ?_|refine JK ?_|refine JL ?_|refine JM ?_|refine CW.skip (PW.code ?_)|refine RW.nil (PW.code ?_))
    refine CW.ret1 rfl Try.results4 rfl rfl fun w hw => ⟨rfl, hw.kp⟩
end Go.Proofs.Ytoknohnodlaimaa
