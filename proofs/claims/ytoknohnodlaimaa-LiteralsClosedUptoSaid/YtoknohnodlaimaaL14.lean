/- slices.IndexFunc, ContainsFunc of literals; literals.Close, by the calculus. -/
import Derived.Test.YtoknohnodlaimaaL13
set_option linter.unusedVariables false
set_option linter.unusedSimpArgs false
set_option maxRecDepth 10000
namespace Go.Proofs.Ytoknohnodlaimaa
open Go Go.RowKit

attribute [local irreducible] RW CW
theorem indexLit_ret {N : Mem} {A : Option Addr} {c : Nat} {ls : List LitD} {w : World} {g : FuncId} {caps : List Value} {p : LitD → Bool} (hN : Mem.le N (mem w Any)) (h : Rd kLits N [.slice A ls.length c] (ls.map litV)) (hcall : ∀ args w, (callFunc g args).run Try.prog w = .ok (.enter g args) w)
    (hp : ∀ w', Keeps No w w' → ∀ x ∈ ls, ∀ cs, Rd kLit N cs (litV x) → Ret Try.prog g ([.agg cs.toArray] ++ caps) w' (.bool (p x))) : Ret Try.prog 39 [.slice A ls.length c, .func (.func g) #[] caps.toArray] w (.int .i64 (idxD p ls)) := by
  obtain ⟨A', c', he, _, _, h4, hx⟩ := Rd.lits h
  cases he
  clear h
  have hl : ls.length ≤ reach := by omega
  unfold reach at hl
  refine Calls.enter Try.func39 rfl _ rfl rfl (S := No) (H := []) trivial ?_
  repeat (first|refine Ja ?_|refine Jb ?_|refine Jc ?_|refine Jd ?_|refine Je ?_|refine Jf ?_|refine Jg ?_|refine Jh ?_|refine Ji ?_|refine Jj ?_|refine Jk ?_|refine Jl ?_|refine Jm ?_|refine Jn ?_|refine Jo ?_|refine Jp ?_|refine Jq ?_|refine Jr ?_|refine Js ?_|refine Jt ?_|refine Ju ?_|refine Jv ?_|refine Jw ?_|refine Jx ?_|refine Jy ?_|refine Jz ?_|refine JA ?_|refine JB ?_|refine JC ?_|refine JD ?_|refine JE ?_|refine JF ?_|refine JG ?_|refine JH ?_|refine JI ?_|refine JJ ?_|refine JK ?_|refine JL ?_|refine JM ?_|refine CW.skip (PW.code ?_)|refine RW.nil (PW.code ?_))
  refine CW.seq ?_
  repeat (first|refine Ja ?_|refine Jb ?_|refine Jc ?_|refine Jd ?_|refine Je ?_|refine Jf ?_|refine Jg ?_|refine Jh ?_|refine Ji ?_|refine Jj ?_|refine Jk ?_|refine Jl ?_|refine Jm ?_|refine Jn ?_|refine Jo ?_|refine Jp ?_|refine Jq ?_|refine Jr ?_|refine Js ?_|refine Jt ?_|refine Ju ?_|refine Jv ?_|refine Jw ?_|refine Jx ?_|refine Jy ?_|refine Jz ?_|refine JA ?_|refine JB ?_|refine JC ?_|refine JD ?_|refine JE ?_|refine JF ?_|refine JG ?_|refine JH ?_|refine JI ?_|refine JJ ?_|refine JK ?_|refine JL ?_|refine JM ?_|refine CW.skip (PW.code ?_)|refine RW.nil (PW.code ?_))
  refine CW.block ?_
  refine CW.loop (ι := { k : Nat // k ≤ ls.length ∧ ∀ (i : Nat) (hi : i < k) (hl : i < ls.length), p ls[i] = false }) (fun k => [(0, .slice A ls.length c), (1, .func (.func g) #[] caps.toArray), (7, .int .i64 ls.length), (8, .int .i64 k.1)]) (fun _ => []) (fun k => ls.length - k.1) ⟨0, Nat.zero_le _, fun i hi => absurd hi (by omega)⟩ ⟨rfl, rfl, rfl, rfl, trivial⟩ (fun h => h) ?_
  intro ⟨k, hk, ho⟩
  dsimp only
  repeat (first|refine Ja ?_|refine Jb ?_|refine Jc ?_|refine Jd ?_|refine Je ?_|refine Jf ?_|refine Jg ?_|refine Jh ?_|refine Ji ?_|refine Jj ?_|refine Jk ?_|refine Jl ?_|refine Jm ?_|refine Jn ?_|refine Jo ?_|refine Jp ?_|refine Jq ?_|refine Jr ?_|refine Js ?_|refine Jt ?_|refine Ju ?_|refine Jv ?_|refine Jw ?_|refine Jx ?_|refine Jy ?_|refine Jz ?_|refine JA ?_|refine JB ?_|refine JC ?_|refine JD ?_|refine JE ?_|refine JF ?_|refine JG ?_|refine JH ?_|refine JI ?_|refine JJ ?_|refine JK ?_|refine JL ?_|refine JM ?_|refine CW.skip (PW.code ?_)|refine RW.nil (PW.code ?_))
  refine CW.seq ?_
  refine CW.ite rfl (fun hlt => ?_) (fun hge => ?_)
  · have hlt' : k < ls.length := by simpa using hlt
    obtain ⟨B1, O1, es1, rfl, hl1, hr, hm⟩ := hx k ls[k] (List.getElem?_eq_getElem hlt')
    repeat (first|refine Ja ?_|refine Jb ?_|refine Jc ?_|refine Jd ?_|refine Je ?_|refine Jf ?_|refine Jg ?_|refine Jh ?_|refine Ji ?_|refine Jj ?_|refine Jk ?_|refine Jl ?_|refine Jm ?_|refine Jn ?_|refine Jo ?_|refine Jp ?_|refine Jq ?_|refine Jr ?_|refine Js ?_|refine Jt ?_|refine Ju ?_|refine Jv ?_|refine Jw ?_|refine Jx ?_|refine Jy ?_|refine Jz ?_|refine JA ?_|refine JB ?_|refine JC ?_|refine JD ?_|refine JE ?_|refine JF ?_|refine JG ?_|refine JH ?_|refine JI ?_|refine JJ ?_|refine JK ?_|refine JL ?_|refine JM ?_|refine CW.skip (PW.code ?_)|refine RW.nil (PW.code ?_))
    refine CW.seq ?_
    refine CW.block ?_
    repeat (first|refine Ja ?_|refine Jb ?_|refine Jc ?_|refine Jd ?_|refine Je ?_|refine Jf ?_|refine Jg ?_|refine Jh ?_|refine Ji ?_|refine Jj ?_|refine Jk ?_|refine Jl ?_|refine Jm ?_|refine Jn ?_|refine Jo ?_|refine Jp ?_|refine Jq ?_|refine Jr ?_|refine Js ?_|refine Jt ?_|refine Ju ?_|refine Jv ?_|refine Jw ?_|refine Jx ?_|refine Jy ?_|refine Jz ?_|refine JA ?_|refine JB ?_|refine JC ?_|refine JD ?_|refine JE ?_|refine JF ?_|refine JG ?_|refine JH ?_|refine JI ?_|refine JJ ?_|refine JK ?_|refine JL ?_|refine JM ?_|refine CW.skip (PW.code ?_)|refine RW.nil (PW.code ?_))
    refine RW.indexAddr rfl rfl (by omega) hlt rfl ?_
    refine RW.load_ros rfl (Mem.le_trans hN any_ro) hm rfl hl1 (by omega) rfl ?_
    refine RW.callv hcall rfl rfl (fun w hw => hp w hw.kp _ (List.getElem_mem hlt') es1 hr) rfl ?_
    repeat (first|refine Ja ?_|refine Jb ?_|refine Jc ?_|refine Jd ?_|refine Je ?_|refine Jf ?_|refine Jg ?_|refine Jh ?_|refine Ji ?_|refine Jj ?_|refine Jk ?_|refine Jl ?_|refine Jm ?_|refine Jn ?_|refine Jo ?_|refine Jp ?_|refine Jq ?_|refine Jr ?_|refine Js ?_|refine Jt ?_|refine Ju ?_|refine Jv ?_|refine Jw ?_|refine Jx ?_|refine Jy ?_|refine Jz ?_|refine JA ?_|refine JB ?_|refine JC ?_|refine JD ?_|refine JE ?_|refine JF ?_|refine JG ?_|refine JH ?_|refine JI ?_|refine JJ ?_|refine JK ?_|refine JL ?_|refine JM ?_|refine CW.skip (PW.code ?_)|refine RW.nil (PW.code ?_))
    refine CW.cond rfl (fun ht => ?_) (fun hf => ?_)
    · repeat (first|refine Ja ?_|refine Jb ?_|refine Jc ?_|refine Jd ?_|refine Je ?_|refine Jf ?_|refine Jg ?_|refine Jh ?_|refine Ji ?_|refine Jj ?_|refine Jk ?_|refine Jl ?_|refine Jm ?_|refine Jn ?_|refine Jo ?_|refine Jp ?_|refine Jq ?_|refine Jr ?_|refine Js ?_|refine Jt ?_|refine Ju ?_|refine Jv ?_|refine Jw ?_|refine Jx ?_|refine Jy ?_|refine Jz ?_|refine JA ?_|refine JB ?_|refine JC ?_|refine JD ?_|refine JE ?_|refine JF ?_|refine JG ?_|refine JH ?_|refine JI ?_|refine JJ ?_|refine JK ?_|refine JL ?_|refine JM ?_|refine CW.skip (PW.code ?_)|refine RW.nil (PW.code ?_))
      refine CW.ret1 rfl Try.results39 rfl rfl fun w hw => ⟨?_, hw.kp⟩
      rw [idxD_some hlt' (fun i hi => ho i hi (by omega)) ht]
    · refine CW.skip ?_
      refine PW.code ?_
      refine CW.region ?_
      refine RW.add rfl rfl (w64 (by omega) (by omega)) rfl ?_
      repeat (first|refine Ja ?_|refine Jb ?_|refine Jc ?_|refine Jd ?_|refine Je ?_|refine Jf ?_|refine Jg ?_|refine Jh ?_|refine Ji ?_|refine Jj ?_|refine Jk ?_|refine Jl ?_|refine Jm ?_|refine Jn ?_|refine Jo ?_|refine Jp ?_|refine Jq ?_|refine Jr ?_|refine Js ?_|refine Jt ?_|refine Ju ?_|refine Jv ?_|refine Jw ?_|refine Jx ?_|refine Jy ?_|refine Jz ?_|refine JA ?_|refine JB ?_|refine JC ?_|refine JD ?_|refine JE ?_|refine JF ?_|refine JG ?_|refine JH ?_|refine JI ?_|refine JJ ?_|refine JK ?_|refine JL ?_|refine JM ?_|refine CW.skip (PW.code ?_)|refine RW.nil (PW.code ?_))
      refine RW.nil ?_
      refine PW.again ⟨k + 1, hlt', fun i hi hl => ?_⟩ ⟨rfl, rfl, rfl, rfl, trivial⟩ (fun h => h) (by show ls.length - (k + 1) < ls.length - k; omega)
      rcases Nat.lt_or_ge i k with h | h
      · exact ho i h hl
      · have : i = k := by omega
        subst this
        exact hf
  · refine CW.exit rfl ?_
    refine PW.code ?_
    repeat (first|refine Ja ?_|refine Jb ?_|refine Jc ?_|refine Jd ?_|refine Je ?_|refine Jf ?_|refine Jg ?_|refine Jh ?_|refine Ji ?_|refine Jj ?_|refine Jk ?_|refine Jl ?_|refine Jm ?_|refine Jn ?_|refine Jo ?_|refine Jp ?_|refine Jq ?_|refine Jr ?_|refine Js ?_|refine Jt ?_|refine Ju ?_|refine Jv ?_|refine Jw ?_|refine Jx ?_|refine Jy ?_|refine Jz ?_|refine JA ?_|refine JB ?_|refine JC ?_|refine JD ?_|refine JE ?_|refine JF ?_|refine JG ?_|refine JH ?_|refine JI ?_|refine JJ ?_|refine JK ?_|refine JL ?_|refine JM ?_|refine CW.skip (PW.code ?_)|refine RW.nil (PW.code ?_))
    refine CW.ret1 rfl Try.results39 rfl rfl fun w hw => ⟨?_, hw.kp⟩
    have hge' : ls.length ≤ k := by simpa using hge
    rw [idxD_none (fun x hx => by
      obtain ⟨i, hi, rfl⟩ := List.mem_iff_getElem.1 hx
      exact ho i (by omega) hi)]
theorem containsLit_ret {N : Mem} {A : Option Addr} {c : Nat} {ls : List LitD} {w : World} {g : FuncId} {caps : List Value} {p : LitD → Bool} (hN : Mem.le N (mem w Any)) (h : Rd kLits N [.slice A ls.length c] (ls.map litV)) (hcall : ∀ args w, (callFunc g args).run Try.prog w = .ok (.enter g args) w)
    (hp : ∀ w', Keeps No w w' → ∀ x ∈ ls, ∀ cs, Rd kLit N cs (litV x) → Ret Try.prog g ([.agg cs.toArray] ++ caps) w' (.bool (p x))) : Ret Try.prog 29 [.slice A ls.length c, .func (.func g) #[] caps.toArray] w (.bool (ls.any p)) := by
  refine Calls.enter Try.func29 rfl _ rfl rfl (S := No) (H := []) trivial ?_
  repeat (first|refine Ja ?_|refine Jb ?_|refine Jc ?_|refine Jd ?_|refine Je ?_|refine Jf ?_|refine Jg ?_|refine Jh ?_|refine Ji ?_|refine Jj ?_|refine Jk ?_|refine Jl ?_|refine Jm ?_|refine Jn ?_|refine Jo ?_|refine Jp ?_|refine Jq ?_|refine Jr ?_|refine Js ?_|refine Jt ?_|refine Ju ?_|refine Jv ?_|refine Jw ?_|refine Jx ?_|refine Jy ?_|refine Jz ?_|refine JA ?_|refine JB ?_|refine JC ?_|refine JD ?_|refine JE ?_|refine JF ?_|refine JG ?_|refine JH ?_|refine JI ?_|refine JJ ?_|refine JK ?_|refine JL ?_|refine JM ?_|refine CW.skip (PW.code ?_)|refine RW.nil (PW.code ?_))
  refine RW.call Try.call39 rfl (fun w' hw => indexLit_ret (Mem.le_trans hN (Mem.le_trans any_ro (ro_le' hw))) h hcall (fun w2 hk => hp w2 (hw.kp.trans hk (fun _ hb => hb.elim)))) rfl ?_
  repeat (first|refine Ja ?_|refine Jb ?_|refine Jc ?_|refine Jd ?_|refine Je ?_|refine Jf ?_|refine Jg ?_|refine Jh ?_|refine Ji ?_|refine Jj ?_|refine Jk ?_|refine Jl ?_|refine Jm ?_|refine Jn ?_|refine Jo ?_|refine Jp ?_|refine Jq ?_|refine Jr ?_|refine Js ?_|refine Jt ?_|refine Ju ?_|refine Jv ?_|refine Jw ?_|refine Jx ?_|refine Jy ?_|refine Jz ?_|refine JA ?_|refine JB ?_|refine JC ?_|refine JD ?_|refine JE ?_|refine JF ?_|refine JG ?_|refine JH ?_|refine JI ?_|refine JJ ?_|refine JK ?_|refine JL ?_|refine JM ?_|refine CW.skip (PW.code ?_)|refine RW.nil (PW.code ?_))
  rw [any_idxD]
  refine CW.ret1 rfl Try.results29 rfl rfl fun w hw => ⟨rfl, hw.kp⟩
theorem wrong_ret {M N : Mem} {A : Option Addr} {c : Nat} {ps : List kPred.V} {l : LitD} {cs : List Value} {w : World} (B : Nat) (hM : Mem.le M (mem w Any)) (hN : Mem.le N (mem w Any)) (hps : Rd kPreds N [.slice A ps.length c] ps) (h : Rd kLit M cs (litV l)) (hc : w.cell? ⟨B, 0, none⟩ = some (.slice A ps.length c)) :
    Ret Try.prog 30 [.agg cs.toArray, .pointer (some ⟨B, 0, none⟩)] w (.bool (!rightD (ps.map predOf) (-1) l)) := by
  have hlit := h
  obtain ⟨A2, c2, rfl, hargs, hi1, hi2, hi3⟩ := Rd.lit h
  rw [litOf_V] at *
  clear h
  have hle : ∀ {H : List HP} {w2 : World}, St w No H w2 → Mem.le (mem w Any) (mem w2 Any) := fun hw2 => Mem.le_trans (any_ro (N := 0) (ds := [])) (ro_le' (E := ⟨0, [], w, No⟩) hw2)
  unfold LitD.V at *
  refine Calls.enter Try.func30 rfl _ rfl rfl (S := No) (H := []) trivial ?_
  refine CW.seqR ?_
  refine RW.box_agg rfl rfl fun b5 _ => ?_
  repeat (first|refine Ja ?_|refine Jb ?_|refine Jc ?_|refine Jd ?_|refine Je ?_|refine Jf ?_|refine Jg ?_|refine Jh ?_|refine Ji ?_|refine Jj ?_|refine Jk ?_|refine Jl ?_|refine Jm ?_|refine Jn ?_|refine Jo ?_|refine Jp ?_|refine Jq ?_|refine Jr ?_|refine Js ?_|refine Jt ?_|refine Ju ?_|refine Jv ?_|refine Jw ?_|refine Jx ?_|refine Jy ?_|refine Jz ?_|refine JA ?_|refine JB ?_|refine JC ?_|refine JD ?_|refine JE ?_|refine JF ?_|refine JG ?_|refine JH ?_|refine JI ?_|refine JJ ?_|refine JK ?_|refine JL ?_|refine JM ?_|refine CW.skip (PW.code ?_)|refine RW.nil (PW.code ?_))
  refine RW.load_old rfl hc (fun k => k) rfl rfl ?_
  repeat (first|refine Ja ?_|refine Jb ?_|refine Jc ?_|refine Jd ?_|refine Je ?_|refine Jf ?_|refine Jg ?_|refine Jh ?_|refine Ji ?_|refine Jj ?_|refine Jk ?_|refine Jl ?_|refine Jm ?_|refine Jn ?_|refine Jo ?_|refine Jp ?_|refine Jq ?_|refine Jr ?_|refine Js ?_|refine Jt ?_|refine Ju ?_|refine Jv ?_|refine Jw ?_|refine Jx ?_|refine Jy ?_|refine Jz ?_|refine JA ?_|refine JB ?_|refine JC ?_|refine JD ?_|refine JE ?_|refine JF ?_|refine JG ?_|refine JH ?_|refine JI ?_|refine JJ ?_|refine JK ?_|refine JL ?_|refine JM ?_|refine CW.skip (PW.code ?_)|refine RW.nil (PW.code ?_))
  refine RW.call Try.call31 rfl (fun w2 hw2 => right_ret (x := litV l) (-1) (Mem.le_trans hM (hle hw2)) (Mem.le_trans hN (hle hw2)) hps hlit) rfl ?_
  repeat (first|refine Ja ?_|refine Jb ?_|refine Jc ?_|refine Jd ?_|refine Je ?_|refine Jf ?_|refine Jg ?_|refine Jh ?_|refine Ji ?_|refine Jj ?_|refine Jk ?_|refine Jl ?_|refine Jm ?_|refine Jn ?_|refine Jo ?_|refine Jp ?_|refine Jq ?_|refine Jr ?_|refine Js ?_|refine Jt ?_|refine Ju ?_|refine Jv ?_|refine Jw ?_|refine Jx ?_|refine Jy ?_|refine Jz ?_|refine JA ?_|refine JB ?_|refine JC ?_|refine JD ?_|refine JE ?_|refine JF ?_|refine JG ?_|refine JH ?_|refine JI ?_|refine JJ ?_|refine JK ?_|refine JL ?_|refine JM ?_|refine CW.skip (PW.code ?_)|refine RW.nil (PW.code ?_))
  refine CW.ret1 rfl Try.results30 rfl rfl fun w hw => ⟨rfl, hw.kp⟩
def closeAll (preds : List PredD) (cl : List Int) (x : LitD) : List LitD := [x] ++ (if x.guard = 0 then (MatesD preds cl x).1 else [])
def addAll : List LitD → List LitD → Option (List LitD)
  | [], o => some o
  | y :: r, o => if 4096 < (addD o y).length then none else addAll r (addD o y)
def closeGo (preds : List PredD) (cl : List Int) : List LitD → List LitD → Option (List LitD)
  | [], o => some o
  | x :: r, o => match addAll (closeAll preds cl x) o with
    | none => none
    | some o' => closeGo preds cl r o'
def closeD (preds : List PredD) (cl : List Int) (ls : List LitD) : List LitD × Int :=
  if ¬ cl.length = preds.length then ([], 1) else if ls.any (fun x => !rightD preds (-1) x) then ([], 91) else match closeGo preds cl ls [] with
    | none => ([], 112)
    | some o => (o, 0)
theorem foldl_len' {α β : Type} {f : List β → α → List β} (h : ∀ o a, (f o a).length ≤ o.length + 1) (xs : List α) (o : List β) : (xs.foldl f o).length ≤ o.length + xs.length := by
  induction xs generalizing o with
  | nil => simp
  | cons x xs ih =>
    rw [List.foldl_cons, List.length_cons]
    have := ih (f o x)
    have := h o x
    omega
theorem matesD_len (preds : List PredD) (cl : List Int) (l : LitD) (n : Nat) (hn : ∀ p ∈ preds, p.vals.length ≤ n) : (matesD preds cl l).length ≤ 1 + n + preds.length := by
  unfold matesD
  split
  · simp; omega
  · split
    · simp; omega
    · rename_i p hp
      have h1 := foldl_len' (putP_len preds cl l p) (List.range preds.length) (p.vals.foldl (putV l) [(compD l).1])
      have h2 := foldl_len' (putV_len l) p.vals [(compD l).1]
      have h3 := hn p (List.mem_of_getElem? hp)
      simp only [List.length_range, List.length_singleton] at h1 h2
      omega
theorem MatesD_len (preds : List PredD) (cl : List Int) (l : LitD) (n : Nat) (hn : ∀ p ∈ preds, p.vals.length ≤ n) : (MatesD preds cl l).1.length ≤ 1 + n + preds.length := by
  unfold MatesD
  split
  · simp
  · split
    · simp
    · split
      · show (matesD (plainOf preds l) cl l).length ≤ _
        have hl : (plainOf preds l).length = preds.length := by
          unfold plainOf
          split
          · rfl
          · split
            · rw [List.length_set]
            · rfl
        rw [← hl]
        refine matesD_len _ _ _ _ fun p hp => ?_
        unfold plainOf at hp
        split at hp
        · exact hn p hp
        · rename_i q hq
          split at hp
          · rcases List.mem_or_eq_of_mem_set hp with hp | rfl
            · exact hn p hp
            · exact Nat.zero_le _
          · exact hn p hp
      · simp
theorem litsH_nil {w0 w : World} (h : Keeps No w0 w) : St w0 No (litsH (.slice none 0 0) [] []) w := ⟨h, No, fun b hb => hb.elim, .inl ⟨rfl, rfl⟩, No, fun b hb => hb.elim, All2.nil, trivial⟩
theorem addAll_bound : ∀ {all o o' : List LitD}, o.length ≤ 4096 → addAll all o = some o' → o'.length ≤ 4096 := by
  intro all
  induction all with
  | nil => intro o o' h h2; cases h2; exact h
  | cons y r ih =>
    intro o o' h h2
    rw [addAll] at h2
    split at h2
    · cases h2
    · exact ih (by omega) h2
end Go.Proofs.Ytoknohnodlaimaa
