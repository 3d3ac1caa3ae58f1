/- slices.BinarySearchFunc, slices.Insert, literals.add, by the calculus. -/
import Derived.Test.YtoknohnodlaimaaL6
import Derived.Lib.Overlaps
set_option linter.unusedVariables false
set_option linter.unusedSimpArgs false
set_option maxRecDepth 10000
namespace Go.Proofs.Ytoknohnodlaimaa
open Go Go.RowKit

attribute [local irreducible] RW CW
abbrev kLits : K := .sl 56 kLit
theorem Rd.lits {M : Mem} {cs : List Value} {ls : List LitD} (h : Rd kLits M cs (ls.map litV)) : ∃ A c, cs = [.slice A ls.length c] ∧ ls.length ≤ c ∧ c ≤ maxN ∧ ls.length * 56 ≤ reach ∧ ∀ (i : Nat) (l : LitD), ls[i]? = some l → ∃ B O es, A = some ⟨B, O, none⟩ ∧ es.length = 5 ∧ Rd kLit M es (litV l) ∧ ∀ (j : Nat) (v : Value), es[j]? = some v → M B (O + i * 5 + j) v := by
  obtain ⟨A, c, h1, h2, h3, h4, h5⟩ := h
  rw [List.length_map] at h1 h2 h4
  refine ⟨A, c, h1, h2, h3, h4, fun i l hi => ?_⟩
  obtain ⟨B, O, es, hA, hl, hR, hc⟩ := h5.get (i := i) (x := litV l) (by rw [List.getElem?_map, hi]; rfl)
  exact ⟨B, O, es, hA, hl, hR, hc⟩
theorem fdiv2 (n : Nat) : ((n : Int)).fdiv 2 = ((n / 2 : Nat) : Int) := by
  rw [Int.fdiv_eq_ediv_of_nonneg _ (by omega)]
  omega
def bsGo (p : Nat → Bool) : Nat → Nat → Nat → Nat
  | 0, i, _ => i
  | f + 1, i, j => if i < j then (if p ((i + j) / 2) then bsGo p f ((i + j) / 2 + 1) j else bsGo p f i ((i + j) / 2)) else i
def lessAt (ls : List LitD) (x : LitD) (h : Nat) : Bool := match ls[h]? with
  | some y => decide (cmpLit y x < 0)
  | none => false
def bsD (ls : List LitD) (x : LitD) : Nat := bsGo (lessAt ls x) ls.length 0 ls.length
def foundD (ls : List LitD) (x : LitD) : Bool := match ls[bsD ls x]? with
  | some y => decide (cmpLit y x = 0)
  | none => false
theorem bsGo_le (p : Nat → Bool) : ∀ (f i j : Nat), i ≤ j → bsGo p f i j ≤ j
  | 0, i, j, h => h
  | f + 1, i, j, h => by
    unfold bsGo
    split
    · split
      · exact bsGo_le p f _ _ (by omega)
      · have := bsGo_le p f i ((i + j) / 2) (by omega)
        omega
    · exact h
theorem bsD_le (ls : List LitD) (x : LitD) : bsD ls x ≤ ls.length := bsGo_le _ _ _ _ (Nat.zero_le _)
set_option maxHeartbeats 1000000 in
theorem bs_ret {M N : Mem} {A : Option Addr} {c : Nat} {ls : List LitD} {x : LitD} {cs : List Value} {w : World} (hM : Mem.le M (mem w Any)) (hN : Mem.le N (mem w Any)) (hls : Rd kLits N [.slice A ls.length c] (ls.map litV)) (h : Rd kLit M cs (litV x)) :
    Ret Try.prog 49 [.slice A ls.length c, .agg cs.toArray, .func (.func 8) #[] #[]] w (.tuple #[.int .i64 (bsD ls x), .bool (foundD ls x)]) := by
  have hlit := h
  obtain ⟨A', c', he, _, _, h4, hx⟩ := Rd.lits hls
  cases he
  have hl : ls.length ≤ reach := by omega
  unfold reach at hl
  obtain ⟨A2, c2, rfl, _⟩ := Rd.lit h
  rw [litOf_V] at *
  clear h
  unfold LitD.V at *
  have cmpOK : ∀ (w2 : World) (es : List Value) (y : LitD), Keeps No w w2 → Rd kLit N es (litV y) → Ret Try.prog 8 ([.agg es.toArray, .agg #[.bool x.neg, .int .i64 x.pred, .slice A2 x.args.length c2, .int .i64 x.value, .int .i64 x.guard]] ++ []) w2 (.int .i64 (cmpLit y x)) := fun w2 es y hk hr => by
    have hle : Mem.le (mem w Any) (mem w2 Any) := Mem.le_trans (fun B O v k => (⟨⟨fun z => z, k.1.2⟩, k.2⟩ : mem w (fun b => ¬ No b) B O v)) (Mem.le_trans (mem_keeps hk) (mem_up (fun _ _ => trivial)))
    exact litCompare_ret (x := litV y) (y := litV x) (Mem.le_refl _) (hr.mono (Mem.le_trans hN hle)) (hlit.mono (Mem.le_trans hM hle))
  refine Calls.enter Try.func49 rfl _ rfl rfl (S := No) (H := []) trivial ?_
  refine CW.seqR ?_
  refine RW.box_agg rfl rfl fun b1 _ => ?_
  repeat (first|refine Ja ?_|refine Jb ?_|refine Jc ?_|refine Jd ?_|refine Je ?_|refine Jf ?_|refine Jg ?_|refine Jh ?_|refine Ji ?_|refine Jj ?_|refine Jk ?_|refine Jl ?_|refine Jm ?_|refine Jn ?_|refine Jo ?_|refine Jp ?_|refine Jq ?_|refine Jr ?_|refine Js ?_|refine Jt ?_|refine Ju ?_|refine Jv ?_|refine Jw ?_|refine Jx ?_|refine Jy ?_|refine Jz ?_|refine JA ?_|refine JB ?_|refine JC ?_|refine JD ?_|refine JE ?_|refine JF ?_|refine JG ?_|refine JH ?_|refine JI ?_|refine JJ ?_|refine JK ?_|refine JL ?_|refine JM ?_|refine CW.skip (PW.code ?_)|refine RW.nil (PW.code ?_))
  refine CW.seq ?_
  refine CW.block ?_
  refine CW.loop (ι := { q : Nat × Nat × Nat // q.1 ≤ q.2.1 ∧ q.2.1 ≤ ls.length ∧ q.2.1 - q.1 ≤ q.2.2 ∧ bsD ls x = bsGo (lessAt ls x) q.2.2 q.1 q.2.1 })
    (fun q => [(0, .slice A ls.length c), (2, .func (.func 8) #[] #[]), (4, .pointer (some ⟨b1, 0, none⟩)), (8, .int .i64 ls.length), (9, .int .i64 q.1.1), (10, .int .i64 q.1.2.1)])
    (fun _ => [blk b1 [.bool x.neg, .int .i64 x.pred, .slice A2 x.args.length c2, .int .i64 x.value, .int .i64 x.guard] 27]) (fun q => q.1.2.1 - q.1.1) ⟨(0, ls.length, ls.length), Nat.zero_le _, Nat.le_refl _, Nat.le_refl _, rfl⟩ ⟨rfl, rfl, rfl, rfl, rfl, rfl, trivial⟩ (fun h => h) ?_
  intro ⟨(i, j, f), hij, hjn, hf, ho⟩
  dsimp only
  replace hij : i ≤ j := hij
  replace hjn : j ≤ ls.length := hjn
  replace hf : j - i ≤ f := hf
  replace ho : bsD ls x = bsGo (lessAt ls x) f i j := ho
  refine CW.seq ?_
  repeat (first|refine Ja ?_|refine Jb ?_|refine Jc ?_|refine Jd ?_|refine Je ?_|refine Jf ?_|refine Jg ?_|refine Jh ?_|refine Ji ?_|refine Jj ?_|refine Jk ?_|refine Jl ?_|refine Jm ?_|refine Jn ?_|refine Jo ?_|refine Jp ?_|refine Jq ?_|refine Jr ?_|refine Js ?_|refine Jt ?_|refine Ju ?_|refine Jv ?_|refine Jw ?_|refine Jx ?_|refine Jy ?_|refine Jz ?_|refine JA ?_|refine JB ?_|refine JC ?_|refine JD ?_|refine JE ?_|refine JF ?_|refine JG ?_|refine JH ?_|refine JI ?_|refine JJ ?_|refine JK ?_|refine JL ?_|refine JM ?_|refine CW.skip (PW.code ?_)|refine RW.nil (PW.code ?_))
  refine CW.ite rfl (fun hlt => ?_) (fun hge => ?_)
  · have hlt' : i < j := by omega
    have hsum : ((i : Int) + (j : Int)) = ((i + j : Nat) : Int) := by omega
    obtain ⟨f', rfl⟩ : ∃ f', f = f' + 1 := ⟨f - 1, by omega⟩
    have hmid : (i + j) / 2 < ls.length := by omega
    obtain ⟨B, O, es, rfl, hes, hR, hm⟩ := hx ((i + j) / 2) ls[(i + j) / 2] (List.getElem?_eq_getElem hmid)
    have hless : lessAt ls x ((i + j) / 2) = decide (cmpLit ls[(i + j) / 2] x < 0) := by rw [lessAt, List.getElem?_eq_getElem hmid]
    repeat (first|refine Ja ?_|refine Jb ?_|refine Jc ?_|refine Jd ?_|refine Je ?_|refine Jf ?_|refine Jg ?_|refine Jh ?_|refine Ji ?_|refine Jj ?_|refine Jk ?_|refine Jl ?_|refine Jm ?_|refine Jn ?_|refine Jo ?_|refine Jp ?_|refine Jq ?_|refine Jr ?_|refine Js ?_|refine Jt ?_|refine Ju ?_|refine Jv ?_|refine Jw ?_|refine Jx ?_|refine Jy ?_|refine Jz ?_|refine JA ?_|refine JB ?_|refine JC ?_|refine JD ?_|refine JE ?_|refine JF ?_|refine JG ?_|refine JH ?_|refine JI ?_|refine JJ ?_|refine JK ?_|refine JL ?_|refine JM ?_|refine CW.skip (PW.code ?_)|refine RW.nil (PW.code ?_))
    refine CW.block ?_
    repeat (first|refine Ja ?_|refine Jb ?_|refine Jc ?_|refine Jd ?_|refine Je ?_|refine Jf ?_|refine Jg ?_|refine Jh ?_|refine Ji ?_|refine Jj ?_|refine Jk ?_|refine Jl ?_|refine Jm ?_|refine Jn ?_|refine Jo ?_|refine Jp ?_|refine Jq ?_|refine Jr ?_|refine Js ?_|refine Jt ?_|refine Ju ?_|refine Jv ?_|refine Jw ?_|refine Jx ?_|refine Jy ?_|refine Jz ?_|refine JA ?_|refine JB ?_|refine JC ?_|refine JD ?_|refine JE ?_|refine JF ?_|refine JG ?_|refine JH ?_|refine JI ?_|refine JJ ?_|refine JK ?_|refine JL ?_|refine JM ?_|refine CW.skip (PW.code ?_)|refine RW.nil (PW.code ?_))
    refine RW.add rfl rfl (w64 (by omega) (by omega)) rfl ?_
    refine RW.conv rfl (IntWalk.u64_in _ (by omega)) rfl ?_
    rw [hsum]
    refine RW.shr1 rfl rfl (fdiv2 _) rfl ?_
    refine RW.conv rfl (w64 (by omega) (by omega)) rfl ?_
    repeat (first|refine Ja ?_|refine Jb ?_|refine Jc ?_|refine Jd ?_|refine Je ?_|refine Jf ?_|refine Jg ?_|refine Jh ?_|refine Ji ?_|refine Jj ?_|refine Jk ?_|refine Jl ?_|refine Jm ?_|refine Jn ?_|refine Jo ?_|refine Jp ?_|refine Jq ?_|refine Jr ?_|refine Js ?_|refine Jt ?_|refine Ju ?_|refine Jv ?_|refine Jw ?_|refine Jx ?_|refine Jy ?_|refine Jz ?_|refine JA ?_|refine JB ?_|refine JC ?_|refine JD ?_|refine JE ?_|refine JF ?_|refine JG ?_|refine JH ?_|refine JI ?_|refine JJ ?_|refine JK ?_|refine JL ?_|refine JM ?_|refine CW.skip (PW.code ?_)|refine RW.nil (PW.code ?_))
    refine CW.seqA (by kernel_rfl) rfl ?_
    repeat (apply AW.val rfl; · intro Gx X; (first | refine RW.yes rfl ?_ | skip); (first|refine Jc ?_|refine Jd ?_|refine Je ?_|refine Jg ?_|refine Jh ?_|refine Ji ?_|refine Jj ?_|refine Jk ?_|refine Jl ?_|refine Jm ?_|refine Jn ?_|refine Jo ?_|refine Jp ?_|refine Jq ?_|refine Jr ?_|refine Js ?_|refine Jt ?_|refine Ju ?_|refine Jv ?_|refine Jw ?_|refine Jx ?_|refine Jz ?_|refine JA ?_|refine JB ?_|refine JC ?_|refine JD ?_|refine JE ?_|refine JF ?_|refine JG ?_|refine JH ?_|refine JI ?_|refine JJ ?_|refine JK ?_|refine JL ?_); exact RW.done rfl)
    (apply AW.val rfl; · intro Gx X; (first | refine RW.yes rfl ?_ | skip); refine RW.indexAddr rfl rfl (by omega) (by omega) rfl ?_; exact RW.done rfl)
    (apply AW.val rfl; · intro Gx X; (first | refine RW.yes rfl ?_ | skip); refine RW.load_ros rfl (Mem.le_trans hN any_ro) hm rfl hes (by omega) rfl ?_; exact RW.done rfl)
    repeat (apply AW.val rfl; · intro Gx X; (first | refine RW.yes rfl ?_ | skip); (first|refine Jc ?_|refine Jd ?_|refine Je ?_|refine Jg ?_|refine Jh ?_|refine Ji ?_|refine Jj ?_|refine Jk ?_|refine Jl ?_|refine Jm ?_|refine Jn ?_|refine Jo ?_|refine Jp ?_|refine Jq ?_|refine Jr ?_|refine Js ?_|refine Jt ?_|refine Ju ?_|refine Jv ?_|refine Jw ?_|refine Jx ?_|refine Jz ?_|refine JA ?_|refine JB ?_|refine JC ?_|refine JD ?_|refine JE ?_|refine JF ?_|refine JG ?_|refine JH ?_|refine JI ?_|refine JJ ?_|refine JK ?_|refine JL ?_); exact RW.done rfl)
    (apply AW.val rfl; · intro Gx X; (first | refine RW.yes rfl ?_ | skip); refine RW.callv Try.call8 rfl rfl (fun w2 hw2 => cmpOK w2 es _ hw2.kp hR) rfl ?_; exact RW.done rfl)
    repeat (apply AW.val rfl; · intro Gx X; (first | refine RW.yes rfl ?_ | skip); (first|refine Jc ?_|refine Jd ?_|refine Je ?_|refine Jg ?_|refine Jh ?_|refine Ji ?_|refine Jj ?_|refine Jk ?_|refine Jl ?_|refine Jm ?_|refine Jn ?_|refine Jo ?_|refine Jp ?_|refine Jq ?_|refine Jr ?_|refine Js ?_|refine Jt ?_|refine Ju ?_|refine Jv ?_|refine Jw ?_|refine Jx ?_|refine Jz ?_|refine JA ?_|refine JB ?_|refine JC ?_|refine JD ?_|refine JE ?_|refine JF ?_|refine JG ?_|refine JH ?_|refine JI ?_|refine JJ ?_|refine JK ?_|refine JL ?_); exact RW.done rfl)
    refine AW.stop (by kernel_rfl) (by kernel_rfl) fun bs => ?_
    repeat (first|refine Ja ?_|refine Jb ?_|refine Jc ?_|refine Jd ?_|refine Je ?_|refine Jf ?_|refine Jg ?_|refine Jh ?_|refine Ji ?_|refine Jj ?_|refine Jk ?_|refine Jl ?_|refine Jm ?_|refine Jn ?_|refine Jo ?_|refine Jp ?_|refine Jq ?_|refine Jr ?_|refine Js ?_|refine Jt ?_|refine Ju ?_|refine Jv ?_|refine Jw ?_|refine Jx ?_|refine Jy ?_|refine Jz ?_|refine JA ?_|refine JB ?_|refine JC ?_|refine JD ?_|refine JE ?_|refine JF ?_|refine JG ?_|refine JH ?_|refine JI ?_|refine JJ ?_|refine JK ?_|refine JL ?_|refine JM ?_|refine CW.skip (PW.code ?_)|refine RW.nil (PW.code ?_))
    refine CW.ite rfl (fun hc => ?_) (fun hc => ?_)
    · refine CW.region ?_
      repeat (first|refine Ja ?_|refine Jb ?_|refine Jc ?_|refine Jd ?_|refine Je ?_|refine Jf ?_|refine Jg ?_|refine Jh ?_|refine Ji ?_|refine Jj ?_|refine Jk ?_|refine Jl ?_|refine Jm ?_|refine Jn ?_|refine Jo ?_|refine Jp ?_|refine Jq ?_|refine Jr ?_|refine Js ?_|refine Jt ?_|refine Ju ?_|refine Jv ?_|refine Jw ?_|refine Jx ?_|refine Jy ?_|refine Jz ?_|refine JA ?_|refine JB ?_|refine JC ?_|refine JD ?_|refine JE ?_|refine JF ?_|refine JG ?_|refine JH ?_|refine JI ?_|refine JJ ?_|refine JK ?_|refine JL ?_|refine JM ?_|refine CW.skip (PW.code ?_)|refine RW.nil (PW.code ?_))
      refine RW.add (c := (((i + j) / 2 + 1 : Nat) : Int)) rfl rfl (by rw [w64 (by omega) (by omega)]; omega) rfl ?_
      repeat (first|refine Ja ?_|refine Jb ?_|refine Jc ?_|refine Jd ?_|refine Je ?_|refine Jf ?_|refine Jg ?_|refine Jh ?_|refine Ji ?_|refine Jj ?_|refine Jk ?_|refine Jl ?_|refine Jm ?_|refine Jn ?_|refine Jo ?_|refine Jp ?_|refine Jq ?_|refine Jr ?_|refine Js ?_|refine Jt ?_|refine Ju ?_|refine Jv ?_|refine Jw ?_|refine Jx ?_|refine Jy ?_|refine Jz ?_|refine JA ?_|refine JB ?_|refine JC ?_|refine JD ?_|refine JE ?_|refine JF ?_|refine JG ?_|refine JH ?_|refine JI ?_|refine JJ ?_|refine JK ?_|refine JL ?_|refine JM ?_|refine CW.skip (PW.code ?_)|refine RW.nil (PW.code ?_))
      refine RW.nil ?_
      refine PW.again ⟨((i + j) / 2 + 1, j, f'), by dsimp only; omega, hjn, by dsimp only; omega, ?_⟩ ⟨rfl, rfl, rfl, rfl, rfl, rfl, trivial⟩ (fun h => h) (by dsimp only; omega)
      rw [ho, bsGo, if_pos hlt', hless, if_pos (decide_eq_true hc)]
    · refine CW.region ?_
      repeat (first|refine Ja ?_|refine Jb ?_|refine Jc ?_|refine Jd ?_|refine Je ?_|refine Jf ?_|refine Jg ?_|refine Jh ?_|refine Ji ?_|refine Jj ?_|refine Jk ?_|refine Jl ?_|refine Jm ?_|refine Jn ?_|refine Jo ?_|refine Jp ?_|refine Jq ?_|refine Jr ?_|refine Js ?_|refine Jt ?_|refine Ju ?_|refine Jv ?_|refine Jw ?_|refine Jx ?_|refine Jy ?_|refine Jz ?_|refine JA ?_|refine JB ?_|refine JC ?_|refine JD ?_|refine JE ?_|refine JF ?_|refine JG ?_|refine JH ?_|refine JI ?_|refine JJ ?_|refine JK ?_|refine JL ?_|refine JM ?_|refine CW.skip (PW.code ?_)|refine RW.nil (PW.code ?_))
      refine RW.nil ?_
      refine PW.again ⟨(i, (i + j) / 2, f'), by dsimp only; omega, by dsimp only; omega, by dsimp only; omega, ?_⟩ ⟨rfl, rfl, rfl, rfl, rfl, rfl, trivial⟩ (fun h => h) (by dsimp only; omega)
      rw [ho, bsGo, if_pos hlt', hless, decide_eq_false hc]
      rfl
  · refine CW.exit rfl ?_
    refine PW.code ?_
    have hij' : i = j := by omega
    have hbs : bsD ls x = i := by
      rw [ho]
      cases f with
      | zero => rfl
      | succ f => rw [bsGo, if_neg (by omega)]
    refine CW.seqA (by kernel_rfl) rfl ?_
    repeat (apply AW.val rfl; · intro Gx X; (first | refine RW.yes rfl ?_ | skip); (first|refine Jc ?_|refine Jd ?_|refine Je ?_|refine Jg ?_|refine Jh ?_|refine Ji ?_|refine Jj ?_|refine Jk ?_|refine Jl ?_|refine Jm ?_|refine Jn ?_|refine Jo ?_|refine Jp ?_|refine Jq ?_|refine Jr ?_|refine Js ?_|refine Jt ?_|refine Ju ?_|refine Jv ?_|refine Jw ?_|refine Jx ?_|refine Jz ?_|refine JA ?_|refine JB ?_|refine JC ?_|refine JD ?_|refine JE ?_|refine JF ?_|refine JG ?_|refine JH ?_|refine JI ?_|refine JJ ?_|refine JK ?_|refine JL ?_); exact RW.done rfl)
    by_cases hin : (i : Int) < ls.length
    · rw [decide_eq_true hin]
      have hin' : i < ls.length := by omega
      obtain ⟨B, O, es, rfl, hes, hR, hm⟩ := hx i ls[i] (List.getElem?_eq_getElem hin')
      repeat (apply AW.val rfl; · intro Gx X; (first | refine RW.yes rfl ?_ | skip); (first|refine Jc ?_|refine Jd ?_|refine Je ?_|refine Jg ?_|refine Jh ?_|refine Ji ?_|refine Jj ?_|refine Jk ?_|refine Jl ?_|refine Jm ?_|refine Jn ?_|refine Jo ?_|refine Jp ?_|refine Jq ?_|refine Jr ?_|refine Js ?_|refine Jt ?_|refine Ju ?_|refine Jv ?_|refine Jw ?_|refine Jx ?_|refine Jz ?_|refine JA ?_|refine JB ?_|refine JC ?_|refine JD ?_|refine JE ?_|refine JF ?_|refine JG ?_|refine JH ?_|refine JI ?_|refine JJ ?_|refine JK ?_|refine JL ?_); exact RW.done rfl)
      (apply AW.val rfl; · intro Gx X; (first | refine RW.yes rfl ?_ | skip); refine RW.indexAddr rfl rfl (by omega) (by omega) rfl ?_; exact RW.done rfl)
      (apply AW.val rfl; · intro Gx X; (first | refine RW.yes rfl ?_ | skip); refine RW.load_ros rfl (Mem.le_trans hN any_ro) hm rfl hes (by omega) rfl ?_; exact RW.done rfl)
      repeat (apply AW.val rfl; · intro Gx X; (first | refine RW.yes rfl ?_ | skip); (first|refine Jc ?_|refine Jd ?_|refine Je ?_|refine Jg ?_|refine Jh ?_|refine Ji ?_|refine Jj ?_|refine Jk ?_|refine Jl ?_|refine Jm ?_|refine Jn ?_|refine Jo ?_|refine Jp ?_|refine Jq ?_|refine Jr ?_|refine Js ?_|refine Jt ?_|refine Ju ?_|refine Jv ?_|refine Jw ?_|refine Jx ?_|refine Jz ?_|refine JA ?_|refine JB ?_|refine JC ?_|refine JD ?_|refine JE ?_|refine JF ?_|refine JG ?_|refine JH ?_|refine JI ?_|refine JJ ?_|refine JK ?_|refine JL ?_); exact RW.done rfl)
      (apply AW.val rfl; · intro Gx X; (first | refine RW.yes rfl ?_ | skip); refine RW.callv Try.call8 rfl rfl (fun w2 hw2 => cmpOK w2 es _ hw2.kp hR) rfl ?_; exact RW.done rfl)
      repeat (apply AW.val rfl; · intro Gx X; (first | refine RW.yes rfl ?_ | skip); (first|refine Jc ?_|refine Jd ?_|refine Je ?_|refine Jg ?_|refine Jh ?_|refine Ji ?_|refine Jj ?_|refine Jk ?_|refine Jl ?_|refine Jm ?_|refine Jn ?_|refine Jo ?_|refine Jp ?_|refine Jq ?_|refine Jr ?_|refine Js ?_|refine Jt ?_|refine Ju ?_|refine Jv ?_|refine Jw ?_|refine Jx ?_|refine Jz ?_|refine JA ?_|refine JB ?_|refine JC ?_|refine JD ?_|refine JE ?_|refine JF ?_|refine JG ?_|refine JH ?_|refine JI ?_|refine JJ ?_|refine JK ?_|refine JL ?_); exact RW.done rfl)
      refine AW.stop (by kernel_rfl) (by kernel_rfl) fun bs => ?_
      repeat (first|refine Ja ?_|refine Jb ?_|refine Jc ?_|refine Jd ?_|refine Je ?_|refine Jf ?_|refine Jg ?_|refine Jh ?_|refine Ji ?_|refine Jj ?_|refine Jk ?_|refine Jl ?_|refine Jm ?_|refine Jn ?_|refine Jo ?_|refine Jp ?_|refine Jq ?_|refine Jr ?_|refine Js ?_|refine Jt ?_|refine Ju ?_|refine Jv ?_|refine Jw ?_|refine Jx ?_|refine Jy ?_|refine Jz ?_|refine JA ?_|refine JB ?_|refine JC ?_|refine JD ?_|refine JE ?_|refine JF ?_|refine JG ?_|refine JH ?_|refine JI ?_|refine JJ ?_|refine JK ?_|refine JL ?_|refine JM ?_|refine CW.skip (PW.code ?_)|refine RW.nil (PW.code ?_))
      refine CW.rets (rs := [.tmp 6, .tmp 7]) (vs := [.int .i64 (bsD ls x), .bool (foundD ls x)]) rfl Try.results49 rfl (ResOK.tmp ?_ (ResOK.tmp ?_ ResOK.nil)) fun w hw => ⟨rfl, hw.kp⟩
      · rw [hbs]; rfl
      · rw [foundD, hbs, List.getElem?_eq_getElem hin']; rfl
    · rw [decide_eq_false hin]
      repeat (apply AW.val rfl; · intro Gx X; (first | refine RW.yes rfl ?_ | skip); (first|refine Jc ?_|refine Jd ?_|refine Je ?_|refine Jg ?_|refine Jh ?_|refine Ji ?_|refine Jj ?_|refine Jk ?_|refine Jl ?_|refine Jm ?_|refine Jn ?_|refine Jo ?_|refine Jp ?_|refine Jq ?_|refine Jr ?_|refine Js ?_|refine Jt ?_|refine Ju ?_|refine Jv ?_|refine Jw ?_|refine Jx ?_|refine Jz ?_|refine JA ?_|refine JB ?_|refine JC ?_|refine JD ?_|refine JE ?_|refine JF ?_|refine JG ?_|refine JH ?_|refine JI ?_|refine JJ ?_|refine JK ?_|refine JL ?_); exact RW.done rfl)
      refine AW.stop (by kernel_rfl) (by kernel_rfl) fun bs => ?_
      repeat (first|refine Ja ?_|refine Jb ?_|refine Jc ?_|refine Jd ?_|refine Je ?_|refine Jf ?_|refine Jg ?_|refine Jh ?_|refine Ji ?_|refine Jj ?_|refine Jk ?_|refine Jl ?_|refine Jm ?_|refine Jn ?_|refine Jo ?_|refine Jp ?_|refine Jq ?_|refine Jr ?_|refine Js ?_|refine Jt ?_|refine Ju ?_|refine Jv ?_|refine Jw ?_|refine Jx ?_|refine Jy ?_|refine Jz ?_|refine JA ?_|refine JB ?_|refine JC ?_|refine JD ?_|refine JE ?_|refine JF ?_|refine JG ?_|refine JH ?_|refine JI ?_|refine JJ ?_|refine JK ?_|refine JL ?_|refine JM ?_|refine CW.skip (PW.code ?_)|refine RW.nil (PW.code ?_))
      refine CW.rets (rs := [.tmp 6, .tmp 7]) (vs := [.int .i64 (bsD ls x), .bool (foundD ls x)]) rfl Try.results49 rfl (ResOK.tmp ?_ (ResOK.tmp ?_ ResOK.nil)) fun w hw => ⟨rfl, hw.kp⟩
      · rw [hbs]; rfl
      · rw [foundD, hbs, List.getElem?_eq_none (by omega)]; rfl
/-! ### Insert -/
theorem own_any {w0 w : World} {S : Nat → Prop} {pre r : List HP} {e : TypeId} {sz : Nat} {v : Value} {es : List (List Value)} (h : St w0 S (pre ++ ownHP e sz v es :: r) w) :
    ∃ A c, v = .slice A es.length c ∧ es.length ≤ c ∧ c ≤ maxN ∧ (∀ x ∈ es, x.length = sz) ∧ (es ≠ [] → ∃ B, A = some ⟨B, 0, none⟩) := by
  rcases own_form h with ⟨rfl, rfl⟩ | ⟨B, c, rfl, h1, h2, _, h3⟩
  · exact ⟨none, 0, rfl, Nat.le_refl _, Nat.zero_le _, by simp, fun k => absurd rfl k⟩
  · exact ⟨_, c, rfl, h1, h2, h3, fun _ => ⟨B, rfl⟩⟩
theorem own_dj {w : World} {A : Nat → Prop} {e e' : TypeId} {sz sz' B B' n c n' c' : Nat} {es es' : List (List Value)} {r : List HP} (h : Sep (ownHP e sz (.slice (some ⟨B, 0, none⟩) n c) es :: ownHP e' sz' (.slice (some ⟨B', 0, none⟩) n' c') es' :: r) w A) : B ≠ B' := by
  obtain ⟨F, hF, hp, F2, hF2, hp2, _⟩ := h
  rcases hp with ⟨hp, _⟩ | ⟨b, c1, tl, h1, h2, _⟩
  · cases hp
  · rcases hp2 with ⟨hp2, _⟩ | ⟨b2, c2, tl2, g1, g2, _⟩
    · cases hp2
    · simp only [Value.slice.injEq, Option.some.injEq, Addr.mk.injEq] at h1 g1
      obtain ⟨⟨rfl, _⟩, _, _⟩ := h1
      obtain ⟨⟨rfl, _⟩, _, _⟩ := g1
      intro he
      subst he
      exact (hF2 B g2).1.2 h2
theorem cut_at {B l sz cp : Nat} (h : cp ≠ l) : cutA (some ⟨B, 0, none⟩) l sz cp = some ⟨B, l * sz, none⟩ := by
  rw [cutA, if_neg h]
  simp [add_at]
theorem flat_take {es : List (List Value)} {sz : Nat} (h : ∀ x ∈ es, x.length = sz) (i : Nat) : es.flatten = (es.take i).flatten ++ (es.drop i).flatten := by
  rw [← List.flatten_append, List.take_append_drop]
theorem CellsAt.append_left {w : World} {b o : Nat} {cs ds : List Value} (h : CellsAt w b o (cs ++ ds)) : CellsAt w b o cs := fun i v hv => h i v (by rw [List.getElem?_append_left (List.getElem?_eq_some_iff.1 hv).1]; exact hv)
theorem CellsAt.append_right {w : World} {b o : Nat} {cs ds : List Value} (h : CellsAt w b o (cs ++ ds)) : CellsAt w b (o + cs.length) ds := fun i v hv => by
  have := h (cs.length + i) v (by rw [List.getElem?_append_right (by omega)]; simpa using hv)
  rwa [← Nat.add_assoc] at this
/-- The cells after the two copies of a new row. -/
theorem grown_cells {T D cs tl : List Value} {cap a n : Nat} (hT : T.length = a * 5) (hD : D.length = (n - a) * 5) (hcs : cs.length = 5) (hl : T.length + tl.length = cap * 5) (ha : a < n) (hn : n + 1 ≤ cap) :
    ∃ tl', (((T ++ tl).take (a * 5) ++ cs ++ (T ++ tl).drop (a * 5 + cs.length)).take ((a + 1) * 5) ++ D ++ ((T ++ tl).take (a * 5) ++ cs ++ (T ++ tl).drop (a * 5 + cs.length)).drop ((a + 1) * 5 + D.length)) = T ++ cs ++ D ++ tl' ∧
      (((T ++ tl).take (a * 5) ++ cs ++ (T ++ tl).drop (a * 5 + cs.length)).take ((a + 1) * 5) ++ D ++ ((T ++ tl).take (a * 5) ++ cs ++ (T ++ tl).drop (a * 5 + cs.length)).drop ((a + 1) * 5 + D.length)).length = cap * 5 := by
  have h1 : (T ++ tl).take (a * 5) = T := by rw [← hT, List.take_left]
  rw [h1]
  have h2 : (T ++ cs ++ (T ++ tl).drop (a * 5 + cs.length)).take ((a + 1) * 5) = T ++ cs := by
    rw [show (a + 1) * 5 = (T ++ cs).length from by rw [List.length_append, hT, hcs]; omega, List.take_left]
  rw [h2]
  refine ⟨_, rfl, ?_⟩
  simp only [List.length_append, List.length_drop, hT, hD, hcs] at hl ⊢
  omega
/-- The cells after the two copies in place. -/
theorem shifted_cells {T D cs tl : List Value} {cap a n : Nat} (hT : T.length = a * 5) (hD : D.length = (n - a) * 5) (hcs : cs.length = 5) (hl : (T ++ D ++ tl).length = cap * 5) (ha : a < n) (hn : n + 1 ≤ cap) :
    ∃ tl', (((T ++ D ++ tl).take ((a + 1) * 5) ++ D ++ (T ++ D ++ tl).drop ((a + 1) * 5 + D.length)).take (a * 5) ++ cs ++ ((T ++ D ++ tl).take ((a + 1) * 5) ++ D ++ (T ++ D ++ tl).drop ((a + 1) * 5 + D.length)).drop (a * 5 + cs.length)) = T ++ cs ++ D ++ tl' ∧
      (((T ++ D ++ tl).take ((a + 1) * 5) ++ D ++ (T ++ D ++ tl).drop ((a + 1) * 5 + D.length)).take (a * 5) ++ cs ++ ((T ++ D ++ tl).take ((a + 1) * 5) ++ D ++ (T ++ D ++ tl).drop ((a + 1) * 5 + D.length)).drop (a * 5 + cs.length)).length = cap * 5 := by
  have hX : ((T ++ D ++ tl).take ((a + 1) * 5)).length = (a + 1) * 5 := by
    rw [List.length_take, hl]; omega
  have h1 : ((T ++ D ++ tl).take ((a + 1) * 5) ++ D ++ (T ++ D ++ tl).drop ((a + 1) * 5 + D.length)).take (a * 5) = T := by
    rw [List.append_assoc, List.take_append_of_le_length (by omega), List.take_take, Nat.min_eq_left (by omega), ← hT, List.append_assoc, List.take_left]
  have h2 : ((T ++ D ++ tl).take ((a + 1) * 5) ++ D ++ (T ++ D ++ tl).drop ((a + 1) * 5 + D.length)).drop (a * 5 + cs.length) = D ++ (T ++ D ++ tl).drop ((a + 1) * 5 + D.length) := by
    generalize (T ++ D ++ tl).take ((a + 1) * 5) = X at hX
    generalize (T ++ D ++ tl).drop ((a + 1) * 5 + D.length) = Y
    rw [show a * 5 + cs.length = X.length from by rw [hX, hcs]; omega, List.append_assoc, List.drop_left]
  rw [h1, h2]
  refine ⟨_, by rw [← List.append_assoc], ?_⟩
  simp only [List.length_append, List.length_drop, hT, hD, hcs] at hl ⊢
  omega
end Go.Proofs.Ytoknohnodlaimaa
