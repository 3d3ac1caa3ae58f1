/- literals.Mates, by the calculus. -/
import Derived.Test.YtoknohnodlaimaaL12
set_option linter.unusedVariables false
set_option linter.unusedSimpArgs false
set_option maxRecDepth 10000
namespace Go.Proofs.Ytoknohnodlaimaa
open Go Go.RowKit

attribute [local irreducible] RW CW
def noVals (p : PredD) : PredD := ⟨p.sort, p.kinds, []⟩
def plainOf (preds : List PredD) (l : LitD) : List PredD := match preds[l.pred.toNat]? with
  | none => preds
  | some p => if ¬ p.sort = 3 ∧ 0 < p.vals.length then preds.set l.pred.toNat (noVals p) else preds
def MatesD (preds : List PredD) (cl : List Int) (l : LitD) : List LitD × Int :=
  if ¬ cl.length = preds.length then ([], 1) else if ¬ l.guard = 0 then ([], 91) else if rightD preds (-1) l then (matesD (plainOf preds l) cl l, 0) else ([], 91)
/-- One cell of one element exchanged. -/
theorem flatten_set {sz : Nat} {v : Value} {j : Nat} : ∀ {es : List (List Value)} {i : Nat} (hs : ∀ x ∈ es, x.length = sz) (hj : j < sz) {x : List Value} (hx : es[i]? = some x), (es.set i (x.set j v)).flatten = es.flatten.set (i * sz + j) v := by
  intro es
  induction es with
  | nil => intro i _ _ x hx; simp at hx
  | cons y es ih =>
    intro i hs hj x hx
    have hy : y.length = sz := hs y (by simp)
    cases i with
    | zero =>
      simp only [List.getElem?_cons_zero, Option.some.injEq] at hx
      subst hx
      rw [List.set_cons_zero, List.flatten_cons, List.flatten_cons, Nat.zero_mul, Nat.zero_add, List.set_append_left _ _ (by omega)]
    | succ i =>
      rw [List.set_cons_succ, List.flatten_cons, List.flatten_cons, ih (fun z hz => hs z (by simp [hz])) hj (by simpa using hx), Nat.add_mul, Nat.one_mul, List.set_append_right _ _ (by omega)]
      congr 2
      omega
theorem All2.set {α β : Type} {R : α → β → Prop} {xs : List α} {ys : List β} {x : α} {y : β} (h : All2 R xs ys) (hx : R x y) (i : Nat) : All2 R (xs.set i x) (ys.set i y) := by
  obtain ⟨hl, hr⟩ := h
  refine ⟨by simp [hl], fun j a b ha hb => ?_⟩
  rw [List.getElem?_set] at ha hb
  by_cases hij : i = j
  · subst hij
    rw [if_pos rfl] at ha hb
    split at ha
    · rw [if_pos (by omega)] at hb
      cases ha; cases hb
      exact hx
    · cases ha
  · rw [if_neg hij] at ha hb
    exact hr j a b ha hb
def noValsV (p : kPred.V) : kPred.V := (p.1, p.2.1, p.2.2.1, ([] : List Int))
theorem rd_noVals {M : Mem} {cs : List Value} {x : kPred.V} (h : Rd kPred M cs x) : Rd kPred M (cs.set 3 (.slice none 0 0)) (noValsV x) := by
  obtain ⟨c1, c2, rfl, h1, c3, c4, rfl, ⟨rfl, h3⟩, c5, c6, rfl, h5, h6⟩ := h
  obtain ⟨rfl, h1⟩ := h1
  have h5' := h5
  obtain ⟨A, c, rfl, _⟩ := h5
  obtain ⟨B, d, rfl, hr⟩ := h6
  exact ⟨_, _, rfl, ⟨rfl, h1⟩, _, _, rfl, ⟨rfl, h3⟩, _, _, rfl, h5', none, 0, rfl, Nat.le_refl _, Nat.zero_le _, by show 0 * _ ≤ reach; omega, RowAt.nil⟩
theorem noVals_bound {ps : List kPred.V} {i : Nat} (hi : i < ps.length) (hb : ∀ p ∈ ps, (ps.length + (predOf p).vals.length + 2) * 56 ≤ reach) : ∀ p ∈ ps.set i (noValsV ps[i]), ((ps.set i (noValsV ps[i])).length + (predOf p).vals.length + 2) * 56 ≤ reach := fun x hx => by
  rw [List.length_set]
  rcases List.mem_or_eq_of_mem_set hx with hx | rfl
  · exact hb x hx
  · have h1 := hb _ (List.getElem_mem hi)
    have h2 : (predOf (noValsV ps[i])).vals.length = 0 := rfl
    rw [h2]
    exact Nat.le_trans (Nat.mul_le_mul_right 56 (by omega)) h1
theorem rightD_pred {preds : List PredD} {m : Int} {l : LitD} (h : rightD preds m l = true) (hg : l.guard = 0) : 0 ≤ l.pred ∧ l.pred.toNat < preds.length := by
  rw [rightD, if_neg (by simp [hg])] at h
  by_cases h1 : l.pred < 0
  · rw [if_pos h1] at h; cases h
  · rw [if_neg h1] at h
    refine ⟨by omega, ?_⟩
    cases hp : preds[l.pred.toNat]? with
    | none => rw [hp] at h; cases h
    | some p => exact (List.getElem?_eq_some_iff.1 hp).1
set_option maxHeartbeats 4000000 in
theorem Mates_ret {M N : Mem} {A B : Option Addr} {c d : Nat} {ps : List kPred.V} {cl : List Int} {l : LitD} {cs : List Value} {w : World} (hM : Mem.le M (mem w Any)) (hN : Mem.le N (mem w Any)) (hps : Rd kPreds N [.slice A ps.length c] ps) (hcl : Rd kInts N [.slice B cl.length d] cl) (h : Rd kLit M cs (litV l))
    (hb : ∀ p ∈ ps, (ps.length + (predOf p).vals.length + 2) * 56 ≤ reach) :
    RetC Try.prog 14 [.slice A ps.length c, .slice B cl.length d, .agg cs.toArray] w No (fun y : Value × List (List Value) => .tuple #[y.1, .int .i64 (MatesD (ps.map predOf) cl l).2]) (fun y => litsH y.1 y.2 (MatesD (ps.map predOf) cl l).1) := by
  have hlit := h
  obtain ⟨A2, c2, rfl, hargs, hi1, hi2, hi3⟩ := Rd.lit h
  rw [litOf_V] at *
  clear h
  have hle : ∀ {H : List HP} {w2 : World}, St w No H w2 → Mem.le (mem w Any) (mem w2 Any) := fun hw2 => Mem.le_trans (any_ro (N := 0) (ds := [])) (ro_le' (E := ⟨0, [], w, No⟩) hw2)
  unfold LitD.V at *
  refine Calls.enter Try.func14 rfl _ rfl rfl (S := No) (H := []) trivial ?_
  refine CW.seqR ?_
  refine RW.box_agg rfl rfl fun b5 _ => ?_
  repeat (first|refine Ja ?_|refine Jb ?_|refine Jc ?_|refine Jd ?_|refine Je ?_|refine Jf ?_|refine Jg ?_|refine Jh ?_|refine Ji ?_|refine Jj ?_|refine Jk ?_|refine Jl ?_|refine Jm ?_|refine Jn ?_|refine Jo ?_|refine Jp ?_|refine Jq ?_|refine Jr ?_|refine Js ?_|refine Jt ?_|refine Ju ?_|refine Jv ?_|refine Jw ?_|refine Jx ?_|refine Jy ?_|refine Jz ?_|refine JA ?_|refine JB ?_|refine JC ?_|refine JD ?_|refine JE ?_|refine JF ?_|refine JG ?_|refine JH ?_|refine JI ?_|refine JJ ?_|refine JK ?_|refine JL ?_|refine JM ?_|refine CW.skip (PW.code ?_)|refine RW.nil (PW.code ?_))
  refine CW.seq ?_
  refine CW.block ?_
  repeat (first|refine Ja ?_|refine Jb ?_|refine Jc ?_|refine Jd ?_|refine Je ?_|refine Jf ?_|refine Jg ?_|refine Jh ?_|refine Ji ?_|refine Jj ?_|refine Jk ?_|refine Jl ?_|refine Jm ?_|refine Jn ?_|refine Jo ?_|refine Jp ?_|refine Jq ?_|refine Jr ?_|refine Js ?_|refine Jt ?_|refine Ju ?_|refine Jv ?_|refine Jw ?_|refine Jx ?_|refine Jy ?_|refine Jz ?_|refine JA ?_|refine JB ?_|refine JC ?_|refine JD ?_|refine JE ?_|refine JF ?_|refine JG ?_|refine JH ?_|refine JI ?_|refine JJ ?_|refine JK ?_|refine JL ?_|refine JM ?_|refine CW.skip (PW.code ?_)|refine RW.nil (PW.code ?_))
  have empty : ∀ w2, St w No [blk b5 [.bool l.neg, .int .i64 l.pred, .slice A2 l.args.length c2, .int .i64 l.value, .int .i64 l.guard] 27] w2 → St w No (litsH (.slice none 0 0) [] []) w2 := fun w2 hw => ⟨hw.kp, No, fun b hb => hb.elim, .inl ⟨rfl, rfl⟩, No, fun b hb => hb.elim, All2.nil, trivial⟩
  refine CW.ite rfl (fun h1 => ?_) (fun h1 => ?_)
  · repeat (first|refine Ja ?_|refine Jb ?_|refine Jc ?_|refine Jd ?_|refine Je ?_|refine Jf ?_|refine Jg ?_|refine Jh ?_|refine Ji ?_|refine Jj ?_|refine Jk ?_|refine Jl ?_|refine Jm ?_|refine Jn ?_|refine Jo ?_|refine Jp ?_|refine Jq ?_|refine Jr ?_|refine Js ?_|refine Jt ?_|refine Ju ?_|refine Jv ?_|refine Jw ?_|refine Jx ?_|refine Jy ?_|refine Jz ?_|refine JA ?_|refine JB ?_|refine JC ?_|refine JD ?_|refine JE ?_|refine JF ?_|refine JG ?_|refine JH ?_|refine JI ?_|refine JJ ?_|refine JK ?_|refine JL ?_|refine JM ?_|refine CW.skip (PW.code ?_)|refine RW.nil (PW.code ?_))
    refine CW.rets (rs := [.tmp 6, .tmp 7]) (vs := [_, _]) rfl Try.results14 rfl (ResOK.tmp rfl (ResOK.tmp rfl ResOK.nil)) fun w hw => ⟨(.slice none 0 0, []), ?_, ?_⟩
    · rw [MatesD, if_pos (by simp; omega)]; rfl
    · rw [MatesD, if_pos (by simp; omega)]; exact empty _ hw
  have hlen : cl.length = ps.length := by omega
  repeat (first|refine Ja ?_|refine Jb ?_|refine Jc ?_|refine Jd ?_|refine Je ?_|refine Jf ?_|refine Jg ?_|refine Jh ?_|refine Ji ?_|refine Jj ?_|refine Jk ?_|refine Jl ?_|refine Jm ?_|refine Jn ?_|refine Jo ?_|refine Jp ?_|refine Jq ?_|refine Jr ?_|refine Js ?_|refine Jt ?_|refine Ju ?_|refine Jv ?_|refine Jw ?_|refine Jx ?_|refine Jy ?_|refine Jz ?_|refine JA ?_|refine JB ?_|refine JC ?_|refine JD ?_|refine JE ?_|refine JF ?_|refine JG ?_|refine JH ?_|refine JI ?_|refine JJ ?_|refine JK ?_|refine JL ?_|refine JM ?_|refine CW.skip (PW.code ?_)|refine RW.nil (PW.code ?_))
  refine RW.splitD 19 rfl (fun h2 => ?_) (fun h2 => ?_)
  · repeat (first|refine Ja ?_|refine Jb ?_|refine Jc ?_|refine Jd ?_|refine Je ?_|refine Jf ?_|refine Jg ?_|refine Jh ?_|refine Ji ?_|refine Jj ?_|refine Jk ?_|refine Jl ?_|refine Jm ?_|refine Jn ?_|refine Jo ?_|refine Jp ?_|refine Jq ?_|refine Jr ?_|refine Js ?_|refine Jt ?_|refine Ju ?_|refine Jv ?_|refine Jw ?_|refine Jx ?_|refine Jy ?_|refine Jz ?_|refine JA ?_|refine JB ?_|refine JC ?_|refine JD ?_|refine JE ?_|refine JF ?_|refine JG ?_|refine JH ?_|refine JI ?_|refine JJ ?_|refine JK ?_|refine JL ?_|refine JM ?_|refine CW.skip (PW.code ?_)|refine RW.nil (PW.code ?_))
    refine CW.ct rfl ?_
    repeat (first|refine Ja ?_|refine Jb ?_|refine Jc ?_|refine Jd ?_|refine Je ?_|refine Jf ?_|refine Jg ?_|refine Jh ?_|refine Ji ?_|refine Jj ?_|refine Jk ?_|refine Jl ?_|refine Jm ?_|refine Jn ?_|refine Jo ?_|refine Jp ?_|refine Jq ?_|refine Jr ?_|refine Js ?_|refine Jt ?_|refine Ju ?_|refine Jv ?_|refine Jw ?_|refine Jx ?_|refine Jy ?_|refine Jz ?_|refine JA ?_|refine JB ?_|refine JC ?_|refine JD ?_|refine JE ?_|refine JF ?_|refine JG ?_|refine JH ?_|refine JI ?_|refine JJ ?_|refine JK ?_|refine JL ?_|refine JM ?_|refine CW.skip (PW.code ?_)|refine RW.nil (PW.code ?_))
    refine CW.rets (rs := [.tmp 6, .tmp 7]) (vs := [_, _]) rfl Try.results14 rfl (ResOK.tmp rfl (ResOK.tmp rfl ResOK.nil)) fun w hw => ⟨(.slice none 0 0, []), ?_, ?_⟩
    · rw [MatesD, if_neg (by simp; omega), if_pos h2]; rfl
    · rw [MatesD, if_neg (by simp; omega), if_pos h2]; exact empty _ hw
  repeat (first|refine Ja ?_|refine Jb ?_|refine Jc ?_|refine Jd ?_|refine Je ?_|refine Jf ?_|refine Jg ?_|refine Jh ?_|refine Ji ?_|refine Jj ?_|refine Jk ?_|refine Jl ?_|refine Jm ?_|refine Jn ?_|refine Jo ?_|refine Jp ?_|refine Jq ?_|refine Jr ?_|refine Js ?_|refine Jt ?_|refine Ju ?_|refine Jv ?_|refine Jw ?_|refine Jx ?_|refine Jy ?_|refine Jz ?_|refine JA ?_|refine JB ?_|refine JC ?_|refine JD ?_|refine JE ?_|refine JF ?_|refine JG ?_|refine JH ?_|refine JI ?_|refine JJ ?_|refine JK ?_|refine JL ?_|refine JM ?_|refine CW.skip (PW.code ?_)|refine RW.nil (PW.code ?_))
  refine RW.call Try.call31 rfl (fun w2 hw2 => right_ret (x := litV l) (-1) (Mem.le_trans hM (hle hw2)) (Mem.le_trans hN (hle hw2)) hps hlit) rfl ?_
  repeat (first|refine Ja ?_|refine Jb ?_|refine Jc ?_|refine Jd ?_|refine Je ?_|refine Jf ?_|refine Jg ?_|refine Jh ?_|refine Ji ?_|refine Jj ?_|refine Jk ?_|refine Jl ?_|refine Jm ?_|refine Jn ?_|refine Jo ?_|refine Jp ?_|refine Jq ?_|refine Jr ?_|refine Js ?_|refine Jt ?_|refine Ju ?_|refine Jv ?_|refine Jw ?_|refine Jx ?_|refine Jy ?_|refine Jz ?_|refine JA ?_|refine JB ?_|refine JC ?_|refine JD ?_|refine JE ?_|refine JF ?_|refine JG ?_|refine JH ?_|refine JI ?_|refine JJ ?_|refine JK ?_|refine JL ?_|refine JM ?_|refine CW.skip (PW.code ?_)|refine RW.nil (PW.code ?_))
  refine CW.cond rfl (fun h3 => ?_) (fun h3 => ?_)
  · repeat (first|refine Ja ?_|refine Jb ?_|refine Jc ?_|refine Jd ?_|refine Je ?_|refine Jf ?_|refine Jg ?_|refine Jh ?_|refine Ji ?_|refine Jj ?_|refine Jk ?_|refine Jl ?_|refine Jm ?_|refine Jn ?_|refine Jo ?_|refine Jp ?_|refine Jq ?_|refine Jr ?_|refine Js ?_|refine Jt ?_|refine Ju ?_|refine Jv ?_|refine Jw ?_|refine Jx ?_|refine Jy ?_|refine Jz ?_|refine JA ?_|refine JB ?_|refine JC ?_|refine JD ?_|refine JE ?_|refine JF ?_|refine JG ?_|refine JH ?_|refine JI ?_|refine JJ ?_|refine JK ?_|refine JL ?_|refine JM ?_|refine CW.skip (PW.code ?_)|refine RW.nil (PW.code ?_))
    have h3' : ¬ rightD (ps.map predOf) (-1) l = true := by simpa using h3
    refine CW.rets (rs := [.tmp 6, .tmp 7]) (vs := [_, _]) rfl Try.results14 rfl (ResOK.tmp rfl (ResOK.tmp rfl ResOK.nil)) fun w hw => ⟨(.slice none 0 0, []), ?_, ?_⟩
    · rw [MatesD, if_neg (by simp; omega), if_neg h2, if_neg h3']; rfl
    · rw [MatesD, if_neg (by simp; omega), if_neg h2, if_neg h3']; exact empty _ hw
  have h2' : l.guard = 0 := Classical.not_not.1 h2
  have h3' : rightD (ps.map predOf) (-1) l = true := by simpa using h3
  obtain ⟨hp0, hp1⟩ := rightD_pred h3' h2'
  rw [List.length_map] at hp1
  obtain ⟨A', c', he, _, _, hsz, hp⟩ := Rd.preds hps
  cases he
  obtain ⟨PB, PO, pn, PA1, pc1, PA2, pc2, rfl, hvals, _, hpm⟩ := hp l.pred.toNat ps[l.pred.toNat] (List.getElem?_eq_getElem hp1)
  have hpm' : (ps.map predOf)[l.pred.toNat]? = some (predOf ps[l.pred.toNat]) := by
    rw [List.getElem?_map, List.getElem?_eq_getElem hp1]; rfl
  generalize hpd : predOf ps[l.pred.toNat] = p at *
  repeat (first|refine Ja ?_|refine Jb ?_|refine Jc ?_|refine Jd ?_|refine Je ?_|refine Jf ?_|refine Jg ?_|refine Jh ?_|refine Ji ?_|refine Jj ?_|refine Jk ?_|refine Jl ?_|refine Jm ?_|refine Jn ?_|refine Jo ?_|refine Jp ?_|refine Jq ?_|refine Jr ?_|refine Js ?_|refine Jt ?_|refine Ju ?_|refine Jv ?_|refine Jw ?_|refine Jx ?_|refine Jy ?_|refine Jz ?_|refine JA ?_|refine JB ?_|refine JC ?_|refine JD ?_|refine JE ?_|refine JF ?_|refine JG ?_|refine JH ?_|refine JI ?_|refine JJ ?_|refine JK ?_|refine JL ?_|refine JM ?_|refine CW.skip (PW.code ?_)|refine RW.nil (PW.code ?_))
  refine CW.seq ?_
  repeat (first|refine Ja ?_|refine Jb ?_|refine Jc ?_|refine Jd ?_|refine Je ?_|refine Jf ?_|refine Jg ?_|refine Jh ?_|refine Ji ?_|refine Jj ?_|refine Jk ?_|refine Jl ?_|refine Jm ?_|refine Jn ?_|refine Jo ?_|refine Jp ?_|refine Jq ?_|refine Jr ?_|refine Js ?_|refine Jt ?_|refine Ju ?_|refine Jv ?_|refine Jw ?_|refine Jx ?_|refine Jy ?_|refine Jz ?_|refine JA ?_|refine JB ?_|refine JC ?_|refine JD ?_|refine JE ?_|refine JF ?_|refine JG ?_|refine JH ?_|refine JI ?_|refine JJ ?_|refine JK ?_|refine JL ?_|refine JM ?_|refine CW.skip (PW.code ?_)|refine RW.nil (PW.code ?_))
  refine RW.indexAddr rfl rfl hp0 (by omega) rfl ?_
  repeat (first|refine Ja ?_|refine Jb ?_|refine Jc ?_|refine Jd ?_|refine Je ?_|refine Jf ?_|refine Jg ?_|refine Jh ?_|refine Ji ?_|refine Jj ?_|refine Jk ?_|refine Jl ?_|refine Jm ?_|refine Jn ?_|refine Jo ?_|refine Jp ?_|refine Jq ?_|refine Jr ?_|refine Js ?_|refine Jt ?_|refine Ju ?_|refine Jv ?_|refine Jw ?_|refine Jx ?_|refine Jy ?_|refine Jz ?_|refine JA ?_|refine JB ?_|refine JC ?_|refine JD ?_|refine JE ?_|refine JF ?_|refine JG ?_|refine JH ?_|refine JI ?_|refine JJ ?_|refine JK ?_|refine JL ?_|refine JM ?_|refine CW.skip (PW.code ?_)|refine RW.nil (PW.code ?_))
  refine RW.load_ro rfl (Mem.le_trans hN any_ro) (hpm 1 _ rfl) rfl rfl ?_
  have hres : MatesD (ps.map predOf) cl l = (matesD (plainOf (ps.map predOf) l) cl l, 0) := by
    rw [MatesD, if_neg (by simp; omega), if_neg h2, if_pos h3']
  have hpl : l.pred < ps.length := by omega
  repeat (first|refine Ja ?_|refine Jb ?_|refine Jc ?_|refine Jd ?_|refine Je ?_|refine Jf ?_|refine Jg ?_|refine Jh ?_|refine Ji ?_|refine Jj ?_|refine Jk ?_|refine Jl ?_|refine Jm ?_|refine Jn ?_|refine Jo ?_|refine Jp ?_|refine Jq ?_|refine Jr ?_|refine Js ?_|refine Jt ?_|refine Ju ?_|refine Jv ?_|refine Jw ?_|refine Jx ?_|refine Jy ?_|refine Jz ?_|refine JA ?_|refine JB ?_|refine JC ?_|refine JD ?_|refine JE ?_|refine JF ?_|refine JG ?_|refine JH ?_|refine JI ?_|refine JJ ?_|refine JK ?_|refine JL ?_|refine JM ?_|refine CW.skip (PW.code ?_)|refine RW.nil (PW.code ?_))
  refine RW.splitD 33 rfl (fun h4 => ?_) (fun h4 => ?_)
  · repeat (first|refine Ja ?_|refine Jb ?_|refine Jc ?_|refine Jd ?_|refine Je ?_|refine Jf ?_|refine Jg ?_|refine Jh ?_|refine Ji ?_|refine Jj ?_|refine Jk ?_|refine Jl ?_|refine Jm ?_|refine Jn ?_|refine Jo ?_|refine Jp ?_|refine Jq ?_|refine Jr ?_|refine Js ?_|refine Jt ?_|refine Ju ?_|refine Jv ?_|refine Jw ?_|refine Jx ?_|refine Jy ?_|refine Jz ?_|refine JA ?_|refine JB ?_|refine JC ?_|refine JD ?_|refine JE ?_|refine JF ?_|refine JG ?_|refine JH ?_|refine JI ?_|refine JJ ?_|refine JK ?_|refine JL ?_|refine JM ?_|refine CW.skip (PW.code ?_)|refine RW.nil (PW.code ?_))
    refine RW.indexAddr rfl rfl hp0 hpl rfl ?_
    repeat (first|refine Ja ?_|refine Jb ?_|refine Jc ?_|refine Jd ?_|refine Je ?_|refine Jf ?_|refine Jg ?_|refine Jh ?_|refine Ji ?_|refine Jj ?_|refine Jk ?_|refine Jl ?_|refine Jm ?_|refine Jn ?_|refine Jo ?_|refine Jp ?_|refine Jq ?_|refine Jr ?_|refine Js ?_|refine Jt ?_|refine Ju ?_|refine Jv ?_|refine Jw ?_|refine Jx ?_|refine Jy ?_|refine Jz ?_|refine JA ?_|refine JB ?_|refine JC ?_|refine JD ?_|refine JE ?_|refine JF ?_|refine JG ?_|refine JH ?_|refine JI ?_|refine JJ ?_|refine JK ?_|refine JL ?_|refine JM ?_|refine CW.skip (PW.code ?_)|refine RW.nil (PW.code ?_))
    refine RW.load_ro rfl (Mem.le_trans hN any_ro) (hpm 3 _ rfl) rfl rfl ?_
    repeat (first|refine Ja ?_|refine Jb ?_|refine Jc ?_|refine Jd ?_|refine Je ?_|refine Jf ?_|refine Jg ?_|refine Jh ?_|refine Ji ?_|refine Jj ?_|refine Jk ?_|refine Jl ?_|refine Jm ?_|refine Jn ?_|refine Jo ?_|refine Jp ?_|refine Jq ?_|refine Jr ?_|refine Js ?_|refine Jt ?_|refine Ju ?_|refine Jv ?_|refine Jw ?_|refine Jx ?_|refine Jy ?_|refine Jz ?_|refine JA ?_|refine JB ?_|refine JC ?_|refine JD ?_|refine JE ?_|refine JF ?_|refine JG ?_|refine JH ?_|refine JI ?_|refine JJ ?_|refine JK ?_|refine JL ?_|refine JM ?_|refine CW.skip (PW.code ?_)|refine RW.nil (PW.code ?_))
    refine CW.ite rfl (fun h5 => ?_) (fun h5 => ?_)
    · have hplain : plainOf (ps.map predOf) l = (ps.set l.pred.toNat (noValsV ps[l.pred.toNat])).map predOf := by
        unfold plainOf
        rw [hpm']
        dsimp only
        rw [if_pos ⟨h4, by omega⟩, List.map_set]
        congr 1
        rw [← hpd]; rfl
      repeat (first|refine Ja ?_|refine Jb ?_|refine Jc ?_|refine Jd ?_|refine Je ?_|refine Jf ?_|refine Jg ?_|refine Jh ?_|refine Ji ?_|refine Jj ?_|refine Jk ?_|refine Jl ?_|refine Jm ?_|refine Jn ?_|refine Jo ?_|refine Jp ?_|refine Jq ?_|refine Jr ?_|refine Js ?_|refine Jt ?_|refine Ju ?_|refine Jv ?_|refine Jw ?_|refine Jx ?_|refine Jy ?_|refine Jz ?_|refine JA ?_|refine JB ?_|refine JC ?_|refine JD ?_|refine JE ?_|refine JF ?_|refine JG ?_|refine JH ?_|refine JI ?_|refine JJ ?_|refine JK ?_|refine JL ?_|refine JM ?_|refine CW.skip (PW.code ?_)|refine RW.nil (PW.code ?_))
      refine RW.callN Try.call34 rfl (fun w2 hw2 => clonePreds_ret (Mem.le_trans hN (hle hw2)) hps) rfl fun y => ?_
      obtain ⟨v, es⟩ := y
      dsimp only [List.cons_append, List.nil_append]
      repeat (first|refine Ja ?_|refine Jb ?_|refine Jc ?_|refine Jd ?_|refine Je ?_|refine Jf ?_|refine Jg ?_|refine Jh ?_|refine Ji ?_|refine Jj ?_|refine Jk ?_|refine Jl ?_|refine Jm ?_|refine Jn ?_|refine Jo ?_|refine Jp ?_|refine Jq ?_|refine Jr ?_|refine Js ?_|refine Jt ?_|refine Ju ?_|refine Jv ?_|refine Jw ?_|refine Jx ?_|refine Jy ?_|refine Jz ?_|refine JA ?_|refine JB ?_|refine JC ?_|refine JD ?_|refine JE ?_|refine JF ?_|refine JG ?_|refine JH ?_|refine JI ?_|refine JJ ?_|refine JK ?_|refine JL ?_|refine JM ?_|refine CW.skip (PW.code ?_)|refine RW.nil (PW.code ?_))
      refine RW.have_ (φ := (_ ∨ ∃ B c, v = .slice (some ⟨B, 0, none⟩) es.length c ∧ _ ∧ _ ∧ (No B ∨ w.heap.size ≤ B) ∧ _)) (fun w2 hw2 => own_form (pre := []) (v := v) (es := es) hw2) (fun hof => ?_)
      refine RW.have_ (φ := es.length = ps.length) (fun w2 hw2 => by obtain ⟨F, hp7, _⟩ := St.get (pre := [_]) hw2; exact hp7.1) (fun hel => ?_)
      rcases hof with ⟨rfl, rfl⟩ | ⟨OB, oc, rfl, ho1, ho2, _, ho4⟩
      · simp only [List.length_nil] at hel
        omega
      have heg : es[l.pred.toNat]? = some es[l.pred.toNat] := List.getElem?_eq_getElem (by omega)
      generalize hek : es[l.pred.toNat] = ek at heg
      have hekl : ek.length = 4 := ho4 _ (List.mem_of_getElem? heg)
      refine RW.open_ [] (fun i : { tl : List Value // es.flatten.length + tl.length = oc * 4 } => blk OB (es.flatten ++ i.1) 49) (fun w F2 hp => ?_) (fun ⟨tl, htl⟩ => ?_)
      · rcases hp with ⟨hp, _⟩ | ⟨B', c', tl, h1, h2, h3, h4, h5, _⟩
        · cases hp
        · simp only [Value.slice.injEq, Option.some.injEq, Addr.mk.injEq] at h1
          obtain ⟨⟨rfl, _⟩, _, rfl⟩ := h1
          exact ⟨⟨tl, h5⟩, h2, h3⟩
      dsimp only
      have hfl : es.flatten.length = es.length * 4 := flatten_len ho4
      refine RW.indexAddr rfl rfl hp0 (by omega) rfl ?_
      repeat (first|refine Ja ?_|refine Jb ?_|refine Jc ?_|refine Jd ?_|refine Je ?_|refine Jf ?_|refine Jg ?_|refine Jh ?_|refine Ji ?_|refine Jj ?_|refine Jk ?_|refine Jl ?_|refine Jm ?_|refine Jn ?_|refine Jo ?_|refine Jp ?_|refine Jq ?_|refine Jr ?_|refine Js ?_|refine Jt ?_|refine Ju ?_|refine Jv ?_|refine Jw ?_|refine Jx ?_|refine Jy ?_|refine Jz ?_|refine JA ?_|refine JB ?_|refine JC ?_|refine JD ?_|refine JE ?_|refine JF ?_|refine JG ?_|refine JH ?_|refine JI ?_|refine JJ ?_|refine JK ?_|refine JL ?_|refine JM ?_|refine CW.skip (PW.code ?_)|refine RW.nil (PW.code ?_))
      have hoff : 0 + l.pred.toNat * 4 + 3 < (es.flatten ++ tl).length := by rw [List.length_append]; omega
      refine RW.store_blk [] rfl rfl rfl rfl rfl hoff ?_
      have hset : (es.flatten ++ tl).set (0 + l.pred.toNat * 4 + 3) (.slice none 0 0) = (es.set l.pred.toNat (ek.set 3 (.slice none 0 0))).flatten ++ tl := by
        rw [List.set_append_left _ _ (by omega), flatten_set ho4 (by omega) heg, Nat.zero_add]
      rw [hset]
      have hes2 : ∀ x ∈ es.set l.pred.toNat (ek.set 3 (.slice none 0 0)), x.length = 4 := fun x hx => by
        rcases List.mem_or_eq_of_mem_set hx with hx | rfl
        · exact ho4 x hx
        · rw [List.length_set, hekl]
      refine RW.change [] (ownHP 49 4 (.slice (some ⟨OB, 0, none⟩) es.length oc) (es.set l.pred.toNat (ek.set 3 (.slice none 0 0)))) (fun w F hp7 => own_of_blk hp7 tl rfl (by rw [List.length_set]) hes2 (by rw [List.length_append, flatten_len hes2, List.length_set]; omega) ho1 ho2) ?_
      refine RW.change [_] (rdsHP N kPred (es.set l.pred.toNat (ek.set 3 (.slice none 0 0))) (ps.set l.pred.toNat (noValsV ps[l.pred.toNat]))) (fun w F hp7 => All2.set hp7 (rd_noVals (hp7.2 _ _ _ heg (List.getElem?_eq_getElem hp1))) _) ?_
      generalize hes3 : es.set l.pred.toNat (ek.set 3 (.slice none 0 0)) = es3
      have hps3 : (ps.set l.pred.toNat (noValsV ps[l.pred.toNat])).length = ps.length := List.length_set
      have hb3 := noVals_bound hp1 hb
      generalize hps4 : ps.set l.pred.toNat (noValsV ps[l.pred.toNat]) = ps3 at hps3 hb3 hplain
      rw [hel]
      repeat (first|refine Ja ?_|refine Jb ?_|refine Jc ?_|refine Jd ?_|refine Je ?_|refine Jf ?_|refine Jg ?_|refine Jh ?_|refine Ji ?_|refine Jj ?_|refine Jk ?_|refine Jl ?_|refine Jm ?_|refine Jn ?_|refine Jo ?_|refine Jp ?_|refine Jq ?_|refine Jr ?_|refine Js ?_|refine Jt ?_|refine Ju ?_|refine Jv ?_|refine Jw ?_|refine Jx ?_|refine Jy ?_|refine Jz ?_|refine JA ?_|refine JB ?_|refine JC ?_|refine JD ?_|refine JE ?_|refine JF ?_|refine JG ?_|refine JH ?_|refine JI ?_|refine JJ ?_|refine JK ?_|refine JL ?_|refine JM ?_|refine CW.skip (PW.code ?_)|refine RW.nil (PW.code ?_))
      refine RW.callN Try.call35 rfl (V := fun y : Value × List (List Value) => y.1) (c := fun y => litsH y.1 y.2 (matesD (ps3.map predOf) cl l)) (fun w2 hw2 => ?_) rfl fun y => ?_
      · have hrd : Rd kPreds (mem w2 Any) [.slice (some ⟨OB, 0, none⟩) ps.length oc] ps3 := by
          obtain ⟨F1, hF1, q1, F2, hF2, q2, _⟩ := hw2.sep
          refine rd_of_own q1 rfl (mem_up fun _ _ => trivial) (q2.imp fun _ _ k => k.mono (Mem.or_le (Mem.le_trans hN (hle hw2)) (mem_up fun _ _ => trivial))) (by omega)
        rw [← hps3] at hrd ⊢
        exact mates_ret (Mem.le_trans hM (hle hw2)) (Mem.le_refl _) hrd (hcl.mono (Mem.le_trans hN (hle hw2))) hlit (by omega) hp0 (by omega) hb3
      repeat (first|refine Ja ?_|refine Jb ?_|refine Jc ?_|refine Jd ?_|refine Je ?_|refine Jf ?_|refine Jg ?_|refine Jh ?_|refine Ji ?_|refine Jj ?_|refine Jk ?_|refine Jl ?_|refine Jm ?_|refine Jn ?_|refine Jo ?_|refine Jp ?_|refine Jq ?_|refine Jr ?_|refine Js ?_|refine Jt ?_|refine Ju ?_|refine Jv ?_|refine Jw ?_|refine Jx ?_|refine Jy ?_|refine Jz ?_|refine JA ?_|refine JB ?_|refine JC ?_|refine JD ?_|refine JE ?_|refine JF ?_|refine JG ?_|refine JH ?_|refine JI ?_|refine JJ ?_|refine JK ?_|refine JL ?_|refine JM ?_|refine CW.skip (PW.code ?_)|refine RW.nil (PW.code ?_))
      refine CW.rets (rs := [.tmp 6, .tmp 7]) (vs := [_, _]) rfl Try.results14 rfl (ResOK.tmp rfl (ResOK.tmp rfl ResOK.nil)) fun w hw => ⟨y, ?_, ?_⟩
      · rw [hres]; rfl
      · rw [hres, hplain]
        exact hw.sub (List.Sublist.cons_cons _ (List.Sublist.cons_cons _ (List.nil_sublist _)))
    · repeat (first|refine Ja ?_|refine Jb ?_|refine Jc ?_|refine Jd ?_|refine Je ?_|refine Jf ?_|refine Jg ?_|refine Jh ?_|refine Ji ?_|refine Jj ?_|refine Jk ?_|refine Jl ?_|refine Jm ?_|refine Jn ?_|refine Jo ?_|refine Jp ?_|refine Jq ?_|refine Jr ?_|refine Js ?_|refine Jt ?_|refine Ju ?_|refine Jv ?_|refine Jw ?_|refine Jx ?_|refine Jy ?_|refine Jz ?_|refine JA ?_|refine JB ?_|refine JC ?_|refine JD ?_|refine JE ?_|refine JF ?_|refine JG ?_|refine JH ?_|refine JI ?_|refine JJ ?_|refine JK ?_|refine JL ?_|refine JM ?_|refine CW.skip (PW.code ?_)|refine RW.nil (PW.code ?_))
      refine RW.callN Try.call35 rfl (fun w2 hw2 => mates_ret (Mem.le_trans hM (hle hw2)) (Mem.le_trans hN (hle hw2)) hps hcl hlit hlen hp0 hpl hb) rfl fun y => ?_
      repeat (first|refine Ja ?_|refine Jb ?_|refine Jc ?_|refine Jd ?_|refine Je ?_|refine Jf ?_|refine Jg ?_|refine Jh ?_|refine Ji ?_|refine Jj ?_|refine Jk ?_|refine Jl ?_|refine Jm ?_|refine Jn ?_|refine Jo ?_|refine Jp ?_|refine Jq ?_|refine Jr ?_|refine Js ?_|refine Jt ?_|refine Ju ?_|refine Jv ?_|refine Jw ?_|refine Jx ?_|refine Jy ?_|refine Jz ?_|refine JA ?_|refine JB ?_|refine JC ?_|refine JD ?_|refine JE ?_|refine JF ?_|refine JG ?_|refine JH ?_|refine JI ?_|refine JJ ?_|refine JK ?_|refine JL ?_|refine JM ?_|refine CW.skip (PW.code ?_)|refine RW.nil (PW.code ?_))
      refine CW.rets (rs := [.tmp 6, .tmp 7]) (vs := [_, _]) rfl Try.results14 rfl (ResOK.tmp rfl (ResOK.tmp rfl ResOK.nil)) fun w hw => ⟨y, ?_, ?_⟩
      · rw [hres]; rfl
      · rw [hres]
        have hplain : plainOf (ps.map predOf) l = ps.map predOf := by
          unfold plainOf
          rw [hpm']
          dsimp only
          rw [if_neg (fun k => h5 (by have := k.2; omega))]
        rw [hplain]
        exact hw.sub (List.Sublist.cons_cons _ (List.Sublist.cons_cons _ (List.nil_sublist _)))
  · repeat (first|refine Ja ?_|refine Jb ?_|refine Jc ?_|refine Jd ?_|refine Je ?_|refine Jf ?_|refine Jg ?_|refine Jh ?_|refine Ji ?_|refine Jj ?_|refine Jk ?_|refine Jl ?_|refine Jm ?_|refine Jn ?_|refine Jo ?_|refine Jp ?_|refine Jq ?_|refine Jr ?_|refine Js ?_|refine Jt ?_|refine Ju ?_|refine Jv ?_|refine Jw ?_|refine Jx ?_|refine Jy ?_|refine Jz ?_|refine JA ?_|refine JB ?_|refine JC ?_|refine JD ?_|refine JE ?_|refine JF ?_|refine JG ?_|refine JH ?_|refine JI ?_|refine JJ ?_|refine JK ?_|refine JL ?_|refine JM ?_|refine CW.skip (PW.code ?_)|refine RW.nil (PW.code ?_))
    refine CW.cf rfl ?_
    repeat (first|refine Ja ?_|refine Jb ?_|refine Jc ?_|refine Jd ?_|refine Je ?_|refine Jf ?_|refine Jg ?_|refine Jh ?_|refine Ji ?_|refine Jj ?_|refine Jk ?_|refine Jl ?_|refine Jm ?_|refine Jn ?_|refine Jo ?_|refine Jp ?_|refine Jq ?_|refine Jr ?_|refine Js ?_|refine Jt ?_|refine Ju ?_|refine Jv ?_|refine Jw ?_|refine Jx ?_|refine Jy ?_|refine Jz ?_|refine JA ?_|refine JB ?_|refine JC ?_|refine JD ?_|refine JE ?_|refine JF ?_|refine JG ?_|refine JH ?_|refine JI ?_|refine JJ ?_|refine JK ?_|refine JL ?_|refine JM ?_|refine CW.skip (PW.code ?_)|refine RW.nil (PW.code ?_))
    refine RW.callN Try.call35 rfl (fun w2 hw2 => mates_ret (Mem.le_trans hM (hle hw2)) (Mem.le_trans hN (hle hw2)) hps hcl hlit hlen hp0 hpl hb) rfl fun y => ?_
    repeat (first|refine Ja ?_|refine Jb ?_|refine Jc ?_|refine Jd ?_|refine Je ?_|refine Jf ?_|refine Jg ?_|refine Jh ?_|refine Ji ?_|refine Jj ?_|refine Jk ?_|refine Jl ?_|refine Jm ?_|refine Jn ?_|refine Jo ?_|refine Jp ?_|refine Jq ?_|refine Jr ?_|refine Js ?_|refine Jt ?_|refine Ju ?_|refine Jv ?_|refine Jw ?_|refine Jx ?_|refine Jy ?_|refine Jz ?_|refine JA ?_|refine JB ?_|refine JC ?_|refine JD ?_|refine JE ?_|refine JF ?_|refine JG ?_|refine JH ?_|refine JI ?_|refine JJ ?_|refine JK ?_|refine JL ?_|refine JM ?_|refine CW.skip (PW.code ?_)|refine RW.nil (PW.code ?_))
    refine CW.rets (rs := [.tmp 6, .tmp 7]) (vs := [_, _]) rfl Try.results14 rfl (ResOK.tmp rfl (ResOK.tmp rfl ResOK.nil)) fun w hw => ⟨y, ?_, ?_⟩
    · rw [hres]; rfl
    · rw [hres]
      have hplain : plainOf (ps.map predOf) l = ps.map predOf := by
        unfold plainOf
        rw [hpm']
        dsimp only
        rw [if_neg (fun k => h4 k.1)]
      rw [hplain]
      exact hw.sub (List.Sublist.cons_cons _ (List.Sublist.cons_cons _ (List.nil_sublist _)))
end Go.Proofs.Ytoknohnodlaimaa
