/- slices.Clone of predicates, literals.Mates, by the calculus. -/
import Derived.Test.YtoknohnodlaimaaL11
set_option linter.unusedVariables false
set_option linter.unusedSimpArgs false
set_option maxRecDepth 10000
namespace Go.Proofs.Ytoknohnodlaimaa
open Go Go.RowKit

attribute [local irreducible] RW CW
/-- The elements' cells of a slice that reads as data. -/
theorem row_cells {t : K} {M : Mem} {by_ : Nat} {A : Option Addr} {c n : Nat} {xs : List t.V} (h : Rd (.sl by_ t) M [.slice A n c] xs) : ∃ es : List (List Value), n = xs.length ∧ All2 (fun cs x => Rd t M cs x) es xs ∧ (∀ x ∈ es, x.length = t.sz) ∧ (xs ≠ [] → ∃ B O, A = some ⟨B, O, none⟩ ∧ ∀ (i : Nat) (v : Value), es.flatten[i]? = some v → M B (O + i) v) := by
  obtain ⟨A', c', he, _, _, _, hr⟩ := h
  cases he
  by_cases hx : xs = []
  · subst hx
    exact ⟨[], rfl, All2.nil, by simp, fun k => absurd rfl k⟩
  obtain ⟨B, O, rfl, hj⟩ := hr hx
  have key : ∀ ys : List t.V, ∀ o, (∀ (j : Nat) (x : t.V), ys[j]? = some x → ∃ cs : List Value, cs.length = t.sz ∧ Rd t M cs x ∧ ∀ (i : Nat) (v : Value), cs[i]? = some v → M B (o + j * t.sz + i) v) →
      ∃ es : List (List Value), All2 (fun cs x => Rd t M cs x) es ys ∧ (∀ x ∈ es, x.length = t.sz) ∧ ∀ (i : Nat) (v : Value), es.flatten[i]? = some v → M B (o + i) v := by
    intro ys
    induction ys with
    | nil => intro o _; exact ⟨[], All2.nil, by simp, by simp⟩
    | cons y ys ih =>
      intro o h
      obtain ⟨cs, h1, h2, h3⟩ := h 0 y rfl
      obtain ⟨es, g1, g2, g3⟩ := ih (o + t.sz) (fun j x hx => by
        obtain ⟨cs, k1, k2, k3⟩ := h (j + 1) x (by simpa using hx)
        exact ⟨cs, k1, k2, fun i v hv => by have := k3 i v hv; rwa [show o + (j + 1) * t.sz + i = o + t.sz + j * t.sz + i from by rw [Nat.add_mul]; omega] at this⟩)
      refine ⟨cs :: es, All2.append (All2.one h2) g1, fun x hx => (List.mem_cons.1 hx).elim (fun e => e ▸ h1) (g2 x), fun i v hv => ?_⟩
      rw [List.flatten_cons] at hv
      rcases Nat.lt_or_ge i cs.length with hi | hi
      · rw [List.getElem?_append_left hi] at hv
        have := h3 i v hv
        simpa using this
      · rw [List.getElem?_append_right hi] at hv
        have := g3 _ v hv
        rwa [h1, show o + t.sz + (i - t.sz) = o + i from by omega] at this
  obtain ⟨es, g1, g2, g3⟩ := key xs O hj
  exact ⟨es, rfl, g1, g2, fun _ => ⟨B, O, rfl, g3⟩⟩
theorem clonePreds_ret {N : Mem} {A : Option Addr} {c : Nat} {ps : List kPred.V} {w : World} (hN : Mem.le N (mem w Any)) (h : Rd kPreds N [.slice A ps.length c] ps) :
    RetC Try.prog 34 [.slice A ps.length c] w No (fun y : Value × List (List Value) => y.1) (fun y => [ownHP 49 4 y.1 y.2, rdsHP N kPred y.2 ps]) := by
  obtain ⟨es, _, hes, hel, hcells⟩ := row_cells h
  obtain ⟨A', c', he, h2, h3, h4, h5⟩ := h
  cases he
  have hlen := hes.1
  refine Calls.enter Try.func34 rfl _ rfl rfl (S := No) (H := []) trivial ?_
  repeat (first|refine Ja ?_|refine Jb ?_|refine Jc ?_|refine Jd ?_|refine Je ?_|refine Jf ?_|refine Jg ?_|refine Jh ?_|refine Ji ?_|refine Jj ?_|refine Jk ?_|refine Jl ?_|refine Jm ?_|refine Jn ?_|refine Jo ?_|refine Jp ?_|refine Jq ?_|refine Jr ?_|refine Js ?_|refine Jt ?_|refine Ju ?_|refine Jv ?_|refine Jw ?_|refine Jx ?_|refine Jy ?_|refine Jz ?_|refine JA ?_|refine JB ?_|refine JC ?_|refine JD ?_|refine JE ?_|refine JF ?_|refine JG ?_|refine JH ?_|refine JI ?_|refine JJ ?_|refine JK ?_|refine JL ?_|refine JM ?_|refine CW.skip (PW.code ?_)|refine RW.nil (PW.code ?_))
  refine CW.seq ?_
  repeat (first|refine Ja ?_|refine Jb ?_|refine Jc ?_|refine Jd ?_|refine Je ?_|refine Jf ?_|refine Jg ?_|refine Jh ?_|refine Ji ?_|refine Jj ?_|refine Jk ?_|refine Jl ?_|refine Jm ?_|refine Jn ?_|refine Jo ?_|refine Jp ?_|refine Jq ?_|refine Jr ?_|refine Js ?_|refine Jt ?_|refine Ju ?_|refine Jv ?_|refine Jw ?_|refine Jx ?_|refine Jy ?_|refine Jz ?_|refine JA ?_|refine JB ?_|refine JC ?_|refine JD ?_|refine JE ?_|refine JF ?_|refine JG ?_|refine JH ?_|refine JI ?_|refine JJ ?_|refine JK ?_|refine JL ?_|refine JM ?_|refine CW.skip (PW.code ?_)|refine RW.nil (PW.code ?_))
  refine RW.eql_nil rfl rfl rfl ?_
  repeat (first|refine Ja ?_|refine Jb ?_|refine Jc ?_|refine Jd ?_|refine Je ?_|refine Jf ?_|refine Jg ?_|refine Jh ?_|refine Ji ?_|refine Jj ?_|refine Jk ?_|refine Jl ?_|refine Jm ?_|refine Jn ?_|refine Jo ?_|refine Jp ?_|refine Jq ?_|refine Jr ?_|refine Js ?_|refine Jt ?_|refine Ju ?_|refine Jv ?_|refine Jw ?_|refine Jx ?_|refine Jy ?_|refine Jz ?_|refine JA ?_|refine JB ?_|refine JC ?_|refine JD ?_|refine JE ?_|refine JF ?_|refine JG ?_|refine JH ?_|refine JI ?_|refine JJ ?_|refine JK ?_|refine JL ?_|refine JM ?_|refine CW.skip (PW.code ?_)|refine RW.nil (PW.code ?_))
  refine CW.cond rfl (fun hn => ?_) (fun hn => ?_)
  · have hA : A = none := by simpa using hn
    have hx0 : ps = [] := by
      by_cases hx : ps = []
      · exact hx
      · obtain ⟨B, O, he, _⟩ := hcells hx
        rw [hA] at he; cases he
    repeat (first|refine Ja ?_|refine Jb ?_|refine Jc ?_|refine Jd ?_|refine Je ?_|refine Jf ?_|refine Jg ?_|refine Jh ?_|refine Ji ?_|refine Jj ?_|refine Jk ?_|refine Jl ?_|refine Jm ?_|refine Jn ?_|refine Jo ?_|refine Jp ?_|refine Jq ?_|refine Jr ?_|refine Js ?_|refine Jt ?_|refine Ju ?_|refine Jv ?_|refine Jw ?_|refine Jx ?_|refine Jy ?_|refine Jz ?_|refine JA ?_|refine JB ?_|refine JC ?_|refine JD ?_|refine JE ?_|refine JF ?_|refine JG ?_|refine JH ?_|refine JI ?_|refine JJ ?_|refine JK ?_|refine JL ?_|refine JM ?_|refine CW.skip (PW.code ?_)|refine RW.nil (PW.code ?_))
    refine CW.ret1 rfl Try.results34 rfl rfl fun w hw => ⟨(.slice none 0 0, []), rfl, hw.kp, No, fun b hb => hb.elim, .inl ⟨rfl, rfl⟩, No, fun b hb => hb.elim, ?_, trivial⟩
    subst hx0
    exact All2.nil
  · repeat (first|refine Ja ?_|refine Jb ?_|refine Jc ?_|refine Jd ?_|refine Je ?_|refine Jf ?_|refine Jg ?_|refine Jh ?_|refine Ji ?_|refine Jj ?_|refine Jk ?_|refine Jl ?_|refine Jm ?_|refine Jn ?_|refine Jo ?_|refine Jp ?_|refine Jq ?_|refine Jr ?_|refine Js ?_|refine Jt ?_|refine Ju ?_|refine Jv ?_|refine Jw ?_|refine Jx ?_|refine Jy ?_|refine Jz ?_|refine JA ?_|refine JB ?_|refine JC ?_|refine JD ?_|refine JE ?_|refine JF ?_|refine JG ?_|refine JH ?_|refine JI ?_|refine JJ ?_|refine JK ?_|refine JL ?_|refine JM ?_|refine CW.skip (PW.code ?_)|refine RW.nil (PW.code ?_))
    refine RW.buildOwn (e := 49) (sz := 4) [] rfl (fun w => by kernel_rfl) rfl (by simp) (by decide) rfl fun b => ?_
    repeat (first|refine Ja ?_|refine Jb ?_|refine Jc ?_|refine Jd ?_|refine Je ?_|refine Jf ?_|refine Jg ?_|refine Jh ?_|refine Ji ?_|refine Jj ?_|refine Jk ?_|refine Jl ?_|refine Jm ?_|refine Jn ?_|refine Jo ?_|refine Jp ?_|refine Jq ?_|refine Jr ?_|refine Js ?_|refine Jt ?_|refine Ju ?_|refine Jv ?_|refine Jw ?_|refine Jx ?_|refine Jy ?_|refine Jz ?_|refine JA ?_|refine JB ?_|refine JC ?_|refine JD ?_|refine JE ?_|refine JF ?_|refine JG ?_|refine JH ?_|refine JI ?_|refine JJ ?_|refine JK ?_|refine JL ?_|refine JM ?_|refine CW.skip (PW.code ?_)|refine RW.nil (PW.code ?_))
    refine RW.append [] (e := 49) (sz := 4) (news := es) (zc := [.string ByteArray.empty, .int .i64 0, .slice none 0 0, .slice none 0 0]) rfl rfl rfl rfl hlen hel (fun u hu => ?_) (fun w hw hn => ?_) (by unfold reach at h4; simp; omega) (by unfold reach at h4; unfold maxN; simp; omega) rfl fun v' => ?_
    · obtain ⟨i, hi⟩ := List.mem_iff_getElem?.1 hu
      have hil : i < ps.length := by rw [← hlen]; exact (List.getElem?_eq_some_iff.1 hi).1
      exact Rd.one (hes.2 i u _ hi (List.getElem?_eq_getElem hil))
    · obtain ⟨B, O, hA, hc⟩ := hcells (fun k => hn (by rw [k]; rfl))
      exact ⟨B, O, hA, fun i v hv => cell_keeps (hN _ _ _ (hc i v hv)).2 hw.kp (fun k => k)⟩
    repeat (first|refine Ja ?_|refine Jb ?_|refine Jc ?_|refine Jd ?_|refine Je ?_|refine Jf ?_|refine Jg ?_|refine Jh ?_|refine Ji ?_|refine Jj ?_|refine Jk ?_|refine Jl ?_|refine Jm ?_|refine Jn ?_|refine Jo ?_|refine Jp ?_|refine Jq ?_|refine Jr ?_|refine Js ?_|refine Jt ?_|refine Ju ?_|refine Jv ?_|refine Jw ?_|refine Jx ?_|refine Jy ?_|refine Jz ?_|refine JA ?_|refine JB ?_|refine JC ?_|refine JD ?_|refine JE ?_|refine JF ?_|refine JG ?_|refine JH ?_|refine JI ?_|refine JJ ?_|refine JK ?_|refine JL ?_|refine JM ?_|refine CW.skip (PW.code ?_)|refine RW.nil (PW.code ?_))
    refine CW.add_ (rdsHP N kPred es ps) (fun w _ => hes.imp (fun _ _ k => k.mono (Mem.le_left _ _))) ?_
    refine CW.ret1 rfl Try.results34 rfl rfl fun w hw => ⟨(v', es), rfl, ?_⟩
    exact (St.pull [_] hw)
end Go.Proofs.Ytoknohnodlaimaa
