/- lexpriorlaw09.alive, by the calculus. -/
import Derived.Test.YtoknohnodlaimaaL17
set_option linter.unusedVariables false
set_option linter.unusedSimpArgs false
set_option maxRecDepth 10000
namespace Go.Proofs.Ytoknohnodlaimaa
open Go Go.RowKit

attribute [local irreducible] RW CW
/-- Cells known. -/
def ptsHP (l : List (Nat × Nat × Value)) : HP where
  p w F := ∀ x ∈ l, mem w F x.1 x.2.1 x.2.2
  st := fun h _ k x hx => mem_same h _ _ _ (k x hx)
  up := fun h k x hx => mem_up h _ _ _ (k x hx)
theorem St.pts {w0 w : World} {S : Nat → Prop} {pre r : List HP} {l : List (Nat × Nat × Value)} {B O : Nat} {v : Value} (h : St w0 S (pre ++ ptsHP l :: r) w) (hl : (B, O, v) ∈ l) : w.cell? ⟨B, O, none⟩ = some v := by
  obtain ⟨F, hp, _⟩ := h.get
  exact (hp _ hl).2
theorem rd_page_ok : ∀ p ∈ pageP, (pageP.length + (predOf p).vals.length + 2) * 56 ≤ reach := by
  intro p hp
  simp only [pageP, List.mem_cons, List.not_mem_nil, or_false] at hp
  rcases hp with rfl | rfl | rfl | rfl <;> decide
theorem sl_form {w0 w : World} {S : Nat → Prop} {pre r : List HP} {M : Mem} {by_ : Nat} {t : K} {v : Value} {xs : List t.V} (h : St w0 S (pre ++ rdHP M (.sl by_ t) [v] xs :: r) w) : ∃ A c, v = .slice A xs.length c := by
  obtain ⟨F, ⟨A, c, he, _⟩, _⟩ := h.get
  exact ⟨A, c, (List.cons.inj he).1⟩
theorem rd_at {w0 w : World} {S : Nat → Prop} {pre r : List HP} {t : K} {cs : List Value} {x : t.V} (h : St w0 S (pre ++ rdHP Mem.none t cs x :: r) w) : Rd t (mem w Any) cs x := by
  obtain ⟨F, hp, _⟩ := h.get
  exact Rd.mono (Mem.or_le (Mem.none_le _) (mem_up fun _ _ => trivial)) hp
theorem rds_at {w0 w : World} {S : Nat → Prop} {pre r : List HP} {t : K} {es : List (List Value)} {xs : List t.V} (h : St w0 S (pre ++ rdsHP Mem.none t es xs :: r) w) : All2 (fun cs x => Rd t (mem w Any) cs x) es xs := by
  obtain ⟨F, hp, _⟩ := h.get
  exact hp.imp fun _ _ k => Rd.mono (Mem.or_le (Mem.none_le _) (mem_up fun _ _ => trivial)) k
theorem own_at {w0 w : World} {S : Nat → Prop} {pre r : List HP} {e : TypeId} {t : K} {sz by_ : Nat} {v : Value} {es : List (List Value)} {xs : List t.V} (h : St w0 S (pre ++ ownHP e sz v es :: r) w) (hsz : sz = t.sz) (hx : All2 (fun cs x => Rd t (mem w Any) cs x) es xs) (hb : xs.length * by_ ≤ reach) : Rd (.sl by_ t) (mem w Any) [v] xs := by
  obtain ⟨F, hp, _⟩ := h.get
  exact rd_of_own hp hsz (mem_up fun _ _ => trivial) hx hb
theorem two_lits {es : List (List Value)} {M : Mem} {a b : LitD} (h : All2 (fun cs x => Rd kLit M cs x) es ([a, b].map litV)) : ∃ A c B d, es = [a.V A c, b.V B d] := by
  obtain ⟨hl, hr⟩ := h
  match es, hl with
  | [x, y], _ =>
    obtain ⟨A, c, h1, _⟩ := Rd.lit (hr 0 x (litV a) rfl rfl)
    obtain ⟨B, d, h2, _⟩ := Rd.lit (hr 1 y (litV b) rfl rfl)
    exact ⟨A, c, B, d, by rw [h1, h2]⟩
set_option maxHeartbeats 8000000 in
theorem alive_ret (w : World) : Ret Try.prog 7 [] w (.bool true) := by
  refine Calls.enter Try.func7 rfl _ rfl rfl (S := No) (H := []) trivial ?_
  repeat (first|refine Ja ?_|refine Jb ?_|refine Jc ?_|refine Jd ?_|refine Je ?_|refine Jf ?_|refine Jg ?_|refine Jh ?_|refine Ji ?_|refine Jj ?_|refine Jk ?_|refine Jl ?_|refine Jm ?_|refine Jn ?_|refine Jo ?_|refine Jp ?_|refine Jq ?_|refine Jr ?_|refine Js ?_|refine Jt ?_|refine Ju ?_|refine Jv ?_|refine Jw ?_|refine Jx ?_|refine Jy ?_|refine Jz ?_|refine JA ?_|refine JB ?_|refine JC ?_|refine JD ?_|refine JE ?_|refine JF ?_|refine JG ?_|refine JH ?_|refine JI ?_|refine JJ ?_|refine JK ?_|refine JL ?_|refine JM ?_|refine CW.skip (PW.code ?_)|refine RW.nil (PW.code ?_))
  refine RW.callN Try.call21 rfl (fun w2 _ => page_ret w2) rfl fun y => ?_
  obtain ⟨p, c, s⟩ := y
  refine RW.have_ (φ := ∃ A d, p = .slice A 4 d) (fun w hw => sl_form (pre := []) hw) (fun ⟨Ap, dp, hp⟩ => ?_)
  refine RW.have_ (φ := ∃ A d, c = .slice A 4 d) (fun w hw => sl_form (pre := [_]) hw) (fun ⟨Ac, dc, hc⟩ => ?_)
  refine RW.have_ (φ := ∃ A d, s = .slice A 4 d) (fun w hw => sl_form (pre := [_, _]) hw) (fun ⟨As, dsz, hs⟩ => ?_)
  subst hp; subst hc; subst hs
  dsimp only [List.cons_append, List.nil_append]
  repeat (first|refine Ja ?_|refine Jb ?_|refine Jc ?_|refine Jd ?_|refine Je ?_|refine Jf ?_|refine Jg ?_|refine Jh ?_|refine Ji ?_|refine Jj ?_|refine Jk ?_|refine Jl ?_|refine Jm ?_|refine Jn ?_|refine Jo ?_|refine Jp ?_|refine Jq ?_|refine Jr ?_|refine Js ?_|refine Jt ?_|refine Ju ?_|refine Jv ?_|refine Jw ?_|refine Jx ?_|refine Jy ?_|refine Jz ?_|refine JA ?_|refine JB ?_|refine JC ?_|refine JD ?_|refine JE ?_|refine JF ?_|refine JG ?_|refine JH ?_|refine JI ?_|refine JJ ?_|refine JK ?_|refine JL ?_|refine JM ?_|refine CW.skip (PW.code ?_)|refine RW.nil (PW.code ?_))
  refine RW.buildOwn (e := 3) (sz := 1) [[.int .i64 0]] rfl (fun w => by kernel_rfl) rfl (by simp) (by decide) rfl fun b1 => ?_
  repeat (first|refine Ja ?_|refine Jb ?_|refine Jc ?_|refine Jd ?_|refine Je ?_|refine Jf ?_|refine Jg ?_|refine Jh ?_|refine Ji ?_|refine Jj ?_|refine Jk ?_|refine Jl ?_|refine Jm ?_|refine Jn ?_|refine Jo ?_|refine Jp ?_|refine Jq ?_|refine Jr ?_|refine Js ?_|refine Jt ?_|refine Ju ?_|refine Jv ?_|refine Jw ?_|refine Jx ?_|refine Jy ?_|refine Jz ?_|refine JA ?_|refine JB ?_|refine JC ?_|refine JD ?_|refine JE ?_|refine JF ?_|refine JG ?_|refine JH ?_|refine JI ?_|refine JJ ?_|refine JK ?_|refine JL ?_|refine JM ?_|refine CW.skip (PW.code ?_)|refine RW.nil (PW.code ?_))
  refine RW.build (v := .agg #[.int .i64 1, .slice (some ⟨b1, 0, none⟩) 1 1, .int .i64 10]) rfl (fun w => by kernel_rfl) rfl ?_
  refine RW.build (v := .agg #[.bool false, .int .i64 1, .slice (some ⟨b1, 0, none⟩) 1 1, .int .i64 10, .int .i64 0]) rfl (fun w => by kernel_rfl) rfl ?_
  refine RW.callN Try.call14 rfl (fun w2 hw2 => Mates_ret (M := mem w2 Any) (N := mem w2 Any) (ps := pageP) (cl := pageC) (l := litA) (cs := litA.V (some ⟨b1, 0, none⟩) 1) (Mem.le_refl _) (Mem.le_refl _) (rd_at (pre := [_]) hw2) (rd_at (pre := [_, _]) hw2) ?_ rd_page_ok) rfl fun y => ?_
  · exact Rd.lit_mk (l := litA) (own_at (pre := []) (t := kInt) hw2 rfl (All2.one ⟨rfl, rfl⟩) (by decide)) rfl rfl rfl
  rw [mates_page]
  obtain ⟨v1, e1⟩ := y
  dsimp only [litsA]
  refine RW.have_ (φ := _ ∧ ∃ A c, v1 = .slice A 2 c ∧ _ ∧ _ ∧ (∀ x ∈ e1, x.length = 5) ∧ (e1 ≠ [] → ∃ B, A = some ⟨B, 0, none⟩) ∧ _) (fun w hw => own_lits (pre := []) hw) (fun ⟨_, A1, d1, hv1, _, _, hs1, hA1, _⟩ => ?_)
  refine RW.have_ (φ := ∃ A c B d, e1 = [LitD.V ⟨true, 1, [0], 10, 0⟩ A c, LitD.V ⟨false, 1, [0], 20, 0⟩ B d]) (fun w hw => two_lits (rds_at (pre := [_]) hw)) (fun ⟨L1, l1, L2, l2, he1⟩ => ?_)
  subst he1
  obtain ⟨B1, rfl⟩ := hA1 (by simp)
  subst hv1
  repeat (first|refine Ja ?_|refine Jb ?_|refine Jc ?_|refine Jd ?_|refine Je ?_|refine Jf ?_|refine Jg ?_|refine Jh ?_|refine Ji ?_|refine Jj ?_|refine Jk ?_|refine Jl ?_|refine Jm ?_|refine Jn ?_|refine Jo ?_|refine Jp ?_|refine Jq ?_|refine Jr ?_|refine Js ?_|refine Jt ?_|refine Ju ?_|refine Jv ?_|refine Jw ?_|refine Jx ?_|refine Jy ?_|refine Jz ?_|refine JA ?_|refine JB ?_|refine JC ?_|refine JD ?_|refine JE ?_|refine JF ?_|refine JG ?_|refine JH ?_|refine JI ?_|refine JJ ?_|refine JK ?_|refine JL ?_|refine JM ?_|refine CW.skip (PW.code ?_)|refine RW.nil (PW.code ?_))
  refine RW.buildOwn (e := 3) (sz := 1) [[.int .i64 0]] rfl (fun w => by kernel_rfl) rfl (by simp) (by decide) rfl fun b2 => ?_
  repeat (first|refine Ja ?_|refine Jb ?_|refine Jc ?_|refine Jd ?_|refine Je ?_|refine Jf ?_|refine Jg ?_|refine Jh ?_|refine Ji ?_|refine Jj ?_|refine Jk ?_|refine Jl ?_|refine Jm ?_|refine Jn ?_|refine Jo ?_|refine Jp ?_|refine Jq ?_|refine Jr ?_|refine Js ?_|refine Jt ?_|refine Ju ?_|refine Jv ?_|refine Jw ?_|refine Jx ?_|refine Jy ?_|refine Jz ?_|refine JA ?_|refine JB ?_|refine JC ?_|refine JD ?_|refine JE ?_|refine JF ?_|refine JG ?_|refine JH ?_|refine JI ?_|refine JJ ?_|refine JK ?_|refine JL ?_|refine JM ?_|refine CW.skip (PW.code ?_)|refine RW.nil (PW.code ?_))
  refine RW.build (v := .agg #[.int .i64 0, .slice (some ⟨b2, 0, none⟩) 1 1, .int .i64 0]) rfl (fun w => by kernel_rfl) rfl ?_
  refine RW.build (v := .agg #[.bool false, .int .i64 0, .slice (some ⟨b2, 0, none⟩) 1 1, .int .i64 0, .int .i64 0]) rfl (fun w => by kernel_rfl) rfl ?_
  refine RW.buildOwn (e := 27) (sz := 5) [litB.V (some ⟨b2, 0, none⟩) 1] rfl (fun w => by kernel_rfl) rfl (by simp [LitD.V]) (by decide) rfl fun b3 => ?_
  refine RW.take [0, 1, 2, 5, 6, 7] ?_
  refine RW.callN Try.call11 rfl (V := fun y : Value × List (List Value) => .tuple #[y.1, .int .i64 (closeD (pageP.map predOf) pageC [litB]).2]) (c := fun y => litsH y.1 y.2 (closeD (pageP.map predOf) pageC [litB]).1) (fun w2 hw2 => ?_) rfl fun y => ?_
  · have hI : Rd kInts (mem w2 Any) [.slice (some ⟨b2, 0, none⟩) 1 1] [0] := own_at (pre := [_]) (t := kInt) hw2 rfl (All2.one ⟨rfl, rfl⟩) (by decide)
    have hL : Rd kLits (mem w2 Any) [.slice (some ⟨b3, 0, none⟩) 1 1] [litV litB] := own_at (pre := []) (t := kLit) hw2 rfl (All2.one (Rd.lit_mk (l := litB) hI rfl rfl rfl)) (by decide)
    exact Close_ret (N := mem w2 Any) (ps := pageP) (cl := pageC) (ls := [litB]) (Mem.le_refl _) (rd_at (pre := [_, _, _]) hw2) (rd_at (pre := [_, _, _, _]) hw2) hL rd_page_ok
  rw [close_page]
  obtain ⟨v2, e2⟩ := y
  dsimp only
  refine RW.have_ (φ := _ ∧ ∃ A c, v2 = .slice A 2 c ∧ _ ∧ _ ∧ _ ∧ _ ∧ _) (fun w hw => own_lits (pre := []) hw) (fun ⟨_, A2, d2, hv2, _, _, _, _, _⟩ => ?_)
  subst hv2
  repeat (first|refine Ja ?_|refine Jb ?_|refine Jc ?_|refine Jd ?_|refine Je ?_|refine Jf ?_|refine Jg ?_|refine Jh ?_|refine Ji ?_|refine Jj ?_|refine Jk ?_|refine Jl ?_|refine Jm ?_|refine Jn ?_|refine Jo ?_|refine Jp ?_|refine Jq ?_|refine Jr ?_|refine Js ?_|refine Jt ?_|refine Ju ?_|refine Jv ?_|refine Jw ?_|refine Jx ?_|refine Jy ?_|refine Jz ?_|refine JA ?_|refine JB ?_|refine JC ?_|refine JD ?_|refine JE ?_|refine JF ?_|refine JG ?_|refine JH ?_|refine JI ?_|refine JJ ?_|refine JK ?_|refine JL ?_|refine JM ?_|refine CW.skip (PW.code ?_)|refine RW.nil (PW.code ?_))
  refine RW.take [0, 1, 4, 6, 7] ?_
  refine RW.callN Try.call19 rfl (V := fun v : Value => .tuple #[v, .int .i64 (foesD pageC pageS [⟨false, 0, [0], 0, 0⟩, ⟨true, 0, [0], 0, 0⟩]).2]) (c := fun v => [rdHP Mem.none kIntss [v] (foesD pageC pageS [⟨false, 0, [0], 0, 0⟩, ⟨true, 0, [0], 0, 0⟩]).1]) (fun w2 hw2 => ?_) rfl fun x => ?_
  · exact Foes_ret (N := mem w2 Any) (cl := pageC) (so := pageS) (ls := [⟨false, 0, [0], 0, 0⟩, ⟨true, 0, [0], 0, 0⟩]) (Mem.le_refl _) (rd_at (pre := [_, _, _]) hw2) (rd_at (pre := [_, _, _, _]) hw2) (own_at (pre := []) (t := kLit) hw2 rfl (rds_at (pre := [_]) hw2) (by decide))
  rw [foes_page]
  dsimp only
  refine RW.open_ [] (ι := { q : Nat × Nat × Nat × Nat × Nat × Nat // x = .slice (some ⟨q.1, q.2.1, none⟩) 2 q.2.2.1 }) (fun q => ptsHP [(q.1.1, q.1.2.1, .slice (some ⟨q.1.2.2.2.1, q.1.2.2.2.2.1, none⟩) 1 q.1.2.2.2.2.2), (q.1.2.2.2.1, q.1.2.2.2.2.1, .int .i64 1)]) (fun w F hp => ?_) (fun ⟨(BX, OX, cX, BY, OY, cY), hx⟩ => ?_)
  · obtain ⟨A, c, he, _, _, _, hrow⟩ := hp
    obtain ⟨BX, OX, cs, rfl, hcl, ⟨A', c', rfl, _, _, _, hrow'⟩, hc⟩ := hrow.get (i := 0) rfl
    obtain ⟨BY, OY, cs', rfl, hcl', ⟨rfl, _⟩, hc'⟩ := hrow'.get (i := 0) rfl
    refine ⟨⟨(BX, OX, c, BY, OY, c'), (List.cons.inj he).1⟩, fun y hy => ?_⟩
    rcases List.mem_cons.1 hy with rfl | hy
    · exact (hc 0 _ rfl).elim (fun k => k.elim) id
    · rcases List.mem_cons.1 hy with rfl | hy
      · exact (hc' 0 _ rfl).elim (fun k => k.elim) id
      · cases hy
  dsimp only at hx
  subst hx
  refine RW.take [0, 3] ?_
  repeat (first|refine Ja ?_|refine Jb ?_|refine Jc ?_|refine Jd ?_|refine Je ?_|refine Jf ?_|refine Jg ?_|refine Jh ?_|refine Ji ?_|refine Jj ?_|refine Jk ?_|refine Jl ?_|refine Jm ?_|refine Jn ?_|refine Jo ?_|refine Jp ?_|refine Jq ?_|refine Jr ?_|refine Js ?_|refine Jt ?_|refine Ju ?_|refine Jv ?_|refine Jw ?_|refine Jx ?_|refine Jy ?_|refine Jz ?_|refine JA ?_|refine JB ?_|refine JC ?_|refine JD ?_|refine JE ?_|refine JF ?_|refine JG ?_|refine JH ?_|refine JI ?_|refine JJ ?_|refine JK ?_|refine JL ?_|refine JM ?_|refine CW.skip (PW.code ?_)|refine RW.nil (PW.code ?_))
  refine RW.call Try.call13 rfl (fun w2 _ => num_ret 0 w2) rfl ?_
  repeat (first|refine Ja ?_|refine Jb ?_|refine Jc ?_|refine Jd ?_|refine Je ?_|refine Jf ?_|refine Jg ?_|refine Jh ?_|refine Ji ?_|refine Jj ?_|refine Jk ?_|refine Jl ?_|refine Jm ?_|refine Jn ?_|refine Jo ?_|refine Jp ?_|refine Jq ?_|refine Jr ?_|refine Js ?_|refine Jt ?_|refine Ju ?_|refine Jv ?_|refine Jw ?_|refine Jx ?_|refine Jy ?_|refine Jz ?_|refine JA ?_|refine JB ?_|refine JC ?_|refine JD ?_|refine JE ?_|refine JF ?_|refine JG ?_|refine JH ?_|refine JI ?_|refine JJ ?_|refine JK ?_|refine JL ?_|refine JM ?_|refine CW.skip (PW.code ?_)|refine RW.nil (PW.code ?_))
  refine RW.indexAddr rfl rfl (by decide) (by decide) rfl ?_
  repeat (first|refine Ja ?_|refine Jb ?_|refine Jc ?_|refine Jd ?_|refine Je ?_|refine Jf ?_|refine Jg ?_|refine Jh ?_|refine Ji ?_|refine Jj ?_|refine Jk ?_|refine Jl ?_|refine Jm ?_|refine Jn ?_|refine Jo ?_|refine Jp ?_|refine Jq ?_|refine Jr ?_|refine Js ?_|refine Jt ?_|refine Ju ?_|refine Jv ?_|refine Jw ?_|refine Jx ?_|refine Jy ?_|refine Jz ?_|refine JA ?_|refine JB ?_|refine JC ?_|refine JD ?_|refine JE ?_|refine JF ?_|refine JG ?_|refine JH ?_|refine JI ?_|refine JJ ?_|refine JK ?_|refine JL ?_|refine JM ?_|refine CW.skip (PW.code ?_)|refine RW.nil (PW.code ?_))
  refine RW.load_fact rfl rfl rfl (fun w hw => (own_elem (pre := [_]) (j := 0) hw hs1 rfl).at_ 0 rfl) ?_
  repeat (first|refine Ja ?_|refine Jb ?_|refine Jc ?_|refine Jd ?_|refine Je ?_|refine Jf ?_|refine Jg ?_|refine Jh ?_|refine Ji ?_|refine Jj ?_|refine Jk ?_|refine Jl ?_|refine Jm ?_|refine Jn ?_|refine Jo ?_|refine Jp ?_|refine Jq ?_|refine Jr ?_|refine Js ?_|refine Jt ?_|refine Ju ?_|refine Jv ?_|refine Jw ?_|refine Jx ?_|refine Jy ?_|refine Jz ?_|refine JA ?_|refine JB ?_|refine JC ?_|refine JD ?_|refine JE ?_|refine JF ?_|refine JG ?_|refine JH ?_|refine JI ?_|refine JJ ?_|refine JK ?_|refine JL ?_|refine JM ?_|refine CW.skip (PW.code ?_)|refine RW.nil (PW.code ?_))
  refine RW.indexAddr rfl rfl (by decide) (by decide) rfl ?_
  repeat (first|refine Ja ?_|refine Jb ?_|refine Jc ?_|refine Jd ?_|refine Je ?_|refine Jf ?_|refine Jg ?_|refine Jh ?_|refine Ji ?_|refine Jj ?_|refine Jk ?_|refine Jl ?_|refine Jm ?_|refine Jn ?_|refine Jo ?_|refine Jp ?_|refine Jq ?_|refine Jr ?_|refine Js ?_|refine Jt ?_|refine Ju ?_|refine Jv ?_|refine Jw ?_|refine Jx ?_|refine Jy ?_|refine Jz ?_|refine JA ?_|refine JB ?_|refine JC ?_|refine JD ?_|refine JE ?_|refine JF ?_|refine JG ?_|refine JH ?_|refine JI ?_|refine JJ ?_|refine JK ?_|refine JL ?_|refine JM ?_|refine CW.skip (PW.code ?_)|refine RW.nil (PW.code ?_))
  refine RW.load_fact rfl rfl rfl (fun w hw => (own_elem (pre := [_]) (j := 1) hw hs1 rfl).at_ 3 rfl) ?_
  repeat (first|refine Ja ?_|refine Jb ?_|refine Jc ?_|refine Jd ?_|refine Je ?_|refine Jf ?_|refine Jg ?_|refine Jh ?_|refine Ji ?_|refine Jj ?_|refine Jk ?_|refine Jl ?_|refine Jm ?_|refine Jn ?_|refine Jo ?_|refine Jp ?_|refine Jq ?_|refine Jr ?_|refine Js ?_|refine Jt ?_|refine Ju ?_|refine Jv ?_|refine Jw ?_|refine Jx ?_|refine Jy ?_|refine Jz ?_|refine JA ?_|refine JB ?_|refine JC ?_|refine JD ?_|refine JE ?_|refine JF ?_|refine JG ?_|refine JH ?_|refine JI ?_|refine JJ ?_|refine JK ?_|refine JL ?_|refine JM ?_|refine CW.skip (PW.code ?_)|refine RW.nil (PW.code ?_))
  refine RW.call Try.call13 rfl (fun w2 _ => num_ret 0 w2) rfl ?_
  repeat (first|refine Ja ?_|refine Jb ?_|refine Jc ?_|refine Jd ?_|refine Je ?_|refine Jf ?_|refine Jg ?_|refine Jh ?_|refine Ji ?_|refine Jj ?_|refine Jk ?_|refine Jl ?_|refine Jm ?_|refine Jn ?_|refine Jo ?_|refine Jp ?_|refine Jq ?_|refine Jr ?_|refine Js ?_|refine Jt ?_|refine Ju ?_|refine Jv ?_|refine Jw ?_|refine Jx ?_|refine Jy ?_|refine Jz ?_|refine JA ?_|refine JB ?_|refine JC ?_|refine JD ?_|refine JE ?_|refine JF ?_|refine JG ?_|refine JH ?_|refine JI ?_|refine JJ ?_|refine JK ?_|refine JL ?_|refine JM ?_|refine CW.skip (PW.code ?_)|refine RW.nil (PW.code ?_))
  refine RW.call Try.call13 rfl (fun w2 _ => num_ret 0 w2) rfl ?_
  repeat (first|refine Ja ?_|refine Jb ?_|refine Jc ?_|refine Jd ?_|refine Je ?_|refine Jf ?_|refine Jg ?_|refine Jh ?_|refine Ji ?_|refine Jj ?_|refine Jk ?_|refine Jl ?_|refine Jm ?_|refine Jn ?_|refine Jo ?_|refine Jp ?_|refine Jq ?_|refine Jr ?_|refine Js ?_|refine Jt ?_|refine Ju ?_|refine Jv ?_|refine Jw ?_|refine Jx ?_|refine Jy ?_|refine Jz ?_|refine JA ?_|refine JB ?_|refine JC ?_|refine JD ?_|refine JE ?_|refine JF ?_|refine JG ?_|refine JH ?_|refine JI ?_|refine JJ ?_|refine JK ?_|refine JL ?_|refine JM ?_|refine CW.skip (PW.code ?_)|refine RW.nil (PW.code ?_))
  refine RW.indexAddr rfl rfl (by decide) (by decide) rfl ?_
  repeat (first|refine Ja ?_|refine Jb ?_|refine Jc ?_|refine Jd ?_|refine Je ?_|refine Jf ?_|refine Jg ?_|refine Jh ?_|refine Ji ?_|refine Jj ?_|refine Jk ?_|refine Jl ?_|refine Jm ?_|refine Jn ?_|refine Jo ?_|refine Jp ?_|refine Jq ?_|refine Jr ?_|refine Js ?_|refine Jt ?_|refine Ju ?_|refine Jv ?_|refine Jw ?_|refine Jx ?_|refine Jy ?_|refine Jz ?_|refine JA ?_|refine JB ?_|refine JC ?_|refine JD ?_|refine JE ?_|refine JF ?_|refine JG ?_|refine JH ?_|refine JI ?_|refine JJ ?_|refine JK ?_|refine JL ?_|refine JM ?_|refine CW.skip (PW.code ?_)|refine RW.nil (PW.code ?_))
  refine RW.load_fact rfl rfl rfl (fun w hw => St.pts (pre := []) hw (List.mem_cons_self ..)) ?_
  repeat (first|refine Ja ?_|refine Jb ?_|refine Jc ?_|refine Jd ?_|refine Je ?_|refine Jf ?_|refine Jg ?_|refine Jh ?_|refine Ji ?_|refine Jj ?_|refine Jk ?_|refine Jl ?_|refine Jm ?_|refine Jn ?_|refine Jo ?_|refine Jp ?_|refine Jq ?_|refine Jr ?_|refine Js ?_|refine Jt ?_|refine Ju ?_|refine Jv ?_|refine Jw ?_|refine Jx ?_|refine Jy ?_|refine Jz ?_|refine JA ?_|refine JB ?_|refine JC ?_|refine JD ?_|refine JE ?_|refine JF ?_|refine JG ?_|refine JH ?_|refine JI ?_|refine JJ ?_|refine JK ?_|refine JL ?_|refine JM ?_|refine CW.skip (PW.code ?_)|refine RW.nil (PW.code ?_))
  refine RW.indexAddr rfl rfl (by decide) (by decide) rfl ?_
  repeat (first|refine Ja ?_|refine Jb ?_|refine Jc ?_|refine Jd ?_|refine Je ?_|refine Jf ?_|refine Jg ?_|refine Jh ?_|refine Ji ?_|refine Jj ?_|refine Jk ?_|refine Jl ?_|refine Jm ?_|refine Jn ?_|refine Jo ?_|refine Jp ?_|refine Jq ?_|refine Jr ?_|refine Js ?_|refine Jt ?_|refine Ju ?_|refine Jv ?_|refine Jw ?_|refine Jx ?_|refine Jy ?_|refine Jz ?_|refine JA ?_|refine JB ?_|refine JC ?_|refine JD ?_|refine JE ?_|refine JF ?_|refine JG ?_|refine JH ?_|refine JI ?_|refine JJ ?_|refine JK ?_|refine JL ?_|refine JM ?_|refine CW.skip (PW.code ?_)|refine RW.nil (PW.code ?_))
  refine RW.load_fact rfl rfl rfl (fun w hw => St.pts (pre := []) hw (List.mem_cons_self ..)) ?_
  repeat (first|refine Ja ?_|refine Jb ?_|refine Jc ?_|refine Jd ?_|refine Je ?_|refine Jf ?_|refine Jg ?_|refine Jh ?_|refine Ji ?_|refine Jj ?_|refine Jk ?_|refine Jl ?_|refine Jm ?_|refine Jn ?_|refine Jo ?_|refine Jp ?_|refine Jq ?_|refine Jr ?_|refine Js ?_|refine Jt ?_|refine Ju ?_|refine Jv ?_|refine Jw ?_|refine Jx ?_|refine Jy ?_|refine Jz ?_|refine JA ?_|refine JB ?_|refine JC ?_|refine JD ?_|refine JE ?_|refine JF ?_|refine JG ?_|refine JH ?_|refine JI ?_|refine JJ ?_|refine JK ?_|refine JL ?_|refine JM ?_|refine CW.skip (PW.code ?_)|refine RW.nil (PW.code ?_))
  refine RW.indexAddr rfl rfl (by decide) (by decide) rfl ?_
  repeat (first|refine Ja ?_|refine Jb ?_|refine Jc ?_|refine Jd ?_|refine Je ?_|refine Jf ?_|refine Jg ?_|refine Jh ?_|refine Ji ?_|refine Jj ?_|refine Jk ?_|refine Jl ?_|refine Jm ?_|refine Jn ?_|refine Jo ?_|refine Jp ?_|refine Jq ?_|refine Jr ?_|refine Js ?_|refine Jt ?_|refine Ju ?_|refine Jv ?_|refine Jw ?_|refine Jx ?_|refine Jy ?_|refine Jz ?_|refine JA ?_|refine JB ?_|refine JC ?_|refine JD ?_|refine JE ?_|refine JF ?_|refine JG ?_|refine JH ?_|refine JI ?_|refine JJ ?_|refine JK ?_|refine JL ?_|refine JM ?_|refine CW.skip (PW.code ?_)|refine RW.nil (PW.code ?_))
  refine RW.load_fact rfl rfl rfl (fun w hw => St.pts (pre := []) hw (List.mem_cons_of_mem _ (List.mem_cons_self ..))) ?_
  repeat (first|refine Ja ?_|refine Jb ?_|refine Jc ?_|refine Jd ?_|refine Je ?_|refine Jf ?_|refine Jg ?_|refine Jh ?_|refine Ji ?_|refine Jj ?_|refine Jk ?_|refine Jl ?_|refine Jm ?_|refine Jn ?_|refine Jo ?_|refine Jp ?_|refine Jq ?_|refine Jr ?_|refine Js ?_|refine Jt ?_|refine Ju ?_|refine Jv ?_|refine Jw ?_|refine Jx ?_|refine Jy ?_|refine Jz ?_|refine JA ?_|refine JB ?_|refine JC ?_|refine JD ?_|refine JE ?_|refine JF ?_|refine JG ?_|refine JH ?_|refine JI ?_|refine JJ ?_|refine JK ?_|refine JL ?_|refine JM ?_|refine CW.skip (PW.code ?_)|refine RW.nil (PW.code ?_))
  refine CW.ret1 rfl Try.results7 rfl rfl fun w hw => ⟨rfl, hw.kp⟩
end Go.Proofs.Ytoknohnodlaimaa
