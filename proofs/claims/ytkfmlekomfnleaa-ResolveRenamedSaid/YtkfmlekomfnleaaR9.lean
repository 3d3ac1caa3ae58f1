/- The resolver's guard, premise, rule. Conditions: none. -/
import Derived.Test.YtkfmlekomfnleaaR8
set_option linter.unusedVariables false
set_option linter.unusedSimpArgs false
set_option maxRecDepth 10000
namespace Go.Proofs.Ytkfmlekomfnleaa
open Go Go.RowKit

attribute [local irreducible] RW CW
theorem Rd.guardT {M : Mem} {cs : List Value} {g : kGuard.V} (h : Rd kGuard M cs g) : ∃ A c B d, cs = [.slice A g.1.length c, .int .i64 g.2.1, .slice B g.2.2.length d] ∧ Rd kTerms M [.slice A g.1.length c] g.1 ∧ Rd kTerms M [.slice B g.2.2.length d] g.2.2 := by
  obtain ⟨c1, c2, rfl, h1, c3, c4, rfl, h3, h5⟩ := h
  obtain ⟨A, c, rfl⟩ := sl_cell h1
  obtain rfl := int_cell h3
  obtain ⟨B, d, rfl⟩ := sl_cell h5
  exact ⟨A, c, B, d, rfl, h1, h5⟩
theorem Rd.premT {M : Mem} {cs : List Value} {p : kPrem.V} (h : Rd kPrem M cs p) : ∃ A c A1 c1 A2 c2, cs = [.int .i64 p.1, .bool p.2.1.1, .string p.2.1.2.1, .slice A p.2.1.2.2.1.length c, .bool p.2.1.2.2.2.1, .int .i64 p.2.1.2.2.2.2, .slice A1 p.2.2.1.1.length c1, .int .i64 p.2.2.1.2.1, .slice A2 p.2.2.1.2.2.length c2, .string p.2.2.2.1, .string p.2.2.2.2] ∧
    Rd kLitT M [.bool p.2.1.1, .string p.2.1.2.1, .slice A p.2.1.2.2.1.length c, .bool p.2.1.2.2.2.1, .int .i64 p.2.1.2.2.2.2] p.2.1 ∧ Rd kGuard M [.slice A1 p.2.2.1.1.length c1, .int .i64 p.2.2.1.2.1, .slice A2 p.2.2.1.2.2.length c2] p.2.2.1 := by
  obtain ⟨x1, x2, rfl, h1, x3, x4, rfl, h3, x5, x6, rfl, h5, x7, x8, rfl, h7, h8⟩ := h
  have h3' := h3
  have h5' := h5
  obtain rfl := int_cell h1
  obtain ⟨A, c, rfl, _⟩ := Rd.litT h3
  obtain ⟨A1, c1, A2, c2, rfl, _⟩ := Rd.guardT h5
  obtain rfl := str_cell h7
  obtain rfl := str_cell h8
  exact ⟨A, c, A1, c1, A2, c2, rfl, h3', h5'⟩
def guardD (s : kStat.V) (at_ : Int) (fr : Bool) (x : Sc) (g : kGuard.V) : Ex Sc :=
  bnd (wantD (decide (1 ≤ g.2.1) && decide (g.2.1 ≤ 6) && sideD (g.1.length : Int) && sideD (g.2.2.length : Int)) 101 at_) fun _ =>
  bnd (foldX (fun x l => foldX (termD s at_ fr) x l) x [g.1, g.2.2]) .ok
theorem guardD_len {s : kStat.V} {at_ : Int} {fr : Bool} {x x' : Sc} {g : kGuard.V} (hK : fourK s) (h : guardD s at_ fr x g = .ok x') : x'.names.length ≤ x.names.length + 64 := by
  obtain ⟨_, h1, h⟩ := bnd_inv h
  obtain ⟨_, h2, h⟩ := bnd_inv h
  cases h
  have hs : ((decide (1 ≤ g.2.1) && decide (g.2.1 ≤ 6) && sideD (g.1.length : Int) && sideD (g.2.2.length : Int))) = true := by
    unfold wantD at h1
    split at h1
    · assumption
    · cases h1
  simp only [Bool.and_eq_true, sideD, decide_eq_true_eq] at hs
  obtain ⟨x1, h3, h4⟩ := bnd_inv h2
  obtain ⟨x2, h5, h6⟩ := bnd_inv h4
  cases h6
  have h7 := foldX_len (n := fun x => x.names.length) (d := 4) (fun _ _ _ h => termD_len hK h) h3
  have h8 := foldX_len (n := fun x => x.names.length) (d := 4) (fun _ _ _ h => termD_len hK h) h5
  omega
set_option maxHeartbeats 8000000 in
theorem guard_ret {br bc bm : Nat} {s : kStat.V} {at_ : Int} {x : RC} {fr : Bool} {y : Sc} {v : Value} {cs : List Value} {g : kGuard.V} {w : World} {F : Nat → Prop} (hR : RS w (fun b => ¬ F b) br s at_ x) (hl : Rd kGuard (mem w (fun b => ¬ F b)) cs g) (hK : fourK s)
    (hH : Sep (scH bc bm fr y v) w F) (hbd : y.names.length + 64 ≤ 1000000) :
    RetE Try.prog 107 [.pointer (some ⟨br, 0, none⟩), .pointer (some ⟨bc, 0, none⟩), .agg cs.toArray] w F (guardD s at_ fr y g) (fun _ _ => .tuple #[]) (fun y' (v' : Value) => scH bc bm fr y' v') := by
  generalize hS : guardD s at_ fr y g = SP
  have hS := hS.symm
  unfold guardD at hS
  obtain ⟨GA, gc, GB, gd, rfl, hga, hgb⟩ := Rd.guardT hl
  have hle : Mem.le (mem w (fun b => ¬ F b)) (mem w (fun b => ¬ F b)) := Mem.le_refl _
  refine Calls.enter Try.func107 rfl _ rfl rfl (S := F) (H := scH bc bm fr y v) hH ?_
  refine CW.seqR ?_
  refine RW.box_agg rfl rfl fun b5 _ => ?_
  repeat (first|refine Ja ?_|refine Jb ?_|refine Jc ?_|refine Jd ?_|refine Je ?_|refine Jf ?_|refine Jg ?_|refine Jh ?_|refine Ji ?_|refine Jj ?_|refine Jk ?_|refine Jl ?_|refine Jm ?_|refine Jn ?_|refine Jo ?_|refine Jp ?_|refine Jq ?_|refine Jr ?_|refine Js ?_|refine Jt ?_|refine Ju ?_|refine Jv ?_|refine Jw ?_|refine Jx ?_|refine Jy ?_|refine Jz ?_|refine JA ?_|refine JB ?_|refine JC ?_|refine JD ?_|refine JE ?_|refine JF ?_|refine JG ?_|refine JH ?_|refine JI ?_|refine JJ ?_|refine JK ?_|refine JL ?_|refine JM ?_|refine CW.skip (PW.code ?_)|refine RW.nil (PW.code ?_))
  refine RW.splitD 15 rfl (fun h1 => ?_) (fun h1 => ?_)
  rotate_left
  · repeat (first|refine Ja ?_|refine Jb ?_|refine Jc ?_|refine Jd ?_|refine Je ?_|refine Jf ?_|refine Jg ?_|refine Jh ?_|refine Ji ?_|refine Jj ?_|refine Jk ?_|refine Jl ?_|refine Jm ?_|refine Jn ?_|refine Jo ?_|refine Jp ?_|refine Jq ?_|refine Jr ?_|refine Js ?_|refine Jt ?_|refine Ju ?_|refine Jv ?_|refine Jw ?_|refine Jx ?_|refine Jy ?_|refine Jz ?_|refine JA ?_|refine JB ?_|refine JC ?_|refine JD ?_|refine JE ?_|refine JF ?_|refine JG ?_|refine JH ?_|refine JI ?_|refine JJ ?_|refine JK ?_|refine JL ?_|refine JM ?_|refine CW.skip (PW.code ?_)|refine RW.nil (PW.code ?_))
    refine RW.splitD 20 (p := False) rfl (fun h5 => h5.elim) (fun h5 => ?_)
    repeat (first|refine Ja ?_|refine Jb ?_|refine Jc ?_|refine Jd ?_|refine Je ?_|refine Jf ?_|refine Jg ?_|refine Jh ?_|refine Ji ?_|refine Jj ?_|refine Jk ?_|refine Jl ?_|refine Jm ?_|refine Jn ?_|refine Jo ?_|refine Jp ?_|refine Jq ?_|refine Jr ?_|refine Js ?_|refine Jt ?_|refine Ju ?_|refine Jv ?_|refine Jw ?_|refine Jx ?_|refine Jy ?_|refine Jz ?_|refine JA ?_|refine JB ?_|refine JC ?_|refine JD ?_|refine JE ?_|refine JF ?_|refine JG ?_|refine JH ?_|refine JI ?_|refine JJ ?_|refine JK ?_|refine JL ?_|refine JM ?_|refine CW.skip (PW.code ?_)|refine RW.nil (PW.code ?_))
    refine RW.splitD 27 (p := False) rfl (fun h5 => h5.elim) (fun h5 => ?_)
    repeat (first|refine Ja ?_|refine Jb ?_|refine Jc ?_|refine Jd ?_|refine Je ?_|refine Jf ?_|refine Jg ?_|refine Jh ?_|refine Ji ?_|refine Jj ?_|refine Jk ?_|refine Jl ?_|refine Jm ?_|refine Jn ?_|refine Jo ?_|refine Jp ?_|refine Jq ?_|refine Jr ?_|refine Js ?_|refine Jt ?_|refine Ju ?_|refine Jv ?_|refine Jw ?_|refine Jx ?_|refine Jy ?_|refine Jz ?_|refine JA ?_|refine JB ?_|refine JC ?_|refine JD ?_|refine JE ?_|refine JF ?_|refine JG ?_|refine JH ?_|refine JI ?_|refine JJ ?_|refine JK ?_|refine JL ?_|refine JM ?_|refine CW.skip (PW.code ?_)|refine RW.nil (PW.code ?_))
    refine RW.want hS rfl ((by rw [decide_eq_false h1, Bool.false_and, Bool.false_and, Bool.false_and])) (fun w hw => RS.at_cell hR hw) rfl rfl rfl fun hb _ => absurd hb (by decide)
  repeat (first|refine Ja ?_|refine Jb ?_|refine Jc ?_|refine Jd ?_|refine Je ?_|refine Jf ?_|refine Jg ?_|refine Jh ?_|refine Ji ?_|refine Jj ?_|refine Jk ?_|refine Jl ?_|refine Jm ?_|refine Jn ?_|refine Jo ?_|refine Jp ?_|refine Jq ?_|refine Jr ?_|refine Js ?_|refine Jt ?_|refine Ju ?_|refine Jv ?_|refine Jw ?_|refine Jx ?_|refine Jy ?_|refine Jz ?_|refine JA ?_|refine JB ?_|refine JC ?_|refine JD ?_|refine JE ?_|refine JF ?_|refine JG ?_|refine JH ?_|refine JI ?_|refine JJ ?_|refine JK ?_|refine JL ?_|refine JM ?_|refine CW.skip (PW.code ?_)|refine RW.nil (PW.code ?_))
  refine RW.splitD 20 rfl (fun h2 => ?_) (fun h2 => ?_)
  rotate_left
  · repeat (first|refine Ja ?_|refine Jb ?_|refine Jc ?_|refine Jd ?_|refine Je ?_|refine Jf ?_|refine Jg ?_|refine Jh ?_|refine Ji ?_|refine Jj ?_|refine Jk ?_|refine Jl ?_|refine Jm ?_|refine Jn ?_|refine Jo ?_|refine Jp ?_|refine Jq ?_|refine Jr ?_|refine Js ?_|refine Jt ?_|refine Ju ?_|refine Jv ?_|refine Jw ?_|refine Jx ?_|refine Jy ?_|refine Jz ?_|refine JA ?_|refine JB ?_|refine JC ?_|refine JD ?_|refine JE ?_|refine JF ?_|refine JG ?_|refine JH ?_|refine JI ?_|refine JJ ?_|refine JK ?_|refine JL ?_|refine JM ?_|refine CW.skip (PW.code ?_)|refine RW.nil (PW.code ?_))
    refine RW.splitD 27 (p := False) rfl (fun h5 => h5.elim) (fun h5 => ?_)
    repeat (first|refine Ja ?_|refine Jb ?_|refine Jc ?_|refine Jd ?_|refine Je ?_|refine Jf ?_|refine Jg ?_|refine Jh ?_|refine Ji ?_|refine Jj ?_|refine Jk ?_|refine Jl ?_|refine Jm ?_|refine Jn ?_|refine Jo ?_|refine Jp ?_|refine Jq ?_|refine Jr ?_|refine Js ?_|refine Jt ?_|refine Ju ?_|refine Jv ?_|refine Jw ?_|refine Jx ?_|refine Jy ?_|refine Jz ?_|refine JA ?_|refine JB ?_|refine JC ?_|refine JD ?_|refine JE ?_|refine JF ?_|refine JG ?_|refine JH ?_|refine JI ?_|refine JJ ?_|refine JK ?_|refine JL ?_|refine JM ?_|refine CW.skip (PW.code ?_)|refine RW.nil (PW.code ?_))
    refine RW.want hS rfl ((by rw [decide_eq_false h2, Bool.and_false, Bool.false_and, Bool.false_and])) (fun w hw => RS.at_cell hR hw) rfl rfl rfl fun hb _ => absurd hb (by decide)
  repeat (first|refine Ja ?_|refine Jb ?_|refine Jc ?_|refine Jd ?_|refine Je ?_|refine Jf ?_|refine Jg ?_|refine Jh ?_|refine Ji ?_|refine Jj ?_|refine Jk ?_|refine Jl ?_|refine Jm ?_|refine Jn ?_|refine Jo ?_|refine Jp ?_|refine Jq ?_|refine Jr ?_|refine Js ?_|refine Jt ?_|refine Ju ?_|refine Jv ?_|refine Jw ?_|refine Jx ?_|refine Jy ?_|refine Jz ?_|refine JA ?_|refine JB ?_|refine JC ?_|refine JD ?_|refine JE ?_|refine JF ?_|refine JG ?_|refine JH ?_|refine JI ?_|refine JJ ?_|refine JK ?_|refine JL ?_|refine JM ?_|refine CW.skip (PW.code ?_)|refine RW.nil (PW.code ?_))
  refine RW.callv Try.call116 rfl rfl (fun w hw => side_ret) rfl ?_
  repeat (first|refine Ja ?_|refine Jb ?_|refine Jc ?_|refine Jd ?_|refine Je ?_|refine Jf ?_|refine Jg ?_|refine Jh ?_|refine Ji ?_|refine Jj ?_|refine Jk ?_|refine Jl ?_|refine Jm ?_|refine Jn ?_|refine Jo ?_|refine Jp ?_|refine Jq ?_|refine Jr ?_|refine Js ?_|refine Jt ?_|refine Ju ?_|refine Jv ?_|refine Jw ?_|refine Jx ?_|refine Jy ?_|refine Jz ?_|refine JA ?_|refine JB ?_|refine JC ?_|refine JD ?_|refine JE ?_|refine JF ?_|refine JG ?_|refine JH ?_|refine JI ?_|refine JJ ?_|refine JK ?_|refine JL ?_|refine JM ?_|refine CW.skip (PW.code ?_)|refine RW.nil (PW.code ?_))
  refine RW.split 27 rfl (fun h3 => ?_) (fun h3 => ?_)
  rotate_left
  · repeat (first|refine Ja ?_|refine Jb ?_|refine Jc ?_|refine Jd ?_|refine Je ?_|refine Jf ?_|refine Jg ?_|refine Jh ?_|refine Ji ?_|refine Jj ?_|refine Jk ?_|refine Jl ?_|refine Jm ?_|refine Jn ?_|refine Jo ?_|refine Jp ?_|refine Jq ?_|refine Jr ?_|refine Js ?_|refine Jt ?_|refine Ju ?_|refine Jv ?_|refine Jw ?_|refine Jx ?_|refine Jy ?_|refine Jz ?_|refine JA ?_|refine JB ?_|refine JC ?_|refine JD ?_|refine JE ?_|refine JF ?_|refine JG ?_|refine JH ?_|refine JI ?_|refine JJ ?_|refine JK ?_|refine JL ?_|refine JM ?_|refine CW.skip (PW.code ?_)|refine RW.nil (PW.code ?_))
    refine RW.want hS rfl ((by rw [h3, Bool.and_false, Bool.false_and])) (fun w hw => RS.at_cell hR hw) rfl rfl rfl fun hb _ => absurd hb (by decide)
  repeat (first|refine Ja ?_|refine Jb ?_|refine Jc ?_|refine Jd ?_|refine Je ?_|refine Jf ?_|refine Jg ?_|refine Jh ?_|refine Ji ?_|refine Jj ?_|refine Jk ?_|refine Jl ?_|refine Jm ?_|refine Jn ?_|refine Jo ?_|refine Jp ?_|refine Jq ?_|refine Jr ?_|refine Js ?_|refine Jt ?_|refine Ju ?_|refine Jv ?_|refine Jw ?_|refine Jx ?_|refine Jy ?_|refine Jz ?_|refine JA ?_|refine JB ?_|refine JC ?_|refine JD ?_|refine JE ?_|refine JF ?_|refine JG ?_|refine JH ?_|refine JI ?_|refine JJ ?_|refine JK ?_|refine JL ?_|refine JM ?_|refine CW.skip (PW.code ?_)|refine RW.nil (PW.code ?_))
  refine RW.callv Try.call116 rfl rfl (fun w hw => side_ret) rfl ?_
  repeat (first|refine Ja ?_|refine Jb ?_|refine Jc ?_|refine Jd ?_|refine Je ?_|refine Jf ?_|refine Jg ?_|refine Jh ?_|refine Ji ?_|refine Jj ?_|refine Jk ?_|refine Jl ?_|refine Jm ?_|refine Jn ?_|refine Jo ?_|refine Jp ?_|refine Jq ?_|refine Jr ?_|refine Js ?_|refine Jt ?_|refine Ju ?_|refine Jv ?_|refine Jw ?_|refine Jx ?_|refine Jy ?_|refine Jz ?_|refine JA ?_|refine JB ?_|refine JC ?_|refine JD ?_|refine JE ?_|refine JF ?_|refine JG ?_|refine JH ?_|refine JI ?_|refine JJ ?_|refine JK ?_|refine JL ?_|refine JM ?_|refine CW.skip (PW.code ?_)|refine RW.nil (PW.code ?_))
  refine RW.want hS rfl ((by rw [decide_eq_true h1, decide_eq_true h2, h3]; rfl)) (fun w hw => RS.at_cell hR hw) rfl rfl rfl fun hb hS => ?_
  have hlen1 : g.1.length ≤ 8 := by simp only [sideD, Bool.and_eq_true, decide_eq_true_eq] at h3; omega
  have hlen2 : g.2.2.length ≤ 8 := by simp only [sideD, Bool.and_eq_true, decide_eq_true_eq] at hb; omega
  repeat (first|refine Ja ?_|refine Jb ?_|refine Jc ?_|refine Jd ?_|refine Je ?_|refine Jf ?_|refine Jg ?_|refine Jh ?_|refine Ji ?_|refine Jj ?_|refine Jk ?_|refine Jl ?_|refine Jm ?_|refine Jn ?_|refine Jo ?_|refine Jp ?_|refine Jq ?_|refine Jr ?_|refine Js ?_|refine Jt ?_|refine Ju ?_|refine Jv ?_|refine Jw ?_|refine Jx ?_|refine Jy ?_|refine Jz ?_|refine JA ?_|refine JB ?_|refine JC ?_|refine JD ?_|refine JE ?_|refine JF ?_|refine JG ?_|refine JH ?_|refine JI ?_|refine JJ ?_|refine JK ?_|refine JL ?_|refine JM ?_|refine CW.skip (PW.code ?_)|refine RW.nil (PW.code ?_))
  refine RW.buildSlice (e := 59) (c := [.slice GA g.1.length gc, .slice GB g.2.2.length gd]) rfl (fun w => by kernel_rfl) rfl fun b39 _ => ?_
  repeat (first|refine Ja ?_|refine Jb ?_|refine Jc ?_|refine Jd ?_|refine Je ?_|refine Jf ?_|refine Jg ?_|refine Jh ?_|refine Ji ?_|refine Jj ?_|refine Jk ?_|refine Jl ?_|refine Jm ?_|refine Jn ?_|refine Jo ?_|refine Jp ?_|refine Jq ?_|refine Jr ?_|refine Js ?_|refine Jt ?_|refine Ju ?_|refine Jv ?_|refine Jw ?_|refine Jx ?_|refine Jy ?_|refine Jz ?_|refine JA ?_|refine JB ?_|refine JC ?_|refine JD ?_|refine JE ?_|refine JF ?_|refine JG ?_|refine JH ?_|refine JI ?_|refine JJ ?_|refine JK ?_|refine JL ?_|refine JM ?_|refine CW.skip (PW.code ?_)|refine RW.nil (PW.code ?_))
  refine CW.block ?_
  refine CW.loop (ι := { q : Nat × Sc × Value // q.1 ≤ 2 ∧ q.2.1.names.length ≤ y.names.length + 32 * q.1 ∧ SP = bnd (foldX (fun x l => foldX (termD s at_ fr) x l) q.2.1 ([g.1, g.2.2].drop q.1)) _ }) (fun q => [(0, .pointer (some ⟨br, 0, none⟩)), (1, .pointer (some ⟨bc, 0, none⟩)), (39, .slice (some ⟨b39, 0, none⟩) 2 2), (40, .int .i64 2), (41, .int .i64 q.1.1)])
    (fun q => blk b39 [.slice GA g.1.length gc, .slice GB g.2.2.length gd] 59 :: scH bc bm fr q.1.2.1 q.1.2.2) (fun q => 2 - q.1.1) ⟨(0, y, v), by omega, by show y.names.length ≤ _; omega, hS⟩ ⟨rfl, rfl, rfl, rfl, rfl, trivial⟩ (fun h => h.sub (List.Sublist.cons_cons _ (List.Sublist.cons _ (List.Sublist.refl _)))) ?_
  intro ⟨⟨k, z, u⟩, hk, hn, hS⟩
  dsimp only at hS hk hn ⊢
  repeat (first|refine Ja ?_|refine Jb ?_|refine Jc ?_|refine Jd ?_|refine Je ?_|refine Jf ?_|refine Jg ?_|refine Jh ?_|refine Ji ?_|refine Jj ?_|refine Jk ?_|refine Jl ?_|refine Jm ?_|refine Jn ?_|refine Jo ?_|refine Jp ?_|refine Jq ?_|refine Jr ?_|refine Js ?_|refine Jt ?_|refine Ju ?_|refine Jv ?_|refine Jw ?_|refine Jx ?_|refine Jy ?_|refine Jz ?_|refine JA ?_|refine JB ?_|refine JC ?_|refine JD ?_|refine JE ?_|refine JF ?_|refine JG ?_|refine JH ?_|refine JI ?_|refine JJ ?_|refine JK ?_|refine JL ?_|refine JM ?_|refine CW.skip (PW.code ?_)|refine RW.nil (PW.code ?_))
  refine CW.seq ?_
  refine CW.ite rfl (fun hlt => ?_) (fun hge => ?_)
  · have hlt' : k < 2 := by omega
    have hcell : ∃ A c, [Value.slice GA g.1.length gc, .slice GB g.2.2.length gd][k]? = some (.slice A ([g.1, g.2.2][k]'hlt').length c) ∧ Rd kTerms (mem w (fun b => ¬ F b)) [.slice A ([g.1, g.2.2][k]'hlt').length c] ([g.1, g.2.2][k]'hlt') ∧ ([g.1, g.2.2][k]'hlt').length ≤ 8 := by
      match k, hlt' with
      | 0, _ => exact ⟨GA, gc, rfl, hga, hlen1⟩
      | 1, _ => exact ⟨GB, gd, rfl, hgb, hlen2⟩
    rw [foldX_step (show k < [g.1, g.2.2].length from hlt')] at hS
    obtain ⟨TA, tc, hc1, hc2, hc3⟩ := hcell
    generalize hts : [g.1, g.2.2][k] = ts at *
    repeat (first|refine Ja ?_|refine Jb ?_|refine Jc ?_|refine Jd ?_|refine Je ?_|refine Jf ?_|refine Jg ?_|refine Jh ?_|refine Ji ?_|refine Jj ?_|refine Jk ?_|refine Jl ?_|refine Jm ?_|refine Jn ?_|refine Jo ?_|refine Jp ?_|refine Jq ?_|refine Jr ?_|refine Js ?_|refine Jt ?_|refine Ju ?_|refine Jv ?_|refine Jw ?_|refine Jx ?_|refine Jy ?_|refine Jz ?_|refine JA ?_|refine JB ?_|refine JC ?_|refine JD ?_|refine JE ?_|refine JF ?_|refine JG ?_|refine JH ?_|refine JI ?_|refine JJ ?_|refine JK ?_|refine JL ?_|refine JM ?_|refine CW.skip (PW.code ?_)|refine RW.nil (PW.code ?_))
    refine CW.seq ?_
    refine CW.block ?_
    repeat (first|refine Ja ?_|refine Jb ?_|refine Jc ?_|refine Jd ?_|refine Je ?_|refine Jf ?_|refine Jg ?_|refine Jh ?_|refine Ji ?_|refine Jj ?_|refine Jk ?_|refine Jl ?_|refine Jm ?_|refine Jn ?_|refine Jo ?_|refine Jp ?_|refine Jq ?_|refine Jr ?_|refine Js ?_|refine Jt ?_|refine Ju ?_|refine Jv ?_|refine Jw ?_|refine Jx ?_|refine Jy ?_|refine Jz ?_|refine JA ?_|refine JB ?_|refine JC ?_|refine JD ?_|refine JE ?_|refine JF ?_|refine JG ?_|refine JH ?_|refine JI ?_|refine JJ ?_|refine JK ?_|refine JL ?_|refine JM ?_|refine CW.skip (PW.code ?_)|refine RW.nil (PW.code ?_))
    refine RW.indexAddr rfl rfl (by omega) hlt rfl ?_
    refine RW.load_blk [] (c := [.slice GA g.1.length gc, .slice GB g.2.2.length gd]) rfl (by simpa using hc1) rfl rfl ?_
    repeat (first|refine Ja ?_|refine Jb ?_|refine Jc ?_|refine Jd ?_|refine Je ?_|refine Jf ?_|refine Jg ?_|refine Jh ?_|refine Ji ?_|refine Jj ?_|refine Jk ?_|refine Jl ?_|refine Jm ?_|refine Jn ?_|refine Jo ?_|refine Jp ?_|refine Jq ?_|refine Jr ?_|refine Js ?_|refine Jt ?_|refine Ju ?_|refine Jv ?_|refine Jw ?_|refine Jx ?_|refine Jy ?_|refine Jz ?_|refine JA ?_|refine JB ?_|refine JC ?_|refine JD ?_|refine JE ?_|refine JF ?_|refine JG ?_|refine JH ?_|refine JI ?_|refine JJ ?_|refine JK ?_|refine JL ?_|refine JM ?_|refine CW.skip (PW.code ?_)|refine RW.nil (PW.code ?_))
    refine CW.block ?_
    refine CW.loop (ι := { q : Nat × Sc × Value // q.1 ≤ ts.length ∧ q.2.1.names.length ≤ z.names.length + 4 * q.1 ∧ SP = bnd (foldX (termD s at_ fr) q.2.1 (ts.drop q.1)) _ }) (fun q => [(0, .pointer (some ⟨br, 0, none⟩)), (1, .pointer (some ⟨bc, 0, none⟩)), (39, .slice (some ⟨b39, 0, none⟩) 2 2), (40, .int .i64 2), (41, .int .i64 k), (45, .slice TA ts.length tc), (46, .int .i64 ts.length), (47, .int .i64 q.1.1)])
      (fun q => blk b39 [.slice GA g.1.length gc, .slice GB g.2.2.length gd] 59 :: scH bc bm fr q.1.2.1 q.1.2.2) (fun q => ts.length - q.1.1) ⟨(0, z, u), by omega, by show z.names.length ≤ _; omega, hS⟩ ⟨rfl, rfl, rfl, rfl, rfl, rfl, rfl, rfl, trivial⟩ (fun h => h) ?_
    intro ⟨⟨j, z2, u2⟩, hj, hn2, hS⟩
    dsimp only at hS hj hn2 ⊢
    repeat (first|refine Ja ?_|refine Jb ?_|refine Jc ?_|refine Jd ?_|refine Je ?_|refine Jf ?_|refine Jg ?_|refine Jh ?_|refine Ji ?_|refine Jj ?_|refine Jk ?_|refine Jl ?_|refine Jm ?_|refine Jn ?_|refine Jo ?_|refine Jp ?_|refine Jq ?_|refine Jr ?_|refine Js ?_|refine Jt ?_|refine Ju ?_|refine Jv ?_|refine Jw ?_|refine Jx ?_|refine Jy ?_|refine Jz ?_|refine JA ?_|refine JB ?_|refine JC ?_|refine JD ?_|refine JE ?_|refine JF ?_|refine JG ?_|refine JH ?_|refine JI ?_|refine JJ ?_|refine JK ?_|refine JL ?_|refine JM ?_|refine CW.skip (PW.code ?_)|refine RW.nil (PW.code ?_))
    refine CW.seq ?_
    refine CW.ite rfl (fun hlt => ?_) (fun hge => ?_)
    · have hlt' : j < ts.length := by simpa using hlt
      rw [foldX_step hlt'] at hS
      obtain ⟨B1, O1, es1, hA, hl1, hr, hm⟩ := sl_get hc2 (List.getElem?_eq_getElem hlt')
      have hr' := hr
      obtain ⟨QA, qc, rfl, hq⟩ := Rd.termT hr
      repeat (first|refine Ja ?_|refine Jb ?_|refine Jc ?_|refine Jd ?_|refine Je ?_|refine Jf ?_|refine Jg ?_|refine Jh ?_|refine Ji ?_|refine Jj ?_|refine Jk ?_|refine Jl ?_|refine Jm ?_|refine Jn ?_|refine Jo ?_|refine Jp ?_|refine Jq ?_|refine Jr ?_|refine Js ?_|refine Jt ?_|refine Ju ?_|refine Jv ?_|refine Jw ?_|refine Jx ?_|refine Jy ?_|refine Jz ?_|refine JA ?_|refine JB ?_|refine JC ?_|refine JD ?_|refine JE ?_|refine JF ?_|refine JG ?_|refine JH ?_|refine JI ?_|refine JJ ?_|refine JK ?_|refine JL ?_|refine JM ?_|refine CW.skip (PW.code ?_)|refine RW.nil (PW.code ?_))
      refine CW.seq ?_
      refine CW.block ?_
      repeat (first|refine Ja ?_|refine Jb ?_|refine Jc ?_|refine Jd ?_|refine Je ?_|refine Jf ?_|refine Jg ?_|refine Jh ?_|refine Ji ?_|refine Jj ?_|refine Jk ?_|refine Jl ?_|refine Jm ?_|refine Jn ?_|refine Jo ?_|refine Jp ?_|refine Jq ?_|refine Jr ?_|refine Js ?_|refine Jt ?_|refine Ju ?_|refine Jv ?_|refine Jw ?_|refine Jx ?_|refine Jy ?_|refine Jz ?_|refine JA ?_|refine JB ?_|refine JC ?_|refine JD ?_|refine JE ?_|refine JF ?_|refine JG ?_|refine JH ?_|refine JI ?_|refine JJ ?_|refine JK ?_|refine JL ?_|refine JM ?_|refine CW.skip (PW.code ?_)|refine RW.nil (PW.code ?_))
      refine RW.indexAddrE hA rfl rfl (by omega) hlt rfl ?_
      refine RW.load_ros rfl hle hm rfl rfl (Nat.zero_lt_succ _) rfl ?_
      refine RW.alloc (c := [.int .i64 0, .string ByteArray.empty, .slice none 0 0, .int .i64 0]) rfl rfl fun b10 _ => ?_
      refine RW.store_whole [] rfl rfl rfl rfl rfl (by simp [Value.oneCell']) ?_
      refine RW.next ?_
      refine CW.region ?_
      repeat (first|refine Ja ?_|refine Jb ?_|refine Jc ?_|refine Jd ?_|refine Je ?_|refine Jf ?_|refine Jg ?_|refine Jh ?_|refine Ji ?_|refine Jj ?_|refine Jk ?_|refine Jl ?_|refine Jm ?_|refine Jn ?_|refine Jo ?_|refine Jp ?_|refine Jq ?_|refine Jr ?_|refine Js ?_|refine Jt ?_|refine Ju ?_|refine Jv ?_|refine Jw ?_|refine Jx ?_|refine Jy ?_|refine Jz ?_|refine JA ?_|refine JB ?_|refine JC ?_|refine JD ?_|refine JE ?_|refine JF ?_|refine JG ?_|refine JH ?_|refine JI ?_|refine JJ ?_|refine JK ?_|refine JL ?_|refine JM ?_|refine CW.skip (PW.code ?_)|refine RW.nil (PW.code ?_))
      refine RW.take [2, 3, 4, 1] ?_
      refine RW.callE (r := [_]) (scH bc bm fr z2 u2) hS Try.call117 rfl (fun w2 F2 hw2 hF2 h1 _ => term_ret (RS.callF hR hw2 hF2) (hr'.mono (ro_callF hw2 hF2)) hK h1 (by omega)) rfl rfl rfl fun z' u' hz hS => ?_
      have hn' := termD_len hK hz
      refine RW.nil ?_
      refine PW.code ?_
      refine CW.region ?_
      refine RW.add rfl rfl (w64 (by omega) (by omega)) rfl ?_
      repeat (first|refine Ja ?_|refine Jb ?_|refine Jc ?_|refine Jd ?_|refine Je ?_|refine Jf ?_|refine Jg ?_|refine Jh ?_|refine Ji ?_|refine Jj ?_|refine Jk ?_|refine Jl ?_|refine Jm ?_|refine Jn ?_|refine Jo ?_|refine Jp ?_|refine Jq ?_|refine Jr ?_|refine Js ?_|refine Jt ?_|refine Ju ?_|refine Jv ?_|refine Jw ?_|refine Jx ?_|refine Jy ?_|refine Jz ?_|refine JA ?_|refine JB ?_|refine JC ?_|refine JD ?_|refine JE ?_|refine JF ?_|refine JG ?_|refine JH ?_|refine JI ?_|refine JJ ?_|refine JK ?_|refine JL ?_|refine JM ?_|refine CW.skip (PW.code ?_)|refine RW.nil (PW.code ?_))
      refine RW.nil ?_
      exact PW.againT ⟨(j + 1, z', u'), hlt', by show z'.names.length ≤ _; omega, hS⟩ [3, 0, 1, 2] ⟨rfl, rfl, rfl, rfl, rfl, rfl, rfl, rfl, trivial⟩ rfl (by show ts.length - (j + 1) < ts.length - j; omega)
    · have hge' : ts.length ≤ j := by simpa using hge
      rw [foldX_end hge'] at hS
      refine CW.exit rfl ?_
      refine PW.code ?_
      refine CW.region ?_
      refine RW.add rfl rfl (w64 (by omega) (by omega)) rfl ?_
      repeat (first|refine Ja ?_|refine Jb ?_|refine Jc ?_|refine Jd ?_|refine Je ?_|refine Jf ?_|refine Jg ?_|refine Jh ?_|refine Ji ?_|refine Jj ?_|refine Jk ?_|refine Jl ?_|refine Jm ?_|refine Jn ?_|refine Jo ?_|refine Jp ?_|refine Jq ?_|refine Jr ?_|refine Js ?_|refine Jt ?_|refine Ju ?_|refine Jv ?_|refine Jw ?_|refine Jx ?_|refine Jy ?_|refine Jz ?_|refine JA ?_|refine JB ?_|refine JC ?_|refine JD ?_|refine JE ?_|refine JF ?_|refine JG ?_|refine JH ?_|refine JI ?_|refine JJ ?_|refine JK ?_|refine JL ?_|refine JM ?_|refine CW.skip (PW.code ?_)|refine RW.nil (PW.code ?_))
      refine RW.nil ?_
      exact PW.again ⟨(k + 1, z2, u2), hlt', by show z2.names.length ≤ _; omega, hS⟩ ⟨rfl, rfl, rfl, rfl, rfl, trivial⟩ (fun h => h) (by show 2 - (k + 1) < 2 - k; omega)
  · rw [foldX_end (by show 2 ≤ k; omega)] at hS
    refine CW.exit rfl ?_
    exact PW.ret (rs := []) (vs := []) Try.results107 rfl ResOK.nil fun w hw => XP.ok (V := fun _ _ => .tuple #[]) u hS (hw.sub (List.Sublist.cons _ (List.Sublist.refl _)))
end Go.Proofs.Ytkfmlekomfnleaa
