/- Parts of the proof: The document's Book: literal, term, guard, premise. · The document's Book.rule. · The calculus, twentieth part (printed by gen_e3.py): open orders, an operation of a known value that sees what another has laid. · The document's except. · The document's item, Check. · The document's Check. · The plain law of Check, first part: items without variables: the document's codes are the resolver's. Conditions: none. -/
import Derived.Test.YtkfmlekomfnleaaGreatPl8
/- The document's Book: literal, term, guard, premise. Conditions: none. -/
set_option linter.unusedVariables false
set_option linter.unusedSimpArgs false
set_option maxRecDepth 10000
namespace Go.Proofs.YtkfmlekomfnleaaGreat
open Go Go.RowKit Go.MapKept

def rLit (s : kStat.V) (b : Bk) (l : kLitT.V) : Int × Bk :=
  if atN (pN s) l.2.1 < 0 then (82, b) else if (predAt s l.2.1).2.1 = 2 then (84, b)
  else if ¬ (rArgs s b (predAt s l.2.1) l.2.2.1).1 = 0 then rArgs s b (predAt s l.2.1) l.2.2.1
  else (if ¬ l.2.2.2.1 = decide ((predAt s l.2.1).2.1 = 3) then 84
    else if l.2.2.2.1 = true then (if hasD (predAt s l.2.1).2.2.2 l.2.2.2.2 = true then 0 else 85) else if ¬ l.2.2.2.2 = 0 then 84 else 0, (rArgs s b (predAt s l.2.1) l.2.2.1).2)
def rTerm (s : kStat.V) (b : Bk) (t : kTerm.V) : Int × Bk :=
  if t.2.1 = ByteArray.empty then (if ¬ t.1 = 0 then 101 else if 0 < (t.2.2.1.length : Int) then 101 else if mayD t.2.2.2 = true then 0 else 22, b)
  else if atN (pN s) t.2.1 < 0 then (82, b) else if ¬ (predAt s t.2.1).2.1 = 2 then (84, b)
  else if t.1 = 0 then (101, b) else if t.1 < -1000 then (101, b) else if 1000 < t.1 then (101, b) else if ¬ t.2.2.2 = 0 then (101, b)
  else rArgs s b (predAt s t.2.1) t.2.2.1
def rGuard (s : kStat.V) (b : Bk) (g : kGuard.V) : Int × Bk :=
  if g.2.1 < 1 then (101, b) else if 6 < g.2.1 then (101, b) else if (g.1.length : Int) = 0 then (101, b) else if 8 < (g.1.length : Int) then (101, b) else if (g.2.2.length : Int) = 0 then (101, b) else if 8 < (g.2.2.length : Int) then (101, b)
  else foldC (rTerm s) b (g.1 ++ g.2.2)
def rPrem (s : kStat.V) (b : Bk) (p : kPrem.V) : Int × Bk :=
  if p.1 = 1 then rLit s b p.2.1 else if p.1 = 2 then rGuard s b p.2.2.1
  else if p.1 = 3 then (if (rLoose s b p.2.2.2.1).1 = 0 then rLoose s (rLoose s b p.2.2.2.1).2 p.2.2.2.2 else rLoose s b p.2.2.2.1) else (1, b)
theorem lit_ok {s : kStat.V} (hK : fourK s) {b : Bk} {l : kLitT.V} (h : BkOK b) : BkOK (rLit s b l).2 ∧ (rLit s b l).2.names.length ≤ b.names.length + 4 ∧ (rLit s b l).2.loose.length = b.loose.length := by
  have h4 := predAt_four hK l.2.1
  obtain ⟨h1, h2, h3⟩ := args_ok s b (predAt s l.2.1) l.2.2.1 h
  unfold rLit
  split
  · exact ⟨h, by simp, rfl⟩
  · split
    · exact ⟨h, by simp, rfl⟩
    · split
      · exact ⟨h1, by omega, h3⟩
      · exact ⟨h1, by show (rArgs s b (predAt s l.2.1) l.2.2.1).2.names.length ≤ _; omega, h3⟩
theorem term_ok {s : kStat.V} (hK : fourK s) {b : Bk} {t : kTerm.V} (h : BkOK b) : BkOK (rTerm s b t).2 ∧ (rTerm s b t).2.names.length ≤ b.names.length + 4 ∧ (rTerm s b t).2.loose.length = b.loose.length := by
  have h4 := predAt_four hK t.2.1
  obtain ⟨h1, h2, h3⟩ := args_ok s b (predAt s t.2.1) t.2.2.1 h
  unfold rTerm
  repeat' split
  all_goals first | exact ⟨h, by simp, rfl⟩ | exact ⟨h1, by omega, h3⟩
theorem guard_ok {s : kStat.V} (hK : fourK s) {b : Bk} {g : kGuard.V} (h : BkOK b) : BkOK (rGuard s b g).2 ∧ (rGuard s b g).2.names.length ≤ b.names.length + 64 ∧ (rGuard s b g).2.loose.length ≤ b.loose.length := by
  have hk := foldC_ok (f := rTerm s) (c := 4) (d := 0) (fun b t hb => by obtain ⟨a1, a2, a3⟩ := term_ok hK (t := t) hb; exact ⟨a1, a2, by omega⟩) (l := g.1 ++ g.2.2) h
  obtain ⟨h1, h2, h3⟩ := hk
  unfold rGuard
  split
  · exact ⟨h, by simp, Nat.le_refl _⟩
  split
  · exact ⟨h, by simp, Nat.le_refl _⟩
  split
  · exact ⟨h, by simp, Nat.le_refl _⟩
  split
  · exact ⟨h, by simp, Nat.le_refl _⟩
  split
  · exact ⟨h, by simp, Nat.le_refl _⟩
  split
  · exact ⟨h, by simp, Nat.le_refl _⟩
  rw [List.length_append] at h2 h3
  exact ⟨h1, by omega, by omega⟩
theorem prem_ok {s : kStat.V} (hK : fourK s) {b : Bk} {p : kPrem.V} (h : BkOK b) : BkOK (rPrem s b p).2 ∧ (rPrem s b p).2.names.length ≤ b.names.length + 64 ∧ (rPrem s b p).2.loose.length ≤ b.loose.length + 2 := by
  unfold rPrem
  split
  · obtain ⟨h1, h2, h3⟩ := lit_ok hK (l := p.2.1) h
    exact ⟨h1, by omega, by omega⟩
  split
  · obtain ⟨h1, h2, h3⟩ := guard_ok hK (g := p.2.2.1) h
    exact ⟨h1, h2, by omega⟩
  split
  · obtain ⟨h1, h2, h3⟩ := rLoose_ok (s := s) (x := p.2.2.2.1) h
    split
    · obtain ⟨g1, g2, g3⟩ := rLoose_ok (s := s) (x := p.2.2.2.2) h1
      exact ⟨g1, by omega, by omega⟩
    · exact ⟨h1, by omega, by omega⟩
  · exact ⟨h, by simp, by simp⟩
attribute [local irreducible] RW CW
set_option maxHeartbeats 16000000 in
theorem ref_literal_ret {s : kStat.V} {x : RC} {bp : Nat} {b : Bk} {q : VVV} {l : kLitT.V} {cs : List Value} {w : World} {F : Nat → Prop} (hst : StatOn (mem w (fun b => ¬ F b)) s x) (hr : Rd kLitT (mem w (fun b => ¬ F b)) cs l) (hK : fourK s) (hH : Sep (bkH bp b q) w F) (hb : BkOK b) (hbd : b.names.length + 4 ≤ 1000000) :
    RetC Tryz.prog 58 [.pointer (some ⟨bp, 0, none⟩), .agg (x.stat s).toArray, .agg cs.toArray] w F (fun _ : VVV => .int .i64 (rLit s b l).1) (fun q' => bkH bp (rLit s b l).2 q') := by
  generalize hS : rLit s b l = SP
  have hS := hS.symm
  unfold rLit at hS
  have hle : Mem.le (mem w (fun b => ¬ F b)) (mem w (fun b => ¬ F b)) := Mem.le_refl _
  have hnm := names_ok hst.preds (by decide)
  have hsp := sl_small hst.preds
  unfold reach at hsp
  have hpl : (pN s).length = (sPreds s).length := List.length_map _
  obtain ⟨LA, lc, rfl, hla⟩ := Rd.litT hr
  refine Calls.enter Tryz.func58 rfl _ rfl rfl (S := F) (H := bkH bp b q) hH ?_
  refine CW.seqR ?_
  refine RW.box_agg (l := x.stat s) rfl rfl fun b4 _ => ?_
  refine RW.box_agg (l := [.bool l.1, .string l.2.1, .slice LA l.2.2.1.length lc, .bool l.2.2.2.1, .int .i64 l.2.2.2.2]) rfl rfl fun b5 _ => ?_
  dsimp only [bkH]
  refine Jd ?_;refine Jb ?_
  refine CW.seqA (by kernel_rfl) rfl ?_
  refine AW.val rfl (fun _ _ => by refine JF ?_;exact RW.done rfl) ?_
  (apply AW.gen (fun n => encU (pN s).length n) (fun n => ownHP 9 1 (encU (pN s).length n) ((pN s).map strE)) rfl; · intro Gx X; refine RW.callN Tryz.call55 rfl (fun w2 hw => ref_preds_ret (StatOn.mono hst (ro_call hw))) rfl fun v => ?_; refine RW.have_ (φ := ∃ n, v = encU (pN s).length n) (fun w hw => by have := enc_ownU (pre := []) hw; rwa [List.length_map] at this) (fun ⟨n, hn⟩ => ?_); subst hn; exact RW.done_gen (b := n) rfl)
  refine AW.val rfl (fun _ _ => by refine Je ?_;exact RW.done rfl) ?_;refine AW.val rfl (fun _ _ => by refine JA ?_;exact RW.done rfl) ?_
  refine AW.stop (by kernel_rfl) (by kernel_rfl) fun bs => ?_
  refine RW.call Tryz.call44 rfl (fun w2 hw => find_own (pre := [_, _, _, _, _, _]) hw hnm) rfl ?_
  refine RW.take [0, 1, 2, 3, 4, 5] ?_
  refine Jd ?_;refine Jb ?_
  refine CW.seq ?_
  refine Ja ?_;refine Jc ?_;refine Jk ?_;refine Jb ?_
  refine CW.ite rfl (fun h1 => ?_) (fun h1 => ?_)
  · rw [if_pos h1] at hS
    refine Ja ?_;refine Jd ?_;refine Jb ?_
    refine CW.ret1 rfl Tryz.results58 rfl rfl fun w hw => ⟨q, by rw [hS], ?_⟩
    rw [hS]
    exact hw.take [2, 3, 4, 5]
  rw [if_neg h1] at hS
  obtain ⟨k, hk, ek, _⟩ := atN_in h1
  have hk2 : k < (sPreds s).length := hpl ▸ hk
  rw [pred_of ek hk2] at hS
  have hp4 : (sPreds s)[k].2.2.1.length ≤ 4 := hK _ (List.getElem_mem hk2)
  obtain ⟨B1, O1, es1, hA1, hl1, hr1, hm1⟩ := sl_get hst.preds (List.getElem?_eq_getElem hk2)
  generalize hp : (sPreds s)[k] = p at *
  have hr1' := hr1
  obtain ⟨KA, kc, VA, vc, rfl, hks, hvs⟩ := Rd.predT hr1
  rw [ek]
  refine CW.skip ?_
  refine PW.code ?_
  refine Ja ?_;refine Je ?_;refine JB ?_;refine Jc ?_
  refine RW.indexAddrE hA1 rfl rfl (by omega) (by omega) rfl ?_
  refine RW.load_ros (cs := [.string p.1, .int .i64 p.2.1, .slice KA p.2.2.1.length kc, .slice VA p.2.2.2.length vc]) rfl hle hm1 rfl rfl (by simp) rfl ?_
  refine RW.alloc (c := [.string ByteArray.empty, .int .i64 0, .slice none 0 0, .slice none 0 0]) rfl rfl fun b8 _ => ?_
  refine RW.store_whole [] rfl rfl (vs := [.string p.1, .int .i64 p.2.1, .slice KA p.2.2.1.length kc, .slice VA p.2.2.2.length vc]) rfl rfl rfl (by simp [Value.oneCell']) ?_
  refine Jb ?_
  refine CW.seq ?_
  refine Ja ?_;refine Je ?_;refine JA ?_;refine Ji ?_;refine Jb ?_
  refine CW.ite rfl (fun h2 => ?_) (fun h2 => ?_)
  · rw [if_pos h2] at hS
    refine Ja ?_;refine Jd ?_;refine Jb ?_
    refine CW.ret1 rfl Tryz.results58 rfl rfl fun w hw => ⟨q, by rw [hS], ?_⟩
    rw [hS]
    exact hw.take [3, 4, 5, 6]
  rw [if_neg h2] at hS
  refine CW.skip ?_
  refine PW.code ?_
  refine Ja ?_;refine Jc ?_;refine JG ?_;refine JE ?_;refine Je ?_;refine JB ?_
  refine RW.callT [3, 4, 5, 6, 0, 1, 2] (bkH bp b q) rfl rfl rfl Tryz.call137 (fun w2 F2 hM h1 _ => ref_args_ret (StatOn.mono hst hM) (hr1'.mono hM) (hla.mono hM) h1 hb (by omega)) fun q2 => ?_
  refine RW.take [4, 5, 6, 0, 1, 2, 3] ?_
  generalize hra : rArgs s b p l.2.2.1 = ra at *
  refine Jd ?_;refine Jb ?_
  refine CW.seq ?_
  refine Ja ?_;refine Jc ?_;refine Jj ?_;refine Jb ?_
  refine CW.ite rfl (fun h3 => ?_) (fun h3 => ?_)
  · rw [if_pos h3] at hS
    refine Ja ?_;refine Jc ?_;refine Jd ?_;refine Jb ?_
    refine CW.ret1 rfl Tryz.results58 rfl rfl fun w hw => ⟨q2, by rw [hS], ?_⟩
    rw [hS]
    exact hw.take [3, 4, 5, 6]
  rw [if_neg h3] at hS
  refine CW.skip ?_
  refine PW.code ?_
  refine CW.seq ?_
  refine Ja ?_;refine Je ?_;refine JB ?_;refine Je ?_;refine JA ?_;refine Ji ?_;refine Jr ?_;refine Jc ?_
  refine RW.splitD 40 rfl (fun h4 => ?_) (fun h4 => ?_)
  · rw [if_pos h4] at hS
    refine Jz ?_;refine Jz ?_;refine Jz ?_;refine Jz ?_;refine Jz ?_;refine Jz ?_;refine Jz ?_;refine Jz ?_;refine Jv ?_;refine Jb ?_
    refine CW.ct rfl ?_
    refine Ja ?_;refine Jd ?_;refine Jb ?_
    refine CW.ret1 rfl Tryz.results58 rfl rfl fun w hw => ⟨q2, by rw [hS], ?_⟩
    rw [hS]
    exact hw.take [3, 4, 5, 6]
  rw [if_neg h4] at hS
  refine Jy ?_;refine Je ?_;refine Jy ?_;refine JB ?_;refine Jy ?_;refine Js ?_;refine Jy ?_;refine Jc ?_
  cases hV : l.2.2.2.1 with
  | false =>
    rw [if_neg (by rw [hV]; simp)] at hS
    refine Jy ?_;refine Je ?_;refine Jy ?_;refine JB ?_;refine Jy ?_;refine Jj ?_;refine Jy ?_;refine Jv ?_;refine Jw ?_;refine Jb ?_
    refine CW.ite rfl (fun h5 => ?_) (fun h5 => ?_)
    · rw [if_pos h5] at hS
      refine Ja ?_;refine Jd ?_;refine Jb ?_
      refine CW.ret1 rfl Tryz.results58 rfl rfl fun w hw => ⟨q2, by rw [hS], ?_⟩
      rw [hS]
      exact hw.take [3, 4, 5, 6]
    · rw [if_neg h5] at hS
      refine CW.skip ?_
      refine PW.code ?_
      refine CW.seq ?_
      refine Ja ?_;refine Je ?_;refine JB ?_;refine Jc ?_;refine Jz ?_;refine Jz ?_;refine Jz ?_;refine Jz ?_;refine Jz ?_;refine Jz ?_;refine Jw ?_;refine Jb ?_
      refine CW.cf rfl ?_
      refine CW.skip ?_
      refine PW.code ?_
      refine Ja ?_;refine Jd ?_;refine Jb ?_
      refine CW.ret1 rfl Tryz.results58 rfl rfl fun w hw => ⟨q2, by rw [hS], ?_⟩
      rw [hS]
      exact hw.take [3, 4, 5, 6]
  | true =>
    rw [if_pos hV] at hS
    refine Jz ?_;refine Jz ?_;refine Jz ?_;refine Jy ?_;refine Jw ?_;refine Jw ?_;refine Jb ?_
    refine CW.cf rfl ?_
    refine CW.skip ?_
    refine PW.code ?_
    refine CW.seq ?_
    refine Ja ?_;refine Je ?_;refine JB ?_;refine Jc ?_;refine Jy ?_;refine Je ?_;refine Jy ?_;refine JA ?_;refine Jy ?_;refine Je ?_;refine Jy ?_;refine JB ?_;refine Jy ?_
    refine RW.call Tryz.call138 rfl (fun w2 hw => ref_has_ret rfl (hvs.mono (ro_call hw))) rfl ?_
    refine Jy ?_;refine Js ?_;refine Jv ?_;refine Jb ?_
    cases hh : hasD p.2.2.2 l.2.2.2.2 with
    | true =>
      rw [if_pos hh] at hS
      refine CW.cf rfl ?_
      refine CW.skip ?_
      refine PW.code ?_
      refine Ja ?_;refine Jd ?_;refine Jb ?_
      refine CW.ret1 rfl Tryz.results58 rfl rfl fun w hw => ⟨q2, by rw [hS], ?_⟩
      rw [hS]
      exact hw.take [3, 4, 5, 6]
    | false =>
      rw [if_neg (by rw [hh]; simp)] at hS
      refine CW.ct rfl ?_
      refine Ja ?_;refine Jd ?_;refine Jb ?_
      refine CW.ret1 rfl Tryz.results58 rfl rfl fun w hw => ⟨q2, by rw [hS], ?_⟩
      rw [hS]
      exact hw.take [3, 4, 5, 6]
set_option maxHeartbeats 16000000 in
theorem ref_term_ret {s : kStat.V} {x : RC} {bp : Nat} {b : Bk} {q : VVV} {t : kTerm.V} {cs : List Value} {w : World} {F : Nat → Prop} (hst : StatOn (mem w (fun b => ¬ F b)) s x) (hr : Rd kTerm (mem w (fun b => ¬ F b)) cs t) (hK : fourK s) (hH : Sep (bkH bp b q) w F) (hb : BkOK b) (hbd : b.names.length + 4 ≤ 1000000) :
    RetC Tryz.prog 193 [.pointer (some ⟨bp, 0, none⟩), .agg (x.stat s).toArray, .agg cs.toArray] w F (fun _ : VVV => .int .i64 (rTerm s b t).1) (fun q' => bkH bp (rTerm s b t).2 q') := by
  generalize hS : rTerm s b t = SP
  have hS := hS.symm
  unfold rTerm at hS
  have hle : Mem.le (mem w (fun b => ¬ F b)) (mem w (fun b => ¬ F b)) := Mem.le_refl _
  have hnm := names_ok hst.preds (by decide)
  have hsp := sl_small hst.preds
  unfold reach at hsp
  have hpl : (pN s).length = (sPreds s).length := List.length_map _
  obtain ⟨LA, lc, rfl, hla⟩ := Rd.termT hr
  refine Calls.enter Tryz.func193 rfl _ rfl rfl (S := F) (H := bkH bp b q) hH ?_
  refine CW.seqR ?_
  refine RW.box_agg (l := x.stat s) rfl rfl fun b4 _ => ?_
  refine RW.box_agg (l := [.int .i64 t.1, .string t.2.1, .slice LA t.2.2.1.length lc, .int .i64 t.2.2.2]) rfl rfl fun b5 _ => ?_
  dsimp only [bkH]
  refine Jd ?_;refine Jb ?_
  refine CW.seq ?_
  refine Ja ?_;refine Je ?_;refine JA ?_;refine Jo ?_;refine Jb ?_
  refine CW.ite rfl (fun h0 => ?_) (fun h0 => ?_)
  · have h0' : t.2.1 = ByteArray.empty := h0
    rw [if_pos h0'] at hS
    refine CW.seq ?_
    refine Ja ?_;refine Je ?_;refine JA ?_;refine Jj ?_;refine Jc ?_
    refine RW.splitD 14 rfl (fun h1 => ?_) (fun h1 => ?_)
    · rw [if_pos h1] at hS
      refine Jz ?_;refine Jz ?_;refine Jz ?_;refine Jz ?_;refine Jv ?_;refine Jb ?_
      refine CW.ct rfl ?_
      refine Ja ?_;refine Jd ?_;refine Jb ?_
      refine CW.ret1 rfl Tryz.results193 rfl rfl fun w hw => ⟨q, by rw [hS], ?_⟩
      rw [hS]
      exact hw.take [2, 3, 4, 5]
    rw [if_neg h1] at hS
    refine Jy ?_;refine Je ?_;refine Jy ?_;refine JA ?_;refine Jy ?_;refine Jg ?_;refine Jy ?_;refine Jm ?_;refine Jw ?_;refine Jb ?_
    refine CW.ite rfl (fun h2 => ?_) (fun h2 => ?_)
    · rw [if_pos h2] at hS
      refine Ja ?_;refine Jd ?_;refine Jb ?_
      refine CW.ret1 rfl Tryz.results193 rfl rfl fun w hw => ⟨q, by rw [hS], ?_⟩
      rw [hS]
      exact hw.take [2, 3, 4, 5]
    rw [if_neg h2] at hS
    refine CW.skip ?_
    refine PW.code ?_
    refine CW.seq ?_
    refine Ja ?_;refine Je ?_;refine JA ?_
    refine RW.call Tryz.call169 rfl (fun w2 hw => ref_May_ret) rfl ?_
    refine Js ?_;refine Jb ?_
    cases hm : mayD t.2.2.2 with
    | true =>
      rw [if_pos hm] at hS
      refine CW.cf rfl ?_
      refine CW.skip ?_
      refine PW.code ?_
      refine Ja ?_;refine Jd ?_;refine Jb ?_
      refine CW.ret1 rfl Tryz.results193 rfl rfl fun w hw => ⟨q, by rw [hS], ?_⟩
      rw [hS]
      exact hw.take [2, 3, 4, 5]
    | false =>
      rw [if_neg (by rw [hm]; simp)] at hS
      refine CW.ct rfl ?_
      refine Ja ?_;refine Jd ?_;refine Jb ?_
      refine CW.ret1 rfl Tryz.results193 rfl rfl fun w hw => ⟨q, by rw [hS], ?_⟩
      rw [hS]
      exact hw.take [2, 3, 4, 5]
  have h0' : ¬ t.2.1 = ByteArray.empty := h0
  rw [if_neg h0'] at hS
  refine CW.skip ?_
  refine PW.code ?_
  refine CW.seqA (by kernel_rfl) rfl ?_
  refine AW.val rfl (fun _ _ => by refine JF ?_;exact RW.done rfl) ?_
  (apply AW.gen (fun n => encU (pN s).length n) (fun n => ownHP 9 1 (encU (pN s).length n) ((pN s).map strE)) rfl; · intro Gx X; refine RW.callN Tryz.call55 rfl (fun w2 hw => ref_preds_ret (StatOn.mono hst (ro_call hw))) rfl fun v => ?_; refine RW.have_ (φ := ∃ n, v = encU (pN s).length n) (fun w hw => by have := enc_ownU (pre := []) hw; rwa [List.length_map] at this) (fun ⟨n, hn⟩ => ?_); subst hn; exact RW.done_gen (b := n) rfl)
  refine AW.val rfl (fun _ _ => by refine Je ?_;exact RW.done rfl) ?_;refine AW.val rfl (fun _ _ => by refine JA ?_;exact RW.done rfl) ?_
  refine AW.stop (by kernel_rfl) (by kernel_rfl) fun bs => ?_
  refine RW.call Tryz.call44 rfl (fun w2 hw => find_own (pre := [_, _, _, _, _, _]) hw hnm) rfl ?_
  refine RW.take [0, 1, 2, 3, 4, 5] ?_
  refine Jd ?_;refine Jb ?_
  refine CW.seq ?_
  refine Ja ?_;refine Jc ?_;refine Jk ?_;refine Jb ?_
  refine CW.ite rfl (fun h1 => ?_) (fun h1 => ?_)
  · rw [if_pos h1] at hS
    refine Ja ?_;refine Jd ?_;refine Jb ?_
    refine CW.ret1 rfl Tryz.results193 rfl rfl fun w hw => ⟨q, by rw [hS], ?_⟩
    rw [hS]
    exact hw.take [2, 3, 4, 5]
  rw [if_neg h1] at hS
  obtain ⟨k, hk, ek, _⟩ := atN_in h1
  have hk2 : k < (sPreds s).length := hpl ▸ hk
  rw [pred_of ek hk2] at hS
  have hp4 : (sPreds s)[k].2.2.1.length ≤ 4 := hK _ (List.getElem_mem hk2)
  obtain ⟨B1, O1, es1, hA1, hl1, hr1, hm1⟩ := sl_get hst.preds (List.getElem?_eq_getElem hk2)
  generalize hp : (sPreds s)[k] = p at *
  have hr1' := hr1
  obtain ⟨KA, kc, VA, vc, rfl, hks, hvs⟩ := Rd.predT hr1
  rw [ek]
  refine CW.skip ?_
  refine PW.code ?_
  refine CW.seq ?_
  refine Ja ?_;refine Je ?_;refine JB ?_;refine Jc ?_
  refine RW.indexAddrE hA1 rfl rfl (by omega) (by omega) rfl ?_
  refine Je ?_
  refine RW.load_ro rfl hle (hm1 1 _ rfl) rfl rfl ?_
  refine Jj ?_;refine Jb ?_
  refine CW.ite rfl (fun h2 => ?_) (fun h2 => ?_)
  · rw [if_pos h2] at hS
    refine Ja ?_;refine Jd ?_;refine Jb ?_
    refine CW.ret1 rfl Tryz.results193 rfl rfl fun w hw => ⟨q, by rw [hS], ?_⟩
    rw [hS]
    exact hw.take [2, 3, 4, 5]
  rw [if_neg h2] at hS
  refine CW.skip ?_
  refine PW.code ?_
  refine CW.seq ?_
  refine Ja ?_;refine Je ?_;refine JA ?_;refine Ji ?_;refine Jc ?_
  refine RW.splitD 41 rfl (fun h3 => ?_) (fun h3 => ?_)
  · rw [if_pos h3] at hS
    refine Jz ?_;refine Jz ?_;refine Jz ?_;refine Jv ?_;refine Jc ?_;refine Jz ?_;refine Jz ?_;refine Jz ?_;refine Jv ?_;refine Jc ?_;refine Jz ?_;refine Jz ?_;refine Jz ?_;refine Jv ?_;refine Jb ?_
    refine CW.ct rfl ?_
    refine Ja ?_;refine Jd ?_;refine Jb ?_
    refine CW.ret1 rfl Tryz.results193 rfl rfl fun w hw => ⟨q, by rw [hS], ?_⟩
    rw [hS]
    exact hw.take [2, 3, 4, 5]
  rw [if_neg h3] at hS
  refine Jy ?_;refine Je ?_;refine Jy ?_;refine JA ?_;refine Jy ?_;refine Jk ?_;refine Jw ?_;refine Jc ?_
  refine RW.splitD 46 rfl (fun h4 => ?_) (fun h4 => ?_)
  · rw [if_pos h4] at hS
    refine Jz ?_;refine Jz ?_;refine Jz ?_;refine Jv ?_;refine Jc ?_;refine Jz ?_;refine Jz ?_;refine Jz ?_;refine Jv ?_;refine Jb ?_
    refine CW.ct rfl ?_
    refine Ja ?_;refine Jd ?_;refine Jb ?_
    refine CW.ret1 rfl Tryz.results193 rfl rfl fun w hw => ⟨q, by rw [hS], ?_⟩
    rw [hS]
    exact hw.take [2, 3, 4, 5]
  rw [if_neg h4] at hS
  refine Jy ?_;refine Je ?_;refine Jy ?_;refine JA ?_;refine Jy ?_;refine Jm ?_;refine Jw ?_;refine Jc ?_
  refine RW.splitD 51 rfl (fun h5 => ?_) (fun h5 => ?_)
  · rw [if_pos h5] at hS
    refine Jz ?_;refine Jz ?_;refine Jz ?_;refine Jv ?_;refine Jb ?_
    refine CW.ct rfl ?_
    refine Ja ?_;refine Jd ?_;refine Jb ?_
    refine CW.ret1 rfl Tryz.results193 rfl rfl fun w hw => ⟨q, by rw [hS], ?_⟩
    rw [hS]
    exact hw.take [2, 3, 4, 5]
  rw [if_neg h5] at hS
  refine Jy ?_;refine Je ?_;refine Jy ?_;refine JA ?_;refine Jy ?_;refine Jj ?_;refine Jw ?_;refine Jb ?_
  refine CW.ite rfl (fun h6 => ?_) (fun h6 => ?_)
  · rw [if_pos h6] at hS
    refine Ja ?_;refine Jd ?_;refine Jb ?_
    refine CW.ret1 rfl Tryz.results193 rfl rfl fun w hw => ⟨q, by rw [hS], ?_⟩
    rw [hS]
    exact hw.take [2, 3, 4, 5]
  rw [if_neg h6] at hS
  refine CW.skip ?_
  refine PW.code ?_
  refine CW.seqA (by kernel_rfl) rfl ?_
  refine AW.val rfl (fun _ _ => by refine Jc ?_;exact RW.done rfl) ?_;refine AW.val rfl (fun _ _ => by refine JF ?_;exact RW.done rfl) ?_;refine AW.val rfl (fun _ _ => by refine Je ?_;exact RW.done rfl) ?_;refine AW.val rfl (fun _ _ => by refine JB ?_;exact RW.done rfl) ?_;refine AW.val rfl (fun _ _ => by refine Jc ?_;exact RW.done rfl) ?_
  (apply AW.val rfl; · intro Gx X; (first | refine RW.yes rfl ?_ | skip); refine RW.indexAddrE hA1 rfl rfl (by omega) (by omega) rfl ?_; exact RW.done rfl)
  (apply AW.val rfl; · intro Gx X; (first | refine RW.yes rfl ?_ | skip); refine RW.load_ros (cs := [.string p.1, .int .i64 p.2.1, .slice KA p.2.2.1.length kc, .slice VA p.2.2.2.length vc]) rfl hle hm1 rfl rfl (by simp) rfl ?_; exact RW.done rfl)
  refine AW.val rfl (fun _ _ => by refine Je ?_;exact RW.done rfl) ?_;refine AW.val rfl (fun _ _ => by refine JA ?_;exact RW.done rfl) ?_
  refine AW.stop (by kernel_rfl) (by kernel_rfl) fun bs2 => ?_
  refine RW.callT [2, 3, 4, 5, 0, 1] (bkH bp b q) rfl rfl rfl Tryz.call137 (fun w2 F2 hM h1 _ => ref_args_ret (StatOn.mono hst hM) (hr1'.mono hM) (hla.mono hM) h1 hb (by omega)) fun q2 => ?_
  refine RW.take [4, 5, 0, 1, 2, 3] ?_
  refine Jd ?_;refine Jb ?_
  refine CW.ret1 rfl Tryz.results193 rfl rfl fun w hw => ⟨q2, by rw [hS], ?_⟩
  rw [hS]
  exact hw.take [2, 3, 4, 5]
set_option maxHeartbeats 16000000 in
theorem ref_guard_ret {s : kStat.V} {x : RC} {bp : Nat} {b : Bk} {q : VVV} {g : kGuard.V} {cs : List Value} {w : World} {F : Nat → Prop} (hst : StatOn (mem w (fun b => ¬ F b)) s x) (hr : Rd kGuard (mem w (fun b => ¬ F b)) cs g) (hK : fourK s) (hH : Sep (bkH bp b q) w F) (hb : BkOK b) (hbd : b.names.length + 64 ≤ 1000000) :
    RetC Tryz.prog 174 [.pointer (some ⟨bp, 0, none⟩), .agg (x.stat s).toArray, .agg cs.toArray] w F (fun _ : VVV => .int .i64 (rGuard s b g).1) (fun q' => bkH bp (rGuard s b g).2 q') := by
  generalize hS : rGuard s b g = SP
  have hS := hS.symm
  unfold rGuard at hS
  have hle : Mem.le (mem w (fun b => ¬ F b)) (mem w (fun b => ¬ F b)) := Mem.le_refl _
  obtain ⟨GA, gc, GB, gd, rfl, hgl, hgr⟩ := Rd.guardT hr
  refine Calls.enter Tryz.func174 rfl _ rfl rfl (S := F) (H := bkH bp b q) hH ?_
  refine CW.seqR ?_
  refine RW.box_agg (l := x.stat s) rfl rfl fun b4 _ => ?_
  refine RW.box_agg (l := [.slice GA g.1.length gc, .int .i64 g.2.1, .slice GB g.2.2.length gd]) rfl rfl fun b5 _ => ?_
  dsimp only [bkH]
  refine Jd ?_;refine Jb ?_
  refine CW.seq ?_
  refine Ja ?_;refine Je ?_;refine JA ?_;refine Jk ?_;refine Jc ?_
  refine RW.splitD 13 rfl (fun h1 => ?_) (fun h1 => ?_)
  · rw [if_pos h1] at hS
    refine Jz ?_;refine Jz ?_;refine Jz ?_;refine Jv ?_;refine Jc ?_;refine Jz ?_;refine Jz ?_;refine Jz ?_;refine Jz ?_;refine Jv ?_;refine Jc ?_;refine Jz ?_;refine Jz ?_;refine Jz ?_;refine Jz ?_;refine Jv ?_;refine Jc ?_;refine Jz ?_;refine Jz ?_;refine Jz ?_;refine Jz ?_;refine Jv ?_;refine Jc ?_;refine Jz ?_;refine Jz ?_;refine Jz ?_;refine Jz ?_;refine Jv ?_;refine Jb ?_
    refine CW.ct rfl ?_
    refine Ja ?_;refine Jd ?_;refine Jb ?_
    refine CW.ret1 rfl Tryz.results174 rfl rfl fun w hw => ⟨q, by rw [hS], ?_⟩
    rw [hS]
    exact hw.take [2, 3, 4, 5]
  rw [if_neg h1] at hS
  refine Jy ?_;refine Je ?_;refine Jy ?_;refine JA ?_;refine Jy ?_;refine Jm ?_;refine Jw ?_;refine Jc ?_
  refine RW.splitD 18 rfl (fun h2 => ?_) (fun h2 => ?_)
  · rw [if_pos h2] at hS
    refine Jz ?_;refine Jz ?_;refine Jz ?_;refine Jz ?_;refine Jv ?_;refine Jc ?_;refine Jz ?_;refine Jz ?_;refine Jz ?_;refine Jz ?_;refine Jv ?_;refine Jc ?_;refine Jz ?_;refine Jz ?_;refine Jz ?_;refine Jz ?_;refine Jv ?_;refine Jc ?_;refine Jz ?_;refine Jz ?_;refine Jz ?_;refine Jz ?_;refine Jv ?_;refine Jb ?_
    refine CW.ct rfl ?_
    refine Ja ?_;refine Jd ?_;refine Jb ?_
    refine CW.ret1 rfl Tryz.results174 rfl rfl fun w hw => ⟨q, by rw [hS], ?_⟩
    rw [hS]
    exact hw.take [2, 3, 4, 5]
  rw [if_neg h2] at hS
  refine Jy ?_;refine Je ?_;refine Jy ?_;refine JA ?_;refine Jy ?_;refine Jg ?_;refine Jy ?_;refine Ji ?_;refine Jw ?_;refine Jc ?_
  refine RW.splitD 24 rfl (fun h3 => ?_) (fun h3 => ?_)
  · rw [if_pos h3] at hS
    refine Jz ?_;refine Jz ?_;refine Jz ?_;refine Jz ?_;refine Jv ?_;refine Jc ?_;refine Jz ?_;refine Jz ?_;refine Jz ?_;refine Jz ?_;refine Jv ?_;refine Jc ?_;refine Jz ?_;refine Jz ?_;refine Jz ?_;refine Jz ?_;refine Jv ?_;refine Jb ?_
    refine CW.ct rfl ?_
    refine Ja ?_;refine Jd ?_;refine Jb ?_
    refine CW.ret1 rfl Tryz.results174 rfl rfl fun w hw => ⟨q, by rw [hS], ?_⟩
    rw [hS]
    exact hw.take [2, 3, 4, 5]
  rw [if_neg h3] at hS
  refine Jy ?_;refine Je ?_;refine Jy ?_;refine JA ?_;refine Jy ?_;refine Jg ?_;refine Jy ?_;refine Jm ?_;refine Jw ?_;refine Jc ?_
  refine RW.splitD 30 rfl (fun h4 => ?_) (fun h4 => ?_)
  · rw [if_pos h4] at hS
    refine Jz ?_;refine Jz ?_;refine Jz ?_;refine Jz ?_;refine Jv ?_;refine Jc ?_;refine Jz ?_;refine Jz ?_;refine Jz ?_;refine Jz ?_;refine Jv ?_;refine Jb ?_
    refine CW.ct rfl ?_
    refine Ja ?_;refine Jd ?_;refine Jb ?_
    refine CW.ret1 rfl Tryz.results174 rfl rfl fun w hw => ⟨q, by rw [hS], ?_⟩
    rw [hS]
    exact hw.take [2, 3, 4, 5]
  rw [if_neg h4] at hS
  refine Jy ?_;refine Je ?_;refine Jy ?_;refine JA ?_;refine Jy ?_;refine Jg ?_;refine Jy ?_;refine Ji ?_;refine Jw ?_;refine Jc ?_
  refine RW.splitD 36 rfl (fun h5 => ?_) (fun h5 => ?_)
  · rw [if_pos h5] at hS
    refine Jz ?_;refine Jz ?_;refine Jz ?_;refine Jz ?_;refine Jv ?_;refine Jb ?_
    refine CW.ct rfl ?_
    refine Ja ?_;refine Jd ?_;refine Jb ?_
    refine CW.ret1 rfl Tryz.results174 rfl rfl fun w hw => ⟨q, by rw [hS], ?_⟩
    rw [hS]
    exact hw.take [2, 3, 4, 5]
  rw [if_neg h5] at hS
  refine Jy ?_;refine Je ?_;refine Jy ?_;refine JA ?_;refine Jy ?_;refine Jg ?_;refine Jy ?_;refine Jm ?_;refine Jw ?_;refine Jb ?_
  refine CW.ite rfl (fun h6 => ?_) (fun h6 => ?_)
  · rw [if_pos h6] at hS
    refine Ja ?_;refine Jd ?_;refine Jb ?_
    refine CW.ret1 rfl Tryz.results174 rfl rfl fun w hw => ⟨q, by rw [hS], ?_⟩
    rw [hS]
    exact hw.take [2, 3, 4, 5]
  rw [if_neg h6] at hS
  have hnl : (g.1 ++ g.2.2).length = g.1.length + g.2.2.length := List.length_append
  have hl16 : g.1.length + g.2.2.length ≤ 16 := by omega
  refine CW.skip ?_
  refine PW.code ?_
  refine CW.seq ?_
  refine Ja ?_;refine Jd ?_;refine Jb ?_
  refine CW.block ?_
  refine CW.loop (ι := { y : Nat × Bk × VVV // y.1 ≤ g.1.length + g.2.2.length ∧ BkOK y.2.1 ∧ y.2.1.names.length ≤ b.names.length + 4 * y.1 ∧ SP = foldC (rTerm s) y.2.1 ((g.1 ++ g.2.2).drop y.1) }) (fun y => [(0, ptrV bp), (4, ptrV b4), (5, ptrV b5), (7, .int .i64 y.1.1)]) (fun y => [blk b5 [.slice GA g.1.length gc, .int .i64 g.2.1, .slice GB g.2.2.length gd] 143, blk b4 (x.stat s) 31] ++ bkH bp y.1.2.1 y.1.2.2) (fun y => g.1.length + g.2.2.length - y.1.1) ⟨(0, b, q), Nat.zero_le _, hb, by simp, hS⟩ ⟨rfl, rfl, rfl, rfl, trivial⟩ (fun h => h) ?_
  intro ⟨⟨i, b1, q1⟩, hi, hb1, hn1, hS1⟩
  dsimp only [List.cons_append, List.nil_append] at hi hb1 hn1 hS1 ⊢
  refine CW.seq ?_
  refine Ja ?_;refine Jc ?_;refine Je ?_;refine JA ?_;refine Jg ?_;refine Je ?_;refine JA ?_;refine Jg ?_
  refine RW.add rfl rfl (w64 (by omega) (by omega)) rfl ?_
  refine Jk ?_;refine Jb ?_
  refine CW.ite rfl (fun hlt => ?_) (fun hge => ?_)
  rotate_left
  · have hge' : (g.1 ++ g.2.2).length ≤ i := by omega
    rw [List.drop_eq_nil_of_le hge'] at hS1
    refine CW.exit rfl ?_
    refine PW.code ?_
    refine Ja ?_;refine Jd ?_;refine Jb ?_
    refine CW.ret1 rfl Tryz.results174 rfl rfl fun w hw => ⟨q1, by rw [hS1]; rfl, ?_⟩
    rw [hS1]
    exact hw.take [2, 3, 4, 5]
  have hlt' : i < (g.1 ++ g.2.2).length := by omega
  refine CW.skip ?_
  refine PW.code ?_
  refine CW.seq ?_
  refine CW.block ?_
  refine CW.seqR ?_
  refine RW.build (v := .agg #[.int .i64 0, .string ByteArray.empty, .slice none 0 0, .int .i64 0]) rfl (fun w => by kernel_rfl) rfl ?_
  refine RW.alloc (c := [.int .i64 0, .string ByteArray.empty, .slice none 0 0, .int .i64 0]) rfl rfl fun b8 _ => ?_
  refine RW.store_whole [] rfl rfl (vs := [.int .i64 0, .string ByteArray.empty, .slice none 0 0, .int .i64 0]) rfl rfl rfl (by simp [Value.oneCell']) ?_
  refine Jb ?_
  refine CW.cut (ι := { tc : List Value // Rd kTerm (mem w (fun b => ¬ F b)) tc (g.1 ++ g.2.2)[i] }) (fun _ => [(0, ptrV bp), (4, ptrV b4), (5, ptrV b5), (7, .int .i64 i), (8, ptrV b8)]) (fun tc => [blk b8 tc.1 207, blk b5 [.slice GA g.1.length gc, .int .i64 g.2.1, .slice GB g.2.2.length gd] 143, blk b4 (x.stat s) 31] ++ bkH bp b1 q1) ?_ (fun ⟨tc, htc⟩ => ?_)
  · refine Ja ?_;refine Jc ?_;refine Je ?_;refine JB ?_;refine Jg ?_;refine Jk ?_;refine Jb ?_
    refine CW.ite rfl (fun hL => ?_) (fun hL => ?_)
    · have hL' : i < g.1.length := by simpa using hL
      obtain ⟨B1, O1, es1, hA1, hl1, hr1, hm1⟩ := sl_get hgl (List.getElem?_eq_getElem hL')
      have hr1' := hr1
      obtain ⟨LA, lc, rfl, _⟩ := Rd.termT hr1
      refine CW.region ?_
      refine Je ?_;refine JB ?_;refine Jc ?_
      refine RW.indexAddrE hA1 rfl rfl (by omega) hL rfl ?_
      refine RW.load_ros (cs := _) rfl hle hm1 rfl rfl (by simp) rfl ?_
      refine RW.store_whole [] rfl rfl rfl rfl rfl (by simp [Value.oneCell']) ?_
      refine RW.nil ?_
      exact PW.meet ⟨_, by rw [List.getElem_append_left hL']; exact hr1'⟩ ⟨rfl, rfl, rfl, rfl, rfl, trivial⟩ (fun h => h)
    · have hL' : i - g.1.length < g.2.2.length := by omega
      obtain ⟨B1, O1, es1, hA1, hl1, hr1, hm1⟩ := sl_get hgr (List.getElem?_eq_getElem hL')
      have hr1' := hr1
      obtain ⟨LA, lc, rfl, _⟩ := Rd.termT hr1
      refine CW.region ?_
      refine Je ?_;refine JB ?_;refine Jc ?_;refine Je ?_;refine JB ?_;refine Jg ?_
      refine RW.sub rfl rfl (w64 (by omega) (by omega)) rfl ?_
      rw [show (i : Int) - (g.1.length : Int) = ((i - g.1.length : Nat) : Int) by omega]
      refine RW.indexAddrE hA1 rfl rfl (by omega) (by omega) rfl ?_
      refine RW.load_ros (cs := _) rfl hle hm1 rfl rfl (by simp) rfl ?_
      refine RW.store_whole [] rfl rfl rfl rfl rfl (by simp [Value.oneCell']) ?_
      refine RW.nil ?_
      exact PW.meet ⟨_, by rw [List.getElem_append_right (by omega)]; exact hr1'⟩ ⟨rfl, rfl, rfl, rfl, rfl, trivial⟩ (fun h => h)
  dsimp only [List.cons_append, List.nil_append]
  generalize ht : (g.1 ++ g.2.2)[i] = t at *
  have htc' := htc
  obtain ⟨LA, lc, rfl, _⟩ := Rd.termT htc
  refine Ja ?_;refine Jc ?_;refine JG ?_;refine JE ?_
  refine RW.callT [3, 4, 5, 6, 0, 1, 2] (bkH bp b1 q1) rfl rfl rfl Tryz.call193 (fun w2 F2 hM h1 _ => ref_term_ret (StatOn.mono hst hM) (htc'.mono hM) hK h1 hb1 (by omega)) fun q2 => ?_
  refine RW.take [5, 6, 0, 1, 2, 3] ?_
  obtain ⟨g1, g2, _⟩ := term_ok hK (t := t) hb1
  refine Jd ?_;refine Jb ?_;refine Ja ?_;refine Jc ?_;refine Jj ?_;refine Jb ?_
  refine CW.ite rfl (fun h7 => ?_) (fun h7 => ?_)
  · rw [foldC_bad hlt' (by rw [ht]; exact h7), ht] at hS1
    refine Ja ?_;refine Jc ?_;refine Jd ?_;refine Jb ?_
    refine CW.ret1 rfl Tryz.results174 rfl rfl fun w hw => ⟨q2, by rw [hS1], ?_⟩
    rw [hS1]
    exact hw.take [2, 3, 4, 5]
  have h7 := Decidable.of_not_not h7
  rw [foldC_step hlt' (by rw [ht]; exact h7), ht] at hS1
  refine CW.skip ?_
  refine PW.code ?_
  refine CW.region ?_
  refine Jc ?_
  refine RW.add rfl rfl (w64 (by omega) (by omega)) rfl ?_
  refine Jd ?_
  refine RW.nil ?_
  exact PW.again ⟨(i + 1, (rTerm s b1 t).2, q2), by show i + 1 ≤ _; omega, g1, (by show (rTerm s b1 t).2.names.length ≤ b.names.length + 4 * (i + 1); omega), hS1⟩ ⟨rfl, rfl, rfl, rfl, trivial⟩ (fun h => h) (by show g.1.length + g.2.2.length - (i + 1) < g.1.length + g.2.2.length - i; omega)
set_option maxHeartbeats 16000000 in
theorem ref_premise_ret {s : kStat.V} {x : RC} {bp : Nat} {b : Bk} {q : VVV} {p : kPrem.V} {cs : List Value} {w : World} {F : Nat → Prop} (hst : StatOn (mem w (fun b => ¬ F b)) s x) (hr : Rd kPrem (mem w (fun b => ¬ F b)) cs p) (hK : fourK s) (hH : Sep (bkH bp b q) w F) (hb : BkOK b) (hbd : b.names.length + 64 ≤ 1000000) (hbl : b.loose.length + 2 ≤ 1000000) :
    RetC Tryz.prog 129 [.pointer (some ⟨bp, 0, none⟩), .agg (x.stat s).toArray, .agg cs.toArray] w F (fun _ : VVV => .int .i64 (rPrem s b p).1) (fun q' => bkH bp (rPrem s b p).2 q') := by
  generalize hS : rPrem s b p = SP
  have hS := hS.symm
  unfold rPrem at hS
  obtain ⟨A0, c0, A1, c1, A2, c2, rfl, hlit, hgu⟩ := Rd.premT hr
  refine Calls.enter Tryz.func129 rfl _ rfl rfl (S := F) (H := bkH bp b q) hH ?_
  refine CW.seqR ?_
  refine RW.box_agg (l := x.stat s) rfl rfl fun b4 _ => ?_
  refine RW.box_agg (l := [.int .i64 p.1, .bool p.2.1.1, .string p.2.1.2.1, .slice A0 p.2.1.2.2.1.length c0, .bool p.2.1.2.2.2.1, .int .i64 p.2.1.2.2.2.2, .slice A1 p.2.2.1.1.length c1, .int .i64 p.2.2.1.2.1, .slice A2 p.2.2.1.2.2.length c2, .string p.2.2.2.1, .string p.2.2.2.2]) rfl rfl fun b5 _ => ?_
  dsimp only [bkH]
  refine Jd ?_;refine Jb ?_
  refine CW.seq ?_
  refine Ja ?_;refine Je ?_;refine JA ?_;refine Jb ?_
  refine CW.block ?_
  refine Ja ?_;refine Ji ?_;refine Jd ?_;refine Jb ?_
  refine CW.ite rfl (fun h1 => ?_) (fun h1 => ?_)
  · rw [if_pos h1] at hS
    refine Ja ?_;refine Jc ?_;refine JF ?_;refine Je ?_
    refine RW.load_part5 [] rfl rfl rfl rfl ?_
    refine RW.callT [2, 3, 4, 5, 0, 1] (bkH bp b q) rfl rfl rfl Tryz.call58 (fun w2 F2 hM h1 _ => ref_literal_ret (StatOn.mono hst hM) (hlit.mono hM) hK h1 hb (by omega)) fun q2 => ?_
    refine RW.take [4, 5, 0, 1, 2, 3] ?_
    refine Jd ?_;refine Jb ?_
    refine CW.ret1 rfl Tryz.results129 rfl rfl fun w hw => ⟨q2, by rw [hS], ?_⟩
    rw [hS]
    exact hw.take [2, 3, 4, 5]
  rw [if_neg h1] at hS
  refine Ja ?_;refine Ji ?_;refine Jd ?_;refine Jb ?_
  refine CW.ite rfl (fun h2 => ?_) (fun h2 => ?_)
  · rw [if_pos h2] at hS
    refine Ja ?_;refine Jc ?_;refine JF ?_;refine Je ?_;refine JI ?_
    refine RW.callT [2, 3, 4, 5, 0, 1] (bkH bp b q) rfl rfl rfl Tryz.call174 (fun w2 F2 hM h1 _ => ref_guard_ret (StatOn.mono hst hM) (hgu.mono hM) hK h1 hb hbd) fun q2 => ?_
    refine RW.take [4, 5, 0, 1, 2, 3] ?_
    refine Jd ?_;refine Jb ?_
    refine CW.ret1 rfl Tryz.results129 rfl rfl fun w hw => ⟨q2, by rw [hS], ?_⟩
    rw [hS]
    exact hw.take [2, 3, 4, 5]
  rw [if_neg h2] at hS
  refine Ja ?_;refine Ji ?_;refine Jd ?_;refine Jb ?_
  refine CW.ite rfl (fun h3 => ?_) (fun h3 => ?_)
  · rw [if_pos h3] at hS
    refine Ja ?_;refine Jc ?_;refine JF ?_;refine Je ?_;refine JA ?_
    refine RW.callT [2, 3, 4, 5, 0, 1] (bkH bp b q) rfl rfl rfl Tryz.call175 (fun w2 F2 hM h1 _ => ref_loose_ret (StatOn.mono hst hM) h1 (by omega)) fun q2 => ?_
    refine RW.take [4, 5, 0, 1, 2, 3] ?_
    obtain ⟨g1, g2, g3⟩ := rLoose_ok (s := s) (x := p.2.2.2.1) hb
    generalize hrl : rLoose s b p.2.2.2.1 = rl at *
    refine Jd ?_;refine Jb ?_
    refine CW.seq ?_
    refine Ja ?_;refine Jc ?_;refine Jj ?_;refine Jb ?_
    refine CW.ite rfl (fun h4 => ?_) (fun h4 => ?_)
    · rw [if_neg h4] at hS
      refine Ja ?_;refine Jc ?_;refine Jd ?_;refine Jb ?_
      refine CW.ret1 rfl Tryz.results129 rfl rfl fun w hw => ⟨q2, by rw [hS], ?_⟩
      rw [hS]
      exact hw.take [2, 3, 4, 5]
    rw [if_pos (Decidable.of_not_not h4)] at hS
    refine CW.skip ?_
    refine PW.code ?_
    refine Ja ?_;refine Jc ?_;refine JF ?_;refine Je ?_;refine JA ?_
    refine RW.callT [2, 3, 4, 5, 0, 1] (bkH bp rl.2 q2) rfl rfl rfl Tryz.call175 (fun w2 F2 hM h1 _ => ref_loose_ret (StatOn.mono hst hM) h1 (by omega)) fun q3 => ?_
    refine RW.take [4, 5, 0, 1, 2, 3] ?_
    refine Jd ?_;refine Jb ?_
    refine CW.ret1 rfl Tryz.results129 rfl rfl fun w hw => ⟨q3, by rw [hS], ?_⟩
    rw [hS]
    exact hw.take [2, 3, 4, 5]
  rw [if_neg h3] at hS
  refine CW.skip ?_
  refine PW.code ?_
  refine Ja ?_;refine Jd ?_;refine Jb ?_
  refine CW.ret1 rfl Tryz.results129 rfl rfl fun w hw => ⟨q, by rw [hS], ?_⟩
  rw [hS]
  exact hw.take [2, 3, 4, 5]
end Go.Proofs.YtkfmlekomfnleaaGreat
/- The document's Book.rule. Conditions: none. -/
set_option linter.unusedVariables false
set_option linter.unusedSimpArgs false
set_option maxRecDepth 10000
namespace Go.Proofs.YtkfmlekomfnleaaGreat
open Go Go.RowKit Go.MapKept

abbrev prU (r : kRule.V) : List kPrem.V := r.2.2.2.2.1
abbrev hdU (r : kRule.V) : kLitT.V := r.2.2.2.2.2.2
def rRuleC (s : kStat.V) (r : kRule.V) (n : Nat) : Int :=
  if ¬ rNm (rN s) r.1 n = 0 then rNm (rN s) r.1 n
  else if atN (uN s) r.2.1 < 0 then 88
  else if (!dayD r.2.2.1 || (!decide (r.2.2.2.1 = 0) && !dayD r.2.2.2.1)) = true then 31
  else if (!decide (r.2.2.2.1 = 0) && decide (r.2.2.2.1 ≤ r.2.2.1)) = true then 7
  else if r.2.2.2.2.2.1 < 1 then 1 else if 3 < r.2.2.2.2.2.1 then 1
  else if 16 < ((prU r).length : Int) then 3 else 0
def rBody (s : kStat.V) (b : Bk) (r : kRule.V) : Int × Bk := foldC (rPrem s) b (prU r)
def rHead (s : kStat.V) (b : Bk) (r : kRule.V) : Int × Bk := rLit s (rBody s b r).2 (hdU r)
def looseOK (b : Bk) : Bool := b.loose.all fun x => decide (¬ atN b.names x < 0)
def rRule (s : kStat.V) (b : Bk) (n : Nat) (r : kRule.V) : Int × Bk :=
  if ¬ rRuleC s r n = 0 then (rRuleC s r n, b)
  else if ¬ (rBody s b r).1 = 0 then rBody s b r
  else if ¬ (rHead s b r).1 = 0 then rHead s b r
  else (if looseOK (rHead s b r).2 = true then 0 else 86, (rHead s b r).2)
theorem body_ok {s : kStat.V} (hK : fourK s) {b : Bk} {r : kRule.V} (h : BkOK b) : BkOK (rBody s b r).2 ∧ (rBody s b r).2.names.length ≤ b.names.length + 64 * (prU r).length ∧ (rBody s b r).2.loose.length ≤ b.loose.length + 2 * (prU r).length := foldC_ok (f := rPrem s) (c := 64) (d := 2) (fun b p hb => prem_ok hK (p := p) hb) (l := prU r) h
theorem all_bad {α : Type} {f : α → Bool} {l : List α} {k : Nat} (hk : k < l.length) (h : f l[k] = false) : l.all f = false := by
  cases ha : l.all f with
  | false => rfl
  | true => rw [List.all_eq_true.1 ha _ (List.getElem_mem hk)] at h; cases h
theorem all_good {α : Type} {f : α → Bool} {l : List α} (h : ∀ k (hk : k < l.length), f l[k] = true) : l.all f = true := by
  rw [List.all_eq_true]
  intro x hx
  obtain ⟨k, hk, rfl⟩ := List.mem_iff_getElem.1 hx
  exact h k hk
attribute [local irreducible] RW CW
set_option maxHeartbeats 32000000 in
theorem ref_rule_ret {s : kStat.V} {x : RC} {bp : Nat} {b : Bk} {q : VVV} {n : Nat} {r : kRule.V} {w : World} {F : Nat → Prop} (hst : StatOn (mem w (fun b => ¬ F b)) s x) (hx : (sRules s)[n]? = some r) (hK : fourK s) (hH : Sep (bkH bp b q) w F) (hb : BkOK b) (hbd : b.names.length ≤ 1000) (hbl : b.loose.length ≤ 1000) :
    RetC Tryz.prog 41 [.pointer (some ⟨bp, 0, none⟩), .agg (x.stat s).toArray, .int .i64 n] w F (fun _ : VVV => .int .i64 (rRule s b n r).1) (fun q' => bkH bp (rRule s b n r).2 q') := by
  generalize hS : rRule s b n r = SP
  have hS := hS.symm
  unfold rRule at hS
  have hE : ∀ e, rRuleC s r n = e → ¬ e = 0 → SP = (e, b) := fun e h h0 => by rw [hS, if_pos (by rw [h]; exact h0), h]
  have hle : Mem.le (mem w (fun b => ¬ F b)) (mem w (fun b => ¬ F b)) := Mem.le_refl _
  have hlt := (List.getElem?_eq_some_iff.1 hx).1
  have hsm := sl_small hst.rules
  unfold reach at hsm
  have hnr := names_ok hst.rules (by decide)
  have hnu := names_ok hst.sources (by decide)
  have hx' : (rN s)[n]? = some r.1 := by rw [List.getElem?_map, hx]; rfl
  obtain ⟨B0, O0, cs0, hA, hl1, hr, hm⟩ := sl_get hst.rules hx
  obtain ⟨PA, pc, HA, hc, rfl, hprs, hhd⟩ := Rd.ruleT hr
  have hpl := sl_small hprs
  unfold reach at hpl
  unfold rRuleC at hE
  refine Calls.enter Tryz.func41 rfl _ rfl rfl (S := F) (H := bkH bp b q) hH ?_
  refine CW.seqR ?_
  refine RW.box_agg (l := x.stat s) rfl rfl fun b4 _ => ?_
  dsimp only [bkH]
  refine Jd ?_;refine Jb ?_;refine Ja ?_;refine JE ?_
  refine RW.callN Tryz.call127 rfl (fun w2 hw => ref_schemas_ret (StatOn.mono hst (ro_call hw))) rfl fun v => ?_
  refine Jc ?_
  refine RW.call Tryz.call120 rfl (fun w2 hw => named_own (pre := []) hw hnr hx') rfl ?_
  refine RW.take [1, 2, 3, 4, 5] ?_
  refine Jd ?_;refine Jb ?_
  refine CW.seq ?_
  refine Ja ?_;refine Jc ?_;refine Jj ?_;refine Jb ?_
  refine CW.ite rfl (fun h1 => ?_) (fun h1 => ?_)
  · refine Ja ?_;refine Jc ?_;refine Jd ?_;refine Jb ?_
    have hS := hE (rNm (rN s) r.1 n) (by rw [if_pos h1]) h1
    refine CW.ret1 rfl Tryz.results41 rfl rfl fun w hw => ⟨q, by rw [hS], ?_⟩
    rw [hS]
    exact hw.take [1, 2, 3, 4]
  refine CW.skip ?_
  refine PW.code ?_
  refine Ja ?_;refine Je ?_;refine JA ?_;refine Jc ?_
  refine RW.indexAddrE hA rfl rfl (by omega) (by omega) rfl ?_
  refine RW.load_ros (cs := [.string r.1, .string r.2.1, .int .i64 r.2.2.1, .int .i64 r.2.2.2.1, .slice PA (prU r).length pc, .int .i64 r.2.2.2.2.2.1, .bool (hdU r).1, .string (hdU r).2.1, .slice HA (hdU r).2.2.1.length hc, .bool (hdU r).2.2.2.1, .int .i64 (hdU r).2.2.2.2]) rfl hle hm rfl rfl (by simp) rfl ?_
  refine RW.alloc (c := [.string ByteArray.empty, .string ByteArray.empty, .int .i64 0, .int .i64 0, .slice none 0 0, .int .i64 0, .bool false, .string ByteArray.empty, .slice none 0 0, .bool false, .int .i64 0]) rfl rfl fun b8 _ => ?_
  refine RW.store_whole [] rfl rfl (vs := [.string r.1, .string r.2.1, .int .i64 r.2.2.1, .int .i64 r.2.2.2.1, .slice PA (prU r).length pc, .int .i64 r.2.2.2.2.2.1, .bool (hdU r).1, .string (hdU r).2.1, .slice HA (hdU r).2.2.1.length hc, .bool (hdU r).2.2.2.1, .int .i64 (hdU r).2.2.2.2]) rfl rfl rfl (by simp [Value.oneCell']) ?_
  refine Jb ?_
  refine CW.cut (ι := PLift (rRuleC s r n = 0)) (fun _ => [(0, ptrV bp), (2, .int .i64 n), (4, ptrV b4), (8, ptrV b8)]) (fun _ => [blk b8 [.string r.1, .string r.2.1, .int .i64 r.2.2.1, .int .i64 r.2.2.2.1, .slice PA (prU r).length pc, .int .i64 r.2.2.2.2.2.1, .bool (hdU r).1, .string (hdU r).2.1, .slice HA (hdU r).2.2.1.length hc, .bool (hdU r).2.2.2.1, .int .i64 (hdU r).2.2.2.2] 120, blk b4 (x.stat s) 31] ++ bkH bp b q) ?_ (fun ⟨hC⟩ => ?_)
  · refine CW.block ?_
    refine CW.seqA (by kernel_rfl) rfl ?_
    refine AW.val rfl (fun _ _ => by refine JF ?_;exact RW.done rfl) ?_
    (apply AW.gen (fun n => encU (uN s).length n) (fun n => ownHP 9 1 (encU (uN s).length n) ((uN s).map strE)) rfl; · intro Gx X; refine RW.callN Tryz.call123 rfl (fun w2 hw => ref_sources_ret (StatOn.mono hst (ro_call hw))) rfl fun v => ?_; refine RW.have_ (φ := ∃ n, v = encU (uN s).length n) (fun w hw => by have := enc_ownU (pre := []) hw; rwa [List.length_map] at this) (fun ⟨n, hn⟩ => ?_); subst hn; exact RW.done_gen (b := n) rfl)
    refine AW.val rfl (fun _ _ => by refine Je ?_;exact RW.done rfl) ?_;refine AW.val rfl (fun _ _ => by refine JA ?_;exact RW.done rfl) ?_
    refine AW.stop (by kernel_rfl) (by kernel_rfl) fun bs => ?_
    refine RW.call Tryz.call44 rfl (fun w2 hw => find_own (pre := [_, _, _, _, _, _]) hw hnu) rfl ?_
    refine RW.take [0, 1, 2, 3, 4, 5] ?_
    refine Jk ?_;refine Jd ?_;refine Jb ?_
    refine CW.ite rfl (fun h2 => ?_) (fun h2 => ?_)
    · refine Ja ?_;refine Jd ?_;refine Jb ?_
      have hS := hE 88 (by rw [if_neg h1, if_pos h2]) (by decide)
      refine CW.ret1 rfl Tryz.results41 rfl rfl fun w hw => ⟨q, by rw [hS], ?_⟩
      rw [hS]
      exact hw.take [2, 3, 4, 5]
    rw [if_neg h1, if_neg h2] at hE
    have hC0 : rRuleC s r n = if (!dayD r.2.2.1 || (!decide (r.2.2.2.1 = 0) && !dayD r.2.2.2.1)) = true then 31 else if (!decide (r.2.2.2.1 = 0) && decide (r.2.2.2.1 ≤ r.2.2.1)) = true then 7 else if r.2.2.2.2.2.1 < 1 then 1 else if 3 < r.2.2.2.2.2.1 then 1 else if 16 < ((prU r).length : Int) then 3 else 0 := by
      unfold rRuleC
      rw [if_neg h1, if_neg h2]
    refine Ja ?_;refine Je ?_;refine JA ?_
    refine RW.call Tryz.call128 rfl (fun w2 hw => ref_day_ret) rfl ?_
    refine Js ?_;refine Jc ?_
    cases hd1 : dayD r.2.2.1 with
    | false =>
      refine Jz ?_;refine Jz ?_;refine Jz ?_;refine Jz ?_;refine Jz ?_;refine Jz ?_;refine Jz ?_;refine Jz ?_;refine Jz ?_;refine Jv ?_;refine Jd ?_;refine Jb ?_
      refine CW.ct rfl ?_
      refine Ja ?_;refine Jd ?_;refine Jb ?_
      have hS := hE 31 (by rw [hd1]; rfl) (by decide)
      refine CW.ret1 rfl Tryz.results41 rfl rfl fun w hw => ⟨q, by rw [hS], ?_⟩
      rw [hS]
      exact hw.take [2, 3, 4, 5]
    | true =>
    rw [hd1] at hE hC0
    refine Jy ?_;refine Je ?_;refine Jy ?_;refine JA ?_;refine Jy ?_;refine Jj ?_;refine Jy ?_;refine Jc ?_
    refine RW.splitD 39 rfl (fun hu => ?_) (fun hu => ?_)
    · refine Jy ?_;refine Je ?_;refine Jy ?_;refine JA ?_;refine Jy ?_
      refine RW.call Tryz.call128 rfl (fun w2 hw => ref_day_ret) rfl ?_
      refine Jy ?_;refine Js ?_;refine Jy ?_;refine Jv ?_;refine Jw ?_;refine Jd ?_;refine Jb ?_
      cases hd2 : dayD r.2.2.2.1 with
      | false =>
        skip
        refine CW.ct rfl ?_
        refine Ja ?_;refine Jd ?_;refine Jb ?_
        have hS := hE 31 (by rw [hd2, decide_eq_false hu]; rfl) (by decide)
        refine CW.ret1 rfl Tryz.results41 rfl rfl fun w hw => ⟨q, by rw [hS], ?_⟩
        rw [hS]
        exact hw.take [2, 3, 4, 5]
      | true =>
        rw [hd2, decide_eq_false hu] at hE hC0
        skip
        refine CW.cf rfl ?_
        refine Ja ?_;refine Je ?_;refine JA ?_;refine Jj ?_;refine Jc ?_
        refine RW.splitD 50 rfl (fun _ => ?_) (fun h => absurd hu h)
        refine Jy ?_;refine Je ?_;refine Jy ?_;refine JA ?_;refine Jy ?_;refine Je ?_;refine Jy ?_;refine JA ?_;refine Jy ?_;refine Jl ?_;refine Jv ?_;refine Jd ?_;refine Jb ?_
        refine CW.ite rfl (fun h3 => ?_) (fun h3 => ?_)
        · refine Ja ?_;refine Jd ?_;refine Jb ?_
          have hS := hE 7 (by rw [decide_eq_true h3]; rfl) (by decide)
          refine CW.ret1 rfl Tryz.results41 rfl rfl fun w hw => ⟨q, by rw [hS], ?_⟩
          rw [hS]
          exact hw.take [2, 3, 4, 5]
        rw [decide_eq_false h3] at hE hC0
        refine Ja ?_;refine Je ?_;refine JA ?_;refine Jk ?_;refine Jc ?_
        refine RW.splitD 61 rfl (fun h4 => ?_) (fun h4 => ?_)
        · refine Jz ?_;refine Jz ?_;refine Jz ?_;refine Jv ?_;refine Jd ?_;refine Jb ?_
          refine CW.ct rfl ?_
          refine Ja ?_;refine Jd ?_;refine Jb ?_
          have hS := hE 1 (by rw [if_neg (by simp), if_neg (by simp), if_pos h4]) (by decide)
          refine CW.ret1 rfl Tryz.results41 rfl rfl fun w hw => ⟨q, by rw [hS], ?_⟩
          rw [hS]
          exact hw.take [2, 3, 4, 5]
        refine Jy ?_;refine Je ?_;refine Jy ?_;refine JA ?_;refine Jy ?_;refine Jm ?_;refine Jw ?_;refine Jd ?_;refine Jb ?_
        refine CW.ite rfl (fun h5 => ?_) (fun h5 => ?_)
        · refine Ja ?_;refine Jd ?_;refine Jb ?_
          have hS := hE 1 (by rw [if_neg (by simp), if_neg (by simp), if_neg h4, if_pos h5]) (by decide)
          refine CW.ret1 rfl Tryz.results41 rfl rfl fun w hw => ⟨q, by rw [hS], ?_⟩
          rw [hS]
          exact hw.take [2, 3, 4, 5]
        refine Ja ?_;refine Je ?_;refine JA ?_;refine Jg ?_;refine Jm ?_;refine Jd ?_;refine Jb ?_
        refine CW.ite rfl (fun h6 => ?_) (fun h6 => ?_)
        · refine Ja ?_;refine Jd ?_;refine Jb ?_
          have hS := hE 3 (by rw [if_neg (by simp), if_neg (by simp), if_neg h4, if_neg h5, if_pos h6]) (by decide)
          refine CW.ret1 rfl Tryz.results41 rfl rfl fun w hw => ⟨q, by rw [hS], ?_⟩
          rw [hS]
          exact hw.take [2, 3, 4, 5]
        refine CW.skip ?_
        exact PW.meet ⟨by rw [hC0, if_neg (by simp), if_neg (by simp), if_neg h4, if_neg h5, if_neg h6]⟩ ⟨rfl, rfl, rfl, rfl, trivial⟩ (fun h => h.take [0, 1, 2, 3, 4, 5])
    · have hu0 : r.2.2.2.1 = 0 := Decidable.of_not_not hu
      rw [decide_eq_true hu0] at hE hC0
      refine Jz ?_;refine Jz ?_;refine Jz ?_;refine Jz ?_;refine Jy ?_;refine Jw ?_;refine Jw ?_;refine Jd ?_;refine Jb ?_
      refine CW.cf rfl ?_
      refine Ja ?_;refine Je ?_;refine JA ?_;refine Jj ?_;refine Jc ?_
      refine RW.splitD 50 rfl (fun h => absurd h hu) (fun _ => ?_)
      refine Jz ?_;refine Jz ?_;refine Jz ?_;refine Jz ?_;refine Jz ?_;refine Jw ?_;refine Jd ?_;refine Jb ?_
      refine CW.cf rfl ?_
      refine Ja ?_;refine Je ?_;refine JA ?_;refine Jk ?_;refine Jc ?_
      refine RW.splitD 61 rfl (fun h4 => ?_) (fun h4 => ?_)
      · refine Jz ?_;refine Jz ?_;refine Jz ?_;refine Jv ?_;refine Jd ?_;refine Jb ?_
        refine CW.ct rfl ?_
        refine Ja ?_;refine Jd ?_;refine Jb ?_
        have hS := hE 1 (by rw [if_neg (by simp), if_neg (by simp), if_pos h4]) (by decide)
        refine CW.ret1 rfl Tryz.results41 rfl rfl fun w hw => ⟨q, by rw [hS], ?_⟩
        rw [hS]
        exact hw.take [2, 3, 4, 5]
      refine Jy ?_;refine Je ?_;refine Jy ?_;refine JA ?_;refine Jy ?_;refine Jm ?_;refine Jw ?_;refine Jd ?_;refine Jb ?_
      refine CW.ite rfl (fun h5 => ?_) (fun h5 => ?_)
      · refine Ja ?_;refine Jd ?_;refine Jb ?_
        have hS := hE 1 (by rw [if_neg (by simp), if_neg (by simp), if_neg h4, if_pos h5]) (by decide)
        refine CW.ret1 rfl Tryz.results41 rfl rfl fun w hw => ⟨q, by rw [hS], ?_⟩
        rw [hS]
        exact hw.take [2, 3, 4, 5]
      refine Ja ?_;refine Je ?_;refine JA ?_;refine Jg ?_;refine Jm ?_;refine Jd ?_;refine Jb ?_
      refine CW.ite rfl (fun h6 => ?_) (fun h6 => ?_)
      · refine Ja ?_;refine Jd ?_;refine Jb ?_
        have hS := hE 3 (by rw [if_neg (by simp), if_neg (by simp), if_neg h4, if_neg h5, if_pos h6]) (by decide)
        refine CW.ret1 rfl Tryz.results41 rfl rfl fun w hw => ⟨q, by rw [hS], ?_⟩
        rw [hS]
        exact hw.take [2, 3, 4, 5]
      refine CW.skip ?_
      exact PW.meet ⟨by rw [hC0, if_neg (by simp), if_neg (by simp), if_neg h4, if_neg h5, if_neg h6]⟩ ⟨rfl, rfl, rfl, rfl, trivial⟩ (fun h => h.take [0, 1, 2, 3, 4, 5])
  dsimp only [List.cons_append, List.nil_append, bkH]
  rw [if_neg (fun h => h hC)] at hS
  clear hE
  refine CW.seq ?_
  refine Ja ?_;refine Jd ?_;refine Jb ?_
  refine CW.block ?_
  refine CW.loop (ι := { y : Nat × Bk × VVV // y.1 ≤ (prU r).length ∧ BkOK y.2.1 ∧ y.2.1.names.length ≤ b.names.length + 64 * y.1 ∧ y.2.1.loose.length ≤ b.loose.length + 2 * y.1 ∧ rBody s b r = foldC (rPrem s) y.2.1 ((prU r).drop y.1) }) (fun y => [(0, ptrV bp), (2, .int .i64 n), (4, ptrV b4), (8, ptrV b8), (9, .int .i64 y.1.1)]) (fun y => [blk b8 [.string r.1, .string r.2.1, .int .i64 r.2.2.1, .int .i64 r.2.2.2.1, .slice PA (prU r).length pc, .int .i64 r.2.2.2.2.2.1, .bool (hdU r).1, .string (hdU r).2.1, .slice HA (hdU r).2.2.1.length hc, .bool (hdU r).2.2.2.1, .int .i64 (hdU r).2.2.2.2] 120, blk b4 (x.stat s) 31] ++ bkH bp y.1.2.1 y.1.2.2) (fun y => (prU r).length - y.1.1) ⟨(0, b, q), Nat.zero_le _, hb, by simp, by simp, rfl⟩ ⟨rfl, rfl, rfl, rfl, rfl, trivial⟩ (fun h => h) ?_
  have hp16 : (prU r).length ≤ 16 := by
    unfold rRuleC at hC
    rw [if_neg h1] at hC
    repeat' split at hC
    all_goals first | omega | (exact absurd hC (by decide)) | skip
  intro ⟨⟨i, b1, q1⟩, hi, hb1, hn1, ho1, hB⟩
  dsimp only [List.cons_append, List.nil_append] at hi hb1 hn1 ho1 hB ⊢
  refine CW.seq ?_
  refine Ja ?_;refine Jc ?_;refine Je ?_;refine JA ?_;refine Jg ?_;refine Jk ?_;refine Jb ?_
  refine CW.ite rfl (fun hlti => ?_) (fun hgei => ?_)
  · have hlti' : i < (prU r).length := by simpa using hlti
    obtain ⟨B1, O1, es1, hA1, hl2, hr1, hm1⟩ := sl_get hprs (List.getElem?_eq_getElem hlti')
    have hr1' := hr1
    obtain ⟨A0, c0, A1, c1, A2, c2, rfl, _, _⟩ := Rd.premT hr1
    refine CW.skip ?_
    refine PW.code ?_
    refine CW.seq ?_
    refine CW.block ?_
    refine CW.seqA (by kernel_rfl) rfl ?_
    refine AW.val rfl (fun _ _ => by refine Jc ?_;exact RW.done rfl) ?_;refine AW.val rfl (fun _ _ => by refine JF ?_;exact RW.done rfl) ?_;refine AW.val rfl (fun _ _ => by refine Je ?_;exact RW.done rfl) ?_;refine AW.val rfl (fun _ _ => by refine JA ?_;exact RW.done rfl) ?_;refine AW.val rfl (fun _ _ => by refine Jc ?_;exact RW.done rfl) ?_
    (apply AW.val rfl; · intro Gx X; (first | refine RW.yes rfl ?_ | skip); refine RW.indexAddrE hA1 rfl rfl (by omega) hlti rfl ?_; exact RW.done rfl)
    (apply AW.val rfl; · intro Gx X; (first | refine RW.yes rfl ?_ | skip); refine RW.load_ros (cs := _) rfl hle hm1 rfl rfl (by simp) rfl ?_; exact RW.done rfl)
    refine AW.stop (by kernel_rfl) (by kernel_rfl) fun bs => ?_
    refine RW.callT [2, 3, 4, 5, 0, 1] (bkH bp b1 q1) rfl rfl rfl Tryz.call129 (fun w2 F2 hM h1 _ => ref_premise_ret (StatOn.mono hst hM) (hr1'.mono hM) hK h1 hb1 (by omega) (by omega)) fun q2 => ?_
    refine RW.take [4, 5, 0, 1, 2, 3] ?_
    obtain ⟨g1, g2, g3⟩ := prem_ok hK (p := (prU r)[i]) hb1
    refine Jd ?_;refine Jb ?_;refine Ja ?_;refine Jc ?_;refine Jj ?_;refine Jb ?_
    refine CW.ite rfl (fun h7 => ?_) (fun h7 => ?_)
    · rw [foldC_bad hlti' h7] at hB
      rw [hB, if_pos h7] at hS
      refine Ja ?_;refine Jc ?_;refine Jd ?_;refine Jb ?_
      refine CW.ret1 rfl Tryz.results41 rfl rfl fun w hw => ⟨q2, by rw [hS], ?_⟩
      rw [hS]
      exact hw.take [2, 3, 4, 5]
    have h7 := Decidable.of_not_not h7
    rw [foldC_step hlti' h7] at hB
    refine CW.skip ?_
    refine PW.code ?_
    refine CW.region ?_
    refine Jc ?_
    refine RW.add rfl rfl (w64 (by omega) (by omega)) rfl ?_
    refine Jd ?_
    refine RW.nil ?_
    exact PW.again ⟨(i + 1, (rPrem s b1 (prU r)[i]).2, q2), hlti', g1, (by show (rPrem s b1 (prU r)[i]).2.names.length ≤ b.names.length + 64 * (i + 1); omega), (by show (rPrem s b1 (prU r)[i]).2.loose.length ≤ b.loose.length + 2 * (i + 1); omega), hB⟩ ⟨rfl, rfl, rfl, rfl, rfl, trivial⟩ (fun h => h) (by show (prU r).length - (i + 1) < (prU r).length - i; omega)
  have hgei' : (prU r).length ≤ i := by simpa using hgei
  rw [List.drop_eq_nil_of_le hgei'] at hB
  have hB : rBody s b r = (0, b1) := hB
  rw [hB, if_neg (by simp)] at hS
  have hHd : rHead s b r = rLit s b1 (hdU r) := by unfold rHead; rw [hB]
  refine CW.exit rfl ?_
  refine PW.code ?_
  refine Ja ?_;refine Jc ?_;refine JF ?_;refine Je ?_
  refine RW.load_part5 [] rfl rfl rfl rfl ?_
  skip
  refine RW.callT [2, 3, 4, 5, 0, 1] (bkH bp b1 q1) rfl rfl rfl Tryz.call58 (fun w2 F2 hM h1 _ => ref_literal_ret (StatOn.mono hst hM) (hhd.mono hM) hK h1 hb1 (by omega)) fun q2 => ?_
  refine RW.take [4, 5, 0, 1, 2, 3] ?_
  obtain ⟨g1, g2, g3⟩ := lit_ok hK (l := hdU r) hb1
  rw [hHd] at hS
  generalize hL : rLit s b1 (hdU r) = L at *
  refine Jd ?_;refine Jb ?_
  refine CW.seq ?_
  refine Ja ?_;refine Jc ?_;refine Jj ?_;refine Jb ?_
  refine CW.ite rfl (fun h8 => ?_) (fun h8 => ?_)
  · rw [if_pos h8] at hS
    refine Ja ?_;refine Jc ?_;refine Jd ?_;refine Jb ?_
    refine CW.ret1 rfl Tryz.results41 rfl rfl fun w hw => ⟨q2, by rw [hS], ?_⟩
    rw [hS]
    exact hw.take [2, 3, 4, 5]
  rw [if_neg h8] at hS
  obtain ⟨v1, v2, v3⟩ := q2
  have hno := g1.namesOK (by omega)
  refine CW.have_ (φ := ∃ A c, v3 = .slice A L.2.loose.length c ∧ (L.2.loose.map strE ≠ [] → ∃ B, A = some ⟨B, 0, none⟩)) (fun w hw => ?_) (fun ⟨VA, vc, e3, hVB⟩ => ?_)
  · obtain ⟨A, c, e, f⟩ := own_shapeN (pre := [_, _, _, _, _]) hw
    rw [List.length_map] at e
    exact ⟨A, c, e, f⟩
  subst e3
  refine CW.skip ?_
  refine PW.code ?_
  refine CW.seq ?_
  refine Ja ?_;refine Jd ?_;refine Jb ?_
  refine CW.block ?_
  refine CW.loop (ι := { k : Nat // k ≤ L.2.loose.length ∧ ∀ m, m < k → ∀ (hm : m < L.2.loose.length), ¬ atN L.2.names L.2.loose[m] < 0 }) (fun k => [(0, ptrV bp), (4, ptrV b4), (8, ptrV b8), (10, .int .i64 k.1)]) (fun _ => [blk b8 [.string r.1, .string r.2.1, .int .i64 r.2.2.1, .int .i64 r.2.2.2.1, .slice PA (prU r).length pc, .int .i64 r.2.2.2.2.2.1, .bool (hdU r).1, .string (hdU r).2.1, .slice HA (hdU r).2.2.1.length hc, .bool (hdU r).2.2.2.1, .int .i64 (hdU r).2.2.2.2] 120, blk b4 (x.stat s) 31, blk bp [v1, v2, .slice VA L.2.loose.length vc] 126, ownHP 9 1 v1 (L.2.names.map strE), ownHP 3 1 v2 (L.2.kinds.map numE), ownHP 9 1 (.slice VA L.2.loose.length vc) (L.2.loose.map strE)]) (fun k => L.2.loose.length - k.1) ⟨0, Nat.zero_le _, fun m hm => absurd hm (by omega)⟩ ⟨rfl, rfl, rfl, rfl, trivial⟩ (fun h => h) ?_
  intro ⟨k, hk, hF⟩
  dsimp only at hk hF ⊢
  refine CW.seq ?_
  refine Ja ?_;refine Jc ?_;refine Jc ?_;refine Jf ?_;refine Je ?_;refine JC ?_;refine Jg ?_;refine Jk ?_;refine Jb ?_
  refine CW.ite rfl (fun hltk => ?_) (fun hgek => ?_)
  · have hltk' : k < L.2.loose.length := by simpa using hltk
    obtain ⟨VB, rfl⟩ := hVB (by intro h; rw [List.map_eq_nil_iff] at h; rw [h] at hltk'; simp at hltk')
    have hce : (L.2.loose.map strE)[k]? = some (strE L.2.loose[k]) := by rw [List.getElem?_map, List.getElem?_eq_getElem hltk']; rfl
    refine CW.skip ?_
    refine PW.code ?_
    refine CW.seq ?_
    refine CW.block ?_
    refine CW.seqA (by kernel_rfl) rfl ?_
    refine AW.val rfl (fun _ _ => by refine Jc ?_;exact RW.done rfl) ?_;refine AW.val rfl (fun _ _ => by refine Jf ?_;exact RW.done rfl) ?_;refine AW.val rfl (fun _ _ => by refine Je ?_;exact RW.done rfl) ?_;refine AW.val rfl (fun _ _ => by refine JC ?_;exact RW.done rfl) ?_;refine AW.val rfl (fun _ _ => by refine Jc ?_;exact RW.done rfl) ?_;refine AW.val rfl (fun _ _ => by refine Jf ?_;exact RW.done rfl) ?_;refine AW.val rfl (fun _ _ => by refine Je ?_;exact RW.done rfl) ?_;refine AW.val rfl (fun _ _ => by refine JC ?_;exact RW.done rfl) ?_;refine AW.val rfl (fun _ _ => by refine Jc ?_;exact RW.done rfl) ?_
    (apply AW.val rfl; · intro Gx X; (first | refine RW.yes rfl ?_ | skip); refine RW.indexAddr rfl rfl (by omega) hltk rfl ?_; exact RW.done rfl)
    (apply AW.val rfl; · intro Gx X; (first | refine RW.yes rfl ?_ | skip); refine RW.loadOwn1 [_, _, _, _, _] (i := k) (j := 0) rfl (by simp) hce rfl rfl rfl ?_; exact RW.done rfl)
    (apply AW.val rfl; · intro Gx X; (first | refine RW.yes rfl ?_ | skip); refine RW.call Tryz.call44 rfl (fun w2 hw => find_own (pre := [_, _, _]) hw hno) rfl ?_; exact RW.done rfl)
    refine AW.val rfl (fun _ _ => by refine Jk ?_;exact RW.done rfl) ?_
    refine AW.stop (by kernel_rfl) (by kernel_rfl) fun bs => ?_
    refine Jb ?_
    refine CW.ite rfl (fun h9 => ?_) (fun h9 => ?_)
    · have hbad : looseOK L.2 = false := all_bad hltk' (decide_eq_false (fun h => h h9))
      rw [if_neg (by rw [hbad]; simp)] at hS
      refine Ja ?_;refine Jd ?_;refine Jb ?_
      refine CW.ret1 rfl Tryz.results41 rfl rfl fun w hw => ⟨(v1, v2, .slice (some ⟨VB, 0, none⟩) L.2.loose.length vc), by rw [hS], ?_⟩
      rw [hS]
      exact hw.take [2, 3, 4, 5]
    · refine CW.skip ?_
      refine PW.code ?_
      refine CW.region ?_
      refine Jc ?_
      refine RW.add rfl rfl (w64 (by omega) (by omega)) rfl ?_
      refine Jd ?_
      refine RW.nil ?_
      exact PW.again ⟨k + 1, hltk', fun m hm hm2 => by
        rcases Nat.lt_or_ge m k with h | h
        · exact hF m h hm2
        · obtain rfl : m = k := by omega
          exact h9⟩ ⟨rfl, rfl, rfl, rfl, trivial⟩ (fun h => h.take [0, 1, 2, 3, 4, 5]) (by show L.2.loose.length - (k + 1) < L.2.loose.length - k; omega)
  have hgek' : L.2.loose.length ≤ k := by simpa using hgek
  have hgood : looseOK L.2 = true := all_good fun m hm => decide_eq_true (hF m (by omega) hm)
  rw [if_pos hgood] at hS
  refine CW.exit rfl ?_
  refine PW.code ?_
  refine Ja ?_;refine Jd ?_;refine Jb ?_
  refine CW.ret1 rfl Tryz.results41 rfl rfl fun w hw => ⟨(v1, v2, .slice VA L.2.loose.length vc), by rw [hS], ?_⟩
  rw [hS]
  exact hw.take [2, 3, 4, 5]
end Go.Proofs.YtkfmlekomfnleaaGreat
/- The calculus, twentieth part (printed by gen_e3.py): open orders, an operation of a known value that sees what another has laid. Conditions: none; everything holds over any program. -/
set_option linter.unusedVariables false
set_option linter.unusedSimpArgs false
namespace Go.Proofs.YtkfmlekomfnleaaGreat
open Go Go.RowKit

section
variable {P : Program} {E : Env} {Q : Pst} {G : List (Nat × Value)} {H : List HP} {l : List Oper} {n : Nat} {ks : List PK}
/-- A statement whose order is open; one operation, at place q, turns the chunks that are given; one, at place q2, sees what the operation at place j2 has laid; one, at place q3, of a known value, sees what the one at j3 has laid. -/
theorem WA.anyX (q q2 j2 q3 j3 : Nat) (Hd : Bool → List HP) (n : Nat) (ks : List PK) (hk : ks.length = n) (hn : Nat.ble n l.length = true) (hb : backB l = true) (hf : forcedB l n = true) (hd : dstB l ks n G = true) (hput : PutOK l ks) (hpd : ∀ (i : Nat) (o : Oper) (d : Nat), i < n → l[i]? = some o → o.dst = some d → PK.isPut ks[i]? = true → False)
    (hq : ∀ k, ks[q]? = some k → ∃ v, k = .val v) (prems : ∀ (i : Nat) (o : Oper) (k : PK), i ≠ q → i ≠ q2 → i ≠ q3 → l[i]? = some o → ks[i]? = some k → ∀ b, Prem P E l.toArray Q (depG l ks o) G (Hd b) o k)
    (premq : ∀ (o : Oper) (v : Value), l[q]? = some o → ks[q]? = some (.val v) → ∀ (Gx : List (Nat × Value)) (X : List HP), RW P E l.toArray (Pst.then (fun a w => ∃ d, o.dst = some d ∧ Fr E.N E.ds a ((d, v) :: (depG l ks o ++ G ++ Gx)) ∧ St E.w0 E.S (Hd true ++ X) w) Q) [o] (depG l ks o ++ G ++ Gx) (Hd false ++ X))
    (hq2 : ∀ o, q2 < n → l[q2]? = some o → ∃ (e : Edge) (oj : Oper) (dj : Nat) (c : Nat → HP) (t : Nat → Value) (p : Nat) (c2 cj : Nat → HP) (tj : Nat → Value) (pj : Nat), e ∈ o.after.toList ∧ Region.binds .any e = true ∧ e.on = j2 ∧ l[j2]? = some oj ∧ oj.dst = some dj ∧ ks[q2]? = some (.new c t p c2) ∧ ks[j2]? = some (.new cj tj pj cj) ∧
      ∀ (b0 : Bool) (b : Nat) (Gx : List (Nat × Value)) (X : List HP), RW P E l.toArray (Pst.then (fun a w => ∃ b' d, o.dst = some d ∧ Fr E.N E.ds a ((d, t b') :: (dj, tj b) :: (depG l ks o ++ G ++ Gx)) ∧ St E.w0 E.S (c b' :: cj b :: (Hd b0 ++ X)) w) Q) [o] ((dj, tj b) :: (depG l ks o ++ G ++ Gx)) (cj b :: (Hd b0 ++ X)))
    (hq3 : ∀ o, q3 < n → l[q3]? = some o → ∃ (e : Edge) (oj : Oper) (dj : Nat) (v : Value) (cj : Nat → HP) (tj : Nat → Value) (pj : Nat), e ∈ o.after.toList ∧ Region.binds .any e = true ∧ e.on = j3 ∧ l[j3]? = some oj ∧ oj.dst = some dj ∧ ks[q3]? = some (.val v) ∧ ks[j3]? = some (.new cj tj pj cj) ∧
      ∀ (b0 : Bool) (b : Nat) (Gx : List (Nat × Value)) (X : List HP), RW P E l.toArray (Pst.then (fun a w => ∃ d, o.dst = some d ∧ Fr E.N E.ds a ((d, v) :: (dj, tj b) :: (depG l ks o ++ G ++ Gx)) ∧ St E.w0 E.S (cj b :: (Hd b0 ++ X)) w) Q) [o] ((dj, tj b) :: (depG l ks o ++ G ++ Gx)) (cj b :: (Hd b0 ++ X)))
    (tail : ∀ bs, RW P E l.toArray Q (l.drop n) (outG l ks bs ++ G) (Hd (decide (q < n)) ++ newH l ks bs)) : WA P E l Q G (Hd false) := by
  have hnl : n ≤ l.length := by simpa [Nat.ble_eq] using hn
  have hback : ∀ (i : Nat) (o : Oper), l[i]? = some o → ∀ e ∈ o.after.toList, Region.binds .any e = true → e.on < i := by
    intro i o ho e he hbe
    have hi : i < l.length := (List.getElem?_eq_some_iff.1 ho).1
    have := (List.all_eq_true.1 hb) i (List.mem_range.2 hi)
    rw [ho] at this
    have h9 := (List.all_eq_true.1 this) e he
    simpa [hbe] using h9
  have hdst : ∀ i, i < n → PK.isPut ks[i]? = false → ∃ (o : Oper) (d : Nat), l[i]? = some o ∧ o.dst = some d ∧ look G d = none ∧ ∀ (j : Nat) (o' : Oper) (d' : Nat), j < n → l[j]? = some o' → o'.dst = some d' → d = d' → i = j := by
    intro i hi hnp
    have h1 := (List.all_eq_true.1 hd) i (List.mem_range.2 hi)
    have hi' : i < l.length := by omega
    rw [List.getElem?_eq_getElem hi'] at h1
    simp only at h1
    cases hdd : l[i].dst with
    | none => rw [hdd] at h1; rw [hnp] at h1; cases h1
    | some d =>
      rw [hdd] at h1
      simp only [Bool.and_eq_true] at h1
      refine ⟨l[i], d, List.getElem?_eq_getElem hi', hdd, by simpa using h1.1, fun j o' d' hj ho' hd' he => ?_⟩
      have h2 := (List.all_eq_true.1 h1.2) j (List.mem_range.2 hj)
      rw [ho'] at h2
      simp only [hd'] at h2
      subst he
      simpa using h2
  have hnodst : ∀ i, i < n → PK.isPut ks[i]? = true → ∀ o, l[i]? = some o → ∀ d, o.dst ≠ some d := by
    intro i hi hp o ho d hdd
    exact hpd i o d hi ho hdd hp
  have toTail : ∀ (listed : Array Bool) (a : Act) (w : World) (bs : Nat → Nat), Mid P E l n ks G Hd q listed a w bs → (∀ i, i < n → listed.getD i false = true) → wpList P l.toArray Q.fn (l.drop n) a w := by
    intro listed a w bs M hall
    refine tail bs a w ⟨M.fN, M.fd, fun s u hs => ?_⟩ ?_
    · rcases look_append hs with hs | hs
      · obtain ⟨i, o, k, h1, h2, h3, h4⟩ := look_outG hs
        have hi : i < n := by have := (List.getElem?_eq_some_iff.1 h2).1; omega
        rw [h4]
        exact M.fV i o s k (hall i hi) h1 h3 h2
      · exact M.fG s u hs
    · have := M.st
      rw [show listed.getD q false = decide (q < n) from (by
        by_cases hqn : q < n
        · rw [hall q hqn, decide_eq_true hqn]
        · rw [M.below q (by omega), decide_eq_false hqn])] at this
      rwa [laidH_all (fun j _ hj => hall j (by omega)) (fun c t p c2 hm => ?_)] at this
      obtain ⟨j, hj⟩ := List.mem_iff_getElem?.1 hm
      rcases hput.new j c t p c2 hj with h | h
      · rw [h]; split <;> rfl
      · have hp : p < n := by
          rcases Nat.lt_or_ge p ks.length with h2 | h2
          · omega
          · rw [List.getElem?_eq_none h2] at h; cases h
        show (if listed.getD p false = true then c2 else c) = c2
        rw [if_pos (hall p hp)]
  intro a w hfr hst
  have key : ∀ (fuel : Nat) (listed : Array Bool) (a : Act) (w : World) (bs : Nat → Nat), Mid P E l n ks G Hd q listed a w bs → cnt (fun i => listed.getD i false) l.length ≤ fuel → wpAny P .any l.toArray Q.fn fuel listed a w := by
    intro fuel
    induction fuel with
    | zero =>
      intro listed a w bs M hc
      -- nothing is left: n = l.length
      have hall : ∀ i, i < l.length → listed.getD i false = true := fun i hi => by
        cases hx : listed.getD i false with
        | true => rfl
        | false => exact absurd (cnt_pos (L := fun i => listed.getD i false) hx l.length hi) (by omega)
      have hnl' : n = l.length := by
        rcases Nat.lt_or_ge n l.length with h | h
        · have := M.below n (Nat.le_refl _); rw [hall n h] at this; cases this
        · omega
      refine tail_any hb hf 0 l.length (by omega) (by omega) 0 listed a w (Nat.le_refl _) M.size (fun j hj => ⟨fun _ => hj, fun _ => hall j hj⟩) ?_
      rw [← hnl']
      exact toTail listed a w bs M (fun i hi => hall i (by omega))
    | succ fuel ih =>
      intro listed a w bs M hc
      by_cases hall : ∀ i, i < n → listed.getD i false = true
      · have hcn : l.length - n ≤ fuel + 1 := by
          have : cnt (fun i => listed.getD i false) l.length = l.length - n := cnt_upto hall M.below l.length hnl
          omega
        exact tail_any hb hf (l.length - n) n (by omega) (Nat.le_refl _) (fuel + 1) listed a w hcn M.size (fun j hj => ⟨fun h => M.lt h, fun h => hall j h⟩) (toTail listed a w bs M hall)
      · have hex : ∃ i, i < n ∧ listed.getD i false = false ∧ ∀ j, j < i → listed.getD j false = true := by
          have : ∀ m, (∀ i, i < m → listed.getD i false = true) ∨ ∃ i, i < m ∧ listed.getD i false = false ∧ ∀ j, j < i → listed.getD j false = true := by
            intro m
            induction m with
            | zero => exact .inl (fun i hi => by omega)
            | succ m ihm =>
              rcases ihm with h | ⟨i, h1, h2, h3⟩
              · cases hx : listed.getD m false with
                | true => exact .inl (fun i hi => if h4 : i < m then h i h4 else (show m = i by omega) ▸ hx)
                | false => exact .inr ⟨m, by omega, hx, h⟩
              · exact .inr ⟨i, by omega, h2, h3⟩
          rcases this n with h | h
          · exact absurd h hall
          · exact h
        obtain ⟨i0, hi0, hi0f, hi0a⟩ := hex
        have hrdy : i0 ∈ Region.ready .any l.toArray listed := (ready_iff M.size i0).2 ⟨l[i0], List.getElem?_eq_getElem (by omega), hi0f, fun e he hbe => hi0a _ (hback i0 _ (List.getElem?_eq_getElem (by omega)) e he hbe)⟩
        refine ⟨(fun h => by rw [h] at hrdy; cases hrdy), fun i hi => ?_⟩
        obtain ⟨o, ho, hlf, hej⟩ := (ready_iff M.size i).1 hi
        have hin : i < n := by
          rcases Nat.lt_or_ge i n with h | h
          · exact h
          · have := closed_forced (L := fun i => listed.getD i false) hb hf h ho (show i0 < i by omega) M.down hej
            rw [hi0f] at this; cases this
        have hki : i < ks.length := by omega
        have hget : ∀ j, j ≠ i → (listed.setIfInBounds i true).getD j false = listed.getD j false := fun j hj => by rw [getD_set (by rw [M.size]; omega), if_neg (Ne.symm hj)]
        have hseti : (listed.setIfInBounds i true).getD i false = true := by rw [getD_set (by rw [M.size]; omega), if_pos rfl]
        have hcells : PK.isPut ks[i]? = false → ∀ c t q c2, PK.new c t q c2 ∈ ks → (if listed.getD q false = true then c2 else c) = (if (listed.setIfInBounds i true).getD q false = true then c2 else c) := fun hnp c t q c2 hm => by
          obtain ⟨j, hj⟩ := List.mem_iff_getElem?.1 hm
          rcases hput.new j c t q c2 hj with h | h
          · rw [h]; simp
          · rw [hget q (fun e => by subst e; rw [hnp] at h; cases h)]
        have hP0 : i ≠ q → i ≠ q2 → i ≠ q3 → Prem P E l.toArray Q (depG l ks o) G (Hd (listed.getD q false)) o ks[i] := fun hiq hi2 hi3 => prems i o ks[i] hiq hi2 hi3 ho (List.getElem?_eq_getElem hki) _
        have hval3 : i = q3 → ∃ v, ks[i] = .val v := fun e => by
          obtain ⟨_, _, _, v, _, _, _, _, _, _, _, _, h, _⟩ := hq3 o (by omega) (by rw [← e]; exact ho)
          rw [← e, List.getElem?_eq_getElem hki] at h
          exact ⟨v, Option.some.inj h⟩
        have hnew2 : i = q2 → ∃ c t p c2, ks[i] = .new c t p c2 := fun e => by
          obtain ⟨_, _, _, c, t, p, c2, _, _, _, _, _, _, _, _, h, _⟩ := hq2 o (by omega) (by rw [← e]; exact ho)
          rw [← e, List.getElem?_eq_getElem hki] at h
          exact ⟨c, t, p, c2, Option.some.inj h⟩
        have hbq : i ≠ q → (listed.setIfInBounds i true).getD q false = listed.getD q false := fun h => hget q (Ne.symm h)
        have hvq : (∀ v, ks[i] ≠ .val v) → i ≠ q := fun h e => by
          obtain ⟨v, hv⟩ := hq ks[i] (by rw [← e]; exact List.getElem?_eq_getElem hki)
          exact h v hv
        have hDep := depG_true M hej
        have hsnap : Fr E.N E.ds a (depG l ks o ++ G ++ idx 0 a.tmps.toList) := ⟨M.fN, M.fd, fun s u hs => by
          rcases look_append hs with hs | hs
          · exact (look_append hs).elim (hDep s u) (M.fG s u)
          · have := look_idx _ 0 s u hs; simpa using this.2⟩
        have hcnt : cnt (fun j => (listed.setIfInBounds i true).getD j false) l.length ≤ fuel := by
          have := cnt_set (L := fun j => listed.getD j false) (L' := fun j => (listed.setIfInBounds i true).getD j false) (p := i) (fun j hj => by show (listed.setIfInBounds i true).getD j false = listed.getD j false; rw [getD_set (by rw [M.size]; omega), if_neg (Ne.symm hj)]) hlf (by show (listed.setIfInBounds i true).getD i false = true; rw [getD_set (by rw [M.size]; omega), if_pos rfl]) l.length (by omega)
          omega
        have hdown' : ∀ (m : Nat) (o' : Oper), (listed.setIfInBounds i true).getD m false = true → l[m]? = some o' → ∀ e ∈ o'.after.toList, Region.binds .any e = true → (listed.setIfInBounds i true).getD e.on false = true := by
          intro m o' hm' ho' e he hbi
          rw [getD_set (by rw [M.size]; omega)] at hm' ⊢
          split
          · rfl
          · split at hm'
            · rename_i e2; subst e2; rw [ho] at ho'; injection ho' with ho'; subst ho'; exact hej e he hbi
            · exact M.down m o' hm' ho' e he hbi
        have hbelow' : ∀ j, n ≤ j → (listed.setIfInBounds i true).getD j false = false := fun j hj => by rw [getD_set (by rw [M.size]; omega), if_neg (by omega)]; exact M.below j hj
        cases hkk : ks[i] with
        | put dj c t c2 =>
          have hiq := hvq (fun v e => by rw [hkk] at e; cases e)
          have hP := hP0 hiq (fun e => by obtain ⟨c, t, p, c2, h⟩ := hnew2 e; rw [hkk] at h; cases h) (fun e => by obtain ⟨v, h⟩ := hval3 e; rw [hkk] at h; cases h)
          rw [hkk] at hP
          obtain ⟨j, oj, op, e, hkj, hoj, hdj, hop, he, hbe, hej2⟩ := hput.put i dj c t c2 (by rw [List.getElem?_eq_getElem hki, hkk])
          rw [ho] at hop; injection hop with hop; subst hop
          have hjl : listed.getD j false = true := hej2 ▸ hej e he hbe
          have hji : j ≠ i := fun e2 => by rw [e2, hlf] at hjl; cases hjl
          have hptr := M.fV j oj dj _ hjl hoj hdj hkj
          obtain ⟨X, hX, hX'⟩ := laidH_put (L := fun i => listed.getD i false) (L' := fun j => (listed.setIfInBounds i true).getD j false) (bs := bs) (p := i) (j := j) (fun m hm => (hget m hm).symm) hlf hseti hjl (os := l) (r := ks) (i := 0) (Nat.zero_le _)
            (fun m c' t' q c2' _ hm hk' => by
              rw [Nat.sub_zero] at hk'
              show (if listed.getD q false = true then c2' else c') = (if (listed.setIfInBounds i true).getD q false = true then c2' else c')
              by_cases hq : q = i
              · subst hq
                rw [hput.uniq j m q c t c2 c' t' c2' hkj hk' (Ne.symm hm)]
                simp
              · rw [hget q hq])
            (fun _ => by rw [Nat.sub_zero, List.getElem?_eq_getElem hki, hkk]; rfl) (o := oj) (d := dj) (c := c) (t := t) (c2 := c2) (by simpa using hoj) hdj (by simpa using hkj)
          have hfr1 : Fr E.N E.ds a ((dj, t (bs dj)) :: (depG l ks o ++ G ++ idx 0 a.tmps.toList)) := ⟨M.fN, M.fd, fun s u hs => by
            unfold look at hs
            cases hb : Nat.beq dj s with
            | true =>
              rw [hb] at hs
              have : dj = s := Nat.eq_of_beq_eq_true hb
              subst this
              simp only [Option.some.injEq] at hs
              subst hs
              exact hptr
            | false => rw [hb] at hs; exact hsnap.at_ s u hs⟩
          have hst1 : St E.w0 E.S (c (bs dj) :: (Hd (listed.getD q false) ++ X)) w := M.st.perm ((List.Perm.append_left _ hX).trans List.perm_middle)
          have h1 := hP (bs dj) (idx 0 a.tmps.toList) X a w hfr1 hst1
          refine wpOp_then (wpOp_mono (fun a' w' h' => ?_) (wpOp_of_list ho h1))
          obtain ⟨hfr', hst'⟩ := h'
          have hkeep : ∀ s u, a.tmps[s]? = some u → a'.tmps[s]? = some u := fun s u hs => by
            by_cases hsd : s = dj
            · subst hsd
              rw [hptr] at hs
              injection hs with hs
              subst hs
              exact hfr'.at_ _ _ (by simp [look, Nat.beq_refl, PK.out])
            · exact slot_kept hDep M.fG hfr' hsd hs
          refine ih _ a' w' bs ⟨by simp [M.size], hbelow', hdown', hfr'.size, hfr'.defers, fun s u hs => hkeep s u (M.fG s u hs), fun m o' d' k hm' ho' hd' hk' => ?_, ?_⟩ hcnt
          · by_cases hmi : m = i
            · subst hmi
              rw [List.getElem?_eq_getElem hki, hkk] at hk'; injection hk' with hk'; subst hk'
              rw [ho] at ho'; injection ho' with ho'; subst ho'
              exact absurd hd' (hnodst m hin (by rw [List.getElem?_eq_getElem hki, hkk]; rfl) o ho d')
            · rw [hget m hmi] at hm'
              exact hkeep _ _ (M.fV m o' d' k hm' ho' hd' hk')
          · rw [hbq hiq]
            exact hst'.perm (List.perm_middle.symm.trans (List.Perm.append_left _ hX'.symm))
        | val v =>
          have hnp : PK.isPut ks[i]? = false := by rw [List.getElem?_eq_getElem hki, hkk]; rfl
          obtain ⟨o2, d, ho2, hdd, hGd, huniq⟩ := hdst i hin hnp
          rw [ho] at ho2
          injection ho2 with ho2
          subst ho2
          have hop : Go.wpOp P l.toArray Q.fn i (fun a' w => ∃ d, o.dst = some d ∧ Fr E.N E.ds a' ((d, v) :: (depG l ks o ++ G ++ idx 0 a.tmps.toList)) ∧ St E.w0 E.S (Hd ((listed.setIfInBounds i true).getD q false) ++ laidH (fun i => listed.getD i false) l ks 0 bs) w) a w := by
            by_cases hiq : i = q
            · have hst0 := M.st
              rw [← hiq, hlf] at hst0
              rw [← hiq, hseti]
              exact wpOp_then (wpOp_of_list ho (premq o v (by rw [← hiq]; exact ho) (by rw [← hiq, List.getElem?_eq_getElem hki, hkk]) (idx 0 a.tmps.toList) (laidH (fun i => listed.getD i false) l ks 0 bs) a w hsnap hst0))
            · rw [hbq hiq]
              by_cases hi3 : i = q3
              · obtain ⟨e, oj, dj, v', cj, tj, pj, he, hbe, hej2, hoj, hdj, hk2, hkj, hp2⟩ := hq3 o (by omega) (by rw [← hi3]; exact ho)
                rw [← hi3, List.getElem?_eq_getElem hki, hkk] at hk2
                injection hk2 with hk2
                injection hk2 with e1
                subst e1
                have hjl : listed.getD j3 false = true := hej2 ▸ hej e he hbe
                have hptr := M.fV j3 oj dj _ hjl hoj hdj hkj
                obtain ⟨X, hX⟩ := laidH_get (L := fun i => listed.getD i false) (bs := bs) (j := j3) hjl (os := l) (r := ks) (i := 0) (Nat.zero_le _) (by simpa using hoj) hdj (by simpa using hkj)
                have hfr1 : Fr E.N E.ds a ((dj, tj (bs dj)) :: (depG l ks o ++ G ++ idx 0 a.tmps.toList)) := ⟨M.fN, M.fd, fun s u hs => by
                  unfold look at hs
                  cases hb : Nat.beq dj s with
                  | true =>
                    rw [hb] at hs
                    have : dj = s := Nat.eq_of_beq_eq_true hb
                    subst this
                    simp only [Option.some.injEq] at hs
                    subst hs
                    exact hptr
                  | false => rw [hb] at hs; exact hsnap.at_ s u hs⟩
                have hst1 : St E.w0 E.S (cj (bs dj) :: (Hd (listed.getD q false) ++ X)) w := M.st.perm ((List.Perm.append_left _ hX).trans List.perm_middle)
                have h1 := hp2 (listed.getD q false) (bs dj) (idx 0 a.tmps.toList) X a w hfr1 hst1
                refine wpOp_then (wpOp_mono (fun a' w' h' => ?_) (wpOp_of_list ho h1))
                obtain ⟨d', hd', hfr', hst'⟩ := h'
                rw [hdd] at hd'
                injection hd' with hd'
                subst hd'
                refine ⟨d, hdd, ⟨hfr'.size, hfr'.defers, fun s u hs => ?_⟩, hst'.perm (List.perm_middle.symm.trans (List.Perm.append_left _ hX.symm))⟩
                unfold look at hs
                cases hb : Nat.beq d s with
                | true => rw [hb] at hs; exact hfr'.at_ s u (by unfold look; rw [hb]; exact hs)
                | false =>
                  rw [hb] at hs
                  refine hfr'.at_ s u (by
                    unfold look
                    rw [hb]
                    simp only
                    unfold look
                    cases hb2 : Nat.beq dj s with
                    | false => exact hs
                    | true =>
                      have : dj = s := Nat.eq_of_beq_eq_true hb2
                      subst this
                      have h9 := hsnap.at_ _ u hs
                      rw [hptr] at h9
                      simpa [PK.out] using h9)
              · have hP := hP0 hiq (fun e => by obtain ⟨c, t, p, c2, h⟩ := hnew2 e; rw [hkk] at h; cases h) hi3
                rw [hkk] at hP
                exact wpOp_then (wpOp_of_list ho (hP (idx 0 a.tmps.toList) (laidH (fun i => listed.getD i false) l ks 0 bs) a w hsnap M.st))
          refine wpOp_mono (fun a' w' h' => ?_) hop
          obtain ⟨d2, hd2, hfr', hst'⟩ := h'
          rw [hdd] at hd2
          injection hd2 with hd2
          subst hd2
          refine ih _ a' w' bs ⟨by simp [M.size], hbelow', hdown', hfr'.size, hfr'.defers, fun s u hs => ?_, fun m o' d' k hm' ho' hd' hk' => ?_, ?_⟩ hcnt
          · exact slot_kept hDep M.fG hfr' (fun e => by subst e; rw [hGd] at hs; cases hs) (M.fG s u hs)
          · rw [getD_set (by rw [M.size]; omega)] at hm'
            by_cases hmi : i = m
            · subst hmi
              rw [ho] at ho'; injection ho' with ho'; subst ho'
              rw [hdd] at hd'; injection hd' with hd'; subst hd'
              rw [List.getElem?_eq_getElem hki, hkk] at hk'; injection hk' with hk'; subst hk'
              exact hfr'.at_ _ _ (by simp [look, Nat.beq_refl, PK.out])
            · rw [if_neg hmi] at hm'
              have hmn : m < n := M.lt hm'
              refine slot_kept hDep M.fG hfr' (fun e => hmi (huniq m o' d' hmn ho' hd' e.symm)) (M.fV m o' d' k hm' ho' hd' hk')
          · have : laidH (fun i_1 => (listed.setIfInBounds i true).getD i_1 false) l ks 0 bs = laidH (fun i => listed.getD i false) l ks 0 bs := by
              exact laidH_val (p := i) (v := v) (fun j hj => by rw [getD_set (by rw [M.size]; omega), if_neg (Ne.symm hj)]) (fun _ => by rw [Nat.sub_zero, List.getElem?_eq_getElem hki, hkk]) (fun c t q c2 hm => (hcells hnp c t q c2 hm).symm)
            rw [this]; exact hst'
        | new c t q0 c2 =>
          have hiq := hvq (fun v e => by rw [hkk] at e; cases e)
          have hnp : PK.isPut ks[i]? = false := by rw [List.getElem?_eq_getElem hki, hkk]; rfl
          obtain ⟨o2, d, ho2, hdd, hGd, huniq⟩ := hdst i hin hnp
          rw [ho] at ho2
          injection ho2 with ho2
          subst ho2
          have hop : Go.wpOp P l.toArray Q.fn i (fun a' w => ∃ b d, o.dst = some d ∧ Fr E.N E.ds a' ((d, t b) :: (depG l ks o ++ G ++ idx 0 a.tmps.toList)) ∧ St E.w0 E.S (c b :: (Hd (listed.getD q false) ++ laidH (fun i => listed.getD i false) l ks 0 bs)) w) a w := by
            by_cases hi2 : i = q2
            · obtain ⟨e, oj, dj, c', t', p', c2', cj, tj, pj, he, hbe, hej2, hoj, hdj, hk2, hkj, hp2⟩ := hq2 o (by omega) (by rw [← hi2]; exact ho)
              rw [← hi2, List.getElem?_eq_getElem hki, hkk] at hk2
              injection hk2 with hk2
              injection hk2 with e1 e2 e3 e4
              subst e1; subst e2
              have hjl : listed.getD j2 false = true := hej2 ▸ hej e he hbe
              have hptr := M.fV j2 oj dj _ hjl hoj hdj hkj
              obtain ⟨X, hX⟩ := laidH_get (L := fun i => listed.getD i false) (bs := bs) (j := j2) hjl (os := l) (r := ks) (i := 0) (Nat.zero_le _) (by simpa using hoj) hdj (by simpa using hkj)
              have hfr1 : Fr E.N E.ds a ((dj, tj (bs dj)) :: (depG l ks o ++ G ++ idx 0 a.tmps.toList)) := ⟨M.fN, M.fd, fun s u hs => by
                unfold look at hs
                cases hb : Nat.beq dj s with
                | true =>
                  rw [hb] at hs
                  have : dj = s := Nat.eq_of_beq_eq_true hb
                  subst this
                  simp only [Option.some.injEq] at hs
                  subst hs
                  exact hptr
                | false => rw [hb] at hs; exact hsnap.at_ s u hs⟩
              have hst1 : St E.w0 E.S (cj (bs dj) :: (Hd (listed.getD q false) ++ X)) w := M.st.perm ((List.Perm.append_left _ hX).trans List.perm_middle)
              have h1 := hp2 (listed.getD q false) (bs dj) (idx 0 a.tmps.toList) X a w hfr1 hst1
              refine wpOp_then (wpOp_mono (fun a' w' h' => ?_) (wpOp_of_list ho h1))
              obtain ⟨b', d', hd', hfr', hst'⟩ := h'
              rw [hdd] at hd'
              injection hd' with hd'
              subst hd'
              refine ⟨b', d, hdd, ⟨hfr'.size, hfr'.defers, fun s u hs => ?_⟩, hst'.perm (List.Perm.cons _ (List.perm_middle.symm.trans (List.Perm.append_left _ hX.symm)))⟩
              unfold look at hs
              cases hb : Nat.beq d s with
              | true => rw [hb] at hs; exact hfr'.at_ s u (by unfold look; rw [hb]; exact hs)
              | false =>
                rw [hb] at hs
                refine hfr'.at_ s u (by
                  unfold look
                  rw [hb]
                  simp only
                  unfold look
                  cases hb2 : Nat.beq dj s with
                  | false => exact hs
                  | true =>
                    have : dj = s := Nat.eq_of_beq_eq_true hb2
                    subst this
                    have h9 := hsnap.at_ _ u hs
                    rw [hptr] at h9
                    simpa [PK.out] using h9)
            · have hP := hP0 hiq hi2 (fun e => by obtain ⟨v, h⟩ := hval3 e; rw [hkk] at h; cases h)
              rw [hkk] at hP
              exact wpOp_then (wpOp_of_list ho (hP (idx 0 a.tmps.toList) (laidH (fun i => listed.getD i false) l ks 0 bs) a w hsnap M.st))
          refine wpOp_mono (fun a' w' h' => ?_) hop
          obtain ⟨b, d2, hd2, hfr', hst'⟩ := h'
          rw [hdd] at hd2
          injection hd2 with hd2
          subst hd2
          refine ih _ a' w' (fun s => if s = d then b else bs s) ⟨by simp [M.size], hbelow', hdown', hfr'.size, hfr'.defers, fun s u hs => ?_, fun m o' d' k hm' ho' hd' hk' => ?_, ?_⟩ hcnt
          · exact slot_kept hDep M.fG hfr' (fun e => by subst e; rw [hGd] at hs; cases hs) (M.fG s u hs)
          · rw [getD_set (by rw [M.size]; omega)] at hm'
            by_cases hmi : i = m
            · subst hmi
              rw [ho] at ho'; injection ho' with ho'; subst ho'
              rw [hdd] at hd'; injection hd' with hd'; subst hd'
              rw [List.getElem?_eq_getElem hki, hkk] at hk'; injection hk' with hk'; subst hk'
              rw [if_pos rfl]
              exact hfr'.at_ _ _ (by simp [look, Nat.beq_refl, PK.out])
            · rw [if_neg hmi] at hm'
              have hmn : m < n := M.lt hm'
              have hne : d' ≠ d := fun e => hmi (huniq m o' d' hmn ho' hd' e.symm)
              rw [if_neg hne]
              exact slot_kept hDep M.fG hfr' hne (M.fV m o' d' k hm' ho' hd' hk')
          · have hp := laidH_add (L := fun i => listed.getD i false) (L' := fun j => (listed.setIfInBounds i true).getD j false) (bs := bs) (bs' := fun s => if s = d then b else bs s) (p := i) (os := l) (r := ks) (i := 0) (Nat.zero_le _)
              (fun j hj => by show listed.getD j false = (listed.setIfInBounds i true).getD j false; rw [getD_set (by rw [M.size]; omega), if_neg (Ne.symm hj)]) hlf (by show (listed.setIfInBounds i true).getD i false = true; rw [getD_set (by rw [M.size]; omega), if_pos rfl])
              (fun j o' d' h1 h2 h3 h4 => by
                simp only [Nat.zero_add] at h4
                have hne : d' ≠ d := fun e => by
                  have := huniq j o' d' (by omega) h1 h2 e.symm
                  subst this
                  rw [hlf] at h4; cases h4
                simp [hne]) (hcells hnp) (o := o) (d := d) (c := c) (t := t) (by simpa using ho) hdd (by rw [Nat.sub_zero, List.getElem?_eq_getElem hki, hkk]) (by
                show (if (listed.setIfInBounds i true).getD q0 false = true then c2 else c) = c
                have hki' : ks[i]? = some (.new c t q0 c2) := by rw [List.getElem?_eq_getElem hki, hkk]
                rcases hput.new i c t q0 c2 hki' with h | h
                · rw [h]; split <;> rfl
                · cases hq : ks[q0]? with
                  | none => rw [hq] at h; cases h
                  | some kq =>
                    rw [hq] at h
                    cases kq with
                    | put dj c' t' c2' =>
                      obtain ⟨j, oj, op, e, hkj, hoj, hdj, hop, he, hbe, hej2⟩ := hput.put q0 dj c' t' c2' hq
                      have hqi : q0 ≠ i := fun e2 => by subst e2; rw [hki'] at hq; cases hq
                      by_cases hji : j = i
                      · rw [hget q0 hqi]
                        cases hlq : listed.getD q0 false with
                        | false => rfl
                        | true =>
                          have := M.down q0 op hlq hop e he hbe
                          rw [hej2, hji, hlf] at this; cases this
                      · have := hput.uniq j i q0 c' t' c2' c t c2 hkj hki' hji
                        rw [this]; split <;> rfl
                    | val v => cases h
                    | new _ _ _ _ => cases h)
            simp only [if_true] at hp
            rw [hbq hiq]
            refine hst'.perm ?_
            exact List.perm_middle.symm.trans (List.Perm.append_left _ hp)
  have hrep : ∀ j, (Array.replicate l.toArray.size false).getD j false = false := fun j => by
    simp only [Array.getD_eq_getD_getElem?, Array.getElem?_replicate]
    split <;> rfl
  refine key l.toArray.size _ a w.drew (fun _ => 0) ⟨by simp, fun i _ => hrep i, fun i o h => (by rw [hrep i] at h; cases h), hfr.size, hfr.defers, hfr.at_, fun i o d k h => (by rw [hrep i] at h; cases h), ?_⟩ ?_
  · have : laidH (fun i => (Array.replicate l.toArray.size false).getD i false) l ks 0 (fun _ => 0) = [] := laidH_none hrep
    rw [this, List.append_nil, hrep q]
    exact hst.drew
  · simpa using cnt_le (fun i => (Array.replicate l.toArray.size false).getD i false) l.length
end
end Go.Proofs.YtkfmlekomfnleaaGreat
/- The document's except. Conditions: none. -/
set_option linter.unusedVariables false
set_option linter.unusedSimpArgs false
set_option maxRecDepth 10000
namespace Go.Proofs.YtkfmlekomfnleaaGreat
open Go Go.RowKit Go.MapKept

section
variable {P : Program} {E : Env} {ops : Array Oper} {Q : Pst} {rest : List Oper} {G : List (Nat × Value)} {H : List HP}
variable {dst : Nat} {ty : TypeId} {pos : String} {af : Array Edge} {t ty' : TypeId} {x y : Operand} {z : Value} {by_ : Nat}
theorem RW.eqlTwo {f1 f2 : Field} {a b : Str × Str} [T : Ty P t (.struct #[f1, f2]) z 2 by_] {z1 : Value} {by1 sz1 : Nat} (t1 : TypeId) [T1 : Ty P t1 .string z1 sz1 by1] (h1 : f1.type = t1) (h2 : f2.type = t1) (hx : ev G x = some (.agg #[.string a.1, .string a.2])) (hy : ev G y = some (.agg #[.string b.1, .string b.2])) (o1 : f1.offset = 0) (o2 : f2.offset = 1) (n1 : (f1.name = "_") = False) (n2 : (f2.name = "_") = False) (hp : P.stoodInHeld t = false) (hg : P.eqGuardType P.depth t = false)
    (hN : Nat.blt dst E.N = true) (kk : RW P E ops Q rest ((dst, .bool (decide (a = b))) :: G) H) : RW P E ops Q (⟨some dst, .binOp .eql t x y ty', ty, pos, af, none⟩ :: rest) G H := by
  refine RW.val hN (fun f w hf _ => ?_) kk
  have hu := T.und
  have hfs : P.fieldsOf t = #[f1, f2] := by simp [Program.fieldsOf, hu]
  have part1 : ∀ (w : World) (a b : ByteArray), (part t1 #[.string a, .string b] 0).run P w = .ok (.string a) w := fun w a b => by
    simp [part, T1.runAgg, isAggD, Result.andThen]
  have part2 : ∀ (w : World) (a b : ByteArray), (part t1 #[.string a, .string b] 1).run P w = .ok (.string b) w := fun w a b => by
    simp [part, T1.runAgg, isAggD, Result.andThen]
  have he : ∀ w, (Op.equal t (.agg #[.string a.1, .string a.2]) (.agg #[.string b.1, .string b.2])).run P w = .ok (decide (a = b)) w := fun w => by
    have hb : ((a.1.toList == b.1.toList) && (a.2.toList == b.2.toList)) = decide (a = b) := by
      rw [beqL, beqL]
      by_cases h : a = b
      · subst h; simp
      · rw [decide_eq_false h]
        by_cases h3 : a.1 = b.1
        · have h4 : ¬ a.2 = b.2 := fun e => h (Prod.ext h3 e)
          rw [decide_eq_false h4, Bool.and_false]
        · rw [decide_eq_false h3, Bool.false_and]
    rw [← hb]
    show (Op.equalIn (9999 + 1) t _ _).run P w = _
    rw [run_equalIn_agg w 9999 t _ _ (by rw [hfs]; exact hu) hp, hfs]
    have e1 : ∀ (x y : ByteArray), (Op.equalIn (9998 + 1) t1 (.string x) (.string y)).run P w = .ok (x.toList == y.toList) w := fun x y => run_equalIn_string w 9998 t1 x y T1.und
    simp only [Op.eqFields, ne_eq, n1, n2, not_false_eq_true, if_true, Sem.run_bind, h1, h2, o1, o2, part1, part2, Result.andThen_ok, show (9999 : Nat) = 9998 + 1 from rfl, e1]
    generalize hA : (a.1.toList == b.1.toList) = A
    generalize hB : (a.2.toList == b.2.toList) = B
    cases A <;> cases B <;> simp [Sem.run_bind, part1, part2, e1, Result.andThen, hA, hB, -beq_eq_false_iff_ne, -beq_iff_eq]
  have hG : (eqGuard .eql t x y (.agg #[.string a.1, .string a.2]) (.agg #[.string b.1, .string b.2])).run P w = .ok () w := by
    unfold eqGuard
    simp [hg, Result.andThen]
  simp [execOp, hf.eval hx, hf.eval hy, hG, binOp, he]
end
def rExc (s : kStat.V) (n : Nat) (x : Str × Str) : Int :=
  if atN (rN s) x.1 < 0 then 82 else if atN (rN s) x.2 < 0 then 82
  else if ((sExcepts s).take n).any (fun y => decide ((show Str × Str from y) = x)) = true then 6 else 0
theorem any_stepU {α : Type} {f : α → Bool} {l : List α} {q : Nat} (hq : q < l.length) (h : (l.take q).any f = false) (h2 : f l[q] = false) : (l.take (q + 1)).any f = false := any_step hq h h2
attribute [local irreducible] RW CW
set_option maxHeartbeats 16000000 in
theorem ref_except_ret {s : kStat.V} {x : RC} {n : Nat} {x0 : Str × Str} {w : World} (hst : StatOn (mem w (fun b => ¬ No b)) s x) (hx : (sExcepts s)[n]? = some x0) : Ret Tryz.prog 124 [.agg (x.stat s).toArray, .int .i64 n] w (.int .i64 (rExc s n x0)) := by
  have hle : Mem.le (mem w (fun b => ¬ No b)) (mem w (fun b => ¬ No b)) := Mem.le_refl _
  have hlt := (List.getElem?_eq_some_iff.1 hx).1
  have hsm := sl_small hst.excepts
  unfold reach at hsm
  have hnr := names_ok hst.rules (by decide)
  obtain ⟨B0, O0, cs0, hA, hl1, hr, hm⟩ := sl_get hst.excepts hx
  obtain ⟨_, _, rfl, r1, r2⟩ := hr
  obtain rfl := str_cell r1
  obtain rfl := str_cell r2
  unfold rExc
  refine Calls.enter Tryz.func124 rfl _ rfl rfl (S := No) (H := []) trivial ?_
  refine CW.seqR ?_
  refine RW.box_agg (l := x.stat s) rfl rfl fun b2 _ => ?_
  refine Jd ?_;refine Jb ?_;refine Ja ?_;refine Je ?_;refine JA ?_;refine Jc ?_
  refine RW.indexAddrE hA rfl rfl (by omega) (by omega) rfl ?_
  refine RW.load_ros (cs := [.string x0.1, .string x0.2]) rfl hle hm rfl rfl (by simp) rfl ?_
  refine RW.alloc (c := [.string ByteArray.empty, .string ByteArray.empty]) rfl rfl fun b5 _ => ?_
  refine RW.store_whole [] rfl rfl (vs := [.string x0.1, .string x0.2]) rfl rfl rfl (by simp [Value.oneCell']) ?_
  refine Jb ?_
  refine CW.keep [(1, .int .i64 n), (2, ptrV b2), (5, ptrV b5)] ⟨rfl, rfl, rfl, trivial⟩ ?_
  refine CW.seq ?_
  by_cases h1 : atN (rN s) x0.1 < 0
  · refine CW.seq ?_
    refine CW.of (by kernel_rfl) ?_
    refine WA.anyX 99 99 0 4 1 (fun _ => [blk b5 [.string x0.1, .string x0.2] 164, blk b2 (x.stat s) 31]) 11 [.val (.agg (x.stat s).toArray), .new (fun n => ownHP 9 1 (encU (rN s).length n) ((rN s).map strE)) (fun n => encU (rN s).length n) 99 (fun n => ownHP 9 1 (encU (rN s).length n) ((rN s).map strE)), .val (.pointer (some ⟨b5, 0 + 0, none⟩)), .val (.string x0.1), .val (.int .i64 (atN (rN s) x0.1)), .val (.bool true), .val (.bool true), .val undef, .val undef, .val undef, .val undef] rfl rfl rfl rfl (by kernel_rfl)
      (PutOK.plain (fun dj c t c2 h => by simp at h) (fun c t p c2 h => ?_)) (fun i o d hi _ _ h => ?_) (fun k h => by cases h) (fun i o k _ _ h4 ho hk b => ?_) (fun o v ho _ => by cases ho) (fun o hlt ho => absurd hlt (by decide)) (fun o _ ho => ?_) (fun bs => ?_)
    · simp only [List.mem_cons, PK.new.injEq, reduceCtorEq, false_or, or_false, List.not_mem_nil] at h
      obtain ⟨rfl, _, _, rfl⟩ := h; rfl
    · have : i = 0 ∨ i = 1 ∨ i = 2 ∨ i = 3 ∨ i = 4 ∨ i = 5 ∨ i = 6 ∨ i = 7 ∨ i = 8 ∨ i = 9 ∨ i = 10 := by omega
      rcases this with rfl | rfl | rfl | rfl | rfl | rfl | rfl | rfl | rfl | rfl | rfl <;> cases h
    · have : i = 0 ∨ i = 1 ∨ i = 2 ∨ i = 3 ∨ i = 4 ∨ i = 5 ∨ i = 6 ∨ i = 7 ∨ i = 8 ∨ i = 9 ∨ i = 10 ∨ 11 ≤ i := by omega
      rcases this with rfl | rfl | rfl | rfl | rfl | rfl | rfl | rfl | rfl | rfl | rfl | h12
      any_goals (obtain rfl := Option.some.inj ho; obtain rfl := Option.some.inj hk; intro Gx X)
      · refine RW.load_whole [_] rfl rfl rfl rfl ?_; exact RW.done rfl
      · refine RW.callN Tryz.call127 rfl (fun w2 hw => ref_schemas_ret (StatOn.mono hst (ro_call hw))) rfl fun v => ?_
        refine RW.have_ (φ := ∃ n, v = encU (rN s).length n) (fun w hw => by have := enc_ownU (pre := []) hw; rwa [List.length_map] at this) (fun ⟨n, hn⟩ => ?_)
        subst hn
        exact RW.done_gen (b := n) rfl
      · refine RW.fieldAddr rfl rfl ?_; exact RW.done rfl
      · refine RW.load_blk [] rfl rfl rfl rfl ?_; exact RW.done rfl
      · exact absurd rfl h4
      · refine RW.lss rfl rfl rfl ?_; exact RW.done_eq (v := .bool true) rfl (by rw [decide_eq_true h1])
      · refine RW.move rfl rfl ?_; exact RW.done rfl
      · refine RW.no rfl rfl ?_; exact RW.done rfl
      · refine RW.no rfl rfl ?_; exact RW.done rfl
      · refine RW.no rfl rfl ?_; exact RW.done rfl
      · refine RW.no rfl rfl ?_; exact RW.done rfl
      · rw [List.getElem?_eq_none (by simpa using h12)] at hk; cases hk
    · obtain rfl := Option.some.inj ho
      refine ⟨_, _, 13, _, _, _, _, List.mem_of_getElem? (i := 0) rfl, rfl, rfl, rfl, rfl, rfl, rfl, fun b0 b Gx X => ?_⟩
      refine RW.call Tryz.call44 rfl (fun w2 hw => find_own (pre := []) hw hnr) rfl ?_
      exact RW.done rfl
    refine Jz ?_;refine Jz ?_;refine Jv ?_;refine Jb ?_
    refine CW.ct rfl ?_
    refine Ja ?_;refine Jd ?_;refine Jb ?_
    exact CW.ret1 rfl Tryz.results124 rfl rfl fun w hw => ⟨by rw [if_pos h1], hw.kp⟩
  rw [if_neg h1]
  refine CW.seq ?_
  refine CW.of (by kernel_rfl) ?_
  refine WA.anyX 99 99 0 4 1 (fun _ => [blk b5 [.string x0.1, .string x0.2] 164, blk b2 (x.stat s) 31]) 11 [.val (.agg (x.stat s).toArray), .new (fun n => ownHP 9 1 (encU (rN s).length n) ((rN s).map strE)) (fun n => encU (rN s).length n) 99 (fun n => ownHP 9 1 (encU (rN s).length n) ((rN s).map strE)), .val (.pointer (some ⟨b5, 0 + 0, none⟩)), .val (.string x0.1), .val (.int .i64 (atN (rN s) x0.1)), .val (.bool false), .val (.bool false), .val (.agg (x.stat s).toArray), .new (fun n => ownHP 9 1 (encU (rN s).length n) ((rN s).map strE)) (fun n => encU (rN s).length n) 99 (fun n => ownHP 9 1 (encU (rN s).length n) ((rN s).map strE)), .val (.pointer (some ⟨b5, 0 + 1, none⟩)), .val (.string x0.2)] rfl rfl rfl rfl (by kernel_rfl)
    (PutOK.plain (fun dj c t c2 h => by simp at h) (fun c t p c2 h => ?_)) (fun i o d hi _ _ h => ?_) (fun k h => by cases h) (fun i o k _ _ h4 ho hk b => ?_) (fun o v ho _ => by cases ho) (fun o hlt ho => absurd hlt (by decide)) (fun o _ ho => ?_) (fun bs => ?_)
  · simp only [List.mem_cons, PK.new.injEq, reduceCtorEq, false_or, or_false, List.not_mem_nil] at h
    rcases h with ⟨rfl, _, _, rfl⟩ | ⟨rfl, _, _, rfl⟩ <;> rfl
  · have : i = 0 ∨ i = 1 ∨ i = 2 ∨ i = 3 ∨ i = 4 ∨ i = 5 ∨ i = 6 ∨ i = 7 ∨ i = 8 ∨ i = 9 ∨ i = 10 := by omega
    rcases this with rfl | rfl | rfl | rfl | rfl | rfl | rfl | rfl | rfl | rfl | rfl <;> cases h
  · have : i = 0 ∨ i = 1 ∨ i = 2 ∨ i = 3 ∨ i = 4 ∨ i = 5 ∨ i = 6 ∨ i = 7 ∨ i = 8 ∨ i = 9 ∨ i = 10 ∨ 11 ≤ i := by omega
    rcases this with rfl | rfl | rfl | rfl | rfl | rfl | rfl | rfl | rfl | rfl | rfl | h12
    any_goals (obtain rfl := Option.some.inj ho; obtain rfl := Option.some.inj hk; intro Gx X)
    · refine RW.load_whole [_] rfl rfl rfl rfl ?_; exact RW.done rfl
    · refine RW.callN Tryz.call127 rfl (fun w2 hw => ref_schemas_ret (StatOn.mono hst (ro_call hw))) rfl fun v => ?_
      refine RW.have_ (φ := ∃ n, v = encU (rN s).length n) (fun w hw => by have := enc_ownU (pre := []) hw; rwa [List.length_map] at this) (fun ⟨n, hn⟩ => ?_)
      subst hn
      exact RW.done_gen (b := n) rfl
    · refine RW.fieldAddr rfl rfl ?_; exact RW.done rfl
    · refine RW.load_blk [] rfl rfl rfl rfl ?_; exact RW.done rfl
    · exact absurd rfl h4
    · refine RW.lss rfl rfl rfl ?_; exact RW.done_eq (v := .bool false) rfl (by rw [decide_eq_false h1])
    · refine RW.move rfl rfl ?_; exact RW.done rfl
    · refine RW.yes rfl ?_; refine RW.load_whole [_] rfl rfl rfl rfl ?_; exact RW.done rfl
    · refine RW.yes rfl ?_
      refine RW.callN Tryz.call127 rfl (fun w2 hw => ref_schemas_ret (StatOn.mono hst (ro_call hw))) rfl fun v => ?_
      refine RW.have_ (φ := ∃ n, v = encU (rN s).length n) (fun w hw => by have := enc_ownU (pre := []) hw; rwa [List.length_map] at this) (fun ⟨n, hn⟩ => ?_)
      subst hn
      exact RW.done_gen (b := n) rfl
    · refine RW.yes rfl ?_; refine RW.fieldAddr rfl rfl ?_; exact RW.done rfl
    · refine RW.yes rfl ?_; refine RW.load_blk [] rfl rfl rfl rfl ?_; exact RW.done rfl
    · rw [List.getElem?_eq_none (by simpa using h12)] at hk; cases hk
  · obtain rfl := Option.some.inj ho
    refine ⟨_, _, 13, _, _, _, _, List.mem_of_getElem? (i := 0) rfl, rfl, rfl, rfl, rfl, rfl, rfl, fun b0 b Gx X => ?_⟩
    refine RW.call Tryz.call44 rfl (fun w2 hw => find_own (pre := []) hw hnr) rfl ?_
    exact RW.done rfl
  refine RW.yes rfl ?_
  refine RW.call Tryz.call44 rfl (fun w2 hw => find_own (pre := [_, _, _]) hw hnr) rfl ?_
  refine RW.take [0, 1] ?_
  refine Jy ?_;refine Jk ?_;refine Jw ?_;refine Jb ?_
  refine CW.ite rfl (fun h2 => ?_) (fun h2 => ?_)
  · refine Ja ?_;refine Jd ?_;refine Jb ?_
    exact CW.ret1 rfl Tryz.results124 rfl rfl fun w hw => ⟨by rw [if_pos h2], hw.kp⟩
  rw [if_neg h2]
  refine CW.skip ?_
  refine PW.code ?_
  refine CW.seq ?_
  refine Ja ?_;refine Jd ?_;refine Jb ?_
  refine CW.block ?_
  refine CW.loop (ι := { q : Nat // q ≤ n ∧ ((sExcepts s).take q).any (fun y => decide ((show Str × Str from y) = x0)) = false }) (fun q => [(1, .int .i64 n), (2, ptrV b2), (5, ptrV b5), (6, .int .i64 q.1)]) (fun _ => [blk b5 [.string x0.1, .string x0.2] 164, blk b2 (x.stat s) 31]) (fun q => n - q.1) ⟨0, Nat.zero_le _, rfl⟩ ⟨rfl, rfl, rfl, rfl, trivial⟩ (fun h => h) ?_
  intro ⟨q, hq, hT⟩
  dsimp only at hq hT ⊢
  refine CW.seq ?_
  refine Ja ?_;refine Jc ?_;refine Jc ?_;refine Jk ?_;refine Jb ?_
  refine CW.ite rfl (fun hlt2 => ?_) (fun hge2 => ?_)
  · have hlt2' : q < n := by simpa using hlt2
    have hqe : q < (sExcepts s).length := by omega
    obtain ⟨B5, O5, es5, hA5, hl6, hr5, hm5⟩ := sl_get hst.excepts (List.getElem?_eq_getElem hqe)
    obtain ⟨_, _, rfl, r3, r4⟩ := hr5
    obtain rfl := str_cell r3
    obtain rfl := str_cell r4
    refine CW.skip ?_
    refine PW.code ?_
    refine CW.seq ?_
    refine CW.block ?_
    refine CW.seqA (by kernel_rfl) rfl ?_
    refine AW.val rfl (fun _ _ => by refine Je ?_;exact RW.done rfl) ?_;refine AW.val rfl (fun _ _ => by refine JB ?_;exact RW.done rfl) ?_;refine AW.val rfl (fun _ _ => by refine Jc ?_;exact RW.done rfl) ?_
    (apply AW.val rfl; · intro Gx X; (first | refine RW.yes rfl ?_ | skip); refine RW.indexAddrE hA5 rfl rfl (by omega) (by omega) rfl ?_; exact RW.done rfl)
    (apply AW.val rfl; · intro Gx X; (first | refine RW.yes rfl ?_ | skip); refine RW.load_ros (cs := [.string (sExcepts s)[q].1, .string (sExcepts s)[q].2]) rfl hle hm5 rfl rfl (by simp) rfl ?_; exact RW.done rfl)
    refine AW.val rfl (fun _ _ => by refine JE ?_;exact RW.done rfl) ?_
    (apply AW.val rfl; · intro Gx X; (first | refine RW.yes rfl ?_ | skip); refine RW.eqlTwo (a := (sExcepts s)[q]) (b := x0) 9 rfl rfl rfl rfl rfl rfl (by simp) (by simp) (by kernel_rfl) (by kernel_rfl) rfl ?_; exact RW.done rfl)
    refine AW.stop (by kernel_rfl) (by kernel_rfl) fun bs => ?_
    refine Jb ?_
    refine CW.ite rfl (fun h3 => ?_) (fun h3 => ?_)
    · refine Ja ?_;refine Jd ?_;refine Jb ?_
      refine CW.ret1 rfl Tryz.results124 rfl rfl fun w hw => ⟨?_, hw.kp⟩
      rw [if_pos (any_hit (f := fun y => decide ((show Str × Str from y) = x0)) hqe hlt2' (decide_eq_true h3))]
    · refine CW.skip ?_
      refine PW.code ?_
      refine CW.region ?_
      refine Jc ?_
      refine RW.add rfl rfl (w64 (by omega) (by omega)) rfl ?_
      refine Jd ?_
      refine RW.nil ?_
      exact PW.again ⟨q + 1, hlt2', any_step hqe hT (decide_eq_false h3)⟩ ⟨rfl, rfl, rfl, rfl, trivial⟩ (fun h => h) (by show n - (q + 1) < n - q; omega)
  have hq' : q = n := by
    have : n ≤ q := by simpa using hge2
    omega
  subst hq'
  rw [if_neg (by rw [hT]; simp)]
  refine CW.exit rfl ?_
  refine PW.code ?_
  refine Ja ?_;refine Jd ?_;refine Jb ?_
  exact CW.ret1 rfl Tryz.results124 rfl rfl fun w hw => ⟨rfl, hw.kp⟩
end Go.Proofs.YtkfmlekomfnleaaGreat
/- The document's item, Check. Conditions: none. -/
set_option linter.unusedVariables false
set_option linter.unusedSimpArgs false
set_option maxRecDepth 10000
namespace Go.Proofs.YtkfmlekomfnleaaGreat
open Go Go.RowKit Go.MapKept

def noBk : Bk := ⟨[], [], []⟩
theorem noBk_ok : BkOK noBk := ⟨rfl, fun a h => (by cases h), fun a h => (by cases h)⟩
def rMem (s : kStat.V) (m : kMember.V) (n : Nat) : Int := if rNm (mN s) m.1 n = 0 then (if atN (sKinds s) m.2 < 0 then 81 else 0) else rNm (mN s) m.1 n
def rSrc (s : kStat.V) (x : kSource.V) (n : Nat) : Int := if rNm (uN s) x.1 n = 0 then (if x.2 < 0 then 4 else if 1000 < x.2 then 4 else 0) else rNm (uN s) x.1 n
def rItem (s : kStat.V) (sort n : Nat) : Int := match sort with
  | 0 => match (sKinds s)[n]? with | some x => rNm (sKinds s) x n | none => 0
  | 1 => match (sMembers s)[n]? with | some x => rMem s x n | none => 0
  | 2 => match (sPreds s)[n]? with | some x => rPred s x n | none => 0
  | 3 => match (sClasses s)[n]? with | some x => rClass s n x | none => 0
  | 4 => match (sSources s)[n]? with | some x => rSrc s x n | none => 0
  | 5 => match (sRules s)[n]? with | some x => (rRule s noBk n x).1 | none => 0
  | 6 => match (sExcepts s)[n]? with | some x => rExc s n x | none => 0
  | _ => match (sTotals s)[n]? with | some x => rTotal s x n | none => 0
def manyN (s : kStat.V) (sort : Nat) : Nat := match sort with
  | 0 => (sKinds s).length
  | 1 => (sMembers s).length
  | 2 => (sPreds s).length
  | 3 => (sClasses s).length
  | 4 => (sSources s).length
  | 5 => (sRules s).length
  | 6 => (sExcepts s).length
  | _ => (sTotals s).length
attribute [local irreducible] RW CW
set_option maxHeartbeats 16000000 in
theorem ref_item_ret {s : kStat.V} {x : RC} {sort n : Nat} {w : World} (hst : StatOn (mem w (fun b => ¬ No b)) s x) (hs : sort < 8) (hn : n < manyN s sort) (hK : sort = 5 → fourK s) : Ret Tryz.prog 39 [.agg (x.stat s).toArray, .int .i64 sort, .int .i64 n] w (.int .i64 (rItem s sort n)) := by
  have hle : Mem.le (mem w (fun b => ¬ No b)) (mem w (fun b => ¬ No b)) := Mem.le_refl _
  refine Calls.enter Tryz.func39 rfl _ rfl rfl (S := No) (H := []) trivial ?_
  refine CW.seqR ?_
  refine RW.box_agg (l := x.stat s) rfl rfl fun b3 _ => ?_
  refine Jd ?_;refine Jb ?_
  refine CW.seq ?_
  refine Ja ?_;refine Jc ?_;refine Jb ?_
  refine CW.block ?_
  obtain rfl | rfl | rfl | rfl | rfl | rfl | rfl | rfl : sort = 0 ∨ sort = 1 ∨ sort = 2 ∨ sort = 3 ∨ sort = 4 ∨ sort = 5 ∨ sort = 6 ∨ sort = 7 := by omega
  · have hn' : n < (sKinds s).length := hn
    have hx := List.getElem?_eq_getElem hn'
    have hI : rItem s 0 n = rNm (sKinds s) (sKinds s)[n] n := by unfold rItem; rw [hx]; rfl
    rw [hI]
    refine Ja ?_;refine Ji ?_;refine Jd ?_;refine Jb ?_
    refine CW.ct rfl ?_
    refine Ja ?_;refine Je ?_;refine JA ?_;refine Jc ?_
    refine RW.call Tryz.call120 rfl (fun w2 hw => named_ret (StatOn.mono hst (ro_call hw)).kinds hx) rfl ?_
    refine Jd ?_;refine Jb ?_
    exact CW.ret1 rfl Tryz.results39 rfl rfl fun w hw => ⟨rfl, hw.kp⟩
  · have hn' : n < (sMembers s).length := hn
    have hx := List.getElem?_eq_getElem hn'
    have hI : rItem s 1 n = rMem s (sMembers s)[n] n := by unfold rItem; rw [hx]; rfl
    rw [hI]
    have hnm := names_ok hst.members (by decide)
    have hx' : (mN s)[n]? = some (sMembers s)[n].1 := by rw [List.getElem?_map, hx]; rfl
    have hsm := sl_small hst.members
    unfold reach at hsm
    obtain ⟨B1, O1, es1, hA1, hl1, hr1, hm1⟩ := sl_get hst.members hx
    obtain ⟨_, _, rfl, r1, r2⟩ := hr1
    obtain rfl := str_cell r1
    obtain rfl := str_cell r2
    refine Ja ?_;refine Ji ?_;refine Jd ?_;refine Jb ?_
    refine CW.cf rfl ?_
    refine Ja ?_;refine Ji ?_;refine Jd ?_;refine Jb ?_
    refine CW.ct rfl ?_
    refine Ja ?_;refine JE ?_
    unfold rMem
    refine RW.callN Tryz.call57 rfl (fun w2 hw => ref_members_ret (StatOn.mono hst (ro_call hw))) rfl fun v => ?_
    refine Jc ?_
    refine RW.call Tryz.call120 rfl (fun w2 hw => named_own (pre := []) hw hnm hx') rfl ?_
    refine RW.take [1] ?_
    refine Jd ?_;refine Jb ?_
    refine CW.seq ?_
    by_cases h1 : rNm (mN s) (sMembers s)[n].1 n = 0
    · rw [if_pos h1]
      refine CW.seqA (by kernel_rfl) rfl ?_
      (apply AW.val rfl; · intro Gx X; (first | refine RW.yes rfl ?_ | skip); refine RW.move rfl rfl ?_; exact RW.done rfl)
      (apply AW.val rfl; · intro Gx X; (first | refine RW.yes rfl ?_ | skip); refine RW.eql rfl rfl rfl ?_; exact RW.done_eq (v := .bool true) rfl (by rw [decide_eq_true h1]))
      refine AW.val rfl (fun _ _ => by refine Jc ?_;exact RW.done rfl) ?_;refine AW.val rfl (fun _ _ => by refine RW.yes rfl ?_;refine Je ?_;exact RW.done rfl) ?_;refine AW.val rfl (fun _ _ => by refine RW.yes rfl ?_;refine JA ?_;exact RW.done rfl) ?_;refine AW.val rfl (fun _ _ => by refine RW.yes rfl ?_;refine Je ?_;exact RW.done rfl) ?_;refine AW.val rfl (fun _ _ => by refine RW.yes rfl ?_;refine JA ?_;exact RW.done rfl) ?_;refine AW.val rfl (fun _ _ => by refine RW.yes rfl ?_;refine Jc ?_;exact RW.done rfl) ?_
      (apply AW.val rfl; · intro Gx X; (first | refine RW.yes rfl ?_ | skip); refine RW.indexAddrE hA1 rfl rfl (by omega) (by omega) rfl ?_; exact RW.done rfl)
      refine AW.val rfl (fun _ _ => by refine RW.yes rfl ?_;refine Je ?_;exact RW.done rfl) ?_
      (apply AW.val rfl; · intro Gx X; (first | refine RW.yes rfl ?_ | skip); refine RW.load_ro rfl hle (hm1 1 _ rfl) rfl rfl ?_; exact RW.done rfl)
      (apply AW.val rfl; · intro Gx X; (first | refine RW.yes rfl ?_ | skip); refine RW.call Tryz.call44 rfl (fun w2 hw => refFind_ret (StatOn.mono hst (ro_call hw)).kinds) rfl ?_; exact RW.done rfl)
      refine AW.val rfl (fun _ _ => by refine RW.yes rfl ?_;refine Jk ?_;exact RW.done rfl) ?_;refine AW.val rfl (fun _ _ => by refine Jv ?_;exact RW.done rfl) ?_
      refine AW.stop (by kernel_rfl) (by kernel_rfl) fun bs => ?_
      refine Jb ?_
      refine CW.ite rfl (fun h2 => ?_) (fun h2 => ?_)
      · refine Ja ?_;refine Jd ?_;refine Jb ?_
        exact CW.ret1 rfl Tryz.results39 rfl rfl fun w hw => ⟨by rw [if_pos h2], hw.kp⟩
      · refine CW.skip ?_
        refine PW.code ?_
        refine Ja ?_;refine Jc ?_;refine Jd ?_;refine Jb ?_
        exact CW.ret1 rfl Tryz.results39 rfl rfl fun w hw => ⟨by rw [if_neg h2, h1], hw.kp⟩
    · rw [if_neg h1]
      refine CW.seqA (by kernel_rfl) rfl ?_
      (apply AW.val rfl; · intro Gx X; (first | refine RW.yes rfl ?_ | skip); refine RW.move rfl rfl ?_; exact RW.done rfl)
      (apply AW.val rfl; · intro Gx X; (first | refine RW.yes rfl ?_ | skip); refine RW.eql rfl rfl rfl ?_; exact RW.done_eq (v := .bool false) rfl (by rw [decide_eq_false h1]))
      refine AW.val rfl (fun _ _ => by refine Jc ?_;exact RW.done rfl) ?_;refine AW.val rfl (fun _ _ => by refine Jz ?_;exact RW.done rfl) ?_;refine AW.val rfl (fun _ _ => by refine Jz ?_;exact RW.done rfl) ?_;refine AW.val rfl (fun _ _ => by refine Jz ?_;exact RW.done rfl) ?_;refine AW.val rfl (fun _ _ => by refine Jz ?_;exact RW.done rfl) ?_;refine AW.val rfl (fun _ _ => by refine Jz ?_;exact RW.done rfl) ?_;refine AW.val rfl (fun _ _ => by refine Jz ?_;exact RW.done rfl) ?_;refine AW.val rfl (fun _ _ => by refine Jz ?_;exact RW.done rfl) ?_;refine AW.val rfl (fun _ _ => by refine Jz ?_;exact RW.done rfl) ?_;refine AW.val rfl (fun _ _ => by refine Jz ?_;exact RW.done rfl) ?_;refine AW.val rfl (fun _ _ => by refine Jz ?_;exact RW.done rfl) ?_;refine AW.val rfl (fun _ _ => by refine Jw ?_;exact RW.done rfl) ?_
      refine AW.stop (by kernel_rfl) (by kernel_rfl) fun bs => ?_
      refine Jb ?_
      refine CW.cf rfl ?_
      refine CW.skip ?_
      refine PW.code ?_
      refine Ja ?_;refine Jc ?_;refine Jd ?_;refine Jb ?_
      exact CW.ret1 rfl Tryz.results39 rfl rfl fun w hw => ⟨rfl, hw.kp⟩
  · have hn' : n < (sPreds s).length := hn
    have hx := List.getElem?_eq_getElem hn'
    have hI : rItem s 2 n = rPred s (sPreds s)[n] n := by unfold rItem; rw [hx]; rfl
    rw [hI]
    refine Ja ?_;refine Ji ?_;refine Jd ?_;refine Jb ?_
    refine CW.cf rfl ?_
    refine Ja ?_;refine Ji ?_;refine Jd ?_;refine Jb ?_
    refine CW.cf rfl ?_
    refine Ja ?_;refine Ji ?_;refine Jd ?_;refine Jb ?_
    refine CW.ct rfl ?_
    refine Ja ?_;refine JE ?_;refine Jc ?_
    refine RW.call Tryz.call121 rfl (fun w2 hw => ref_pred_ret (StatOn.mono hst (ro_call hw)) hx) rfl ?_
    refine Jd ?_;refine Jb ?_
    exact CW.ret1 rfl Tryz.results39 rfl rfl fun w hw => ⟨rfl, hw.kp⟩
  · have hn' : n < (sClasses s).length := hn
    have hx := List.getElem?_eq_getElem hn'
    have hI : rItem s 3 n = rClass s n (sClasses s)[n] := by unfold rItem; rw [hx]; rfl
    rw [hI]
    refine Ja ?_;refine Ji ?_;refine Jd ?_;refine Jb ?_
    refine CW.cf rfl ?_
    refine Ja ?_;refine Ji ?_;refine Jd ?_;refine Jb ?_
    refine CW.cf rfl ?_
    refine Ja ?_;refine Ji ?_;refine Jd ?_;refine Jb ?_
    refine CW.cf rfl ?_
    refine Ja ?_;refine Ji ?_;refine Jd ?_;refine Jb ?_
    refine CW.ct rfl ?_
    refine Ja ?_;refine JE ?_;refine Jc ?_
    refine RW.call Tryz.call122 rfl (fun w2 hw => ref_class_ret (StatOn.mono hst (ro_call hw)) hx) rfl ?_
    refine Jd ?_;refine Jb ?_
    exact CW.ret1 rfl Tryz.results39 rfl rfl fun w hw => ⟨rfl, hw.kp⟩
  · have hn' : n < (sSources s).length := hn
    have hx := List.getElem?_eq_getElem hn'
    have hI : rItem s 4 n = rSrc s (sSources s)[n] n := by unfold rItem; rw [hx]; rfl
    rw [hI]
    have hnm := names_ok hst.sources (by decide)
    have hx' : (uN s)[n]? = some (sSources s)[n].1 := by rw [List.getElem?_map, hx]; rfl
    have hsm := sl_small hst.sources
    unfold reach at hsm
    obtain ⟨B1, O1, es1, hA1, hl1, hr1, hm1⟩ := sl_get hst.sources hx
    obtain ⟨_, _, rfl, r1, r2⟩ := hr1
    obtain rfl := str_cell r1
    obtain rfl := int_cell r2
    refine Ja ?_;refine Ji ?_;refine Jd ?_;refine Jb ?_
    refine CW.cf rfl ?_
    refine Ja ?_;refine Ji ?_;refine Jd ?_;refine Jb ?_
    refine CW.cf rfl ?_
    refine Ja ?_;refine Ji ?_;refine Jd ?_;refine Jb ?_
    refine CW.cf rfl ?_
    refine Ja ?_;refine Ji ?_;refine Jd ?_;refine Jb ?_
    refine CW.cf rfl ?_
    refine Ja ?_;refine Ji ?_;refine Jd ?_;refine Jb ?_
    refine CW.ct rfl ?_
    refine Ja ?_;refine JE ?_
    unfold rSrc
    refine RW.callN Tryz.call123 rfl (fun w2 hw => ref_sources_ret (StatOn.mono hst (ro_call hw))) rfl fun v => ?_
    refine Jc ?_
    refine RW.call Tryz.call120 rfl (fun w2 hw => named_own (pre := []) hw hnm hx') rfl ?_
    refine RW.take [1] ?_
    refine Jd ?_;refine Jb ?_
    refine CW.seq ?_
    refine Ja ?_;refine Jc ?_;refine Ji ?_;refine Jc ?_
    refine RW.splitD 56 rfl (fun h1 => ?_) (fun h1 => ?_)
    · have h1' : rNm (uN s) (sSources s)[n].1 n = 0 := h1
      rw [if_pos h1']
      refine Jy ?_;refine Je ?_;refine Jy ?_;refine JA ?_;refine Jy ?_;refine Jc ?_;refine Jy ?_
      refine RW.indexAddrE hA1 rfl rfl (by omega) (by omega) rfl ?_
      refine Jy ?_;refine Je ?_;refine Jy ?_
      refine RW.load_ro rfl hle (hm1 1 _ rfl) rfl rfl ?_
      refine Jy ?_;refine Jk ?_;refine Jy ?_;refine Jc ?_
      refine RW.splitD 64 rfl (fun h2 => ?_) (fun h2 => ?_)
      · refine Jz ?_;refine Jz ?_;refine Jz ?_;refine Jz ?_;refine Jz ?_;refine Jz ?_;refine Jz ?_;refine Jy ?_;refine Jv ?_;refine Jv ?_;refine Jb ?_
        refine CW.ct rfl ?_
        refine Ja ?_;refine Jd ?_;refine Jb ?_
        exact CW.ret1 rfl Tryz.results39 rfl rfl fun w hw => ⟨by rw [if_pos h2], hw.kp⟩
      rw [if_neg h2]
      refine Jy ?_;refine Je ?_;refine Jy ?_;refine JA ?_;refine Jy ?_;refine Jc ?_;refine Jy ?_
      refine RW.indexAddrE hA1 rfl rfl (by omega) (by omega) rfl ?_
      refine Jy ?_;refine Je ?_;refine Jy ?_
      refine RW.load_ro rfl hle (hm1 1 _ rfl) rfl rfl ?_
      refine Jy ?_;refine Jm ?_;refine Jy ?_;refine Jw ?_;refine Jv ?_;refine Jb ?_
      refine CW.ite rfl (fun h3 => ?_) (fun h3 => ?_)
      · refine Ja ?_;refine Jd ?_;refine Jb ?_
        exact CW.ret1 rfl Tryz.results39 rfl rfl fun w hw => ⟨by rw [if_pos h3], hw.kp⟩
      · refine CW.skip ?_
        refine PW.code ?_
        refine Ja ?_;refine Jc ?_;refine Jd ?_;refine Jb ?_
        exact CW.ret1 rfl Tryz.results39 rfl rfl fun w hw => ⟨by rw [if_neg h3, h1'], hw.kp⟩
    · have h1' : ¬ rNm (uN s) (sSources s)[n].1 n = 0 := h1
      rw [if_neg h1']
      refine Jz ?_;refine Jz ?_;refine Jz ?_;refine Jz ?_;refine Jz ?_;refine Jz ?_;refine Jz ?_;refine Jz ?_;refine Jz ?_;refine Jz ?_;refine Jz ?_;refine Jz ?_;refine Jz ?_;refine Jz ?_;refine Jz ?_;refine Jz ?_;refine Jw ?_;refine Jb ?_
      refine CW.cf rfl ?_
      refine CW.skip ?_
      refine PW.code ?_
      refine Ja ?_;refine Jc ?_;refine Jd ?_;refine Jb ?_
      exact CW.ret1 rfl Tryz.results39 rfl rfl fun w hw => ⟨rfl, hw.kp⟩
  · have hn' : n < (sRules s).length := hn
    have hx := List.getElem?_eq_getElem hn'
    have hI : rItem s 5 n = (rRule s noBk n (sRules s)[n]).1 := by unfold rItem; rw [hx]; rfl
    rw [hI]
    refine Ja ?_;refine Ji ?_;refine Jd ?_;refine Jb ?_
    refine CW.cf rfl ?_
    refine Ja ?_;refine Ji ?_;refine Jd ?_;refine Jb ?_
    refine CW.cf rfl ?_
    refine Ja ?_;refine Ji ?_;refine Jd ?_;refine Jb ?_
    refine CW.cf rfl ?_
    refine Ja ?_;refine Ji ?_;refine Jd ?_;refine Jb ?_
    refine CW.cf rfl ?_
    refine Ja ?_;refine Ji ?_;refine Jd ?_;refine Jb ?_
    refine CW.cf rfl ?_
    refine Ja ?_;refine Ji ?_;refine Jd ?_;refine Jb ?_
    refine CW.ct rfl ?_
    refine Ja ?_
    refine RW.build (v := .agg #[.slice none 0 0, .slice none 0 0, .slice none 0 0]) rfl (fun w => by kernel_rfl) rfl ?_
    refine RW.box_agg (l := [.slice none 0 0, .slice none 0 0, .slice none 0 0]) rfl rfl fun b9 _ => ?_
    refine RW.add_ (ownHP 9 1 (.slice none 0 0) []) (fun w _ => .inl ⟨rfl, rfl⟩) ?_
    refine RW.add_ (ownHP 3 1 (.slice none 0 0) []) (fun w _ => .inl ⟨rfl, rfl⟩) ?_
    refine RW.add_ (ownHP 9 1 (.slice none 0 0) []) (fun w _ => .inl ⟨rfl, rfl⟩) ?_
    refine RW.take [4, 3, 0, 1, 2] ?_
    refine Jd ?_;refine Jb ?_;refine Ja ?_;refine Jc ?_;refine JE ?_;refine Jc ?_
    refine RW.callT [1, 2, 3, 4, 0] (bkH b9 noBk (.slice none 0 0, .slice none 0 0, .slice none 0 0)) rfl rfl rfl Tryz.call41 (fun w2 F2 hM h1 _ => ref_rule_ret (StatOn.mono hst hM) hx (hK rfl) h1 noBk_ok (Nat.zero_le _) (Nat.zero_le _)) fun q2 => ?_
    refine Jd ?_;refine Jb ?_
    exact CW.ret1 rfl Tryz.results39 rfl rfl fun w hw => ⟨rfl, hw.kp⟩
  · have hn' : n < (sExcepts s).length := hn
    have hx := List.getElem?_eq_getElem hn'
    have hI : rItem s 6 n = rExc s n (sExcepts s)[n] := by unfold rItem; rw [hx]; rfl
    rw [hI]
    refine Ja ?_;refine Ji ?_;refine Jd ?_;refine Jb ?_
    refine CW.cf rfl ?_
    refine Ja ?_;refine Ji ?_;refine Jd ?_;refine Jb ?_
    refine CW.cf rfl ?_
    refine Ja ?_;refine Ji ?_;refine Jd ?_;refine Jb ?_
    refine CW.cf rfl ?_
    refine Ja ?_;refine Ji ?_;refine Jd ?_;refine Jb ?_
    refine CW.cf rfl ?_
    refine Ja ?_;refine Ji ?_;refine Jd ?_;refine Jb ?_
    refine CW.cf rfl ?_
    refine Ja ?_;refine Ji ?_;refine Jd ?_;refine Jb ?_
    refine CW.cf rfl ?_
    refine Ja ?_;refine Ji ?_;refine Jd ?_;refine Jb ?_
    refine CW.ct rfl ?_
    refine Ja ?_;refine JE ?_;refine Jc ?_
    refine RW.call Tryz.call124 rfl (fun w2 hw => ref_except_ret (StatOn.mono hst (ro_call hw)) hx) rfl ?_
    refine Jd ?_;refine Jb ?_
    exact CW.ret1 rfl Tryz.results39 rfl rfl fun w hw => ⟨rfl, hw.kp⟩
  · have hn' : n < (sTotals s).length := hn
    have hx := List.getElem?_eq_getElem hn'
    have hI : rItem s 7 n = rTotal s (sTotals s)[n] n := by unfold rItem; rw [hx]; rfl
    rw [hI]
    refine Ja ?_;refine Ji ?_;refine Jd ?_;refine Jb ?_
    refine CW.cf rfl ?_
    refine Ja ?_;refine Ji ?_;refine Jd ?_;refine Jb ?_
    refine CW.cf rfl ?_
    refine Ja ?_;refine Ji ?_;refine Jd ?_;refine Jb ?_
    refine CW.cf rfl ?_
    refine Ja ?_;refine Ji ?_;refine Jd ?_;refine Jb ?_
    refine CW.cf rfl ?_
    refine Ja ?_;refine Ji ?_;refine Jd ?_;refine Jb ?_
    refine CW.cf rfl ?_
    refine Ja ?_;refine Ji ?_;refine Jd ?_;refine Jb ?_
    refine CW.cf rfl ?_
    refine Ja ?_;refine Ji ?_;refine Jd ?_;refine Jb ?_
    refine CW.cf rfl ?_
    refine CW.skip (PW.code ?_);refine Ja ?_;refine JE ?_;refine Jc ?_
    refine RW.call Tryz.call125 rfl (fun w2 hw => ref_total_ret (StatOn.mono hst (ro_call hw)) hx) rfl ?_
    refine Jd ?_;refine Jb ?_
    exact CW.ret1 rfl Tryz.results39 rfl rfl fun w hw => ⟨rfl, hw.kp⟩
end Go.Proofs.YtkfmlekomfnleaaGreat
/- The document's Check. Conditions: none. -/
set_option linter.unusedVariables false
set_option linter.unusedSimpArgs false
set_option maxRecDepth 10000
namespace Go.Proofs.YtkfmlekomfnleaaGreat
open Go Go.RowKit Go.MapKept

/-- The first code that is not 0, and how many stand ahead of it. -/
def scanR : List Int → Int → Int × Int
  | [], a => (0, a)
  | e :: r, a => if e = 0 then scanR r (a + 1) else (e, a)
def rowR (s : kStat.V) (sort n : Nat) : List Int := (List.range' n (manyN s sort - n)).map (rItem s sort)
def restR (s : kStat.V) (sort : Nat) : List Int := (List.range' sort (8 - sort)).flatMap fun k => rowR s k 0
def rCheck (s : kStat.V) : Int × Int := if countsD s = true then scanR (restR s 0) 0 else (3, 0)
theorem rowR_step {s : kStat.V} {sort n : Nat} (h : n < manyN s sort) : rowR s sort n = rItem s sort n :: rowR s sort (n + 1) := by
  unfold rowR
  rw [show manyN s sort - n = (manyN s sort - (n + 1)) + 1 by omega, List.range'_succ, List.map_cons]
theorem rowR_end {s : kStat.V} {sort n : Nat} (h : manyN s sort ≤ n) : rowR s sort n = [] := by
  unfold rowR
  rw [show manyN s sort - n = 0 by omega]
  rfl
theorem restR_step {s : kStat.V} {sort : Nat} (h : sort < 8) : restR s sort = rowR s sort 0 ++ restR s (sort + 1) := by
  unfold restR
  rw [show 8 - sort = (8 - (sort + 1)) + 1 by omega, List.range'_succ, List.flatMap_cons]
/-- What has passed: the predicates have four kinds at most. -/
def passed (s : kStat.V) (sort n : Nat) : Prop := (sort = 2 → ∀ m p, m < n → (sPreds s)[m]? = some p → p.2.2.1.length ≤ 4) ∧ (3 ≤ sort → fourK s)
theorem passed_item {s : kStat.V} {sort n : Nat} (h : passed s sort n) (hn : n < manyN s sort) (h0 : rItem s sort n = 0) : passed s sort (n + 1) := by
  refine ⟨fun e m p hm hp => ?_, h.2⟩
  rcases Nat.lt_or_ge m n with h1 | h1
  · exact h.1 e m p h1 hp
  · obtain rfl : m = n := by omega
    subst e
    have : rPred s p m = 0 := by rw [← h0]; unfold rItem; rw [hp]; rfl
    unfold rPred at this
    split at this
    · split at this
      · cases this
      split at this
      · cases this
      split at this
      · cases this
      · omega
    · rename_i hh; exact absurd this hh
theorem passed_row {s : kStat.V} {sort n : Nat} (h : passed s sort n) (hn : manyN s sort ≤ n) : passed s (sort + 1) 0 := by
  refine ⟨fun _ m p hm => absurd hm (by omega), fun h3 => ?_⟩
  rcases Nat.lt_or_ge sort 3 with h1 | h1
  · obtain rfl : sort = 2 := by omega
    intro p hp
    obtain ⟨m, hm⟩ := List.mem_iff_getElem?.1 hp
    exact h.1 rfl m p (Nat.lt_of_lt_of_le (List.getElem?_eq_some_iff.1 hm).1 hn) hm
  · exact h.2 h1
theorem many_at {s : kStat.V} {k : Nat} (h : k < 8) : ([.int .i64 (sKinds s).length, .int .i64 (sMembers s).length, .int .i64 (sPreds s).length, .int .i64 (sClasses s).length, .int .i64 (sSources s).length, .int .i64 (sRules s).length, .int .i64 (sExcepts s).length, .int .i64 (sTotals s).length] : List Value)[k]? = some (.int .i64 (manyN s k)) := by
  obtain rfl | rfl | rfl | rfl | rfl | rfl | rfl | rfl : k = 0 ∨ k = 1 ∨ k = 2 ∨ k = 3 ∨ k = 4 ∨ k = 5 ∨ k = 6 ∨ k = 7 := by omega
  all_goals rfl
theorem many_le {s : kStat.V} (h : countsD s = true) (k : Nat) : manyN s k ≤ 512 := by
  unfold countsD at h
  simp only [Bool.and_eq_true, decide_eq_true_eq] at h
  unfold manyN
  split <;> omega
attribute [local irreducible] RW CW
set_option maxHeartbeats 16000000 in
theorem ref_check_ret {s : kStat.V} {x : RC} {w : World} (hst : StatOn (mem w (fun b => ¬ No b)) s x) : Ret Tryz.prog 8 [.agg (x.stat s).toArray] w (.tuple #[.int .i64 (rCheck s).1, .int .i64 (rCheck s).2]) := by
  generalize hS : rCheck s = SP
  have hS := hS.symm
  unfold rCheck at hS
  refine Calls.enter Tryz.func8 rfl _ rfl rfl (S := No) (H := []) trivial ?_
  refine CW.seqR ?_
  refine RW.box_agg (l := x.stat s) rfl rfl fun b1 _ => ?_
  refine Jd ?_;refine Jd ?_;refine Jb ?_
  refine CW.seq ?_
  refine Ja ?_;refine Je ?_;refine JA ?_;refine Jg ?_;refine Jm ?_;refine Jc ?_
  refine RW.splitD 13 rfl (fun h0 => ?_) (fun h0 => ?_)
  · have hc : ¬ countsD s = true := fun h => by unfold countsD at h; simp only [Bool.and_eq_true, decide_eq_true_eq] at h; omega
    rw [if_neg hc] at hS
    refine Jz ?_;refine Jz ?_;refine Jz ?_;refine Jz ?_;refine Jv ?_;refine Jc ?_;refine Jz ?_;refine Jz ?_;refine Jz ?_;refine Jz ?_;refine Jv ?_;refine Jc ?_;refine Jz ?_;refine Jz ?_;refine Jz ?_;refine Jz ?_;refine Jv ?_;refine Jc ?_;refine Jz ?_;refine Jz ?_;refine Jz ?_;refine Jz ?_;refine Jv ?_;refine Jc ?_;refine Jz ?_;refine Jz ?_;refine Jz ?_;refine Jz ?_;refine Jv ?_;refine Jc ?_;refine Jz ?_;refine Jz ?_;refine Jz ?_;refine Jz ?_;refine Jv ?_;refine Jc ?_;refine Jz ?_;refine Jz ?_;refine Jz ?_;refine Jz ?_;refine Jv ?_;refine Jb ?_
    refine CW.ct rfl ?_
    refine Ja ?_;refine Jd ?_;refine Jd ?_;refine Jb ?_
    exact CW.rets (rs := [.tmp 2, .tmp 3]) (vs := [_, _]) rfl Tryz.results8 rfl (ResOK.tmp rfl (ResOK.tmp rfl ResOK.nil)) fun w hw => ⟨by rw [hS]; rfl, hw.kp⟩
  refine Jy ?_;refine Je ?_;refine Jy ?_;refine JA ?_;refine Jy ?_;refine Jg ?_;refine Jy ?_;refine Jm ?_;refine Jw ?_;refine Jc ?_
  refine RW.splitD 19 rfl (fun h1 => ?_) (fun h1 => ?_)
  · have hc : ¬ countsD s = true := fun h => by unfold countsD at h; simp only [Bool.and_eq_true, decide_eq_true_eq] at h; omega
    rw [if_neg hc] at hS
    refine Jz ?_;refine Jz ?_;refine Jz ?_;refine Jz ?_;refine Jv ?_;refine Jc ?_;refine Jz ?_;refine Jz ?_;refine Jz ?_;refine Jz ?_;refine Jv ?_;refine Jc ?_;refine Jz ?_;refine Jz ?_;refine Jz ?_;refine Jz ?_;refine Jv ?_;refine Jc ?_;refine Jz ?_;refine Jz ?_;refine Jz ?_;refine Jz ?_;refine Jv ?_;refine Jc ?_;refine Jz ?_;refine Jz ?_;refine Jz ?_;refine Jz ?_;refine Jv ?_;refine Jc ?_;refine Jz ?_;refine Jz ?_;refine Jz ?_;refine Jz ?_;refine Jv ?_;refine Jb ?_
    refine CW.ct rfl ?_
    refine Ja ?_;refine Jd ?_;refine Jd ?_;refine Jb ?_
    exact CW.rets (rs := [.tmp 2, .tmp 3]) (vs := [_, _]) rfl Tryz.results8 rfl (ResOK.tmp rfl (ResOK.tmp rfl ResOK.nil)) fun w hw => ⟨by rw [hS]; rfl, hw.kp⟩
  refine Jy ?_;refine Je ?_;refine Jy ?_;refine JA ?_;refine Jy ?_;refine Jg ?_;refine Jy ?_;refine Jm ?_;refine Jw ?_;refine Jc ?_
  refine RW.splitD 25 rfl (fun h2 => ?_) (fun h2 => ?_)
  · have hc : ¬ countsD s = true := fun h => by unfold countsD at h; simp only [Bool.and_eq_true, decide_eq_true_eq] at h; omega
    rw [if_neg hc] at hS
    refine Jz ?_;refine Jz ?_;refine Jz ?_;refine Jz ?_;refine Jv ?_;refine Jc ?_;refine Jz ?_;refine Jz ?_;refine Jz ?_;refine Jz ?_;refine Jv ?_;refine Jc ?_;refine Jz ?_;refine Jz ?_;refine Jz ?_;refine Jz ?_;refine Jv ?_;refine Jc ?_;refine Jz ?_;refine Jz ?_;refine Jz ?_;refine Jz ?_;refine Jv ?_;refine Jc ?_;refine Jz ?_;refine Jz ?_;refine Jz ?_;refine Jz ?_;refine Jv ?_;refine Jb ?_
    refine CW.ct rfl ?_
    refine Ja ?_;refine Jd ?_;refine Jd ?_;refine Jb ?_
    exact CW.rets (rs := [.tmp 2, .tmp 3]) (vs := [_, _]) rfl Tryz.results8 rfl (ResOK.tmp rfl (ResOK.tmp rfl ResOK.nil)) fun w hw => ⟨by rw [hS]; rfl, hw.kp⟩
  refine Jy ?_;refine Je ?_;refine Jy ?_;refine JA ?_;refine Jy ?_;refine Jg ?_;refine Jy ?_;refine Jm ?_;refine Jw ?_;refine Jc ?_
  refine RW.splitD 31 rfl (fun h3 => ?_) (fun h3 => ?_)
  · have hc : ¬ countsD s = true := fun h => by unfold countsD at h; simp only [Bool.and_eq_true, decide_eq_true_eq] at h; omega
    rw [if_neg hc] at hS
    refine Jz ?_;refine Jz ?_;refine Jz ?_;refine Jz ?_;refine Jv ?_;refine Jc ?_;refine Jz ?_;refine Jz ?_;refine Jz ?_;refine Jz ?_;refine Jv ?_;refine Jc ?_;refine Jz ?_;refine Jz ?_;refine Jz ?_;refine Jz ?_;refine Jv ?_;refine Jc ?_;refine Jz ?_;refine Jz ?_;refine Jz ?_;refine Jz ?_;refine Jv ?_;refine Jb ?_
    refine CW.ct rfl ?_
    refine Ja ?_;refine Jd ?_;refine Jd ?_;refine Jb ?_
    exact CW.rets (rs := [.tmp 2, .tmp 3]) (vs := [_, _]) rfl Tryz.results8 rfl (ResOK.tmp rfl (ResOK.tmp rfl ResOK.nil)) fun w hw => ⟨by rw [hS]; rfl, hw.kp⟩
  refine Jy ?_;refine Je ?_;refine Jy ?_;refine JA ?_;refine Jy ?_;refine Jg ?_;refine Jy ?_;refine Jm ?_;refine Jw ?_;refine Jc ?_
  refine RW.splitD 37 rfl (fun h4 => ?_) (fun h4 => ?_)
  · have hc : ¬ countsD s = true := fun h => by unfold countsD at h; simp only [Bool.and_eq_true, decide_eq_true_eq] at h; omega
    rw [if_neg hc] at hS
    refine Jz ?_;refine Jz ?_;refine Jz ?_;refine Jz ?_;refine Jv ?_;refine Jc ?_;refine Jz ?_;refine Jz ?_;refine Jz ?_;refine Jz ?_;refine Jv ?_;refine Jc ?_;refine Jz ?_;refine Jz ?_;refine Jz ?_;refine Jz ?_;refine Jv ?_;refine Jb ?_
    refine CW.ct rfl ?_
    refine Ja ?_;refine Jd ?_;refine Jd ?_;refine Jb ?_
    exact CW.rets (rs := [.tmp 2, .tmp 3]) (vs := [_, _]) rfl Tryz.results8 rfl (ResOK.tmp rfl (ResOK.tmp rfl ResOK.nil)) fun w hw => ⟨by rw [hS]; rfl, hw.kp⟩
  refine Jy ?_;refine Je ?_;refine Jy ?_;refine JA ?_;refine Jy ?_;refine Jg ?_;refine Jy ?_;refine Jm ?_;refine Jw ?_;refine Jc ?_
  refine RW.splitD 43 rfl (fun h5 => ?_) (fun h5 => ?_)
  · have hc : ¬ countsD s = true := fun h => by unfold countsD at h; simp only [Bool.and_eq_true, decide_eq_true_eq] at h; omega
    rw [if_neg hc] at hS
    refine Jz ?_;refine Jz ?_;refine Jz ?_;refine Jz ?_;refine Jv ?_;refine Jc ?_;refine Jz ?_;refine Jz ?_;refine Jz ?_;refine Jz ?_;refine Jv ?_;refine Jb ?_
    refine CW.ct rfl ?_
    refine Ja ?_;refine Jd ?_;refine Jd ?_;refine Jb ?_
    exact CW.rets (rs := [.tmp 2, .tmp 3]) (vs := [_, _]) rfl Tryz.results8 rfl (ResOK.tmp rfl (ResOK.tmp rfl ResOK.nil)) fun w hw => ⟨by rw [hS]; rfl, hw.kp⟩
  refine Jy ?_;refine Je ?_;refine Jy ?_;refine JA ?_;refine Jy ?_;refine Jg ?_;refine Jy ?_;refine Jm ?_;refine Jw ?_;refine Jc ?_
  refine RW.splitD 49 rfl (fun h6 => ?_) (fun h6 => ?_)
  · have hc : ¬ countsD s = true := fun h => by unfold countsD at h; simp only [Bool.and_eq_true, decide_eq_true_eq] at h; omega
    rw [if_neg hc] at hS
    refine Jz ?_;refine Jz ?_;refine Jz ?_;refine Jz ?_;refine Jv ?_;refine Jb ?_
    refine CW.ct rfl ?_
    refine Ja ?_;refine Jd ?_;refine Jd ?_;refine Jb ?_
    exact CW.rets (rs := [.tmp 2, .tmp 3]) (vs := [_, _]) rfl Tryz.results8 rfl (ResOK.tmp rfl (ResOK.tmp rfl ResOK.nil)) fun w hw => ⟨by rw [hS]; rfl, hw.kp⟩
  refine Jy ?_;refine Je ?_;refine Jy ?_;refine JA ?_;refine Jy ?_;refine Jg ?_;refine Jy ?_;refine Jm ?_;refine Jw ?_;refine Jb ?_
  refine CW.ite rfl (fun h7 => ?_) (fun h7 => ?_)
  · have hc : ¬ countsD s = true := fun h => by unfold countsD at h; simp only [Bool.and_eq_true, decide_eq_true_eq] at h; omega
    rw [if_neg hc] at hS
    refine Ja ?_;refine Jd ?_;refine Jd ?_;refine Jb ?_
    exact CW.rets (rs := [.tmp 2, .tmp 3]) (vs := [_, _]) rfl Tryz.results8 rfl (ResOK.tmp rfl (ResOK.tmp rfl ResOK.nil)) fun w hw => ⟨by rw [hS]; rfl, hw.kp⟩
  have hc : countsD s = true := by
    unfold countsD
    simp only [Bool.and_eq_true, decide_eq_true_eq]
    omega
  rw [if_pos hc] at hS
  refine CW.skip ?_
  refine PW.code ?_
  refine Ja ?_;refine Je ?_;refine JA ?_;refine Jg ?_;refine Je ?_;refine JA ?_;refine Jg ?_;refine Je ?_;refine JA ?_;refine Jg ?_;refine Je ?_;refine JA ?_;refine Jg ?_;refine Je ?_;refine JA ?_;refine Jg ?_;refine Je ?_;refine JA ?_;refine Jg ?_;refine Je ?_;refine JA ?_;refine Jg ?_;refine Je ?_;refine JA ?_;refine Jg ?_
  refine RW.buildSlice (e := 3) (c := [.int .i64 (sKinds s).length, .int .i64 (sMembers s).length, .int .i64 (sPreds s).length, .int .i64 (sClasses s).length, .int .i64 (sSources s).length, .int .i64 (sRules s).length, .int .i64 (sExcepts s).length, .int .i64 (sTotals s).length]) rfl (fun w => by kernel_rfl) rfl fun b4 _ => ?_
  refine Jd ?_;refine Jb ?_;refine Ja ?_;refine Jd ?_;refine Jb ?_
  refine CW.seq ?_
  refine Ja ?_;refine Jd ?_;refine Jb ?_
  refine CW.block ?_
  refine CW.loop (ι := { y : Nat × Int // y.1 ≤ 8 ∧ passed s y.1 0 ∧ 0 ≤ y.2 ∧ y.2 ≤ 512 * y.1 ∧ SP = scanR (restR s y.1) y.2 }) (fun y => [(1, ptrV b1), (4, .slice (some ⟨b4, 0, none⟩) 8 8), (5, .int .i64 y.1.2), (6, .int .i64 y.1.1)]) (fun _ => [blk b4 [.int .i64 (sKinds s).length, .int .i64 (sMembers s).length, .int .i64 (sPreds s).length, .int .i64 (sClasses s).length, .int .i64 (sSources s).length, .int .i64 (sRules s).length, .int .i64 (sExcepts s).length, .int .i64 (sTotals s).length] 3, blk b1 (x.stat s) 31]) (fun y => 8 - y.1.1) ⟨(0, 0), Nat.zero_le _, ⟨fun h => (by cases h), fun h => absurd h (by decide)⟩, by decide, by decide, hS⟩ ⟨rfl, rfl, rfl, rfl, trivial⟩ (fun h => h) ?_
  intro ⟨⟨so, a⟩, hso, hp, ha0, ha1, hR⟩
  dsimp only at hso hp ha0 ha1 hR ⊢
  refine CW.seq ?_
  refine Ja ?_;refine Jc ?_;refine Jc ?_;refine Jg ?_;refine Jk ?_;refine Jb ?_
  refine CW.ite rfl (fun hlt => ?_) (fun hge => ?_)
  rotate_left
  · obtain rfl : so = 8 := by
      have : (8 : Int) ≤ so := by simpa using hge
      omega
    refine CW.exit rfl ?_
    refine PW.code ?_
    refine Ja ?_;refine Jc ?_;refine Jd ?_;refine Jd ?_;refine Jb ?_
    exact CW.rets (rs := [.tmp 2, .tmp 3]) (vs := [_, _]) rfl Tryz.results8 rfl (ResOK.tmp rfl (ResOK.tmp rfl ResOK.nil)) fun w hw => ⟨by rw [hR]; rfl, hw.kp⟩
  have hlt' : so < 8 := by
    have : (so : Int) < 8 := by simpa using hlt
    omega
  have hml := many_le hc so
  rw [restR_step hlt'] at hR
  refine CW.skip ?_
  refine PW.code ?_
  refine CW.seq ?_
  refine CW.block ?_
  refine Ja ?_;refine Jd ?_;refine Jb ?_
  refine CW.block ?_
  refine CW.loop (ι := { y : Nat × Int // y.1 ≤ manyN s so ∧ passed s so y.1 ∧ 0 ≤ y.2 ∧ y.2 ≤ 512 * so + y.1 ∧ SP = scanR (rowR s so y.1 ++ restR s (so + 1)) y.2 }) (fun y => [(1, ptrV b1), (4, .slice (some ⟨b4, 0, none⟩) 8 8), (5, .int .i64 y.1.2), (6, .int .i64 so), (7, .int .i64 y.1.1)]) (fun _ => [blk b4 [.int .i64 (sKinds s).length, .int .i64 (sMembers s).length, .int .i64 (sPreds s).length, .int .i64 (sClasses s).length, .int .i64 (sSources s).length, .int .i64 (sRules s).length, .int .i64 (sExcepts s).length, .int .i64 (sTotals s).length] 3, blk b1 (x.stat s) 31]) (fun y => manyN s so - y.1.1) ⟨(0, a), Nat.zero_le _, hp, ha0, by show a ≤ 512 * so + (0 : Nat); omega, hR⟩ ⟨rfl, rfl, rfl, rfl, rfl, trivial⟩ (fun h => h) ?_
  intro ⟨⟨n, a2⟩, hn, hp2, hb0, hb1, hR2⟩
  dsimp only at hn hp2 hb0 hb1 hR2 ⊢
  refine CW.seq ?_
  refine Ja ?_;refine Jc ?_;refine Jc ?_;refine Jc ?_
  refine RW.indexAddr rfl rfl (by omega) (by omega) rfl ?_
  refine RW.load_fact (v := .int .i64 (manyN s so)) rfl rfl rfl (fun w hw => ?_) ?_
  · have := (CellsAt.of_blk (St.blk (pre := []) hw)) so _ (many_at hlt')
    simpa using this
  refine Jk ?_;refine Jb ?_
  refine CW.ite rfl (fun hlt2 => ?_) (fun hge2 => ?_)
  · have hlt2' : n < manyN s so := by simpa using hlt2
    rw [rowR_step hlt2', List.cons_append, scanR] at hR2
    refine CW.skip ?_
    refine PW.code ?_
    refine CW.seq ?_
    refine CW.block ?_
    refine Ja ?_;refine JF ?_;refine Jc ?_;refine Jc ?_
    refine RW.call Tryz.call39 rfl (fun w2 hw => ref_item_ret (StatOn.mono hst (ro_call hw)) hlt' hlt2' (fun h => hp2.2 (by omega))) rfl ?_
    refine Jd ?_;refine Jb ?_
    refine CW.seq ?_
    refine Ja ?_;refine Jc ?_;refine Jj ?_;refine Jb ?_
    refine CW.ite rfl (fun h9 => ?_) (fun h9 => ?_)
    · rw [if_neg h9] at hR2
      refine Ja ?_;refine Jc ?_;refine Jc ?_;refine Jd ?_;refine Jd ?_;refine Jb ?_
      exact CW.rets (rs := [.tmp 2, .tmp 3]) (vs := [_, _]) rfl Tryz.results8 rfl (ResOK.tmp rfl (ResOK.tmp rfl ResOK.nil)) fun w hw => ⟨by rw [hR2]; rfl, hw.kp⟩
    have h9 := Decidable.of_not_not h9
    rw [if_pos h9] at hR2
    refine CW.skip ?_
    refine PW.code ?_
    refine CW.region ?_
    refine Jc ?_
    refine RW.add rfl rfl (w64 (by omega) (by omega)) rfl ?_
    refine Jd ?_;refine RW.nil (PW.code ?_)
    refine CW.region ?_
    refine Jc ?_
    refine RW.add rfl rfl (w64 (by omega) (by omega)) rfl ?_
    refine Jd ?_
    refine RW.nil ?_
    exact PW.again ⟨(n + 1, a2 + 1), hlt2', passed_item hp2 hlt2' h9, by show 0 ≤ a2 + 1; omega, by show a2 + 1 ≤ 512 * so + ((n + 1 : Nat) : Int); omega, hR2⟩ ⟨rfl, rfl, rfl, rfl, rfl, trivial⟩ (fun h => h) (by show manyN s so - (n + 1) < manyN s so - n; omega)
  have hge2' : manyN s so ≤ n := by simpa using hge2
  rw [rowR_end hge2', List.nil_append] at hR2
  refine CW.exit rfl ?_
  refine PW.code ?_
  refine CW.region ?_
  refine Jc ?_
  refine RW.add rfl rfl (w64 (by omega) (by omega)) rfl ?_
  refine Jd ?_
  refine RW.nil ?_
  exact PW.again ⟨(so + 1, a2), hlt', passed_row hp2 hge2', hb0, by show a2 ≤ 512 * ((so + 1 : Nat) : Int); omega, hR2⟩ ⟨rfl, rfl, rfl, rfl, trivial⟩ (fun h => h) (by show 8 - (so + 1) < 8 - so; omega)
end Go.Proofs.YtkfmlekomfnleaaGreat
/- The plain law of Check, first part: items without variables: the document's codes are the resolver's. Conditions: none. -/
set_option linter.unusedVariables false
set_option linter.unusedSimpArgs false
set_option maxRecDepth 10000
namespace Go.Proofs.YtkfmlekomfnleaaGreat
open Go Go.RowKit

/-- An answer with a code; what holds of what passes. -/
def IsP {α : Type} (x : Ex α) (c a : Int) (φ : α → Prop) : Prop := (c = 0 → ∃ v, x = .ok v ∧ φ v) ∧ (¬ c = 0 → x = .error (c, a))
section
variable {α β : Type} {x : Ex α} {k : α → Ex β} {c c1 c2 a e : Int} {φ : α → Prop} {ψ : β → Prop}
theorem IsP.ok {v : α} (h : φ v) : IsP (.ok v) 0 a φ := ⟨fun _ => ⟨v, rfl, h⟩, fun h => absurd rfl h⟩
theorem IsP.want {b : Bool} (he : ¬ e = 0) : IsP (wantD b e a) (if b = true then 0 else e) a (fun _ => True) := by
  cases b with
  | true => exact ⟨fun _ => ⟨(), rfl, trivial⟩, fun h => absurd rfl h⟩
  | false => exact ⟨fun h => absurd h he, fun _ => rfl⟩
protected theorem IsP.bnd (h : IsP x c1 a φ) (hk : c1 = 0 → ∀ v, φ v → IsP (k v) c2 a ψ) : IsP (Go.Proofs.YtkfmlekomfnleaaGreat.bnd x k) (if c1 = 0 then c2 else c1) a ψ := by
  by_cases h1 : c1 = 0
  · obtain ⟨v, hv, hφ⟩ := h.1 h1
    rw [if_pos h1, bnd_ok hv]
    exact hk h1 v hφ
  · rw [if_neg h1, bnd_err (h.2 h1)]
    exact ⟨fun h => absurd h h1, fun _ => rfl⟩
theorem IsP.code (h : IsP x c a φ) (hc : c = c1) : IsP x c1 a φ := hc ▸ h
theorem IsP.imp {ψ : α → Prop} (h : IsP x c a φ) (hi : ∀ v, φ v → ψ v) : IsP x c a ψ := ⟨fun h0 => by obtain ⟨v, h1, h2⟩ := h.1 h0; exact ⟨v, h1, hi v h2⟩, h.2⟩
end
theorem fst?_le {l : List Str} {n : Nat} {x : Str} (h : l[n]? = some x) : ∃ j, fst? l x = some j ∧ 0 ≤ j ∧ j ≤ (n : Int) := by
  induction l generalizing n with
  | nil => simp at h
  | cons y l ih =>
    rw [fst?]
    by_cases hy : y = x
    · exact ⟨0, by rw [if_pos hy], by omega, by omega⟩
    · cases n with
      | zero => simp at h; exact absurd h hy
      | succ n =>
        obtain ⟨j, h1, h2, h3⟩ := ih (by simpa using h)
        exact ⟨j + 1, by rw [if_neg hy, h1]; rfl, by omega, by omega⟩
section
variable {s : kStat.V} {a : Int}
theorem fresh_is {l : List Str} {x : Str} {n : Nat} (hx : l[n]? = some x) : IsP (freshD l a x n) (rNm l x n) a (fun _ => True) := by
  obtain ⟨j, h1, h2, h3⟩ := fst?_le hx
  have hd : decide ((getM (indexD l) x).getD 0 = (n : Int)) = decide (¬ atN l x < (n : Int)) := by
    rw [indexD_get]
    unfold atN
    rw [h1]
    exact decide_eq_decide.2 (by simp only [Option.getD_some]; omega)
  unfold freshD
  rw [hd]
  refine (IsP.bnd (IsP.want (by decide)) fun _ _ _ => IsP.bnd (IsP.want (by decide)) fun _ _ _ => IsP.ok trivial).code ?_
  unfold rNm
  cases isNameD x with
  | false => rfl
  | true =>
    simp only [if_true]
    by_cases hlt : atN l x < (n : Int)
    · rw [if_pos hlt, decide_eq_false (not_not_intro hlt)]; rfl
    · rw [if_neg hlt, decide_eq_true hlt]; rfl
theorem some_atN {l : List Str} {x : Str} : (fst? l x).isSome = decide (¬ atN l x < 0) := by
  rw [Bool.eq_iff_iff, decide_eq_true_iff]
  cases h : fst? l x with
  | none => exact ⟨fun k => (by cases k), fun k => absurd (atN_neg.2 h) k⟩
  | some i => exact ⟨fun _ k => (by rw [atN_neg.1 k] at h; cases h), fun _ => rfl⟩
theorem kind_is {k : Str} : IsP (kindD s a k) (if atN (sKinds s) k < 0 then 81 else 0) a (fun _ => True) := by
  unfold kindD
  rw [indexD_get, some_atN]
  refine (IsP.bnd (IsP.want (by decide)) fun _ _ _ => IsP.ok trivial).code ?_
  by_cases h : atN (sKinds s) k < 0
  · rw [if_pos h, decide_eq_false (not_not_intro h)]; rfl
  · rw [if_neg h, decide_eq_true h]; rfl
theorem kinds_is {l : List Str} : IsP (allX (kindD s a) l) (if rKinds s l = true then 0 else 81) a (fun _ => True) := by
  induction l with
  | nil => exact IsP.ok trivial
  | cons k l ih =>
    refine (IsP.bnd (kind_is (s := s) (a := a) (k := k)) fun _ _ _ => ih).code ?_
    rw [rKinds_cons]
    by_cases h : atN (sKinds s) k < 0
    · rw [if_pos h, decide_eq_false (not_not_intro h), Bool.false_and]; rfl
    · rw [if_neg h, decide_eq_true h, Bool.true_and]; rfl
theorem may_money {v : Int} : decide (moneyD v = 0) = mayD v := by
  unfold moneyD mayD
  by_cases h1 : v < -1000000000000000
  · rw [if_pos h1, decide_eq_false (show ¬ -1000000000000000 ≤ v by omega)]; rfl
  · rw [if_neg h1, decide_eq_true (show -1000000000000000 ≤ v by omega), Bool.true_and]
    by_cases h2 : 1000000000000000 < v
    · rw [if_pos h2, decide_eq_false (show ¬ v ≤ 1000000000000000 by omega)]; rfl
    · rw [if_neg h2, decide_eq_true (show v ≤ 1000000000000000 by omega)]; rfl
theorem has_mem {l : List Int} {v : Int} : hasD l v = decide (v ∈ l) := by
  unfold hasD
  rw [Bool.eq_iff_iff]
  simp
theorem vals_is : ∀ {vals pre : List Int} {m : List (Int × Int)}, (∀ v, (getM m v).getD 0 = 0 ↔ v ∉ pre) → IsP (foldX (seenD a) m vals) (if rVals pre vals = true then 0 else 85) a (fun _ => True) := by
  intro vals
  induction vals with
  | nil => intro pre m _; exact IsP.ok trivial
  | cons v r ih =>
    intro pre m hm
    have hstep : seenD a m v = bnd (wantD (decide (0 ≤ v) && mayD v && decide ((getM m v).getD 0 = 0)) 85 a) fun _ => .ok (putM m v 1) := by unfold seenD; rw [may_money]
    rw [rVals]
    show IsP (bnd (seenD a m v) fun m' => foldX (seenD a) m' r) _ _ _
    rw [hstep]
    refine (IsP.bnd (φ := fun m' => m' = putM m v 1) (c2 := if rVals (pre ++ [v]) r = true then 0 else 85) (IsP.bnd (IsP.want (by decide)) fun _ _ _ => IsP.ok rfl) fun _ m' hm' => ih fun u => ?_).code ?_
    · subst hm'
      rw [getM_put]
      by_cases hvu : v = u
      · subst hvu; simp
      · rw [if_neg hvu, hm u]
        simp [Ne.symm hvu]
    · have e : (decide (0 ≤ v) && mayD v && decide ((getM m v).getD 0 = 0)) = !(!mayD v || decide (v < 0) || hasD pre v) := by
        rw [has_mem, show decide (v < 0) = !decide (0 ≤ v) by rw [Bool.eq_iff_iff]; simp]
        have : decide ((getM m v).getD 0 = 0) = !decide (v ∈ pre) := by
          rw [Bool.eq_iff_iff]; simp [hm v]
        rw [this]
        cases decide (0 ≤ v) <;> cases mayD v <;> cases decide (v ∈ pre) <;> rfl
      rw [e]
      cases (!(!mayD v || decide (v < 0) || hasD pre v)) with
      | false => rfl
      | true => simp
theorem pred_is {p : kPredT.V} {n : Nat} (hx : (sPreds s)[n]? = some p) : IsP (predD s a p n) (rPred s p n) a (fun _ => True) := by
  have hx' : (pN s)[n]? = some p.1 := by rw [List.getElem?_map, hx]; rfl
  have h3 : IsP (if p.2.1 = 3 then bnd (wantD (decide (0 < (p.2.2.2.length : Int))) 85 a) fun _ => bnd (foldX (seenD a) [] p.2.2.2) fun _ => .ok () else bnd (wantD (decide ((p.2.2.2.length : Int) = 0)) 85 a) fun _ => .ok ()) (if decide (p.2.1 = 3) = decide (0 < (p.2.2.2.length : Int)) then (if rVals [] p.2.2.2 = true then 0 else 85) else 85) a (fun _ => True) := by
    by_cases h : p.2.1 = 3
    · rw [if_pos h, decide_eq_true h]
      refine (IsP.bnd (IsP.want (by decide)) fun _ _ _ => IsP.bnd (vals_is (pre := []) fun v => by simp [getM]) fun _ _ _ => IsP.ok trivial).code ?_
      cases decide (0 < (p.2.2.2.length : Int)) with
      | false => rfl
      | true =>
        simp only [if_true]
        by_cases hv : rVals [] p.2.2.2 = true
        · rw [if_pos hv]; rfl
        · rw [if_neg hv]; rfl
    · rw [if_neg h, decide_eq_false h]
      refine (IsP.bnd (IsP.want (by decide)) fun _ _ _ => IsP.ok trivial).code ?_
      by_cases h0 : (p.2.2.2.length : Int) = 0
      · have : p.2.2.2 = [] := List.eq_nil_of_length_eq_zero (by omega)
        rw [this]; rfl
      · rw [decide_eq_false h0, decide_eq_true (show 0 < (p.2.2.2.length : Int) by omega)]
        rfl
  unfold predD
  refine (IsP.bnd (fresh_is hx') fun _ _ _ => IsP.bnd (IsP.want (by decide)) fun _ _ _ => IsP.bnd (IsP.want (by decide)) fun _ _ _ => IsP.bnd kinds_is fun _ _ _ => h3).code ?_
  unfold rPred
  by_cases h1 : rNm (pN s) p.1 n = 0
  · rw [if_pos h1, if_pos h1]
    by_cases h2 : p.2.1 < 1
    · rw [if_pos h2, decide_eq_false (Int.not_le.2 h2 : ¬ (1 : Int) ≤ p.2.1)]; rfl
    by_cases h4 : 3 < p.2.1
    · rw [if_neg h2, if_pos h4, decide_eq_false (Int.not_le.2 h4 : ¬ (p.2.1 : Int) ≤ 3), Bool.and_false]; rfl
    rw [if_neg h2, if_neg h4, decide_eq_true (Int.not_lt.1 h2 : (1 : Int) ≤ p.2.1), decide_eq_true (Int.not_lt.1 h4 : (p.2.1 : Int) ≤ 3)]
    simp only [Bool.and_self, if_true]
    by_cases h5 : 4 < (p.2.2.1.length : Int)
    · rw [if_pos h5, decide_eq_false (show ¬ (p.2.2.1.length : Int) ≤ 4 by omega), Bool.false_and]; rfl
    by_cases h6 : 64 < (p.2.2.2.length : Int)
    · rw [if_neg h5, if_pos h6, decide_eq_false (show ¬ (p.2.2.2.length : Int) ≤ 64 by omega), Bool.and_false]; rfl
    rw [if_neg h5, if_neg h6, decide_eq_true (show (p.2.2.1.length : Int) ≤ 4 by omega), decide_eq_true (show (p.2.2.2.length : Int) ≤ 64 by omega)]
    simp only [Bool.and_self, if_true]
    by_cases h7 : rKinds s p.2.2.1 = true
    · rw [if_pos h7, if_pos h7]; rfl
    · rw [if_neg h7, if_neg h7]; rfl
  · rw [if_neg h1, if_neg h1]
end
end Go.Proofs.YtkfmlekomfnleaaGreat
