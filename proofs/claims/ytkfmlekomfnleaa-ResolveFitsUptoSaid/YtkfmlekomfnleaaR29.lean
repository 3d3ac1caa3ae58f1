/- The stage's theorem, walked. Conditions: none. -/
import Derived.Test.YtkfmlekomfnleaaR28
import Derived.Test.YtkfmlekomfnleaaK08
import Derived.Test.YtkfmlekomfnleaaB2
set_option linter.unusedVariables false
set_option linter.unusedSimpArgs false
set_option maxRecDepth 10000
namespace Go.Proofs.Ytkfmlekomfnleaa
open Go Go.RowKit Go.MapKept

theorem rd_names {v : Value} {names : List Str} {pre r : List HP} {w : World} {A : Nat → Prop} (h : Sep (pre ++ ownHP 9 1 v (names.map strE) :: r) w A) (hs : ∀ a ∈ names, a.size ≤ reach) (hl : names.length ≤ 1028) : Rd kStrs (mem w (fun b => ¬ No b)) [v] names := by
  obtain ⟨F, _, hp, _⟩ := Sep.pull h
  refine rd_of_own (t := .str) hp rfl (mem_up fun _ _ k => k) ⟨by rw [List.length_map], fun i cs a hc ha => ?_⟩ (by unfold reach; omega)
  rw [List.getElem?_map, ha] at hc
  cases hc
  exact ⟨rfl, hs a (List.mem_of_getElem? ha)⟩
theorem rd_nums {v : Value} {ns : List Int} {pre r : List HP} {w : World} {A : Nat → Prop} (h : Sep (pre ++ ownHP 3 1 v (ns.map intE) :: r) w A) (hs : ∀ a ∈ ns, 0 ≤ a ∧ a ≤ 1000000) (hl : ns.length ≤ 1028) : Rd kInts (mem w (fun b => ¬ No b)) [v] ns := by
  obtain ⟨F, _, hp, _⟩ := Sep.pull h
  refine rd_of_own (t := kI) hp rfl (mem_up fun _ _ k => k) ⟨by rw [List.length_map], fun i cs a hc ha => ?_⟩ (by unfold reach; omega)
  rw [List.getElem?_map, ha] at hc
  cases hc
  obtain ⟨h1, h2⟩ := hs a (List.mem_of_getElem? ha)
  refine ⟨rfl, ?_⟩
  simp only [inR, Lit.wf, IntKind.min, IntKind.max, IntKind.signed, IntKind.bits]
  simp
  omega
theorem var_size {a : Str} (h : isVarD a = true) : a.size ≤ reach := by
  unfold isVarD at h
  simp only [Bool.and_eq_true, decide_eq_true_eq] at h
  have := h.1.2
  unfold reach
  omega
theorem sumTo_le {f : Nat → Nat} {b : Nat} (h : ∀ k, f k ≤ b) : ∀ n, sumTo f n ≤ n * b
  | 0 => by rw [Nat.zero_mul]; exact Nat.le_refl _
  | n + 1 => by rw [sumTo, Nat.succ_mul]; have := sumTo_le h n; have := h n; omega
/-- An own slice's shape. -/
theorem own_shape {w0 w : World} {S : Nat → Prop} {pre r : List HP} {e : TypeId} {sz : Nat} {v : Value} {es : List (List Value)} (h : St w0 S (pre ++ ownHP e sz v es :: r) w) : ∃ A c, v = .slice A es.length c ∧ (es ≠ [] → ∃ B, A = some ⟨B, 0, none⟩) := by
  rcases own_form h with ⟨h1, h2⟩ | ⟨B, c, h1, _⟩
  · exact ⟨none, 0, by rw [h1, h2]; rfl, fun h => absurd h2 h⟩
  · exact ⟨_, c, h1, fun _ => ⟨B, rfl⟩⟩
/-- Part of what one may read. -/
theorem cells_part {M : Mem} {B O : Nat} {cs : List Value} (h : ∀ (j : Nat) (v : Value), cs[j]? = some v → M B (O + j) v) (n : Nat) : ∀ (j : Nat) (v : Value), (cs.drop n)[j]? = some v → M B (O + n + j) v := fun j v hj => by
  rw [List.getElem?_drop] at hj
  have := h (n + j) v hj
  rwa [← Nat.add_assoc] at this
theorem own_str {w0 w : World} {S : Nat → Prop} {pre r : List HP} {B n c : Nat} {names : List Str} {k : Nat} (h : St w0 S (pre ++ ownHP 9 1 (.slice (some ⟨B, 0, none⟩) n c) (names.map strE) :: r) w) (hk : k < names.length) : w.cell? ⟨B, 0 + (k : Int).toNat * 1, none⟩ = some (.string names[k]) := by
  have h2 := flatten_at (sz := 1) (es := names.map strE) (fun x hx => by obtain ⟨a, _, rfl⟩ := List.mem_map.1 hx; rfl) (i := k) (x := strE names[k]) (by rw [List.getElem?_map, List.getElem?_eq_getElem hk]; rfl) (j := 0) (v := .string names[k]) rfl
  exact (own_cells h).at_ (k * 1 + 0) h2
theorem own_int {w0 w : World} {S : Nat → Prop} {pre r : List HP} {B n c : Nat} {ns : List Int} {k : Nat} (h : St w0 S (pre ++ ownHP 3 1 (.slice (some ⟨B, 0, none⟩) n c) (ns.map intE) :: r) w) (hk : k < ns.length) : w.cell? ⟨B, 0 + (k : Int).toNat * 1, none⟩ = some (.int .i64 ns[k]) := by
  have h2 := flatten_at (sz := 1) (es := ns.map intE) (fun x hx => by obtain ⟨a, _, rfl⟩ := List.mem_map.1 hx; rfl) (i := k) (x := intE ns[k]) (by rw [List.getElem?_map, List.getElem?_eq_getElem hk]; rfl) (j := 0) (v := .int .i64 ns[k]) rfl
  exact (own_cells h).at_ (k * 1 + 0) h2
attribute [local irreducible] RW CW
theorem own_num {w0 w : World} {S : Nat → Prop} {pre r : List HP} {B n c : Nat} {names : List Str} {f : Str → Int} {k : Nat} (h : St w0 S (pre ++ ownHP 3 1 (.slice (some ⟨B, 0, none⟩) n c) ((names.map f).map intE) :: r) w) (hk : k < names.length) : w.cell? ⟨B, 0 + (k : Int).toNat * 1, none⟩ = some (.int .i64 (f names[k])) := by
  have := own_int h (k := k) (by rw [List.length_map]; exact hk)
  rw [List.getElem_map] at this
  exact this
theorem vars_at {s : kStat.V} {x : RC} {i : Nat} {c : Sc} {w : World} (hst : StatOn (mem w (fun b => ¬ No b)) s x) (h0 : (checkD s).1 = 0) (hi : i < (sRules s).length) (hc : ruleD s 0 (sRules s)[i] = .ok c) :
    RetC Try.prog 11 [.agg (x.stat s).toArray, .int .i64 i] w No (fun q : Value × Value => .tuple #[q.1, q.2, .int .i64 0]) (fun q => [ownHP 9 1 q.1 (c.names.map strE), ownHP 3 1 q.2 ((c.names.map (kindNo s c)).map intE)]) := by
  have hv : varsD s i = (c.names, c.names.map (kindNo s c), 0) := by
    unfold varsD
    rw [if_pos h0, if_neg (by omega)]
    have : ruleAt s i = (sRules s)[i] := by unfold ruleAt; rw [Int.toNat_natCast, List.getElem?_eq_getElem hi]; rfl
    rw [this, hc]
  have := vars_ret (n := (i : Int)) hst
  rw [hv] at this
  exact this
set_option maxHeartbeats 64000000 in
theorem fitsLaw_ret {s : kStat.V} {x : RC} {w : World} (hst : StatOn (mem w (fun b => ¬ No b)) s x) : Ret Try.prog 5 [.agg (x.stat s).toArray] w (.bool true) := by
  have hle : Mem.le (mem w (fun b => ¬ No b)) (mem w (fun b => ¬ No b)) := Mem.le_refl _
  refine Calls.enter Try.func5 rfl _ rfl rfl (S := No) (H := []) trivial ?_
  refine CW.seqR ?_
  refine RW.box_agg (l := x.stat s) rfl rfl fun b1 _ => ?_
  repeat (first|refine Ja ?_|refine Jb ?_|refine Jc ?_|refine Jd ?_|refine Je ?_|refine Jf ?_|refine Jg ?_|refine Jh ?_|refine Ji ?_|refine Jj ?_|refine Jk ?_|refine Jl ?_|refine Jm ?_|refine Jn ?_|refine Jo ?_|refine Jp ?_|refine Jq ?_|refine Jr ?_|refine Js ?_|refine Jt ?_|refine Ju ?_|refine Jv ?_|refine Jw ?_|refine Jx ?_|refine Jy ?_|refine Jz ?_|refine JA ?_|refine JB ?_|refine JC ?_|refine JD ?_|refine JE ?_|refine JF ?_|refine JG ?_|refine JH ?_|refine JI ?_|refine JJ ?_|refine JK ?_|refine JL ?_|refine JM ?_|refine CW.skip (PW.code ?_)|refine RW.nil (PW.code ?_))
  refine CW.seq ?_
  repeat (first|refine Ja ?_|refine Jb ?_|refine Jc ?_|refine Jd ?_|refine Je ?_|refine Jf ?_|refine Jg ?_|refine Jh ?_|refine Ji ?_|refine Jj ?_|refine Jk ?_|refine Jl ?_|refine Jm ?_|refine Jn ?_|refine Jo ?_|refine Jp ?_|refine Jq ?_|refine Jr ?_|refine Js ?_|refine Jt ?_|refine Ju ?_|refine Jv ?_|refine Jw ?_|refine Jx ?_|refine Jy ?_|refine Jz ?_|refine JA ?_|refine JB ?_|refine JC ?_|refine JD ?_|refine JE ?_|refine JF ?_|refine JG ?_|refine JH ?_|refine JI ?_|refine JJ ?_|refine JK ?_|refine JL ?_|refine JM ?_|refine CW.skip (PW.code ?_)|refine RW.nil (PW.code ?_))
  refine RW.call Try.call7 rfl (fun w2 hw => works_ret) rfl ?_
  repeat (first|refine Ja ?_|refine Jb ?_|refine Jc ?_|refine Jd ?_|refine Je ?_|refine Jf ?_|refine Jg ?_|refine Jh ?_|refine Ji ?_|refine Jj ?_|refine Jk ?_|refine Jl ?_|refine Jm ?_|refine Jn ?_|refine Jo ?_|refine Jp ?_|refine Jq ?_|refine Jr ?_|refine Js ?_|refine Jt ?_|refine Ju ?_|refine Jv ?_|refine Jw ?_|refine Jx ?_|refine Jy ?_|refine Jz ?_|refine JA ?_|refine JB ?_|refine JC ?_|refine JD ?_|refine JE ?_|refine JF ?_|refine JG ?_|refine JH ?_|refine JI ?_|refine JJ ?_|refine JK ?_|refine JL ?_|refine JM ?_|refine CW.skip (PW.code ?_)|refine RW.nil (PW.code ?_))
  refine CW.cf rfl ?_
  refine CW.skip ?_
  refine PW.code ?_
  repeat (first|refine Ja ?_|refine Jb ?_|refine Jc ?_|refine Jd ?_|refine Je ?_|refine Jf ?_|refine Jg ?_|refine Jh ?_|refine Ji ?_|refine Jj ?_|refine Jk ?_|refine Jl ?_|refine Jm ?_|refine Jn ?_|refine Jo ?_|refine Jp ?_|refine Jq ?_|refine Jr ?_|refine Js ?_|refine Jt ?_|refine Ju ?_|refine Jv ?_|refine Jw ?_|refine Jx ?_|refine Jy ?_|refine Jz ?_|refine JA ?_|refine JB ?_|refine JC ?_|refine JD ?_|refine JE ?_|refine JF ?_|refine JG ?_|refine JH ?_|refine JI ?_|refine JJ ?_|refine JK ?_|refine JL ?_|refine JM ?_|refine CW.skip (PW.code ?_)|refine RW.nil (PW.code ?_))
  refine RW.call Try.call8 rfl (fun w2 hw => check_ret (StatOn.mono hst (ro_call hw))) rfl ?_
  repeat (first|refine Ja ?_|refine Jb ?_|refine Jc ?_|refine Jd ?_|refine Je ?_|refine Jf ?_|refine Jg ?_|refine Jh ?_|refine Ji ?_|refine Jj ?_|refine Jk ?_|refine Jl ?_|refine Jm ?_|refine Jn ?_|refine Jo ?_|refine Jp ?_|refine Jq ?_|refine Jr ?_|refine Js ?_|refine Jt ?_|refine Ju ?_|refine Jv ?_|refine Jw ?_|refine Jx ?_|refine Jy ?_|refine Jz ?_|refine JA ?_|refine JB ?_|refine JC ?_|refine JD ?_|refine JE ?_|refine JF ?_|refine JG ?_|refine JH ?_|refine JI ?_|refine JJ ?_|refine JK ?_|refine JL ?_|refine JM ?_|refine CW.skip (PW.code ?_)|refine RW.nil (PW.code ?_))
  refine CW.seq ?_
  repeat (first|refine Ja ?_|refine Jb ?_|refine Jc ?_|refine Jd ?_|refine Je ?_|refine Jf ?_|refine Jg ?_|refine Jh ?_|refine Ji ?_|refine Jj ?_|refine Jk ?_|refine Jl ?_|refine Jm ?_|refine Jn ?_|refine Jo ?_|refine Jp ?_|refine Jq ?_|refine Jr ?_|refine Js ?_|refine Jt ?_|refine Ju ?_|refine Jv ?_|refine Jw ?_|refine Jx ?_|refine Jy ?_|refine Jz ?_|refine JA ?_|refine JB ?_|refine JC ?_|refine JD ?_|refine JE ?_|refine JF ?_|refine JG ?_|refine JH ?_|refine JI ?_|refine JJ ?_|refine JK ?_|refine JL ?_|refine JM ?_|refine CW.skip (PW.code ?_)|refine RW.nil (PW.code ?_))
  refine CW.ite rfl (fun h1 => ?_) (fun h1 => ?_)
  · repeat (first|refine Ja ?_|refine Jb ?_|refine Jc ?_|refine Jd ?_|refine Je ?_|refine Jf ?_|refine Jg ?_|refine Jh ?_|refine Ji ?_|refine Jj ?_|refine Jk ?_|refine Jl ?_|refine Jm ?_|refine Jn ?_|refine Jo ?_|refine Jp ?_|refine Jq ?_|refine Jr ?_|refine Js ?_|refine Jt ?_|refine Ju ?_|refine Jv ?_|refine Jw ?_|refine Jx ?_|refine Jy ?_|refine Jz ?_|refine JA ?_|refine JB ?_|refine JC ?_|refine JD ?_|refine JE ?_|refine JF ?_|refine JG ?_|refine JH ?_|refine JI ?_|refine JJ ?_|refine JK ?_|refine JL ?_|refine JM ?_|refine CW.skip (PW.code ?_)|refine RW.nil (PW.code ?_))
    exact CW.ret1 rfl Try.results5 rfl rfl fun w hw => ⟨rfl, hw.kp⟩
  have h0 := Decidable.of_not_not h1
  obtain ⟨n, hn, hcn⟩ := check_ok h0
  have hT := taken hn
  have hcnt := hT.counts
  unfold countsD at hcnt
  simp only [Bool.and_eq_true, decide_eq_true_eq] at hcnt
  refine CW.skip ?_
  refine PW.code ?_
  refine CW.keep [(1, ptrV b1)] ⟨rfl, trivial⟩ ?_
  refine CW.cut (ι := Unit) (fun _ => [(1, ptrV b1)]) (fun _ => [blk b1 (x.stat s) 31]) ?_ (fun _ => ?_)
  · repeat (first|refine Ja ?_|refine Jb ?_|refine Jc ?_|refine Jd ?_|refine Je ?_|refine Jf ?_|refine Jg ?_|refine Jh ?_|refine Ji ?_|refine Jj ?_|refine Jk ?_|refine Jl ?_|refine Jm ?_|refine Jn ?_|refine Jo ?_|refine Jp ?_|refine Jq ?_|refine Jr ?_|refine Js ?_|refine Jt ?_|refine Ju ?_|refine Jv ?_|refine Jw ?_|refine Jx ?_|refine Jy ?_|refine Jz ?_|refine JA ?_|refine JB ?_|refine JC ?_|refine JD ?_|refine JE ?_|refine JF ?_|refine JG ?_|refine JH ?_|refine JI ?_|refine JJ ?_|refine JK ?_|refine JL ?_|refine JM ?_|refine CW.skip (PW.code ?_)|refine RW.nil (PW.code ?_))
    refine CW.block ?_
    refine CW.loop (ι := { i : Nat // i ≤ (sRules s).length }) (fun i => [(1, ptrV b1), (5, .int .i64 i.1)]) (fun i => [blk b1 (x.stat s) 31]) (fun i => (sRules s).length - i.1) ⟨0, Nat.zero_le _⟩ ⟨rfl, rfl, trivial⟩ (fun h => h) ?_
    intro ⟨i, hil⟩
    dsimp only at hil ⊢
    refine CW.seq ?_
    repeat (first|refine Ja ?_|refine Jb ?_|refine Jc ?_|refine Jd ?_|refine Je ?_|refine Jf ?_|refine Jg ?_|refine Jh ?_|refine Ji ?_|refine Jj ?_|refine Jk ?_|refine Jl ?_|refine Jm ?_|refine Jn ?_|refine Jo ?_|refine Jp ?_|refine Jq ?_|refine Jr ?_|refine Js ?_|refine Jt ?_|refine Ju ?_|refine Jv ?_|refine Jw ?_|refine Jx ?_|refine Jy ?_|refine Jz ?_|refine JA ?_|refine JB ?_|refine JC ?_|refine JD ?_|refine JE ?_|refine JF ?_|refine JG ?_|refine JH ?_|refine JI ?_|refine JJ ?_|refine JK ?_|refine JL ?_|refine JM ?_|refine CW.skip (PW.code ?_)|refine RW.nil (PW.code ?_))
    refine CW.ite rfl (fun hlt => ?_) (fun hge => ?_)
    rotate_left
    · refine CW.exit rfl ?_
      exact PW.meet () ⟨rfl, trivial⟩ (fun h => h)
    have hlt' : i < (sRules s).length := by simpa using hlt
    obtain ⟨hB, c, hc⟩ := hT.rules _ (List.getElem_mem hlt')
    have hR := rule_good hT.kinds hc
    have hcl := ruleD_len hT.four hB hc
    have hks : ∀ a ∈ c.names.map (kindNo s c), 0 ≤ a ∧ a < (sKinds s).length := fun a ha => by
      obtain ⟨b, hb, rfl⟩ := List.mem_map.1 ha
      obtain ⟨k, hk1, hk2⟩ := hR.bound b hb
      unfold kindNo
      rw [hk1]
      exact kNum_lt hk2
    have hlitfit : ∀ l : kLitT.V, LitOK s c l → ∀ q ∈ l.2.2.1.zip (predAt s l.2.1).2.2.1, argNum s c.names (c.names.map (kindNo s c)) q.1 = kNum s q.2 := fun l hl q hq => arg_fits hT hR (hl.args q hq)
    obtain ⟨B2, O2, cs2, hA2, hl2, hr2, hm2⟩ := sl_get hst.rules (List.getElem?_eq_getElem hlt')
    obtain ⟨BA, bc, HA, hc1, rfl, hbody, hhead⟩ := Rd.ruleT hr2
    have hva := fun {w2 : World} (h : StatOn (mem w2 (fun b => ¬ No b)) s x) => vars_at (i := i) h h0 hlt' hc
    generalize hxr : (sRules s)[i] = xr at *
    refine CW.skip ?_
    refine PW.code ?_
    refine CW.seq ?_
    refine CW.block ?_
    repeat (first|refine Ja ?_|refine Jb ?_|refine Jc ?_|refine Jd ?_|refine Je ?_|refine Jf ?_|refine Jg ?_|refine Jh ?_|refine Ji ?_|refine Jj ?_|refine Jk ?_|refine Jl ?_|refine Jm ?_|refine Jn ?_|refine Jo ?_|refine Jp ?_|refine Jq ?_|refine Jr ?_|refine Js ?_|refine Jt ?_|refine Ju ?_|refine Jv ?_|refine Jw ?_|refine Jx ?_|refine Jy ?_|refine Jz ?_|refine JA ?_|refine JB ?_|refine JC ?_|refine JD ?_|refine JE ?_|refine JF ?_|refine JG ?_|refine JH ?_|refine JI ?_|refine JJ ?_|refine JK ?_|refine JL ?_|refine JM ?_|refine CW.skip (PW.code ?_)|refine RW.nil (PW.code ?_))
    refine RW.callN Try.call11 rfl (fun w2 hw => hva (StatOn.mono hst (ro_call hw))) rfl fun p => ?_
    obtain ⟨v1, v2⟩ := p
    refine RW.have_ (φ := (∃ A c1, v1 = .slice A c.names.length c1 ∧ (c.names ≠ [] → ∃ B, A = some ⟨B, 0, none⟩)) ∧ ∃ A c1, v2 = .slice A c.names.length c1 ∧ (c.names ≠ [] → ∃ B, A = some ⟨B, 0, none⟩)) (fun w hw => ⟨?_, ?_⟩) (fun ⟨⟨NA, nc, hv1, hNA⟩, KA, kc, hv2, hKA⟩ => ?_)
    · obtain ⟨A, c1, h1, h2⟩ := own_shape (pre := []) hw
      rw [List.length_map] at h1
      exact ⟨A, c1, h1, fun h => h2 (by simpa using h)⟩
    · obtain ⟨A, c1, h1, h2⟩ := own_shape (pre := [_]) hw
      rw [List.length_map, List.length_map] at h1
      exact ⟨A, c1, h1, fun h => h2 (by simpa using h)⟩
    subst hv1
    subst hv2
    dsimp only [List.cons_append, List.nil_append]
    have hfits : ∀ {w2 : World} {r : List HP} {A : Nat → Prop} {l : kLitT.V} {cs : List Value}, Sep (ownHP 9 1 (.slice NA c.names.length nc) (c.names.map strE) :: ownHP 3 1 (.slice KA c.names.length kc) ((c.names.map (kindNo s c)).map intE) :: r) w2 A → StatOn (mem w2 (fun b => ¬ No b)) s x → Rd kLitT (mem w2 (fun b => ¬ No b)) cs l → LitOK s c l →
        Ret Try.prog 14 [.agg (x.stat s).toArray, .slice NA c.names.length nc, .slice KA c.names.length kc, .agg cs.toArray] w2 (.bool true) := fun {w2 r A l cs} h hs hl ho => by
      have e : (c.names.map (kindNo s c)).length = c.names.length := List.length_map _
      have := fits_ret (M := mem w2 (fun b => ¬ No b)) (KA := KA) (kc := kc) (kinds := c.names.map (kindNo s c)) hs (rd_names (pre := []) h (fun a ha => var_size (hR.ok.var a ha)) hcl) (by rw [e]; exact rd_nums (pre := [_]) h (fun a ha => by have := hks a ha; omega) (by rw [e]; exact hcl)) e hl ho.pred ho.len (hlitfit l ho)
      rw [e] at this
      exact this
    repeat (first|refine Ja ?_|refine Jb ?_|refine Jc ?_|refine Jd ?_|refine Je ?_|refine Jf ?_|refine Jg ?_|refine Jh ?_|refine Ji ?_|refine Jj ?_|refine Jk ?_|refine Jl ?_|refine Jm ?_|refine Jn ?_|refine Jo ?_|refine Jp ?_|refine Jq ?_|refine Jr ?_|refine Js ?_|refine Jt ?_|refine Ju ?_|refine Jv ?_|refine Jw ?_|refine Jx ?_|refine Jy ?_|refine Jz ?_|refine JA ?_|refine JB ?_|refine JC ?_|refine JD ?_|refine JE ?_|refine JF ?_|refine JG ?_|refine JH ?_|refine JI ?_|refine JJ ?_|refine JK ?_|refine JL ?_|refine JM ?_|refine CW.skip (PW.code ?_)|refine RW.nil (PW.code ?_))
    refine CW.seq ?_
    refine CW.keep [(1, ptrV b1), (5, .int .i64 i), (6, .slice NA c.names.length nc), (7, .slice KA c.names.length kc), (8, .int .i64 0)] ⟨rfl, rfl, rfl, rfl, rfl, trivial⟩ ?_
    refine CW.seqA (by kernel_rfl) rfl ?_
    repeat (apply AW.val rfl; · intro Gx X; (first | refine RW.yes rfl ?_ | skip); (first|refine Jc ?_|refine Jd ?_|refine Je ?_|refine Jf ?_|refine Jg ?_|refine Jh ?_|refine Ji ?_|refine Jj ?_|refine Jk ?_|refine Jl ?_|refine Jm ?_|refine Jn ?_|refine Jo ?_|refine Jp ?_|refine Jq ?_|refine Jr ?_|refine Js ?_|refine Jt ?_|refine Ju ?_|refine Jv ?_|refine Jw ?_|refine Jx ?_|refine Jz ?_|refine JA ?_|refine JB ?_|refine JC ?_|refine JD ?_|refine JE ?_|refine JF ?_|refine JG ?_|refine JH ?_|refine JI ?_|refine JJ ?_|refine JK ?_|refine JL ?_); exact RW.done rfl)
    rw [show decide (¬ ((c.names.length : Int) = c.names.length)) = false from decide_eq_false (fun h => h rfl)]
    repeat (apply AW.val rfl; · intro Gx X; (first | refine RW.yes rfl ?_ | skip); (first|refine Jc ?_|refine Jd ?_|refine Je ?_|refine Jf ?_|refine Jg ?_|refine Jh ?_|refine Ji ?_|refine Jj ?_|refine Jk ?_|refine Jl ?_|refine Jm ?_|refine Jn ?_|refine Jo ?_|refine Jp ?_|refine Jq ?_|refine Jr ?_|refine Js ?_|refine Jt ?_|refine Ju ?_|refine Jv ?_|refine Jw ?_|refine Jx ?_|refine Jz ?_|refine JA ?_|refine JB ?_|refine JC ?_|refine JD ?_|refine JE ?_|refine JF ?_|refine JG ?_|refine JH ?_|refine JI ?_|refine JJ ?_|refine JK ?_|refine JL ?_); exact RW.done rfl)
    (apply AW.val rfl; · intro Gx X; (first | refine RW.yes rfl ?_ | skip); refine RW.indexAddrE hA2 rfl rfl (by omega) (by omega) rfl ?_; exact RW.done rfl)
    repeat (apply AW.val rfl; · intro Gx X; (first | refine RW.yes rfl ?_ | skip); (first|refine Jc ?_|refine Jd ?_|refine Je ?_|refine Jf ?_|refine Jg ?_|refine Jh ?_|refine Ji ?_|refine Jj ?_|refine Jk ?_|refine Jl ?_|refine Jm ?_|refine Jn ?_|refine Jo ?_|refine Jp ?_|refine Jq ?_|refine Jr ?_|refine Js ?_|refine Jt ?_|refine Ju ?_|refine Jv ?_|refine Jw ?_|refine Jx ?_|refine Jz ?_|refine JA ?_|refine JB ?_|refine JC ?_|refine JD ?_|refine JE ?_|refine JF ?_|refine JG ?_|refine JH ?_|refine JI ?_|refine JJ ?_|refine JK ?_|refine JL ?_); exact RW.done rfl)
    (apply AW.val rfl; · intro Gx X; (first | refine RW.yes rfl ?_ | skip); refine RW.load_ros (cs := [.bool xr.2.2.2.2.2.2.1, .string xr.2.2.2.2.2.2.2.1, .slice HA xr.2.2.2.2.2.2.2.2.1.length hc1, .bool xr.2.2.2.2.2.2.2.2.2.1, .int .i64 xr.2.2.2.2.2.2.2.2.2.2]) rfl hle (cells_part hm2 6) rfl rfl (Nat.zero_lt_succ _) rfl ?_; exact RW.done rfl)
    (apply AW.val rfl; · intro Gx X; (first | refine RW.yes rfl ?_ | skip); refine RW.call Try.call14 rfl (fun w2 hw => hfits hw.sep (StatOn.mono hst (ro_call hw)) (hhead.mono (ro_call hw)) hR.head) rfl ?_; exact RW.done rfl)
    repeat (apply AW.val rfl; · intro Gx X; (first | refine RW.yes rfl ?_ | skip); (first|refine Jc ?_|refine Jd ?_|refine Je ?_|refine Jf ?_|refine Jg ?_|refine Jh ?_|refine Ji ?_|refine Jj ?_|refine Jk ?_|refine Jl ?_|refine Jm ?_|refine Jn ?_|refine Jo ?_|refine Jp ?_|refine Jq ?_|refine Jr ?_|refine Js ?_|refine Jt ?_|refine Ju ?_|refine Jv ?_|refine Jw ?_|refine Jx ?_|refine Jz ?_|refine JA ?_|refine JB ?_|refine JC ?_|refine JD ?_|refine JE ?_|refine JF ?_|refine JG ?_|refine JH ?_|refine JI ?_|refine JJ ?_|refine JK ?_|refine JL ?_); exact RW.done rfl)
    refine AW.stop (by kernel_rfl) (by kernel_rfl) fun bs => ?_
    repeat (first|refine Ja ?_|refine Jb ?_|refine Jc ?_|refine Jd ?_|refine Je ?_|refine Jf ?_|refine Jg ?_|refine Jh ?_|refine Ji ?_|refine Jj ?_|refine Jk ?_|refine Jl ?_|refine Jm ?_|refine Jn ?_|refine Jo ?_|refine Jp ?_|refine Jq ?_|refine Jr ?_|refine Js ?_|refine Jt ?_|refine Ju ?_|refine Jv ?_|refine Jw ?_|refine Jx ?_|refine Jy ?_|refine Jz ?_|refine JA ?_|refine JB ?_|refine JC ?_|refine JD ?_|refine JE ?_|refine JF ?_|refine JG ?_|refine JH ?_|refine JI ?_|refine JJ ?_|refine JK ?_|refine JL ?_|refine JM ?_|refine CW.skip (PW.code ?_)|refine RW.nil (PW.code ?_))
    refine CW.cf rfl ?_
    refine CW.skip ?_
    refine PW.code ?_
    refine CW.keep [(1, ptrV b1), (5, .int .i64 i), (6, .slice NA c.names.length nc), (7, .slice KA c.names.length kc)] ⟨rfl, rfl, rfl, rfl, trivial⟩ ?_
    refine CW.cut (ι := Unit) (fun _ => [(1, ptrV b1), (5, .int .i64 i), (6, .slice NA c.names.length nc), (7, .slice KA c.names.length kc)]) (fun _ => [ownHP 9 1 (.slice NA c.names.length nc) (c.names.map strE), ownHP 3 1 (.slice KA c.names.length kc) ((c.names.map (kindNo s c)).map intE), blk b1 (x.stat s) 31]) ?_ (fun _ => ?_)
    · repeat (first|refine Ja ?_|refine Jb ?_|refine Jc ?_|refine Jd ?_|refine Je ?_|refine Jf ?_|refine Jg ?_|refine Jh ?_|refine Ji ?_|refine Jj ?_|refine Jk ?_|refine Jl ?_|refine Jm ?_|refine Jn ?_|refine Jo ?_|refine Jp ?_|refine Jq ?_|refine Jr ?_|refine Js ?_|refine Jt ?_|refine Ju ?_|refine Jv ?_|refine Jw ?_|refine Jx ?_|refine Jy ?_|refine Jz ?_|refine JA ?_|refine JB ?_|refine JC ?_|refine JD ?_|refine JE ?_|refine JF ?_|refine JG ?_|refine JH ?_|refine JI ?_|refine JJ ?_|refine JK ?_|refine JL ?_|refine JM ?_|refine CW.skip (PW.code ?_)|refine RW.nil (PW.code ?_))
      refine CW.block ?_
      refine CW.loop (ι := { k : Nat // k ≤ c.names.length }) (fun k => [(1, ptrV b1), (5, .int .i64 i), (6, .slice NA c.names.length nc), (7, .slice KA c.names.length kc), (9, .int .i64 k.1)]) (fun k => [ownHP 9 1 (.slice NA c.names.length nc) (c.names.map strE), ownHP 3 1 (.slice KA c.names.length kc) ((c.names.map (kindNo s c)).map intE), blk b1 (x.stat s) 31]) (fun k => c.names.length - k.1) ⟨0, Nat.zero_le _⟩ ⟨rfl, rfl, rfl, rfl, rfl, trivial⟩ (fun h => h) ?_
      intro ⟨k, hk⟩
      dsimp only at hk ⊢
      refine CW.seq ?_
      repeat (first|refine Ja ?_|refine Jb ?_|refine Jc ?_|refine Jd ?_|refine Je ?_|refine Jf ?_|refine Jg ?_|refine Jh ?_|refine Ji ?_|refine Jj ?_|refine Jk ?_|refine Jl ?_|refine Jm ?_|refine Jn ?_|refine Jo ?_|refine Jp ?_|refine Jq ?_|refine Jr ?_|refine Js ?_|refine Jt ?_|refine Ju ?_|refine Jv ?_|refine Jw ?_|refine Jx ?_|refine Jy ?_|refine Jz ?_|refine JA ?_|refine JB ?_|refine JC ?_|refine JD ?_|refine JE ?_|refine JF ?_|refine JG ?_|refine JH ?_|refine JI ?_|refine JJ ?_|refine JK ?_|refine JL ?_|refine JM ?_|refine CW.skip (PW.code ?_)|refine RW.nil (PW.code ?_))
      refine CW.ite rfl (fun hkt => ?_) (fun hke => ?_)
      rotate_left
      · refine CW.exit rfl ?_
        exact PW.meet () ⟨rfl, rfl, rfl, rfl, trivial⟩ (fun h => h)
      have hkt' : k < c.names.length := by simpa using hkt
      have hne : c.names ≠ [] := by intro h; rw [h] at hkt'; simp at hkt'
      obtain ⟨NB, rfl⟩ := hNA hne
      obtain ⟨KB, rfl⟩ := hKA hne
      have hvar := hR.ok.var _ (List.getElem_mem hkt')
      have hkn := hks (kindNo s c c.names[k]) (List.mem_map.2 ⟨_, List.getElem_mem hkt', rfl⟩)
      refine CW.skip ?_
      refine PW.code ?_
      refine CW.seq ?_
      refine CW.block ?_
      refine CW.seqA (by kernel_rfl) rfl ?_
      repeat (apply AW.val rfl; · intro Gx X; (first | refine RW.yes rfl ?_ | skip); (first|refine Jc ?_|refine Jd ?_|refine Je ?_|refine Jf ?_|refine Jg ?_|refine Jh ?_|refine Ji ?_|refine Jj ?_|refine Jk ?_|refine Jl ?_|refine Jm ?_|refine Jn ?_|refine Jo ?_|refine Jp ?_|refine Jq ?_|refine Jr ?_|refine Js ?_|refine Jt ?_|refine Ju ?_|refine Jv ?_|refine Jw ?_|refine Jx ?_|refine Jz ?_|refine JA ?_|refine JB ?_|refine JC ?_|refine JD ?_|refine JE ?_|refine JF ?_|refine JG ?_|refine JH ?_|refine JI ?_|refine JJ ?_|refine JK ?_|refine JL ?_); exact RW.done rfl)
      (apply AW.val rfl; · intro Gx X; (first | refine RW.yes rfl ?_ | skip); refine RW.indexAddr rfl rfl (by omega) hkt rfl ?_; exact RW.done rfl)
      (apply AW.val rfl; · intro Gx X; (first | refine RW.yes rfl ?_ | skip); refine RW.load_fact (v := .string c.names[k]) rfl rfl rfl (fun w hw => own_str (pre := []) hw hkt') ?_; exact RW.done rfl)
      (apply AW.val rfl; · intro Gx X; (first | refine RW.yes rfl ?_ | skip); refine RW.call Try.call15 rfl (fun w2 hw => IsVar_ret) rfl ?_; exact RW.done rfl)
      rw [hvar]
      repeat (apply AW.val rfl; · intro Gx X; (first | refine RW.yes rfl ?_ | skip); (first|refine Jc ?_|refine Jd ?_|refine Je ?_|refine Jf ?_|refine Jg ?_|refine Jh ?_|refine Ji ?_|refine Jj ?_|refine Jk ?_|refine Jl ?_|refine Jm ?_|refine Jn ?_|refine Jo ?_|refine Jp ?_|refine Jq ?_|refine Jr ?_|refine Js ?_|refine Jt ?_|refine Ju ?_|refine Jv ?_|refine Jw ?_|refine Jx ?_|refine Jz ?_|refine JA ?_|refine JB ?_|refine JC ?_|refine JD ?_|refine JE ?_|refine JF ?_|refine JG ?_|refine JH ?_|refine JI ?_|refine JJ ?_|refine JK ?_|refine JL ?_); exact RW.done rfl)
      (apply AW.val rfl; · intro Gx X; (first | refine RW.yes rfl ?_ | skip); refine RW.indexAddr rfl rfl (by omega) hkt rfl ?_; exact RW.done rfl)
      (apply AW.val rfl; · intro Gx X; (first | refine RW.yes rfl ?_ | skip); refine RW.load_fact (v := .int .i64 (kindNo s c c.names[k])) rfl rfl rfl (fun w hw => own_num (pre := [_]) hw hkt') ?_; exact RW.done rfl)
      repeat (apply AW.val rfl; · intro Gx X; (first | refine RW.yes rfl ?_ | skip); (first|refine Jc ?_|refine Jd ?_|refine Je ?_|refine Jf ?_|refine Jg ?_|refine Jh ?_|refine Ji ?_|refine Jj ?_|refine Jk ?_|refine Jl ?_|refine Jm ?_|refine Jn ?_|refine Jo ?_|refine Jp ?_|refine Jq ?_|refine Jr ?_|refine Js ?_|refine Jt ?_|refine Ju ?_|refine Jv ?_|refine Jw ?_|refine Jx ?_|refine Jz ?_|refine JA ?_|refine JB ?_|refine JC ?_|refine JD ?_|refine JE ?_|refine JF ?_|refine JG ?_|refine JH ?_|refine JI ?_|refine JJ ?_|refine JK ?_|refine JL ?_); exact RW.done rfl)
      rw [decide_eq_false (show ¬ kindNo s c c.names[k] < 0 by omega)]
      repeat (apply AW.val rfl; · intro Gx X; (first | refine RW.yes rfl ?_ | skip); (first|refine Jc ?_|refine Jd ?_|refine Je ?_|refine Jf ?_|refine Jg ?_|refine Jh ?_|refine Ji ?_|refine Jj ?_|refine Jk ?_|refine Jl ?_|refine Jm ?_|refine Jn ?_|refine Jo ?_|refine Jp ?_|refine Jq ?_|refine Jr ?_|refine Js ?_|refine Jt ?_|refine Ju ?_|refine Jv ?_|refine Jw ?_|refine Jx ?_|refine Jz ?_|refine JA ?_|refine JB ?_|refine JC ?_|refine JD ?_|refine JE ?_|refine JF ?_|refine JG ?_|refine JH ?_|refine JI ?_|refine JJ ?_|refine JK ?_|refine JL ?_); exact RW.done rfl)
      (apply AW.val rfl; · intro Gx X; (first | refine RW.yes rfl ?_ | skip); refine RW.indexAddr rfl rfl (by omega) hkt rfl ?_; exact RW.done rfl)
      (apply AW.val rfl; · intro Gx X; (first | refine RW.yes rfl ?_ | skip); refine RW.load_fact (v := .int .i64 (kindNo s c c.names[k])) rfl rfl rfl (fun w hw => own_num (pre := [_]) hw hkt') ?_; exact RW.done rfl)
      repeat (apply AW.val rfl; · intro Gx X; (first | refine RW.yes rfl ?_ | skip); (first|refine Jc ?_|refine Jd ?_|refine Je ?_|refine Jf ?_|refine Jg ?_|refine Jh ?_|refine Ji ?_|refine Jj ?_|refine Jk ?_|refine Jl ?_|refine Jm ?_|refine Jn ?_|refine Jo ?_|refine Jp ?_|refine Jq ?_|refine Jr ?_|refine Js ?_|refine Jt ?_|refine Ju ?_|refine Jv ?_|refine Jw ?_|refine Jx ?_|refine Jz ?_|refine JA ?_|refine JB ?_|refine JC ?_|refine JD ?_|refine JE ?_|refine JF ?_|refine JG ?_|refine JH ?_|refine JI ?_|refine JJ ?_|refine JK ?_|refine JL ?_); exact RW.done rfl)
      refine AW.stop (by kernel_rfl) (by kernel_rfl) fun bs => ?_
      repeat (first|refine Ja ?_|refine Jb ?_|refine Jc ?_|refine Jd ?_|refine Je ?_|refine Jf ?_|refine Jg ?_|refine Jh ?_|refine Ji ?_|refine Jj ?_|refine Jk ?_|refine Jl ?_|refine Jm ?_|refine Jn ?_|refine Jo ?_|refine Jp ?_|refine Jq ?_|refine Jr ?_|refine Js ?_|refine Jt ?_|refine Ju ?_|refine Jv ?_|refine Jw ?_|refine Jx ?_|refine Jy ?_|refine Jz ?_|refine JA ?_|refine JB ?_|refine JC ?_|refine JD ?_|refine JE ?_|refine JF ?_|refine JG ?_|refine JH ?_|refine JI ?_|refine JJ ?_|refine JK ?_|refine JL ?_|refine JM ?_|refine CW.skip (PW.code ?_)|refine RW.nil (PW.code ?_))
      refine CW.ite rfl (fun h => absurd h (by omega)) (fun _ => ?_)
      refine CW.skip ?_
      refine PW.code ?_
      refine CW.region ?_
      repeat (first|refine Ja ?_|refine Jb ?_|refine Jc ?_|refine Jd ?_|refine Je ?_|refine Jf ?_|refine Jg ?_|refine Jh ?_|refine Ji ?_|refine Jj ?_|refine Jk ?_|refine Jl ?_|refine Jm ?_|refine Jn ?_|refine Jo ?_|refine Jp ?_|refine Jq ?_|refine Jr ?_|refine Js ?_|refine Jt ?_|refine Ju ?_|refine Jv ?_|refine Jw ?_|refine Jx ?_|refine Jy ?_|refine Jz ?_|refine JA ?_|refine JB ?_|refine JC ?_|refine JD ?_|refine JE ?_|refine JF ?_|refine JG ?_|refine JH ?_|refine JI ?_|refine JJ ?_|refine JK ?_|refine JL ?_|refine JM ?_|refine CW.skip (PW.code ?_)|refine RW.nil (PW.code ?_))
      refine RW.add rfl rfl (w64 (by omega) (by omega)) rfl ?_
      repeat (first|refine Ja ?_|refine Jb ?_|refine Jc ?_|refine Jd ?_|refine Je ?_|refine Jf ?_|refine Jg ?_|refine Jh ?_|refine Ji ?_|refine Jj ?_|refine Jk ?_|refine Jl ?_|refine Jm ?_|refine Jn ?_|refine Jo ?_|refine Jp ?_|refine Jq ?_|refine Jr ?_|refine Js ?_|refine Jt ?_|refine Ju ?_|refine Jv ?_|refine Jw ?_|refine Jx ?_|refine Jy ?_|refine Jz ?_|refine JA ?_|refine JB ?_|refine JC ?_|refine JD ?_|refine JE ?_|refine JF ?_|refine JG ?_|refine JH ?_|refine JI ?_|refine JJ ?_|refine JK ?_|refine JL ?_|refine JM ?_|refine CW.skip (PW.code ?_)|refine RW.nil (PW.code ?_))
      refine RW.nil ?_
      exact PW.again ⟨k + 1, hkt'⟩ ⟨rfl, rfl, rfl, rfl, rfl, trivial⟩ (fun h => h) (by show c.names.length - (k + 1) < c.names.length - k; omega)
    repeat (first|refine Ja ?_|refine Jb ?_|refine Jc ?_|refine Jd ?_|refine Je ?_|refine Jf ?_|refine Jg ?_|refine Jh ?_|refine Ji ?_|refine Jj ?_|refine Jk ?_|refine Jl ?_|refine Jm ?_|refine Jn ?_|refine Jo ?_|refine Jp ?_|refine Jq ?_|refine Jr ?_|refine Js ?_|refine Jt ?_|refine Ju ?_|refine Jv ?_|refine Jw ?_|refine Jx ?_|refine Jy ?_|refine Jz ?_|refine JA ?_|refine JB ?_|refine JC ?_|refine JD ?_|refine JE ?_|refine JF ?_|refine JG ?_|refine JH ?_|refine JI ?_|refine JJ ?_|refine JK ?_|refine JL ?_|refine JM ?_|refine CW.skip (PW.code ?_)|refine RW.nil (PW.code ?_))
    refine CW.block ?_
    refine CW.loop (ι := { k : Nat // k ≤ xr.2.2.2.2.1.length }) (fun k => [(1, ptrV b1), (5, .int .i64 i), (6, .slice NA c.names.length nc), (7, .slice KA c.names.length kc), (10, .int .i64 k.1)]) (fun k => [ownHP 9 1 (.slice NA c.names.length nc) (c.names.map strE), ownHP 3 1 (.slice KA c.names.length kc) ((c.names.map (kindNo s c)).map intE), blk b1 (x.stat s) 31]) (fun k => xr.2.2.2.2.1.length - k.1) ⟨0, Nat.zero_le _⟩ ⟨rfl, rfl, rfl, rfl, rfl, trivial⟩ (fun h => h) ?_
    intro ⟨k, hk⟩
    dsimp only at hk ⊢
    refine CW.seq ?_
    repeat (first|refine Ja ?_|refine Jb ?_|refine Jc ?_|refine Jd ?_|refine Je ?_|refine Jf ?_|refine Jg ?_|refine Jh ?_|refine Ji ?_|refine Jj ?_|refine Jk ?_|refine Jl ?_|refine Jm ?_|refine Jn ?_|refine Jo ?_|refine Jp ?_|refine Jq ?_|refine Jr ?_|refine Js ?_|refine Jt ?_|refine Ju ?_|refine Jv ?_|refine Jw ?_|refine Jx ?_|refine Jy ?_|refine Jz ?_|refine JA ?_|refine JB ?_|refine JC ?_|refine JD ?_|refine JE ?_|refine JF ?_|refine JG ?_|refine JH ?_|refine JI ?_|refine JJ ?_|refine JK ?_|refine JL ?_|refine JM ?_|refine CW.skip (PW.code ?_)|refine RW.nil (PW.code ?_))
    refine RW.indexAddrE hA2 rfl rfl (by omega) (by omega) rfl ?_
    repeat (first|refine Ja ?_|refine Jb ?_|refine Jc ?_|refine Jd ?_|refine Je ?_|refine Jf ?_|refine Jg ?_|refine Jh ?_|refine Ji ?_|refine Jj ?_|refine Jk ?_|refine Jl ?_|refine Jm ?_|refine Jn ?_|refine Jo ?_|refine Jp ?_|refine Jq ?_|refine Jr ?_|refine Js ?_|refine Jt ?_|refine Ju ?_|refine Jv ?_|refine Jw ?_|refine Jx ?_|refine Jy ?_|refine Jz ?_|refine JA ?_|refine JB ?_|refine JC ?_|refine JD ?_|refine JE ?_|refine JF ?_|refine JG ?_|refine JH ?_|refine JI ?_|refine JJ ?_|refine JK ?_|refine JL ?_|refine JM ?_|refine CW.skip (PW.code ?_)|refine RW.nil (PW.code ?_))
    refine RW.load_ro rfl hle (hm2 4 _ rfl) rfl rfl ?_
    repeat (first|refine Ja ?_|refine Jb ?_|refine Jc ?_|refine Jd ?_|refine Je ?_|refine Jf ?_|refine Jg ?_|refine Jh ?_|refine Ji ?_|refine Jj ?_|refine Jk ?_|refine Jl ?_|refine Jm ?_|refine Jn ?_|refine Jo ?_|refine Jp ?_|refine Jq ?_|refine Jr ?_|refine Js ?_|refine Jt ?_|refine Ju ?_|refine Jv ?_|refine Jw ?_|refine Jx ?_|refine Jy ?_|refine Jz ?_|refine JA ?_|refine JB ?_|refine JC ?_|refine JD ?_|refine JE ?_|refine JF ?_|refine JG ?_|refine JH ?_|refine JI ?_|refine JJ ?_|refine JK ?_|refine JL ?_|refine JM ?_|refine CW.skip (PW.code ?_)|refine RW.nil (PW.code ?_))
    refine CW.ite rfl (fun hkt => ?_) (fun hke => ?_)
    rotate_left
    · refine CW.exit rfl ?_
      refine PW.code ?_
      refine CW.region ?_
      repeat (first|refine Ja ?_|refine Jb ?_|refine Jc ?_|refine Jd ?_|refine Je ?_|refine Jf ?_|refine Jg ?_|refine Jh ?_|refine Ji ?_|refine Jj ?_|refine Jk ?_|refine Jl ?_|refine Jm ?_|refine Jn ?_|refine Jo ?_|refine Jp ?_|refine Jq ?_|refine Jr ?_|refine Js ?_|refine Jt ?_|refine Ju ?_|refine Jv ?_|refine Jw ?_|refine Jx ?_|refine Jy ?_|refine Jz ?_|refine JA ?_|refine JB ?_|refine JC ?_|refine JD ?_|refine JE ?_|refine JF ?_|refine JG ?_|refine JH ?_|refine JI ?_|refine JJ ?_|refine JK ?_|refine JL ?_|refine JM ?_|refine CW.skip (PW.code ?_)|refine RW.nil (PW.code ?_))
      refine RW.add rfl rfl (w64 (by omega) (by omega)) rfl ?_
      repeat (first|refine Ja ?_|refine Jb ?_|refine Jc ?_|refine Jd ?_|refine Je ?_|refine Jf ?_|refine Jg ?_|refine Jh ?_|refine Ji ?_|refine Jj ?_|refine Jk ?_|refine Jl ?_|refine Jm ?_|refine Jn ?_|refine Jo ?_|refine Jp ?_|refine Jq ?_|refine Jr ?_|refine Js ?_|refine Jt ?_|refine Ju ?_|refine Jv ?_|refine Jw ?_|refine Jx ?_|refine Jy ?_|refine Jz ?_|refine JA ?_|refine JB ?_|refine JC ?_|refine JD ?_|refine JE ?_|refine JF ?_|refine JG ?_|refine JH ?_|refine JI ?_|refine JJ ?_|refine JK ?_|refine JL ?_|refine JM ?_|refine CW.skip (PW.code ?_)|refine RW.nil (PW.code ?_))
      refine RW.nil ?_
      exact PW.againT ⟨i + 1, hlt'⟩ [2] ⟨rfl, rfl, trivial⟩ rfl (by show (sRules s).length - (i + 1) < (sRules s).length - i; omega)
    have hkt' : k < xr.2.2.2.2.1.length := by simpa using hkt
    have hlit := hR.body _ (List.getElem_mem hkt')
    obtain ⟨B7, O7, cs7, hA7, hl7, hr7, hm7⟩ := sl_get hbody (List.getElem?_eq_getElem hkt')
    obtain ⟨PA, pc, PA1, pc1, PA2, pc2, rfl, hplit, _⟩ := Rd.premT hr7
    generalize xr.2.2.2.2.1[k] = pr at *
    refine CW.skip ?_
    refine PW.code ?_
    refine CW.seq ?_
    refine CW.block ?_
    repeat (first|refine Ja ?_|refine Jb ?_|refine Jc ?_|refine Jd ?_|refine Je ?_|refine Jf ?_|refine Jg ?_|refine Jh ?_|refine Ji ?_|refine Jj ?_|refine Jk ?_|refine Jl ?_|refine Jm ?_|refine Jn ?_|refine Jo ?_|refine Jp ?_|refine Jq ?_|refine Jr ?_|refine Js ?_|refine Jt ?_|refine Ju ?_|refine Jv ?_|refine Jw ?_|refine Jx ?_|refine Jy ?_|refine Jz ?_|refine JA ?_|refine JB ?_|refine JC ?_|refine JD ?_|refine JE ?_|refine JF ?_|refine JG ?_|refine JH ?_|refine JI ?_|refine JJ ?_|refine JK ?_|refine JL ?_|refine JM ?_|refine CW.skip (PW.code ?_)|refine RW.nil (PW.code ?_))
    refine RW.indexAddrE hA2 rfl rfl (by omega) (by omega) rfl ?_
    repeat (first|refine Ja ?_|refine Jb ?_|refine Jc ?_|refine Jd ?_|refine Je ?_|refine Jf ?_|refine Jg ?_|refine Jh ?_|refine Ji ?_|refine Jj ?_|refine Jk ?_|refine Jl ?_|refine Jm ?_|refine Jn ?_|refine Jo ?_|refine Jp ?_|refine Jq ?_|refine Jr ?_|refine Js ?_|refine Jt ?_|refine Ju ?_|refine Jv ?_|refine Jw ?_|refine Jx ?_|refine Jy ?_|refine Jz ?_|refine JA ?_|refine JB ?_|refine JC ?_|refine JD ?_|refine JE ?_|refine JF ?_|refine JG ?_|refine JH ?_|refine JI ?_|refine JJ ?_|refine JK ?_|refine JL ?_|refine JM ?_|refine CW.skip (PW.code ?_)|refine RW.nil (PW.code ?_))
    refine RW.load_ro rfl hle (hm2 4 _ rfl) rfl rfl ?_
    repeat (first|refine Ja ?_|refine Jb ?_|refine Jc ?_|refine Jd ?_|refine Je ?_|refine Jf ?_|refine Jg ?_|refine Jh ?_|refine Ji ?_|refine Jj ?_|refine Jk ?_|refine Jl ?_|refine Jm ?_|refine Jn ?_|refine Jo ?_|refine Jp ?_|refine Jq ?_|refine Jr ?_|refine Js ?_|refine Jt ?_|refine Ju ?_|refine Jv ?_|refine Jw ?_|refine Jx ?_|refine Jy ?_|refine Jz ?_|refine JA ?_|refine JB ?_|refine JC ?_|refine JD ?_|refine JE ?_|refine JF ?_|refine JG ?_|refine JH ?_|refine JI ?_|refine JJ ?_|refine JK ?_|refine JL ?_|refine JM ?_|refine CW.skip (PW.code ?_)|refine RW.nil (PW.code ?_))
    refine RW.indexAddrE hA7 rfl rfl (by omega) hkt rfl ?_
    refine RW.load_ros rfl hle hm7 rfl rfl (Nat.zero_lt_succ _) rfl ?_
    refine RW.alloc rfl rfl fun b11 _ => ?_
    refine RW.store_whole [] rfl rfl rfl rfl rfl (by simp [Value.oneCell']) ?_
    repeat (first|refine Ja ?_|refine Jb ?_|refine Jc ?_|refine Jd ?_|refine Je ?_|refine Jf ?_|refine Jg ?_|refine Jh ?_|refine Ji ?_|refine Jj ?_|refine Jk ?_|refine Jl ?_|refine Jm ?_|refine Jn ?_|refine Jo ?_|refine Jp ?_|refine Jq ?_|refine Jr ?_|refine Js ?_|refine Jt ?_|refine Ju ?_|refine Jv ?_|refine Jw ?_|refine Jx ?_|refine Jy ?_|refine Jz ?_|refine JA ?_|refine JB ?_|refine JC ?_|refine JD ?_|refine JE ?_|refine JF ?_|refine JG ?_|refine JH ?_|refine JI ?_|refine JJ ?_|refine JK ?_|refine JL ?_|refine JM ?_|refine CW.skip (PW.code ?_)|refine RW.nil (PW.code ?_))
    refine RW.splitD 111 rfl (fun h1 => ?_) (fun h1 => ?_)
    · repeat (first|refine Ja ?_|refine Jb ?_|refine Jc ?_|refine Jd ?_|refine Je ?_|refine Jf ?_|refine Jg ?_|refine Jh ?_|refine Ji ?_|refine Jj ?_|refine Jk ?_|refine Jl ?_|refine Jm ?_|refine Jn ?_|refine Jo ?_|refine Jp ?_|refine Jq ?_|refine Jr ?_|refine Js ?_|refine Jt ?_|refine Ju ?_|refine Jv ?_|refine Jw ?_|refine Jx ?_|refine Jy ?_|refine Jz ?_|refine JA ?_|refine JB ?_|refine JC ?_|refine JD ?_|refine JE ?_|refine JF ?_|refine JG ?_|refine JH ?_|refine JI ?_|refine JJ ?_|refine JK ?_|refine JL ?_|refine JM ?_|refine CW.skip (PW.code ?_)|refine RW.nil (PW.code ?_))
      refine RW.load_part5 [] rfl rfl rfl rfl ?_
      repeat (first|refine Ja ?_|refine Jb ?_|refine Jc ?_|refine Jd ?_|refine Je ?_|refine Jf ?_|refine Jg ?_|refine Jh ?_|refine Ji ?_|refine Jj ?_|refine Jk ?_|refine Jl ?_|refine Jm ?_|refine Jn ?_|refine Jo ?_|refine Jp ?_|refine Jq ?_|refine Jr ?_|refine Js ?_|refine Jt ?_|refine Ju ?_|refine Jv ?_|refine Jw ?_|refine Jx ?_|refine Jy ?_|refine Jz ?_|refine JA ?_|refine JB ?_|refine JC ?_|refine JD ?_|refine JE ?_|refine JF ?_|refine JG ?_|refine JH ?_|refine JI ?_|refine JJ ?_|refine JK ?_|refine JL ?_|refine JM ?_|refine CW.skip (PW.code ?_)|refine RW.nil (PW.code ?_))
      refine RW.call Try.call14 rfl (fun w2 hw => hfits (Sep.tail hw.sep) (StatOn.mono hst (ro_call hw)) (hplit.mono (ro_call hw)) (hlit h1)) rfl ?_
      repeat (first|refine Ja ?_|refine Jb ?_|refine Jc ?_|refine Jd ?_|refine Je ?_|refine Jf ?_|refine Jg ?_|refine Jh ?_|refine Ji ?_|refine Jj ?_|refine Jk ?_|refine Jl ?_|refine Jm ?_|refine Jn ?_|refine Jo ?_|refine Jp ?_|refine Jq ?_|refine Jr ?_|refine Js ?_|refine Jt ?_|refine Ju ?_|refine Jv ?_|refine Jw ?_|refine Jx ?_|refine Jy ?_|refine Jz ?_|refine JA ?_|refine JB ?_|refine JC ?_|refine JD ?_|refine JE ?_|refine JF ?_|refine JG ?_|refine JH ?_|refine JI ?_|refine JJ ?_|refine JK ?_|refine JL ?_|refine JM ?_|refine CW.skip (PW.code ?_)|refine RW.nil (PW.code ?_))
      refine CW.cf rfl ?_
      refine CW.skip ?_
      refine PW.code ?_
      refine CW.region ?_
      repeat (first|refine Ja ?_|refine Jb ?_|refine Jc ?_|refine Jd ?_|refine Je ?_|refine Jf ?_|refine Jg ?_|refine Jh ?_|refine Ji ?_|refine Jj ?_|refine Jk ?_|refine Jl ?_|refine Jm ?_|refine Jn ?_|refine Jo ?_|refine Jp ?_|refine Jq ?_|refine Jr ?_|refine Js ?_|refine Jt ?_|refine Ju ?_|refine Jv ?_|refine Jw ?_|refine Jx ?_|refine Jy ?_|refine Jz ?_|refine JA ?_|refine JB ?_|refine JC ?_|refine JD ?_|refine JE ?_|refine JF ?_|refine JG ?_|refine JH ?_|refine JI ?_|refine JJ ?_|refine JK ?_|refine JL ?_|refine JM ?_|refine CW.skip (PW.code ?_)|refine RW.nil (PW.code ?_))
      refine RW.add rfl rfl (w64 (by omega) (by omega)) rfl ?_
      repeat (first|refine Ja ?_|refine Jb ?_|refine Jc ?_|refine Jd ?_|refine Je ?_|refine Jf ?_|refine Jg ?_|refine Jh ?_|refine Ji ?_|refine Jj ?_|refine Jk ?_|refine Jl ?_|refine Jm ?_|refine Jn ?_|refine Jo ?_|refine Jp ?_|refine Jq ?_|refine Jr ?_|refine Js ?_|refine Jt ?_|refine Ju ?_|refine Jv ?_|refine Jw ?_|refine Jx ?_|refine Jy ?_|refine Jz ?_|refine JA ?_|refine JB ?_|refine JC ?_|refine JD ?_|refine JE ?_|refine JF ?_|refine JG ?_|refine JH ?_|refine JI ?_|refine JJ ?_|refine JK ?_|refine JL ?_|refine JM ?_|refine CW.skip (PW.code ?_)|refine RW.nil (PW.code ?_))
      refine RW.nil ?_
      exact PW.againT ⟨k + 1, hkt'⟩ [1, 2, 3] ⟨rfl, rfl, rfl, rfl, rfl, trivial⟩ rfl (by show xr.2.2.2.2.1.length - (k + 1) < xr.2.2.2.2.1.length - k; omega)
    · repeat (first|refine Ja ?_|refine Jb ?_|refine Jc ?_|refine Jd ?_|refine Je ?_|refine Jf ?_|refine Jg ?_|refine Jh ?_|refine Ji ?_|refine Jj ?_|refine Jk ?_|refine Jl ?_|refine Jm ?_|refine Jn ?_|refine Jo ?_|refine Jp ?_|refine Jq ?_|refine Jr ?_|refine Js ?_|refine Jt ?_|refine Ju ?_|refine Jv ?_|refine Jw ?_|refine Jx ?_|refine Jy ?_|refine Jz ?_|refine JA ?_|refine JB ?_|refine JC ?_|refine JD ?_|refine JE ?_|refine JF ?_|refine JG ?_|refine JH ?_|refine JI ?_|refine JJ ?_|refine JK ?_|refine JL ?_|refine JM ?_|refine CW.skip (PW.code ?_)|refine RW.nil (PW.code ?_))
      refine CW.cf rfl ?_
      refine CW.skip ?_
      refine PW.code ?_
      refine CW.region ?_
      repeat (first|refine Ja ?_|refine Jb ?_|refine Jc ?_|refine Jd ?_|refine Je ?_|refine Jf ?_|refine Jg ?_|refine Jh ?_|refine Ji ?_|refine Jj ?_|refine Jk ?_|refine Jl ?_|refine Jm ?_|refine Jn ?_|refine Jo ?_|refine Jp ?_|refine Jq ?_|refine Jr ?_|refine Js ?_|refine Jt ?_|refine Ju ?_|refine Jv ?_|refine Jw ?_|refine Jx ?_|refine Jy ?_|refine Jz ?_|refine JA ?_|refine JB ?_|refine JC ?_|refine JD ?_|refine JE ?_|refine JF ?_|refine JG ?_|refine JH ?_|refine JI ?_|refine JJ ?_|refine JK ?_|refine JL ?_|refine JM ?_|refine CW.skip (PW.code ?_)|refine RW.nil (PW.code ?_))
      refine RW.add rfl rfl (w64 (by omega) (by omega)) rfl ?_
      repeat (first|refine Ja ?_|refine Jb ?_|refine Jc ?_|refine Jd ?_|refine Je ?_|refine Jf ?_|refine Jg ?_|refine Jh ?_|refine Ji ?_|refine Jj ?_|refine Jk ?_|refine Jl ?_|refine Jm ?_|refine Jn ?_|refine Jo ?_|refine Jp ?_|refine Jq ?_|refine Jr ?_|refine Js ?_|refine Jt ?_|refine Ju ?_|refine Jv ?_|refine Jw ?_|refine Jx ?_|refine Jy ?_|refine Jz ?_|refine JA ?_|refine JB ?_|refine JC ?_|refine JD ?_|refine JE ?_|refine JF ?_|refine JG ?_|refine JH ?_|refine JI ?_|refine JJ ?_|refine JK ?_|refine JL ?_|refine JM ?_|refine CW.skip (PW.code ?_)|refine RW.nil (PW.code ?_))
      refine RW.nil ?_
      exact PW.againT ⟨k + 1, hkt'⟩ [1, 2, 3] ⟨rfl, rfl, rfl, rfl, rfl, trivial⟩ rfl (by show xr.2.2.2.2.1.length - (k + 1) < xr.2.2.2.2.1.length - k; omega)
  · repeat (first|refine Ja ?_|refine Jb ?_|refine Jc ?_|refine Jd ?_|refine Je ?_|refine Jf ?_|refine Jg ?_|refine Jh ?_|refine Ji ?_|refine Jj ?_|refine Jk ?_|refine Jl ?_|refine Jm ?_|refine Jn ?_|refine Jo ?_|refine Jp ?_|refine Jq ?_|refine Jr ?_|refine Js ?_|refine Jt ?_|refine Ju ?_|refine Jv ?_|refine Jw ?_|refine Jx ?_|refine Jy ?_|refine Jz ?_|refine JA ?_|refine JB ?_|refine JC ?_|refine JD ?_|refine JE ?_|refine JF ?_|refine JG ?_|refine JH ?_|refine JI ?_|refine JJ ?_|refine JK ?_|refine JL ?_|refine JM ?_|refine CW.skip (PW.code ?_)|refine RW.nil (PW.code ?_))
    refine CW.cut (ι := Unit) (fun _ => [(1, ptrV b1), (12, .int .i64 ((sMembers s).length : Nat))]) (fun _ => [blk b1 (x.stat s) 31]) ?_ (fun _ => ?_)
    · repeat (first|refine Ja ?_|refine Jb ?_|refine Jc ?_|refine Jd ?_|refine Je ?_|refine Jf ?_|refine Jg ?_|refine Jh ?_|refine Ji ?_|refine Jj ?_|refine Jk ?_|refine Jl ?_|refine Jm ?_|refine Jn ?_|refine Jo ?_|refine Jp ?_|refine Jq ?_|refine Jr ?_|refine Js ?_|refine Jt ?_|refine Ju ?_|refine Jv ?_|refine Jw ?_|refine Jx ?_|refine Jy ?_|refine Jz ?_|refine JA ?_|refine JB ?_|refine JC ?_|refine JD ?_|refine JE ?_|refine JF ?_|refine JG ?_|refine JH ?_|refine JI ?_|refine JJ ?_|refine JK ?_|refine JL ?_|refine JM ?_|refine CW.skip (PW.code ?_)|refine RW.nil (PW.code ?_))
      refine CW.block ?_
      refine CW.loop (ι := { k : Nat // k ≤ (sKinds s).length }) (fun k => [(1, ptrV b1), (12, .int .i64 (sumTo (fun j => (ofD s (j : Int)).length) k.1 : Nat)), (13, .int .i64 k.1)]) (fun k => [blk b1 (x.stat s) 31]) (fun k => (sKinds s).length - k.1) ⟨0, Nat.zero_le _⟩ ⟨rfl, rfl, rfl, trivial⟩ (fun h => h) ?_
      intro ⟨k, hk⟩
      dsimp only at hk ⊢
      have hofl : ∀ j : Nat, (ofD s (j : Int)).length ≤ 64 := fun j => Nat.le_trans (ofGo_len s j _ 0) (by omega)
      have hsum := sumTo_le hofl k
      refine CW.seq ?_
      repeat (first|refine Ja ?_|refine Jb ?_|refine Jc ?_|refine Jd ?_|refine Je ?_|refine Jf ?_|refine Jg ?_|refine Jh ?_|refine Ji ?_|refine Jj ?_|refine Jk ?_|refine Jl ?_|refine Jm ?_|refine Jn ?_|refine Jo ?_|refine Jp ?_|refine Jq ?_|refine Jr ?_|refine Js ?_|refine Jt ?_|refine Ju ?_|refine Jv ?_|refine Jw ?_|refine Jx ?_|refine Jy ?_|refine Jz ?_|refine JA ?_|refine JB ?_|refine JC ?_|refine JD ?_|refine JE ?_|refine JF ?_|refine JG ?_|refine JH ?_|refine JI ?_|refine JJ ?_|refine JK ?_|refine JL ?_|refine JM ?_|refine CW.skip (PW.code ?_)|refine RW.nil (PW.code ?_))
      refine CW.ite rfl (fun hkt => ?_) (fun hke => ?_)
      rotate_left
      · have hke' : k = (sKinds s).length := by have : (sKinds s).length ≤ k := by simpa using hke
                                                omega
        subst hke'
        refine CW.exit rfl ?_
        rw [of_sum hT]
        exact PW.meet () ⟨rfl, rfl, trivial⟩ (fun h => h)
      have hkt' : k < (sKinds s).length := by simpa using hkt
      have hkl := hofl k
      refine CW.skip ?_
      refine PW.code ?_
      refine CW.seq ?_
      refine CW.block ?_
      refine CW.region ?_
      repeat (first|refine Ja ?_|refine Jb ?_|refine Jc ?_|refine Jd ?_|refine Je ?_|refine Jf ?_|refine Jg ?_|refine Jh ?_|refine Ji ?_|refine Jj ?_|refine Jk ?_|refine Jl ?_|refine Jm ?_|refine Jn ?_|refine Jo ?_|refine Jp ?_|refine Jq ?_|refine Jr ?_|refine Js ?_|refine Jt ?_|refine Ju ?_|refine Jv ?_|refine Jw ?_|refine Jx ?_|refine Jy ?_|refine Jz ?_|refine JA ?_|refine JB ?_|refine JC ?_|refine JD ?_|refine JE ?_|refine JF ?_|refine JG ?_|refine JH ?_|refine JI ?_|refine JJ ?_|refine JK ?_|refine JL ?_|refine JM ?_|refine CW.skip (PW.code ?_)|refine RW.nil (PW.code ?_))
      refine RW.callN Try.call16 rfl (fun w2 hw => of_ret (StatOn.mono hst (ro_call hw))) rfl fun v => ?_
      refine RW.have_ (φ := ∃ A c1, v = .slice A (ofD s (k : Int)).length c1) (fun w hw => ?_) (fun ⟨OA, oc, hv⟩ => ?_)
      · obtain ⟨A, c1, h1, _⟩ := own_shape (pre := []) hw
        rw [List.length_map] at h1
        exact ⟨A, c1, h1⟩
      subst hv
      repeat (first|refine Ja ?_|refine Jb ?_|refine Jc ?_|refine Jd ?_|refine Je ?_|refine Jf ?_|refine Jg ?_|refine Jh ?_|refine Ji ?_|refine Jj ?_|refine Jk ?_|refine Jl ?_|refine Jm ?_|refine Jn ?_|refine Jo ?_|refine Jp ?_|refine Jq ?_|refine Jr ?_|refine Js ?_|refine Jt ?_|refine Ju ?_|refine Jv ?_|refine Jw ?_|refine Jx ?_|refine Jy ?_|refine Jz ?_|refine JA ?_|refine JB ?_|refine JC ?_|refine JD ?_|refine JE ?_|refine JF ?_|refine JG ?_|refine JH ?_|refine JI ?_|refine JJ ?_|refine JK ?_|refine JL ?_|refine JM ?_|refine CW.skip (PW.code ?_)|refine RW.nil (PW.code ?_))
      refine RW.add rfl rfl (w64 (by omega) (by omega)) rfl ?_
      repeat (first|refine Ja ?_|refine Jb ?_|refine Jc ?_|refine Jd ?_|refine Je ?_|refine Jf ?_|refine Jg ?_|refine Jh ?_|refine Ji ?_|refine Jj ?_|refine Jk ?_|refine Jl ?_|refine Jm ?_|refine Jn ?_|refine Jo ?_|refine Jp ?_|refine Jq ?_|refine Jr ?_|refine Js ?_|refine Jt ?_|refine Ju ?_|refine Jv ?_|refine Jw ?_|refine Jx ?_|refine Jy ?_|refine Jz ?_|refine JA ?_|refine JB ?_|refine JC ?_|refine JD ?_|refine JE ?_|refine JF ?_|refine JG ?_|refine JH ?_|refine JI ?_|refine JJ ?_|refine JK ?_|refine JL ?_|refine JM ?_|refine CW.skip (PW.code ?_)|refine RW.nil (PW.code ?_))
      refine CW.region ?_
      repeat (first|refine Ja ?_|refine Jb ?_|refine Jc ?_|refine Jd ?_|refine Je ?_|refine Jf ?_|refine Jg ?_|refine Jh ?_|refine Ji ?_|refine Jj ?_|refine Jk ?_|refine Jl ?_|refine Jm ?_|refine Jn ?_|refine Jo ?_|refine Jp ?_|refine Jq ?_|refine Jr ?_|refine Js ?_|refine Jt ?_|refine Ju ?_|refine Jv ?_|refine Jw ?_|refine Jx ?_|refine Jy ?_|refine Jz ?_|refine JA ?_|refine JB ?_|refine JC ?_|refine JD ?_|refine JE ?_|refine JF ?_|refine JG ?_|refine JH ?_|refine JI ?_|refine JJ ?_|refine JK ?_|refine JL ?_|refine JM ?_|refine CW.skip (PW.code ?_)|refine RW.nil (PW.code ?_))
      refine RW.add rfl rfl (w64 (by omega) (by omega)) rfl ?_
      repeat (first|refine Ja ?_|refine Jb ?_|refine Jc ?_|refine Jd ?_|refine Je ?_|refine Jf ?_|refine Jg ?_|refine Jh ?_|refine Ji ?_|refine Jj ?_|refine Jk ?_|refine Jl ?_|refine Jm ?_|refine Jn ?_|refine Jo ?_|refine Jp ?_|refine Jq ?_|refine Jr ?_|refine Js ?_|refine Jt ?_|refine Ju ?_|refine Jv ?_|refine Jw ?_|refine Jx ?_|refine Jy ?_|refine Jz ?_|refine JA ?_|refine JB ?_|refine JC ?_|refine JD ?_|refine JE ?_|refine JF ?_|refine JG ?_|refine JH ?_|refine JI ?_|refine JJ ?_|refine JK ?_|refine JL ?_|refine JM ?_|refine CW.skip (PW.code ?_)|refine RW.nil (PW.code ?_))
      refine RW.nil ?_
      exact PW.againT ⟨k + 1, hkt'⟩ [1] ⟨rfl, rfl, rfl, trivial⟩ rfl (by show (sKinds s).length - (k + 1) < (sKinds s).length - k; omega)
    repeat (first|refine Ja ?_|refine Jb ?_|refine Jc ?_|refine Jd ?_|refine Je ?_|refine Jf ?_|refine Jg ?_|refine Jh ?_|refine Ji ?_|refine Jj ?_|refine Jk ?_|refine Jl ?_|refine Jm ?_|refine Jn ?_|refine Jo ?_|refine Jp ?_|refine Jq ?_|refine Jr ?_|refine Js ?_|refine Jt ?_|refine Ju ?_|refine Jv ?_|refine Jw ?_|refine Jx ?_|refine Jy ?_|refine Jz ?_|refine JA ?_|refine JB ?_|refine JC ?_|refine JD ?_|refine JE ?_|refine JF ?_|refine JG ?_|refine JH ?_|refine JI ?_|refine JJ ?_|refine JK ?_|refine JL ?_|refine JM ?_|refine CW.skip (PW.code ?_)|refine RW.nil (PW.code ?_))
    exact CW.ret1 rfl Try.results5 rfl rfl fun w hw => ⟨by rw [decide_eq_true rfl], hw.kp⟩
theorem law_ResolveFits (W : World) {c0 : List Value} {x0 : kStat.V} (y0 : Rd kStat (mem W Any) c0 x0) (s0 : bk kStat x0 ≤ 1048576) : Ret Try.prog 5 [.agg c0.toArray] W (.bool true) := by
  obtain ⟨x, rfl, h⟩ := rd_stat y0
  exact fitsLaw_ret (h.mono (mem_up fun _ _ k => k))
end Go.Proofs.Ytkfmlekomfnleaa
