/- The runner for closed calls: statements in open order, whole; code; calls. Conditions: none. -/
import Derived.Test.YtbcdgcodnkgdoaaGreatRu16
import Derived.Sort.LoopGhostIn
set_option linter.unusedVariables false
set_option linter.unusedSimpArgs false
set_option maxRecDepth 10000
namespace Go.Proofs.YtbcdgcodnkgdoaaGreat.Run
open Go Go.RowKit

def cnt (listed : Array Bool) : Nat → Nat
  | 0 => 0
  | k + 1 => cnt listed k + (if listed.getD k false then 0 else 1)
theorem getD_set {listed : Array Bool} {i j : Nat} (hi : i < listed.size) : (listed.setIfInBounds i true).getD j false = if j = i then true else listed.getD j false := by
  simp only [Array.getD_eq_getD_getElem?, Array.getElem?_setIfInBounds]
  by_cases h : i = j
  · subst h; simp [hi]
  · simp [h, Ne.symm h]
theorem cnt_set {listed : Array Bool} {i : Nat} (hi : i < listed.size) (hf : listed.getD i false = false) : ∀ k, (i < k → cnt (listed.setIfInBounds i true) k + 1 = cnt listed k) ∧ (k ≤ i → cnt (listed.setIfInBounds i true) k = cnt listed k) := by
  intro k
  induction k with
  | zero => exact ⟨fun h => by omega, fun _ => rfl⟩
  | succ k ih =>
    simp only [cnt, getD_set hi]
    refine ⟨fun h => ?_, fun h => ?_⟩
    · by_cases hk : k = i
      · subst hk; rw [ih.2 (Nat.le_refl _), hf]; simp
      · rw [if_neg hk]; have := ih.1 (by omega); omega
    · rw [if_neg (show ¬ k = i by omega), ih.2 (by omega)]
theorem cnt_zero {listed : Array Bool} : ∀ {k : Nat}, cnt listed k = 0 → ∀ i, i < k → listed.getD i false = true := by
  intro k
  induction k with
  | zero => intro _ i hi; omega
  | succ k ih =>
    intro h i hi
    simp only [cnt] at h
    by_cases hk : i = k
    · subst hk
      cases hh : listed.getD i false with
      | true => rfl
      | false => rw [hh] at h; simp at h
    · exact ih (by omega) i (by omega)
theorem ready_iff {ops : List Oper} {listed : Array Bool} {i : Nat} (h : i ∈ Region.ready .any ops.toArray listed) : i < ops.length ∧ listed.getD i true = false ∧ ∃ o, ops[i]? = some o ∧ ∀ e ∈ o.after.toList, Region.binds .any e = true → listed.getD e.on false = true := by
  unfold Region.ready at h
  rw [List.mem_filter] at h
  obtain ⟨h1, h2⟩ := h
  simp only [List.mem_range, List.size_toArray] at h1
  simp only [Bool.and_eq_true, Bool.not_eq_true', List.getElem?_toArray] at h2
  obtain ⟨h3, h4⟩ := h2
  cases ho : ops[i]? with
  | none => rw [ho] at h4; simp at h4
  | some o =>
    rw [ho] at h4
    simp only [Option.map_some, Option.getD_some, Array.all_eq_true_iff_forall_mem, Bool.or_eq_true, Bool.not_eq_true'] at h4
    refine ⟨h1, h3, o, rfl, fun e he hb => ?_⟩
    rcases h4 e (by simpa using he) with h | h
    · rw [hb] at h; cases h
    · exact h
theorem ready_of {ops : List Oper} {listed : Array Bool} {i : Nat} {o : Oper} (h1 : i < ops.length) (h2 : listed.getD i true = false) (ho : ops[i]? = some o) (h : ∀ e ∈ o.after.toList, Region.binds .any e = true → listed.getD e.on false = true) : i ∈ Region.ready .any ops.toArray listed := by
  unfold Region.ready
  rw [List.mem_filter]
  refine ⟨by simpa using h1, ?_⟩
  simp only [Bool.and_eq_true, Bool.not_eq_true', List.getElem?_toArray, ho, Option.map_some, Option.getD_some, Array.all_eq_true_iff_forall_mem, Bool.or_eq_true]
  refine ⟨h2, fun e he => ?_⟩
  cases hb : Region.binds .any e with
  | false => exact .inl rfl
  | true => exact .inr (h e (by simpa using he) hb)
theorem getD_lt {listed : Array Bool} {i : Nat} (h : i < listed.size) (b : Bool) : listed.getD i b = listed.getD i false := by simp [Array.getD_eq_getD_getElem?, h]
section
variable {w0 : World} {cf : CF} {rc : RC} {rnd : Bool} {r : Option Nat} {N : Nat}
/-- A statement in open order. -/
theorem exA_ok (hr : rnd = r.isSome) (hcf : CFok w0 cf) (hrc : RCok w0 rc) {ops : List Oper} {x : X} {s : An} (ht : tmpsOk (dig ops ops []) 0 [] = true) (e : exA cf rc rnd N (dig ops ops []) ⟨0, 0, 0, x.h, [], [], x⟩ = .ok s)
    (n : Nat) (σ : Sg) (a : Act) (w : World) (Q : Exit → Act → World → Prop) (hf : FrR σ N x.fr a.tmps) (hd : DsR σ x.ds a.defers) (H : Den w0 σ x.h w)
    (k : ∀ σ' a' w', σ.le σ' → FrR σ' N s.x.fr a'.tmps → DsR σ' s.x.ds a'.defers → Den w0 σ' s.x.h w' → Q .normal a' w') : wpAnyIn (FW r) n PG .any ops.toArray Q ops.length (Array.replicate ops.length false) a w := by
  have hdk : ∀ g ∈ dig ops ops [], g.k = kindOp g.o.op := fun g hg => by
    obtain ⟨i, hi⟩ := List.getElem?_of_mem hg
    exact (dig_at hi).2.2.1
  obtain ⟨tr, htr, hp, hl⟩ := trace_ok (cf := cf) (rc := rc) (rnd := rnd) (N := N) (ops := ops) (fr0 := x.fr) (h0 := x.h) (ht0 := x.h) (ds0 := x.ds) (pre := []) hdk e
    ⟨rfl, fun j e h => (by simp at h), fun j e h => (by simp at h), fun j e h => (by simp at h), fun j e h => (by simp at h)⟩ (fun i c h => (by simp at h)) rfl
  simp only [List.nil_append] at hp hl
  have hdl : ∀ (l : List Oper) (acc : List Nat), (dig ops l acc).length = l.length := by
    intro l
    induction l with
    | nil => intro acc; rfl
    | cons o l ih => intro acc; simp [dig, ih]
  have hlen : tr.length = ops.length := by rw [← hdl ops [], ← htr, List.length_map]
  have hat : ∀ (i : Nat) (c : Ev), tr[i]? = some c → (dig ops ops [])[i]? = some c.g := fun i c h => by rw [← htr, List.getElem?_map, h]; rfl
  have hfree : ∀ (i : Nat) (c : Ev), tr[i]? = some c → ∀ (j : Nat) (p : Ev), j < i → tr[j]? = some p → c.g.m.testBit j = true ∨ Free c.g p.g := fun i c hc j p hj hpj => by
    have := (tmpsOk_at ht (fun q hq => (by simp at hq)) i c.g (hat i c hc)).2.2 j p.g hj (hat j p hpj)
    simpa using this
  have hback : ∀ (i : Nat) (c : Ev), tr[i]? = some c → ∀ e ∈ c.g.o.after.toList, Region.binds .any e = true → e.on < i := fun i c hc => by
    have := (tmpsOk_at ht (fun q hq => (by simp at hq)) i c.g (hat i c hc)).1
    rw [Nat.zero_add] at this
    exact fun e he hb => backOk_at this e he hb
  have main : ∀ (fuel : Nat) (listed : Array Bool) (σ1 : Sg) (a : Act) (w : World), listed.size = ops.length → Cl tr (fun j => listed.getD j false) → Iv w0 N x tr (fun j => listed.getD j false) σ1 a w → cnt listed ops.length ≤ fuel → σ.le σ1 →
      wpAnyIn (FW r) n PG .any ops.toArray Q fuel listed a w := by
    have fin : ∀ (listed : Array Bool) (σ1 : Sg) (a : Act) (w : World), listed.size = ops.length → Iv w0 N x tr (fun j => listed.getD j false) σ1 a w → (∀ i, i < ops.length → listed.getD i false = true) → σ.le σ1 → Q .normal a w := by
      intro listed σ1 a w hsz iv hall le
      have hL : ∀ (j : Nat) (c : Ev), tr[j]? = some c → listed.getD (0 + j) false = true := fun j c hc => by
        rw [Nat.zero_add]; exact hall j (by have := (List.getElem?_eq_some_iff.1 hc).1; omega)
      obtain ⟨c1, c2⟩ := canon_ht (L := fun j => listed.getD j false) (i := 0) hl (fun j c hc _ => hL j c hc)
      refine k σ1 a w le ⟨iv.size, fun t v hv => iv.fr t v (canon_fr (L := fun j => listed.getD j false) (i := 0) hl (fun v hv => hv) (fun j c hc _ => hL j c hc) v hv)⟩ (by have := iv.ds; rwa [c2] at this) ⟨iv.g.sub (fun k b hk => canon_g (L := fun j => listed.getD j false) (i := 0) hl (fun _ _ h => h) (fun j c hc _ => hL j c hc) k b hk), fun k hk => ?_⟩
      cases hs : σ1 k with
      | none => rfl
      | some p =>
        exfalso
        have hle := ht_n hl (Nat.le_refl _)
        rcases iv.dom k (by rw [hs]; simp) with h | ⟨j, c, h1, h2, h3, h4, h5, h6⟩
        · rw [c1] at h; simp only at h hle; omega
        · have := laid_n hl h1 h3 h4 (fun j' e' hj' he' => by
            cases hh : e'.tch with
            | false => rfl
            | true => have g1 : listed.getD j' false = false := h6 j' e' hj' he' hh; have g2 := hL j' e' he'; rw [Nat.zero_add, g1] at g2; cases g2)
          simp only at this
          omega
    have allReady : ∀ (listed : Array Bool), listed.size = ops.length → Region.ready .any ops.toArray listed = [] → ∀ i, i < ops.length → listed.getD i false = true := by
      intro listed hsz hre i
      induction i using Nat.strongRecOn with
      | _ i ih =>
        intro hi
        cases hh : listed.getD i false with
        | true => rfl
        | false =>
          exfalso
          obtain ⟨c, hc⟩ : ∃ c, tr[i]? = some c := ⟨tr[i]'(by omega), List.getElem?_eq_getElem _⟩
          have ho := (dig_at (hat i c hc)).1
          have : i ∈ Region.ready .any ops.toArray listed := ready_of hi (by rw [getD_lt (by omega)]; exact hh) ho (fun e he hb => ih e.on (hback i c hc e he hb) (by have := hback i c hc e he hb; omega))
          rw [hre] at this
          simp at this
    intro fuel
    induction fuel with
    | zero =>
      intro listed σ1 a w hsz hcl iv hcnt le
      have hall := cnt_zero (by omega : cnt listed ops.length = 0)
      refine ⟨?_, fin listed σ1 a w hsz iv hall le⟩
      cases hre : Region.ready .any ops.toArray listed with
      | nil => rfl
      | cons i l =>
        exfalso
        obtain ⟨h1, h2, _⟩ := ready_iff (listed := listed) (ops := ops) (i := i) (by rw [hre]; simp)
        rw [getD_lt (by omega), hall i h1] at h2; cases h2
    | succ fuel ih =>
      intro listed σ1 a w hsz hcl iv hcnt le
      refine ⟨fun hre => fin listed σ1 a w hsz iv (allReady listed hsz hre) le, fun i hi => ?_⟩
      obtain ⟨h1, h2, o, ho, h3⟩ := ready_iff hi
      rw [getD_lt (by omega)] at h2
      obtain ⟨c, hc⟩ : ∃ c, tr[i]? = some c := ⟨tr[i]'(by omega), List.getElem?_eq_getElem _⟩
      obtain ⟨d1, d2, d3, acc', d4, d5, d6, d7⟩ := dig_at (hat i c hc)
      rw [ho] at d1
      obtain rfl := Option.some.inj d1
      have hm : ∀ j, c.g.m.testBit j = true → listed.getD j false = true := fun j hj => by
        rw [d4] at hj
        obtain ⟨ed, he, hb, h | h⟩ := mask_bit hj
        · rw [← h]; exact h3 ed he hb
        · have hlt := hback i c hc ed he hb
          obtain ⟨c', hc'⟩ : ∃ c', tr[ed.on]? = some c' := ⟨tr[ed.on]'(by omega), List.getElem?_eq_getElem _⟩
          have := d7 ed.on c'.g hlt (hat _ _ hc')
          simp only [List.length_nil, Nat.zero_add] at this
          rw [List.getD_eq_getElem?_getD, this] at h
          exact hcl _ _ hc' (h3 ed he hb) j h
      have hil : i < listed.size := by omega
      obtain ⟨hit, hig⟩ := List.getElem?_eq_some_iff.1 hc
      have hsp : tr = tr.take i ++ c :: tr.drop (i + 1) := by rw [← hig, List.getElem_cons_drop hit, List.take_append_drop]
      have hil2 : (tr.take i).length = i := by simp; omega
      have hon : (fun j => (listed.setIfInBounds i true).getD j false) = on_ (fun j => listed.getD j false) i := by
        funext j; rw [getD_set hil]; rfl
      have step := Iv.step (w0 := w0) (cf := cf) (rc := rc) (rnd := rnd) (r := r) (N := N) (ops := ops) (x0 := x) (A := tr.take i) (B' := tr.drop (i + 1)) (e := c) (L := fun j => listed.getD j false) (σ := σ1) (a := a) (w := w) hr hcf hrc (by rw [← hsp]; exact hl) (by rw [← hsp]; exact hp) (by rw [← hsp]; exact hfree) d2 d3 (by rw [hil2]; exact h2) hm (by rw [← hsp]; exact hcl) (by rw [← hsp]; exact iv) n
        (wpAnyIn (FW r) n PG .any ops.toArray Q fuel (listed.setIfInBounds i true)) Q (fun σ' a' w' le' iv' => by
          rw [hil2, ← hsp, ← hon] at iv'
          refine ih _ σ' a' w' (by simp [hsz]) (fun i' c' hc' hL' j hj => ?_) iv' ?_ (le.trans le')
          · simp only at hL' ⊢
            rw [getD_set hil] at hL' ⊢
            split
            · rfl
            · split at hL'
              · rename_i hii; subst hii; rw [hc] at hc'; obtain rfl := Option.some.inj hc'; exact hm j hj
              · exact hcl _ _ hc' hL' j hj
          · have := (cnt_set hil h2 ops.length).1 h1; omega)
      unfold wpOpIn
      simp only [List.getElem?_toArray, ho]
      exact step
  refine main ops.length _ σ a w (by simp) (fun i c _ hL => ?_) ?_ ?_ (Sg.le.refl σ)
  · simp [Array.getD_eq_getD_getElem?, Array.getElem?_replicate] at hL
    split at hL <;> simp at hL
  · have hL0 : ∀ j, (fun j => (Array.replicate ops.length false).getD j false) j = false := fun j => by
      simp [Array.getD_eq_getD_getElem?, Array.getElem?_replicate]; split <;> rfl
    have h0 : htf (fun j => (Array.replicate ops.length false).getD j false) 0 x.h tr = x.h := htf_none (fun j c _ _ => hL0 _)
    refine ⟨hf.size, fun t v hv => ?_, by rw [df_none (fun j c _ _ => hL0 _)]; exact hd, by rw [h0]; exact H.g, by rw [gf_none (fun j c _ _ => hL0 _)]; exact H.g, fun k hk => .inl ?_⟩
    · rw [ff_at (fun j c _ _ => hL0 _)] at hv; exact hf.at_ t v hv
    · rw [h0]
      rcases Nat.lt_or_ge k x.h.n with h | h
      · exact h
      · exact absurd (H.up k h) hk
  · have : ∀ (l : Array Bool) k, cnt l k ≤ k := by
      intro l k
      induction k with
      | zero => exact Nat.le_refl _
      | succ k ih => simp only [cnt]; split <;> omega
    exact this _ _
end
end Go.Proofs.YtbcdgcodnkgdoaaGreat.Run
