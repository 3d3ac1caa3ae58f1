/- The runner for closed calls: a statement in open order, what its run tells. Conditions: none. -/
import Derived.Test.YtbcdgcodnkgdoaaGreatRu13
set_option linter.unusedVariables false
set_option linter.unusedSimpArgs false
set_option maxRecDepth 10000
namespace Go.Proofs.YtbcdgcodnkgdoaaGreat.Run
open Go Go.RowKit

theorem eq1_eq {u v : V} (h : eq1 u v = true) : u = v := by
  unfold eq1 at h
  split at h <;> first
    | (cases h; done)
    | rfl
    | (simp only [Bool.and_eq_true, Nat.beq_eq, decide_eq_true_eq] at h; obtain ⟨⟨⟨rfl, rfl⟩, rfl⟩, rfl⟩ := h; rfl)
    | (simp only [Bool.and_eq_true, Nat.beq_eq, decide_eq_true_eq] at h; obtain ⟨rfl, rfl⟩ := h; rfl)
    | (simp only [Nat.beq_eq] at h; subst h; rfl)
    | (have := eq_of_beq h; subst this; rfl)
    | (have h2 := eq_of_beq h
       rename_i x y
       congr 1
       obtain ⟨a⟩ := x
       obtain ⟨b⟩ := y
       congr 1
       exact Array.toList_inj.1 h2)
theorem eqL_eq : ∀ {x y : List V}, eqL x y = true → x = y := by
  intro x
  induction x with
  | nil => intro y h; cases y with
    | nil => rfl
    | cons v r => cases h
  | cons u r ih => intro y h; cases y with
    | nil => cases h
    | cons v q =>
      simp only [eqL, Bool.and_eq_true] at h
      rw [eq1_eq h.1, ih h.2]
theorem eqW_eq {u v : V} (h : eqW u v = true) : u = v := by
  unfold eqW at h
  split at h
  · rw [eqL_eq h]
  · rw [eqL_eq h]
  · exact eq1_eq h
theorem within_bit {a b j : Nat} (h : within a b = true) (ha : a.testBit j = true) : b.testBit j = true := by
  unfold within at h
  rw [Nat.beq_eq] at h
  rw [← h] at ha
  rw [Nat.testBit_and] at ha
  simp only [Bool.and_eq_true] at ha
  exact ha.2
/-- An operation of a statement in open order, as it was run. -/
structure Ev where
  g : Dg
  b : Bool
  v : V
  fr : T V
  h : Hp
  h' : Hp
  ht : Hp
  ds : List Df
  ds' : List Df
  blk : B
def Ev.tch (e : Ev) : Bool := Nat.ble 3 e.g.k
/-- What is known of it by itself. -/
structure Own (cf : CF) (rc : RC) (rnd : Bool) (N : Nat) (e : Ev) : Prop where
  wn : wants N e.fr e.g.g = some e.b
  no : e.b = false → e.v = .t [] ∧ e.h' = e.h ∧ e.ds' = e.ds
  c1 : e.g.k ≤ 1 → e.b = true → e.h' = e.h ∧ e.ds' = e.ds ∧ ∃ q, opL N e.fr e.ht e.g.o.op = .ok q ∧ q.v = e.v
  c2 : e.g.k = 2 → e.b = true → e.h' = e.h.new e.blk ∧ e.ds' = e.ds ∧ (kindOp e.g.o.op = 2 → Lays N e.fr e.h.n e.g.o.op e.v e.blk)
  c3 : 3 ≤ e.g.k → e.b = true → ∃ q : AD, opS cf rc rnd N e.fr e.h e.ds e.g.o.op = .ok q ∧ q.v = e.v ∧ q.h = e.h' ∧ q.ds = e.ds'
/-- One after the other. -/
def Lnk (cf : CF) (rc : RC) (rnd : Bool) (N : Nat) : T V → Hp → Hp → List Df → List Ev → T V × Hp × Hp × List Df → Prop
  | fr, h, ht, ds, [], out => out = (fr, h, ht, ds)
  | fr, h, ht, ds, e :: r, out => e.fr = fr ∧ e.h = h ∧ e.ht = ht ∧ e.ds = ds ∧ Own cf rc rnd N e ∧ ∃ fr', putD N fr e.g.o.dst e.v = .ok fr' ∧ Lnk cf rc rnd N fr' e.h' (if e.tch then e.h' else ht) e.ds' r out
theorem Lnk.append {cf : CF} {rc : RC} {rnd : Bool} {N : Nat} {e : List Ev} : ∀ {l : List Ev} {fr h ht ds} {m : T V × Hp × Hp × List Df} {out}, Lnk cf rc rnd N fr h ht ds l m → Lnk cf rc rnd N m.1 m.2.1 m.2.2.1 m.2.2.2 e out → Lnk cf rc rnd N fr h ht ds (l ++ e) out := by
  intro l
  induction l with
  | nil => intro fr h ht ds m out h1 h2; obtain rfl : m = _ := h1; exact h2
  | cons x l ih => intro fr h ht ds m out h1 h2; obtain ⟨a, b, c, d, o, fr', p, h1⟩ := h1; exact ⟨a, b, c, d, o, fr', p, ih h1 h2⟩
/-- What two of them know of one another. -/
structure Two (N : Nat) (j : Nat) (a c : Ev) : Prop where
  tt : a.tch = true → c.tch = true → c.g.m.testBit j = true
  at_ : a.g.k = 2 → c.tch = true → c.g.m.testBit j = true
  ta : a.tch = true → c.g.k = 2 → c.g.m.testBit j = true
  tr : a.tch = true → c.g.k = 1 → c.b = true → c.g.m.testBit j = false → ∃ q, opL N c.fr a.ht c.g.o.op = .ok q ∧ q.v = c.v
  rt : a.g.k = 1 → a.b = true → c.tch = true → c.g.m.testBit j = false → ∃ q, opL N a.fr c.h' a.g.o.op = .ok q ∧ q.v = a.v
def Pairs (N : Nat) (pre : List Ev) : Prop := ∀ i c, pre[i]? = some c → ∀ j a, j < i → pre[j]? = some a → Two N j a c
structure Pre (pre : List Ev) (s : An) : Prop where
  i : s.i = pre.length
  tm : ∀ j e, pre[j]? = some e → e.tch = true → s.tm.testBit j = true
  am : ∀ j e, pre[j]? = some e → e.g.k = 2 → s.am.testBit j = true
  th : ∀ j e, pre[j]? = some e → e.tch = true → (j, e.ht) ∈ s.th
  rs : ∀ j e, pre[j]? = some e → e.g.k = 1 → e.b = true → (⟨j, e.g.o.op, e.fr, e.v⟩ : Rs) ∈ s.rs
theorem same_ok {N : Nat} {fr : T V} {h : Hp} {op : Op} {v : V} (e : same N fr h op v = true) : ∃ q, opL N fr h op = .ok q ∧ q.v = v := by
  have e0 : same N fr h op v = R.rec (motive := fun _ => Bool) (fun q => A.rec (motive := fun _ => Bool) (fun u _ => eqW u v) q) (fun _ => false) (opL N fr h op) := rfl
  rw [e0] at e
  cases hq : opL N fr h op with
  | er l => rw [hq] at e; cases e
  | ok q => rw [hq] at e; obtain ⟨u, h'⟩ := q; exact ⟨_, rfl, eqW_eq e⟩
theorem thOk_ok {N m : Nat} {fr : T V} {op : Op} {v : V} : ∀ {th : List (Nat × Hp)}, thOk N m fr op v th = true → ∀ r ∈ th, m.testBit r.1 = false → ∃ q, opL N fr r.2 op = .ok q ∧ q.v = v := by
  intro th
  induction th with
  | nil => intro _ r hr; simp at hr
  | cons x th ih =>
    intro e r hr hm
    have e0 : thOk N m fr op v (x :: th) = iteB (m.testBit x.1) (thOk N m fr op v th) (iteB (same N fr x.2 op v) (thOk N m fr op v th) false) := rfl
    rw [e0] at e
    have key : thOk N m fr op v th = true ∧ (m.testBit x.1 = false → same N fr x.2 op v = true) := by
      cases hb : m.testBit x.1 with
      | true => rw [hb] at e; exact ⟨e, fun h => by cases h⟩
      | false =>
        rw [hb] at e
        cases hs : same N fr x.2 op v with
        | true => rw [hs] at e; exact ⟨e, fun _ => rfl⟩
        | false => rw [hs] at e; cases e
    rcases List.mem_cons.1 hr with rfl | hr
    · exact same_ok (key.2 hm)
    · exact ih key.1 r hr hm
theorem rsOk_ok {N m : Nat} {h : Hp} : ∀ {rs : List Rs}, rsOk N m h rs = true → ∀ r ∈ rs, m.testBit r.i = false → ∃ q, opL N r.fr h r.op = .ok q ∧ q.v = r.v := by
  intro rs
  induction rs with
  | nil => intro _ r hr; simp at hr
  | cons x rs ih =>
    intro e r hr hm
    have e0 : rsOk N m h (x :: rs) = iteB (m.testBit x.i) (rsOk N m h rs) (iteB (same N x.fr h x.op x.v) (rsOk N m h rs) false) := rfl
    rw [e0] at e
    have key : rsOk N m h rs = true ∧ (m.testBit x.i = false → same N x.fr h x.op x.v = true) := by
      cases hb : m.testBit x.i with
      | true => rw [hb] at e; exact ⟨e, fun h => by cases h⟩
      | false =>
        rw [hb] at e
        cases hs : same N x.fr h x.op x.v with
        | true => rw [hs] at e; exact ⟨e, fun _ => rfl⟩
        | false => rw [hs] at e; cases e
    rcases List.mem_cons.1 hr with rfl | hr
    · exact same_ok (key.2 hm)
    · exact ih key.1 r hr hm
theorem getElem?_snoc {α : Type} {l : List α} {x y : α} {i : Nat} (h : (l ++ [x])[i]? = some y) : (i < l.length ∧ l[i]? = some y) ∨ (i = l.length ∧ y = x) := by
  by_cases hi : i < l.length
  · rw [List.getElem?_append_left hi] at h; exact .inl ⟨hi, h⟩
  · rw [List.getElem?_append_right (by omega)] at h
    have := (List.getElem?_eq_some_iff.1 h).1
    simp at this
    have hi2 : i = l.length := by omega
    subst hi2
    simp at h
    exact .inr ⟨rfl, h.symm⟩
theorem stepA_ok {N : Nat} {fr : T V} {d : Option Nat} {r : R AD} {q : VX} (e : stepA N fr d r = .ok q) : ∃ p : AD, r = .ok p ∧ putD N fr d p.v = .ok q.x.fr ∧ q.v = p.v ∧ q.x.h = p.h ∧ q.x.ds = p.ds := by
  obtain ⟨p, e1, e2⟩ := bind_ok e
  obtain ⟨v, h', ds'⟩ := p
  obtain ⟨fr', e3, e4⟩ := bind_ok (show (putD N fr d v).bind _ = .ok q from e2)
  obtain rfl := R.ok.inj e4
  exact ⟨_, e1, e3, rfl, rfl, rfl⟩
theorem exP_ok {N : Nat} {fr : T V} {d : Option Nat} {op : Op} {b : Bool} {ht : Hp} {q : VX} (e : exP N fr d op b ht = .ok q) : putD N fr d q.v = .ok q.x.fr ∧ (b = false → q.v = .t []) ∧ (b = true → ∃ p, opL N fr ht op = .ok p ∧ p.v = q.v) := by
  obtain ⟨p, e1, e2⟩ := bind_ok e
  obtain ⟨v, h'⟩ := p
  obtain ⟨fr', e3, e4⟩ := bind_ok (show (putD N fr d v).bind _ = .ok q from e2)
  obtain rfl := R.ok.inj e4
  refine ⟨e3, fun hb => ?_, fun hb => ?_⟩
  · subst hb
    have := R.ok.inj (show (R.ok ⟨.t [], ht⟩ : R A) = .ok ⟨v, h'⟩ from e1)
    simp only [A.mk.injEq] at this
    exact this.1.symm
  · subst hb
    exact ⟨_, e1, rfl⟩
/-- One operation more. -/
theorem trace1 {cf : CF} {rc : RC} {rnd : Bool} {N : Nat} {g : Dg} {s s' : An} {pre : List Ev} {fr0 : T V} {h0 ht0 : Hp} {ds0 : List Df} (hk : g.k = kindOp g.o.op)
    (e : exA2 cf rc rnd N g.o.dst g.o.op g.g g.k g.m s.i s.tm s.am s.ht s.th s.rs s.x = .ok s') (hp : Pre pre s) (hpp : Pairs N pre) (hl : Lnk cf rc rnd N fr0 h0 ht0 ds0 pre (s.x.fr, s.x.h, s.ht, s.x.ds)) :
    ∃ ev : Ev, ev.g = g ∧ Pre (pre ++ [ev]) s' ∧ Pairs N (pre ++ [ev]) ∧ Lnk cf rc rnd N fr0 h0 ht0 ds0 (pre ++ [ev]) (s'.x.fr, s'.x.h, s'.ht, s'.x.ds) := by
  obtain ⟨i, tm, am, ht, th, rs, x⟩ := s
  obtain ⟨fr, h, ds⟩ := x
  simp only at e hl
  have e0 : exA2 cf rc rnd N g.o.dst g.o.op g.g g.k g.m i tm am ht th rs ⟨fr, h, ds⟩ = Option.rec (motive := fun _ => R An) (.er [163]) (fun b => R.tag (match g.o.dst with | some d => 2000 + d | none => 1999) (exA1 cf rc rnd N g.o.dst g.o.op b g.k g.m i tm am ht th rs fr h ds)) (wants N fr g.g) := rfl
  rw [e0] at e
  cases hw : wants N fr g.g with
  | none => rw [hw] at e; cases e
  | some b =>
  rw [hw] at e
  replace e := tag_ok e
  unfold exA1 at e
  have hpi : i = pre.length := hp.i
  -- what is common: the lists
  have mk : ∀ (ev : Ev) (s' : An), ev.g = g → ev.fr = fr → ev.h = h → ev.ht = ht → ev.ds = ds → Own cf rc rnd N ev → putD N fr g.o.dst ev.v = .ok s'.x.fr → s'.x.h = ev.h' → s'.ht = (if ev.tch then ev.h' else ht) → s'.x.ds = ev.ds' → s'.i = i + 1 →
      (ev.tch = true → s'.tm = tm ||| 2 ^ i ∧ s'.am = am ∧ s'.th = (i, ht) :: th ∧ s'.rs = rs ∧ within (tm ||| am) g.m = true ∧ rsOk N g.m ev.h' rs = true) →
      (ev.g.k = 2 → s'.tm = tm ∧ s'.am = am ||| 2 ^ i ∧ s'.th = th ∧ s'.rs = rs ∧ within tm g.m = true) →
      (ev.g.k = 1 → s'.tm = tm ∧ s'.am = am ∧ s'.th = th ∧ (b = true → s'.rs = ⟨i, g.o.op, fr, ev.v⟩ :: rs ∧ thOk N g.m fr g.o.op ev.v th = true) ∧ (b = false → s'.rs = rs)) →
      (ev.g.k = 0 → s'.tm = tm ∧ s'.am = am ∧ s'.th = th ∧ s'.rs = rs) → ev.b = b →
      Pre (pre ++ [ev]) s' ∧ Pairs N (pre ++ [ev]) ∧ Lnk cf rc rnd N fr0 h0 ht0 ds0 (pre ++ [ev]) (s'.x.fr, s'.x.h, s'.ht, s'.x.ds) := by
    intro ev s' hg hfr hh hht hds own hput hh' hht' hds' hi k3 k2 k1 k0 hb
    have hkk : ev.g.k = 0 ∨ ev.g.k = 1 ∨ ev.g.k = 2 ∨ ev.tch = true := by
      unfold Ev.tch
      by_cases hle : 3 ≤ ev.g.k
      · exact .inr (.inr (.inr (by simpa [Nat.ble_eq] using hle)))
      · omega
    have htm : ∀ j, tm.testBit j = true → s'.tm.testBit j = true := fun j hj => by
      rcases hkk with q | q | q | q
      · rw [(k0 q).1]; exact hj
      · rw [(k1 q).1]; exact hj
      · rw [(k2 q).1]; exact hj
      · rw [(k3 q).1, Nat.testBit_or, hj]; rfl
    have ham : ∀ j, am.testBit j = true → s'.am.testBit j = true := fun j hj => by
      rcases hkk with q | q | q | q
      · rw [(k0 q).2.1]; exact hj
      · rw [(k1 q).2.1]; exact hj
      · rw [(k2 q).2.1, Nat.testBit_or, hj]; rfl
      · rw [(k3 q).2.1]; exact hj
    have hth : ∀ r, r ∈ th → r ∈ s'.th := fun r hr => by
      rcases hkk with q | q | q | q
      · rw [(k0 q).2.2.1]; exact hr
      · rw [(k1 q).2.2.1]; exact hr
      · rw [(k2 q).2.2.1]; exact hr
      · rw [(k3 q).2.2.1]; exact List.mem_cons_of_mem _ hr
    have hrs : ∀ r, r ∈ rs → r ∈ s'.rs := fun r hr => by
      rcases hkk with q | q | q | q
      · rw [(k0 q).2.2.2]; exact hr
      · cases b with
        | true => rw [((k1 q).2.2.2.1 rfl).1]; exact List.mem_cons_of_mem _ hr
        | false => rw [(k1 q).2.2.2.2 rfl]; exact hr
      · rw [(k2 q).2.2.2.1]; exact hr
      · rw [(k3 q).2.2.2.1]; exact hr
    refine ⟨⟨by rw [hi, hpi]; simp, fun j e hj ht' => ?_, fun j e hj ha => ?_, fun j e hj ht' => ?_, fun j e hj hr hbb => ?_⟩, fun c ec hc j a hjc ha => ?_, ?_⟩
    · rcases getElem?_snoc hj with ⟨_, hj⟩ | ⟨rfl, rfl⟩
      · exact htm j (hp.tm j e hj ht')
      · rw [(k3 ht').1, Nat.testBit_or, ← hpi, Nat.testBit_two_pow_self]; simp
    · rcases getElem?_snoc hj with ⟨_, hj⟩ | ⟨rfl, rfl⟩
      · exact ham j (hp.am j e hj ha)
      · rw [(k2 ha).2.1, Nat.testBit_or, ← hpi, Nat.testBit_two_pow_self]; simp
    · rcases getElem?_snoc hj with ⟨_, hj⟩ | ⟨rfl, rfl⟩
      · exact hth _ (hp.th j e hj ht')
      · rw [(k3 ht').2.2.1, ← hpi, hht]; exact List.mem_cons_self ..
    · rcases getElem?_snoc hj with ⟨_, hj⟩ | ⟨rfl, rfl⟩
      · exact hrs _ (hp.rs j e hj hr hbb)
      · rw [((k1 hr).2.2.2.1 (hb ▸ hbb)).1, ← hpi, hfr, hg]; exact List.mem_cons_self ..
    · rcases getElem?_snoc hc with ⟨hlt, hc⟩ | ⟨rfl, rfl⟩
      · rw [List.getElem?_append_left (by omega)] at ha
        exact hpp c ec hc j a hjc ha
      · rw [List.getElem?_append_left hjc] at ha
        refine ⟨fun h1 h2 => ?_, fun h1 h2 => ?_, fun h1 h2 => ?_, fun h1 h2 h3 h4 => ?_, fun h1 h2 h3 h4 => ?_⟩
        · rw [hg]; exact within_bit (k3 h2).2.2.2.2.1 (by rw [Nat.testBit_or, hp.tm j a ha h1]; rfl)
        · rw [hg]; exact within_bit (k3 h2).2.2.2.2.1 (by rw [Nat.testBit_or, hp.am j a ha h1]; simp)
        · rw [hg]; exact within_bit (k2 h2).2.2.2.2 (hp.tm j a ha h1)
        · have := thOk_ok ((k1 h2).2.2.2.1 (hb ▸ h3)).2 _ (hp.th j a ha h1) (by rw [← hg]; exact h4)
          rw [hfr, hg]; exact this
        · exact rsOk_ok (k3 h3).2.2.2.2.2 _ (hp.rs j a ha h1 h2) (by rw [← hg]; exact h4)
    · refine Lnk.append hl ⟨hfr, hh, hht, hds, own, _, by rw [hg]; exact hput, ?_⟩
      show _ = _
      rw [hh', hht', hds']
  split at e
  · rename_i hk0
    obtain ⟨q, e1, e2⟩ := bind_ok e
    obtain rfl := R.ok.inj e2
    obtain ⟨p1, p2, p3⟩ := exP_ok e1
    refine ⟨⟨g, b, q.v, fr, h, h, ht, ds, ds, .dfr⟩, rfl, mk _ _ rfl rfl rfl rfl rfl ⟨hw, fun hb => ⟨p2 hb, rfl, rfl⟩, fun _ hb => ⟨rfl, rfl, p3 hb⟩, fun hh _ => ?_, fun hh _ => ?_⟩ p1 rfl ?_ rfl rfl ?_ ?_ ?_ ?_ rfl⟩
    · simp only at hh; omega
    · simp only at hh; omega
    · rw [if_neg]; simp [Ev.tch]; omega
    · intro hh; simp [Ev.tch] at hh; omega
    · intro hh; simp only at hh; omega
    · intro hh; simp only at hh; omega
    · intro _; exact ⟨rfl, rfl, rfl, rfl⟩
  · rename_i hk1
    obtain ⟨q, e1, e2⟩ := bind_ok e
    obtain ⟨e3, e4⟩ := when_ok e2
    obtain rfl := R.ok.inj e4
    obtain ⟨p1, p2, p3⟩ := exP_ok e1
    refine ⟨⟨g, b, q.v, fr, h, h, ht, ds, ds, .dfr⟩, rfl, mk _ _ rfl rfl rfl rfl rfl ⟨hw, fun hb => ⟨p2 hb, rfl, rfl⟩, fun _ hb => ⟨rfl, rfl, p3 hb⟩, fun hh _ => ?_, fun hh _ => ?_⟩ p1 rfl ?_ rfl rfl ?_ ?_ ?_ ?_ rfl⟩
    · simp only at hh; omega
    · simp only at hh; omega
    · rw [if_neg]; simp [Ev.tch]; omega
    · intro hh; simp [Ev.tch] at hh; omega
    · intro hh; simp only at hh; omega
    · intro _
      refine ⟨rfl, rfl, rfl, fun hb => ?_, fun hb => ?_⟩
      · subst hb; exact ⟨rfl, e3⟩
      · subst hb; rfl
    · intro hh; simp only at hh; omega
  · rename_i hk2
    obtain ⟨q, e1, e2⟩ := bind_ok e
    obtain ⟨e3, e4⟩ := when_ok e2
    obtain rfl := R.ok.inj e4
    obtain ⟨p, p1, p2, p3, p4, p5⟩ := stepA_ok e1
    cases b with
    | false =>
      obtain rfl := R.ok.inj (show (R.ok ⟨.t [], h, ds⟩ : R AD) = .ok p from p1)
      simp only at p2 p3 p4 p5
      refine ⟨⟨g, false, .t [], fr, h, h, ht, ds, ds, .dfr⟩, rfl, mk _ _ rfl rfl rfl rfl rfl ⟨hw, fun _ => ⟨rfl, rfl, rfl⟩, fun _ hb => (by cases hb), fun _ hb => (by cases hb), fun _ hb => (by cases hb)⟩ p2 p4 ?_ p5 rfl ?_ ?_ ?_ ?_ rfl⟩
      · rw [if_neg]; simp [Ev.tch]; omega
      · intro hh; simp [Ev.tch] at hh; omega
      · intro _; exact ⟨rfl, rfl, rfl, rfl, e3⟩
      · intro hh; simp only at hh; omega
      · intro hh; simp only at hh; omega
    | true =>
      obtain ⟨r, r1, rfl⟩ := withD_ok (show withD ds (opL N fr h g.o.op) = .ok p from p1)
      obtain ⟨bl, b1, b2⟩ := new_ok (by rw [← hk]; exact hk2) r1
      simp only at p2 p3 p4 p5
      refine ⟨⟨g, true, r.v, fr, h, r.h, ht, ds, ds, bl⟩, rfl, mk _ _ rfl rfl rfl rfl rfl ⟨hw, fun hb => (by cases hb), fun hh _ => ?_, fun _ _ => ⟨b1, rfl, fun _ => b2⟩, fun hh _ => ?_⟩ p2 p4 ?_ p5 rfl ?_ ?_ ?_ ?_ rfl⟩
      · simp only at hh; omega
      · simp only at hh; omega
      · rw [if_neg]; simp [Ev.tch]; omega
      · intro hh; simp [Ev.tch] at hh; omega
      · intro _; exact ⟨rfl, rfl, rfl, rfl, e3⟩
      · intro hh; simp only at hh; omega
      · intro hh; simp only at hh; omega
  · rename_i n0 n1 n2
    obtain ⟨q, e1, e2⟩ := bind_ok e
    obtain ⟨e3, e4⟩ := when_ok e2
    simp only [Bool.and_eq_true] at e3
    obtain rfl := R.ok.inj e4
    obtain ⟨p, p1, p2, p3, p4, p5⟩ := stepA_ok e1
    have hk3 : 3 ≤ g.k := by
      rcases Nat.lt_or_ge g.k 3 with hlt | hge
      · exfalso
        have : g.k = 0 ∨ g.k = 1 ∨ g.k = 2 := by omega
        rcases this with h | h | h
        · exact n0 h
        · exact n1 h
        · exact n2 h
      · exact hge
    refine ⟨⟨g, b, p.v, fr, h, p.h, ht, ds, p.ds, .dfr⟩, rfl, mk _ _ rfl rfl rfl rfl rfl ⟨hw, fun hb => ?_, fun hh _ => ?_, fun hh _ => ?_, fun _ hb => ?_⟩ p2 p4 ?_ p5 rfl ?_ ?_ ?_ ?_ rfl⟩
    · subst hb
      obtain rfl := R.ok.inj (show (R.ok ⟨.t [], h, ds⟩ : R AD) = .ok p from p1)
      exact ⟨rfl, rfl, rfl⟩
    · simp only at hh; omega
    · simp only at hh; omega
    · subst hb
      exact ⟨p, p1, rfl, rfl, rfl⟩
    · rw [if_pos]
      · exact p4
      · simp [Ev.tch]; exact hk3
    · intro _; exact ⟨rfl, rfl, rfl, rfl, e3.1, by rw [← p4]; exact e3.2⟩
    · intro hh; simp only at hh; omega
    · intro hh; simp only at hh; omega
    · intro hh; simp only at hh; omega
theorem trace_ok {cf : CF} {rc : RC} {rnd : Bool} {N : Nat} {ops : List Oper} {fr0 : T V} {h0 ht0 : Hp} {ds0 : List Df} : ∀ {l : List Dg} {s s' : An} {pre : List Ev}, (∀ g ∈ l, g.k = kindOp g.o.op) → exA cf rc rnd N l s = .ok s' → Pre pre s → Pairs N pre →
    Lnk cf rc rnd N fr0 h0 ht0 ds0 pre (s.x.fr, s.x.h, s.ht, s.x.ds) → ∃ tr : List Ev, tr.map (·.g) = l ∧ Pairs N (pre ++ tr) ∧ Lnk cf rc rnd N fr0 h0 ht0 ds0 (pre ++ tr) (s'.x.fr, s'.x.h, s'.ht, s'.x.ds) := by
  intro l
  induction l with
  | nil =>
    intro s s' pre _ e hp hpp hl
    obtain rfl := R.ok.inj (show R.ok s = .ok s' from e)
    exact ⟨[], rfl, by simpa using hpp, by simpa using hl⟩
  | cons g l ih =>
    intro s s' pre hk e hp hpp hl
    obtain ⟨s1, e1, e2⟩ := bind_ok (show (_ : R An).bind _ = .ok s' from e)
    have e1' : exA2 cf rc rnd N g.o.dst g.o.op g.g g.k g.m s.i s.tm s.am s.ht s.th s.rs s.x = .ok s1 := e1
    obtain ⟨ev, h1, h2, h3, h4⟩ := trace1 (hk g (by simp)) e1' hp hpp hl
    obtain ⟨tr, h5, h6, h7⟩ := ih (fun g hg => hk g (by simp [hg])) e2 h2 h3 h4
    exact ⟨ev :: tr, by simp [h1, h5], by simpa using h6, by simpa using h7⟩
end Go.Proofs.YtbcdgcodnkgdoaaGreat.Run
