/- The runner for closed calls: states cut down to what is needed, piece by piece. Conditions: none. -/
import Derived.Test.YtbcdgcodnkgdoaaGreatRu19
import Derived.Test.YtbcdgcodnkgdoaaGreatRv
set_option linter.unusedVariables false
set_option linter.unusedSimpArgs false
set_option maxRecDepth 10000
namespace Go.Proofs.YtbcdgcodnkgdoaaGreat.Run
open Go Go.RowKit

/-- What is kept of a state. -/
structure Ck where
  fr : List (Nat × V)
  hp : List (Nat × B)
  n : Nat
noncomputable def ckF (N : Nat) (l : List (Nat × V)) : T V := List.rec (motive := fun _ => T V) .e (fun p _ ih => fset N ih p.1 p.2) l
noncomputable def ckT (l : List (Nat × B)) : T B := List.rec (motive := fun _ => T B) .e (fun p _ ih => hput ih p.1 (.lf p.2)) l
noncomputable def Ck.x (N : Nat) (c : Ck) : X := ⟨ckF N c.fr, ⟨ckT c.hp, c.n⟩, []⟩
structure Pj where
  e : Xt
  fr : List (Option V)
  hp : List (Option B)
  n : Nat
  ds : List Df
noncomputable def prj (N : Nat) (fs hs : List Nat) (r : R (Xt × X)) : Option Pj := match r with
  | .ok (e, x) => some ⟨e, fs.map (fget N x.fr), hs.map x.h.get, x.h.n, x.ds⟩
  | .er _ => none
/-- From a state kept to a state kept. -/
structure Goes (cf : CF) (fuel N : Nat) (fn : FuncId) (c : Code) (a : Ck) (e : Xt) (b : Ck) : Prop where
  run : prj N (b.fr.map (·.1)) (b.hp.map (·.1)) (exC cf fuel false N fn c (a.x N)) = some ⟨e, b.fr.map (some ·.2), b.hp.map (some ·.2), b.n, []⟩
  low : (b.fr.all fun p => Nat.blt p.1 N) = true
theorem ckF_get {N : Nat} : ∀ {l : List (Nat × V)} {k : Nat} {v : V}, (l.all fun p => Nat.blt p.1 N) = true → fget N (ckF N l) k = some v → (k, v) ∈ l := by
  intro l
  induction l with
  | nil => intro k v _ h; exact (fget_e h).elim
  | cons p l ih =>
    intro k v hl h
    simp only [List.all_cons, Bool.and_eq_true] at hl
    rcases fget_set (blt_lt hl.1) (show fget N (fset N (ckF N l) p.1 p.2) k = some v from h) with ⟨rfl, rfl⟩ | ⟨_, h⟩
    · exact List.mem_cons_self ..
    · exact List.mem_cons_of_mem _ (ih hl.2 h)
theorem ckT_get {n : Nat} : ∀ {l : List (Nat × B)} {k : Nat} {b : B}, (⟨ckT l, n⟩ : Hp).get k = some b → (k, b) ∈ l := by
  intro l
  induction l with
  | nil =>
    intro k b h
    obtain ⟨_, h⟩ := iteB_none (show iteB (Nat.blt k 4096) ((T.e : T B).at k) none = some b from h)
    cases h
  | cons p l ih =>
    intro k b h
    obtain ⟨h1, h2⟩ := iteB_none (show iteB (Nat.blt k 4096) ((hput (ckT l) p.1 (.lf p.2)).at k) none = some b from h)
    rcases hput_at (blt_lt h1) h2 with ⟨rfl, h3⟩ | ⟨_, h3⟩
    · obtain rfl := Option.some.inj (show some p.2 = some b from h3)
      exact List.mem_cons_self ..
    · refine List.mem_cons_of_mem _ (ih ?_)
      show iteB (Nat.blt k 4096) ((ckT l).at k) none = some b
      rw [h1]; exact h3
theorem map_mem {α β : Type} {f : Nat → Option β} {l : List (Nat × β)} (h : (l.map (·.1)).map f = l.map (some ·.2)) {k : Nat} {b : β} (hm : (k, b) ∈ l) : f k = some b := by
  induction l with
  | nil => simp at hm
  | cons p l ih =>
    simp only [List.map_cons, List.cons.injEq] at h
    rcases List.mem_cons.1 hm with rfl | hm
    · exact h.1
    · exact ih h.2 hm
theorem goes_ok {w0 : World} {cf : CF} (hcf : CFok w0 cf) {fuel N : Nat} {fn : FuncId} {c : Code} {a b : Ck} {e : Xt} (h : Goes cf fuel N fn c a e b) : CodeOk w0 none N c (a.x N) (e, b.x N) := by
  obtain ⟨h, hl⟩ := h
  cases hr : exC cf fuel false N fn c (a.x N) with
  | er l => rw [hr] at h; cases h
  | ok q =>
    obtain ⟨e', x⟩ := q
    rw [hr] at h
    simp only [prj, Option.some.injEq, Pj.mk.injEq] at h
    obtain ⟨rfl, h1, h2, h3, h4⟩ := h
    intro n σ ac w Q hf hd H k
    refine exC_ok hcf fuel (r := none) rfl hr n σ ac w Q hf hd H fun σ' a' w' le hf' hd' H' => k σ' a' w' le ⟨hf'.size, fun t v hv => hf'.at_ t v (map_mem (α := Unit) h1 (ckF_get hl hv))⟩ (by rw [h4] at hd'; exact hd') ⟨H'.g.sub (fun j c hj => map_mem (α := Unit) h2 (ckT_get hj)), fun j hj => H'.up j (by rw [h3]; exact hj)⟩
theorem CodeOk.seq {w0 : World} {r : Option Nat} {N : Nat} {a b : Code} {x y : X} {q : Xt × X} (h1 : CodeOk w0 r N a x (.nrm, y)) (h2 : CodeOk w0 r N b y q) : CodeOk w0 r N (.seq a b) x q := by
  intro n σ ac w Q hf hd H k
  exact wpIn_seq (h1 n σ ac w _ hf hd H fun σ1 a1 w1 le1 hf1 hd1 H1 => h2 n σ1 a1 w1 Q hf1 hd1 H1 fun σ2 a2 w2 le2 => k σ2 a2 w2 (le1.trans le2))
theorem Den.keep {w0 w w' : World} {σ : Sg} {h : Hp} (H : Den w0 σ h w) (kp : Keeps No w w') : Den w0 σ h w' := by
  refine ⟨⟨H.g.kp.trans kp (fun _ hb => hb.elim), fun k q hk => ⟨(H.g.low k q hk).1, Nat.lt_of_lt_of_le (H.g.low k q hk).2 kp.size⟩, fun k b hk => ?_, H.g.inj⟩, H.up⟩
  obtain ⟨q, o, h1, h2, h3⟩ := H.g.obj k b hk
  exact ⟨q, o, h1, by rw [kp.block _ (H.g.low k q h1).2 (fun hn => hn)]; exact h2, h3⟩
/-- alive is not run again. -/
noncomputable def orc (cf : CF) : CF := fun g args h => Bool.rec (motive := fun _ => R A) (cf g args h) (match args with
  | [] => .ok ⟨.b true, h⟩
  | _ => .er [300]) (Nat.beq g 7)
theorem orc_ok {w0 : World} {cf : CF} (hcf : CFok w0 cf) : CFok w0 (orc cf) := by
  intro g args h q e
  unfold orc at e
  cases hg : Nat.beq g 7 with
  | false => rw [hg] at e; exact hcf g args h q e
  | true =>
    rw [hg] at e
    obtain rfl := Nat.eq_of_beq_eq_true hg
    cases args with
    | cons v l => cases e
    | nil =>
      obtain rfl := R.ok.inj (show R.ok (⟨.b true, h⟩ : A) = .ok q from e)
      obtain ⟨p, h1, h2⟩ := isTrue_ok alive_run
      refine ⟨((exN_ok w0 3000 60) 7 [] _ p h1).1, fun n σ w args' R hx H k => ?_⟩
      obtain rfl := Option.some.inj (denL_nil.symm.trans hx)
      refine (exN_ok w 3000 60 7 [] _ p h1).2 n (fun _ => none) w [] _ denL_nil (den_start w) fun σ' y w' _ hy H' => ?_
      rw [h2, den] at hy
      exact k σ (.bool true) w' (Sg.le.refl σ) (by rw [den]) (H.keep H'.g.kp) |> fun z => by rw [← Option.some.inj hy]; exact z
theorem callsIn_of_code {w0 : World} {g : FuncId} {fn : Func} {c : Code} {args : List V} {h : Hp} {b : Ck} {vs : List V} (hf : PG.funcs[g]? = some fn) (hb : fn.body = some c) (hl : args.length ≤ fn.ntmps) (hc : CodeOk w0 none fn.ntmps c ⟨args0 fn.ntmps 0 args .e, h, []⟩ (.ret, b.x fn.ntmps)) (hv : resV fn.ntmps (ckF fn.ntmps b.fr) ⟨ckT b.hp, b.n⟩ fn.results.toList = .ok vs)
    (n : Nat) (σ : Sg) (w : World) (args' : List Value) (R : Ending → World → Prop) (hx : denL σ args = some args') (H : Den w0 σ h w) (k : ∀ σ' x w', σ.le σ' → den σ' (tupV vs) = some x → Den w0 σ' ⟨ckT b.hp, b.n⟩ w' → R (.returned x) w') : CallsIn Fence.wide n PG g args'.toArray w R := by
  have hfr := enter_ok (N := fn.ntmps) hx hl
  refine callsIn_of_wp_marks (F := FW none) hf hb (fw_fn none g) (hc n σ _ w _ hfr trivial H fun σ' a' w' le hf' hd' H' => ?_)
  have hdd : a'.defers = [] := by
    cases hh : a'.defers with
    | nil => rfl
    | cons d r => rw [hh] at hd'; exact hd'.elim
  show LeavesInM (FW none) n PG fn a'.tmps R a'.defers .returning w'
  rw [hdd]
  obtain ⟨x, h1, h2⟩ := results_ok H'.g hf' hv
  exact ⟨x, h2, k σ' x w' le h1 H'⟩
end Go.Proofs.YtbcdgcodnkgdoaaGreat.Run
