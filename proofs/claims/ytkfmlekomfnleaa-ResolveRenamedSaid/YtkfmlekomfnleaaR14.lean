/- What the resolver's items come to, as data. Conditions: none. -/
import Derived.Test.YtkfmlekomfnleaaR13
set_option linter.unusedVariables false
set_option linter.unusedSimpArgs false
set_option maxRecDepth 10000
namespace Go.Proofs.Ytkfmlekomfnleaa
open Go Go.RowKit

def kindItemD (s : kStat.V) (at_ i : Int) (_ : Unit) (x : Str) : Ex Unit := bnd (freshD (sKinds s) at_ x i) fun _ => .ok ()
def memberItemD (s : kStat.V) (at_ i : Int) (_ : Unit) (x : kMember.V) : Ex Unit := bnd (freshD ((sMembers s).map nameOf) at_ x.1 i) fun _ => bnd (kindD s at_ x.2) fun _ => .ok ()
def predItemD (s : kStat.V) (at_ i : Int) (_ : Unit) (x : kPredT.V) : Ex Unit := predD s at_ x i
def classItemD (s : kStat.V) (at_ i : Int) (m : List (Str × Int)) (l : List Str) : Ex (List (Str × Int)) := bnd (classD s at_ l m) .ok
def sourceItemD (s : kStat.V) (at_ i : Int) (_ : Unit) (x : kSource.V) : Ex Unit := bnd (freshD ((sSources s).map nameOf) at_ x.1 i) fun _ => bnd (wantD (decide (0 ≤ x.2) && decide (x.2 ≤ 1000)) 4 at_) fun _ => .ok ()
def rulesItemD (s : kStat.V) (at_ i : Int) (_ : Unit) (x : kRule.V) : Ex Unit := ruleItemD s at_ x i
def rGet (s : kStat.V) (name : Str) : Option Int := getM (indexD ((sRules s).map nameOf)) name
abbrev Strs2 := Str × Str
def exceptItemD (s : kStat.V) (at_ i : Int) (m : List (Strs2 × Int)) (x : kExc.V) : Ex (List (Strs2 × Int)) :=
  bnd (wantD ((rGet s x.1).isSome && (rGet s x.2).isSome) 82 at_) fun _ => bnd (wantD (decide ((getM m x).getD 0 = 0)) 6 at_) fun _ => .ok (putM m x 1)
def totalItemD (s : kStat.V) (at_ i : Int) (_ : Unit) (x : kTotal.V) : Ex Unit := totalD s at_ x i
def countsD (s : kStat.V) : Bool :=
  decide (((sKinds s).length : Int) ≤ 16) && decide (((sMembers s).length : Int) ≤ 64) && decide (((sPreds s).length : Int) ≤ 256) && decide (((sClasses s).length : Int) ≤ 64) && decide (((sSources s).length : Int) ≤ 64) && decide (((sRules s).length : Int) ≤ 512) && decide (((sExcepts s).length : Int) ≤ 512) && decide (((sTotals s).length : Int) ≤ 64)
def itemsD (s : kStat.V) (a0 : Int) : Ex Int :=
  bnd (wantD (countsD s) 3 a0) fun _ =>
  bnd (eachD (kindItemD s) a0 0 () (sKinds s)) fun z =>
  bnd (eachD (memberItemD s) z.1 0 () (sMembers s)) fun z =>
  bnd (eachD (predItemD s) z.1 0 () (sPreds s)) fun z =>
  bnd (eachD (classItemD s) z.1 0 [] (sClasses s)) fun z =>
  bnd (eachD (sourceItemD s) z.1 0 () (sSources s)) fun z =>
  bnd (eachD (rulesItemD s) z.1 0 () (sRules s)) fun z =>
  bnd (eachD (exceptItemD s) z.1 0 [] (sExcepts s)) fun z =>
  bnd (eachD (totalItemD s) z.1 0 () (sTotals s)) fun z => .ok z.1
/-- Every item has passed. -/
theorem eachD_all {α σ : Type} {f : Int → Int → σ → α → Ex σ} {φ : α → Prop} (hf : ∀ a i y x y', f a i y x = .ok y' → φ x) : ∀ {l : List α} {at_ i : Int} {y : σ} {z : Int × σ}, eachD f at_ i y l = .ok z → ∀ x ∈ l, φ x := by
  intro l
  induction l with
  | nil => intro at_ i y z _ x hx; cases hx
  | cons x l ih =>
    intro at_ i y z h x' hx'
    obtain ⟨y', h1, h⟩ := bnd_inv h
    rcases List.mem_cons.1 hx' with rfl | hx'
    · exact hf _ _ _ _ _ h1
    · exact ih h x' hx'
theorem want_inv {b : Bool} {e at_ : Int} {u : Unit} (h : wantD b e at_ = .ok u) : b = true := by
  cases b with
  | true => rfl
  | false => cases h
theorem predD_four {s : kStat.V} {at_ i : Int} {p : kPredT.V} {u : Unit} (h : predD s at_ p i = .ok u) : p.2.2.1.length ≤ 4 := by
  obtain ⟨_, _, h⟩ := bnd_inv h
  obtain ⟨_, _, h⟩ := bnd_inv h
  obtain ⟨_, h1, h⟩ := bnd_inv h
  have := want_inv h1
  simp only [Bool.and_eq_true, decide_eq_true_eq] at this
  omega
theorem fourK_of {s : kStat.V} {at_ : Int} {z : Int × Unit} (h : eachD (predItemD s) at_ 0 () (sPreds s) = .ok z) : fourK s := eachD_all (fun _ _ _ _ _ h => predD_four h) h
/-- An answer whose errors are errors. -/
def NZ {α : Type} (x : Ex α) : Prop := ∀ e, x = .error e → e.1 ≠ 0
theorem NZ.ok {α : Type} {x : α} : NZ (.ok x : Ex α) := fun e h => by cases h
theorem NZ.bnd {α β : Type} {x : Ex α} {k : α → Ex β} (h : NZ x) (hk : ∀ y, x = .ok y → NZ (k y)) : NZ (Go.Proofs.Ytkfmlekomfnleaa.bnd x k) := by
  cases x with
  | error e => exact fun e' h' => by cases h'; exact h _ rfl
  | ok y => exact hk y rfl
theorem NZ.want {b : Bool} {e at_ : Int} (he : e ≠ 0) : NZ (wantD b e at_) := by
  cases b with
  | true => exact NZ.ok
  | false => exact fun e' h' => by cases h'; exact he
theorem NZ.fold {σ α : Type} {f : σ → α → Ex σ} (h : ∀ m x, NZ (f m x)) : ∀ {l : List α} {m : σ}, NZ (foldX f m l) := by
  intro l
  induction l with
  | nil => intro m; exact NZ.ok
  | cons x l ih => intro m; exact NZ.bnd (h m x) fun _ _ => ih
theorem NZ.each {σ α : Type} {f : Int → Int → σ → α → Ex σ} (h : ∀ a i m x, NZ (f a i m x)) : ∀ {l : List α} {a i : Int} {m : σ}, NZ (eachD f a i m l) := by
  intro l
  induction l with
  | nil => intro a i m; exact NZ.ok
  | cons x l ih => intro a i m; exact NZ.bnd (h a i m x) fun _ _ => ih
theorem nz_fresh {l : List Str} {a i : Int} {n : Str} : NZ (freshD l a n i) := NZ.bnd (NZ.want (by decide)) fun _ _ => NZ.bnd (NZ.want (by decide)) fun _ _ => NZ.ok
theorem nz_kind {s : kStat.V} {a : Int} {n : Str} : NZ (kindD s a n) := NZ.bnd (NZ.want (by decide)) fun _ _ => NZ.ok
theorem nz_pred {s : kStat.V} {a i : Int} {p : kPredT.V} : NZ (predD s a p i) := by
  refine NZ.bnd nz_fresh fun _ _ => NZ.bnd (NZ.want (by decide)) fun _ _ => NZ.bnd (NZ.want (by decide)) fun _ _ => NZ.bnd (NZ.fold fun _ _ => nz_kind) fun _ _ => ?_
  split
  · exact NZ.bnd (NZ.want (by decide)) fun _ _ => NZ.bnd (NZ.fold fun _ _ => NZ.bnd (NZ.want (by decide)) fun _ _ => NZ.ok) fun _ _ => NZ.ok
  · exact NZ.bnd (NZ.want (by decide)) fun _ _ => NZ.ok
theorem nz_class {s : kStat.V} {a : Int} {l : List Str} {m : List (Str × Int)} : NZ (classD s a l m) :=
  NZ.bnd (NZ.want (by decide)) fun _ _ => NZ.bnd (NZ.fold fun _ _ => NZ.bnd (NZ.want (by decide)) fun _ _ => NZ.bnd (NZ.want (by decide)) fun _ _ => NZ.bnd (NZ.want (by decide)) fun _ _ => NZ.bnd (NZ.want (by decide)) fun _ _ => NZ.ok) fun _ _ => NZ.ok
theorem nz_arg {s : kStat.V} {a : Int} {fr : Bool} {x : Sc} {v k : Str} : NZ (argD s a fr x v k) := by
  unfold argD
  split
  · exact NZ.bnd (NZ.want (by decide)) fun _ _ => NZ.bnd (NZ.want (by decide)) fun _ _ => NZ.ok
  · exact NZ.bnd (NZ.want (by decide)) fun _ _ => NZ.bnd (NZ.want (by decide)) fun _ _ => NZ.bnd (NZ.want (by decide)) fun _ _ => NZ.ok
theorem nz_args {s : kStat.V} {a : Int} {fr : Bool} {x : Sc} {l : List Str} {p : kPredT.V} : NZ (argsD s a fr x l p) := NZ.bnd (NZ.want (by decide)) fun _ _ => NZ.bnd (NZ.fold fun _ _ => nz_arg) fun _ _ => NZ.ok
theorem nz_literal {s : kStat.V} {a : Int} {fr : Bool} {x : Sc} {l : kLitT.V} : NZ (literalD s a fr x l) :=
  NZ.bnd (NZ.want (by decide)) fun _ _ => NZ.bnd (NZ.want (by decide)) fun _ _ => NZ.bnd nz_args fun _ _ => NZ.bnd (NZ.want (by decide)) fun _ _ => NZ.bnd (NZ.want (by decide)) fun _ _ => NZ.ok
theorem nz_term {s : kStat.V} {a : Int} {fr : Bool} {x : Sc} {t : kTerm.V} : NZ (termD s a fr x t) := by
  unfold termD
  split
  · exact NZ.bnd (NZ.want (by decide)) fun _ _ => NZ.bnd (NZ.want (by decide)) fun _ _ => NZ.ok
  · exact NZ.bnd (NZ.want (by decide)) fun _ _ => NZ.bnd (NZ.want (by decide)) fun _ _ => NZ.bnd (NZ.want (by decide)) fun _ _ => NZ.bnd nz_args fun _ _ => NZ.ok
theorem nz_unlike {s : kStat.V} {a : Int} {x : Sc} {v : Str} : NZ (unlikeD s a x v) := by
  unfold unlikeD
  split
  · exact NZ.ok
  · exact NZ.bnd (NZ.want (by decide)) fun _ _ => NZ.bnd (NZ.want (by decide)) fun _ _ => NZ.ok
theorem nz_guard {s : kStat.V} {a : Int} {fr : Bool} {x : Sc} {g : kGuard.V} : NZ (guardD s a fr x g) := NZ.bnd (NZ.want (by decide)) fun _ _ => NZ.bnd (NZ.fold fun _ _ => NZ.fold fun _ _ => nz_term) fun _ _ => NZ.ok
theorem nz_premise {s : kStat.V} {a : Int} {fr : Bool} {x : Sc} {p : kPrem.V} : NZ (premiseD s a fr x p) := by
  unfold premiseD
  split
  · exact NZ.bnd nz_literal fun _ _ => NZ.ok
  · split
    · exact NZ.bnd nz_guard fun _ _ => NZ.ok
    · split
      · exact NZ.bnd nz_unlike fun _ _ => NZ.bnd nz_unlike fun _ _ => NZ.ok
      · exact NZ.bnd (NZ.want (by decide)) fun _ _ => NZ.ok
theorem nz_rule {s : kStat.V} {a : Int} {x : kRule.V} : NZ (ruleD s a x) := NZ.bnd (NZ.fold fun _ _ => nz_premise) fun _ _ => NZ.bnd nz_literal fun _ _ => NZ.bnd (NZ.fold fun _ _ => NZ.bnd (NZ.want (by decide)) fun _ _ => NZ.ok) fun _ _ => NZ.ok
theorem nz_ruleItem {s : kStat.V} {a i : Int} {x : kRule.V} : NZ (ruleItemD s a x i) :=
  NZ.bnd nz_fresh fun _ _ => NZ.bnd (NZ.want (by decide)) fun _ _ => NZ.bnd (NZ.want (by decide)) fun _ _ => NZ.bnd (NZ.want (by decide)) fun _ _ => NZ.bnd (NZ.want (by decide)) fun _ _ => NZ.bnd (NZ.want (by decide)) fun _ _ => NZ.bnd nz_rule fun _ _ => NZ.ok
theorem nz_total {s : kStat.V} {a i : Int} {x : kTotal.V} : NZ (totalD s a x i) :=
  NZ.bnd nz_fresh fun _ _ => NZ.bnd nz_kind fun _ _ => NZ.bnd (NZ.want (by decide)) fun _ _ => NZ.bnd (NZ.fold fun _ _ => NZ.bnd (NZ.want (by decide)) fun _ _ => NZ.bnd (NZ.want (by decide)) fun _ _ => NZ.bnd (NZ.want (by decide)) fun _ _ => NZ.bnd (NZ.want (by decide)) fun _ _ => NZ.ok) fun _ _ =>
  NZ.bnd (NZ.want (by decide)) fun _ _ => NZ.bnd (NZ.want (by decide)) fun _ _ => NZ.ok
theorem nz_items {s : kStat.V} {a : Int} : NZ (itemsD s a) :=
  NZ.bnd (NZ.want (by decide)) fun _ _ => NZ.bnd (NZ.each fun _ _ _ _ => NZ.bnd nz_fresh fun _ _ => NZ.ok) fun _ _ => NZ.bnd (NZ.each fun _ _ _ _ => NZ.bnd nz_fresh fun _ _ => NZ.bnd nz_kind fun _ _ => NZ.ok) fun _ _ => NZ.bnd (NZ.each fun _ _ _ _ => nz_pred) fun _ _ =>
  NZ.bnd (NZ.each fun _ _ _ _ => NZ.bnd nz_class fun _ _ => NZ.ok) fun _ _ => NZ.bnd (NZ.each fun _ _ _ _ => NZ.bnd nz_fresh fun _ _ => NZ.bnd (NZ.want (by decide)) fun _ _ => NZ.ok) fun _ _ => NZ.bnd (NZ.each fun _ _ _ _ => nz_ruleItem) fun _ _ =>
  NZ.bnd (NZ.each fun _ _ _ _ => NZ.bnd (NZ.want (by decide)) fun _ _ => NZ.bnd (NZ.want (by decide)) fun _ _ => NZ.ok) fun _ _ => NZ.bnd (NZ.each fun _ _ _ _ => nz_total) fun _ _ => NZ.ok
end Go.Proofs.Ytkfmlekomfnleaa
