/- The plain law: Compare is an order, and zero just on the same literals. Conditions: none. -/
import Derived.Test.YtoknohnodlaimaaL2
set_option linter.unusedVariables false
set_option linter.unusedSimpArgs false
namespace Go.Proofs.Ytoknohnodlaimaa
open Go Go.RowKit

def ot (x y : Int) : Int := if x = 0 then y else x
theorem orI_cons (x : Int) (xs : List Int) : orI (x :: xs) = ot x (orI xs) := by
  unfold orI ot
  by_cases h : x = 0
  · rw [if_pos h, List.find?_cons_of_neg (by simp [h])]
  · rw [if_neg h, List.find?_cons_of_pos (by simp [h])]; rfl
theorem orI_nil : orI [] = 0 := rfl
theorem ot_zero {x y : Int} : ot x y = 0 ↔ x = 0 ∧ y = 0 := by
  unfold ot
  split
  · rename_i h; simp [h]
  · rename_i h; simp [h]
theorem ot_neg {x y x' y' : Int} (h : x' = -x) (k : y' = -y) : ot x' y' = -ot x y := by
  unfold ot
  by_cases hx : x = 0
  · rw [if_pos (by omega), if_pos hx, k]
  · rw [if_neg (by omega), if_neg hx, h]
structure Tr (x y z : Int) : Prop where
  l : 0 < x ∨ 0 < y ∨ z < 0 ∨ (x = 0 ∧ y = 0 ∧ z = 0)
  g : x < 0 ∨ y < 0 ∨ 0 < z ∨ (x = 0 ∧ y = 0 ∧ z = 0)
theorem Tr.zero : Tr 0 0 0 := ⟨by omega, by omega⟩
theorem Tr.ot {x y z X Y Z : Int} (h : Tr x y z) (k : Tr X Y Z) : Tr (ot x X) (ot y Y) (ot z Z) := by
  obtain ⟨h1, h2⟩ := h
  obtain ⟨k1, k2⟩ := k
  unfold Go.Proofs.Ytoknohnodlaimaa.ot
  by_cases hx : x = 0 <;> by_cases hy : y = 0 <;> by_cases hz : z = 0 <;> simp only [hx, hy, hz, if_true, if_false] <;> constructor <;> omega
theorem cmpI_neg (a b : Int) : cmpI b a = -cmpI a b := by
  unfold cmpI
  by_cases h : a < b
  · rw [if_pos h, if_neg (by omega), if_pos h]; rfl
  · rw [if_neg h]
    by_cases k : b < a
    · rw [if_pos k, if_neg h, if_pos k]
    · rw [if_neg k, if_neg h, if_neg k]; rfl
theorem cmpI_tr (a b c : Int) : Tr (cmpI a b) (cmpI b c) (cmpI a c) := by
  have h : ∀ a b : Int, (cmpI a b = -1 ∧ a < b) ∨ (cmpI a b = 1 ∧ b < a) ∨ (cmpI a b = 0 ∧ a = b) := fun a b => by
    unfold cmpI
    by_cases h : a < b
    · rw [if_pos h]; exact .inl ⟨rfl, h⟩
    · rw [if_neg h]
      by_cases k : b < a
      · rw [if_pos k]; exact .inr (.inl ⟨rfl, k⟩)
      · rw [if_neg k]; exact .inr (.inr ⟨rfl, by omega⟩)
  have h1 := h a b
  have h2 := h b c
  have h3 := h a c
  constructor <;> omega
theorem signD_neg (a b : Bool) : signD b a = -signD a b := by cases a <;> cases b <;> rfl
theorem signD_zero {a b : Bool} : signD a b = 0 ↔ a = b := by cases a <;> cases b <;> simp [signD]
theorem signD_tr (a b c : Bool) : Tr (signD a b) (signD b c) (signD a c) := by
  cases a <;> cases b <;> cases c <;> (constructor <;> decide)
theorem cmpL_cons (a b : Int) (r s : List Int) : cmpL (a :: r) (b :: s) = ot (cmpI a b) (cmpL r s) := by
  rw [cmpL]; rfl
theorem cmpL_neg : ∀ a b : List Int, cmpL b a = -cmpL a b
  | [], [] => rfl
  | [], _ :: _ => rfl
  | _ :: _, [] => rfl
  | a :: r, b :: s => by rw [cmpL_cons, cmpL_cons]; exact ot_neg (cmpI_neg a b) (cmpL_neg r s)
theorem cmpL_zero : ∀ {a b : List Int}, cmpL a b = 0 ↔ a = b
  | [], [] => by simp [cmpL]
  | [], _ :: _ => by simp [cmpL]
  | _ :: _, [] => by simp [cmpL]
  | a :: r, b :: s => by rw [cmpL_cons, ot_zero, cmpI_zero, cmpL_zero, List.cons.injEq]
theorem cmpL_tr : ∀ a b c : List Int, Tr (cmpL a b) (cmpL b c) (cmpL a c)
  | [], [], [] => Tr.zero
  | [], [], _ :: _ => ⟨by simp only [cmpL]; omega, by simp only [cmpL]; omega⟩
  | [], _ :: _, [] => ⟨by simp only [cmpL]; omega, by simp only [cmpL]; omega⟩
  | _ :: _, [], [] => ⟨by simp only [cmpL]; omega, by simp only [cmpL]; omega⟩
  | _ :: _, [], _ :: _ => ⟨by simp only [cmpL]; omega, by simp only [cmpL]; omega⟩
  | [], _ :: _, _ :: _ => ⟨by simp only [cmpL]; omega, by simp only [cmpL]; omega⟩
  | _ :: _, _ :: _, [] => ⟨by simp only [cmpL]; omega, by simp only [cmpL]; omega⟩
  | a :: r, b :: s, c :: t => by rw [cmpL_cons, cmpL_cons, cmpL_cons]; exact (cmpI_tr a b c).ot (cmpL_tr r s t)
theorem cmpLit_ot (a b : LitD) : cmpLit a b = ot (signD (decide (¬ a.guard = 0)) (decide (¬ b.guard = 0))) (ot (cmpI a.guard b.guard) (ot (cmpI a.pred b.pred) (ot (cmpL a.args b.args) (ot (cmpI a.value b.value) (ot (signD a.neg b.neg) 0))))) := by
  rw [cmpLit, orI_cons, orI_cons, orI_cons, orI_cons, orI_cons, orI_cons, orI_nil]
theorem cmpLit_neg (a b : LitD) : cmpLit b a = -cmpLit a b := by
  rw [cmpLit_ot, cmpLit_ot]
  exact ot_neg (signD_neg _ _) (ot_neg (cmpI_neg _ _) (ot_neg (cmpI_neg _ _) (ot_neg (cmpL_neg _ _) (ot_neg (cmpI_neg _ _) (ot_neg (signD_neg _ _) rfl)))))
theorem cmpLit_zero {a b : LitD} : cmpLit a b = 0 ↔ a = b := by
  rw [cmpLit_ot]
  simp only [ot_zero, signD_zero, cmpI_zero, cmpL_zero]
  constructor
  · rintro ⟨_, h1, h2, h3, h4, h5, _⟩
    cases a; cases b
    simp only [LitD.mk.injEq]
    exact ⟨h5, h2, h3, h4, h1⟩
  · rintro rfl
    simp
theorem cmpLit_tr (a b c : LitD) : Tr (cmpLit a b) (cmpLit b c) (cmpLit a c) := by
  rw [cmpLit_ot, cmpLit_ot, cmpLit_ot]
  exact (signD_tr _ _ _).ot ((cmpI_tr _ _ _).ot ((cmpI_tr _ _ _).ot ((cmpL_tr _ _ _).ot ((cmpI_tr _ _ _).ot ((signD_tr _ _ _).ot Tr.zero)))))
theorem ot_or {x y : Int} (hx : x = -1 ∨ x = 0 ∨ x = 1) (hy : y = -1 ∨ y = 0 ∨ y = 1) : ot x y = -1 ∨ ot x y = 0 ∨ ot x y = 1 := by
  unfold ot; split <;> assumption
theorem cmpI_or (a b : Int) : cmpI a b = -1 ∨ cmpI a b = 0 ∨ cmpI a b = 1 := by
  unfold cmpI
  split
  · exact .inl rfl
  · split
    · exact .inr (.inr rfl)
    · exact .inr (.inl rfl)
theorem signD_or (a b : Bool) : signD a b = -1 ∨ signD a b = 0 ∨ signD a b = 1 := by cases a <;> cases b <;> simp [signD]
theorem cmpL_or : ∀ a b : List Int, cmpL a b = -1 ∨ cmpL a b = 0 ∨ cmpL a b = 1
  | [], [] => .inr (.inl rfl)
  | [], _ :: _ => .inl rfl
  | _ :: _, [] => .inr (.inr rfl)
  | a :: r, b :: s => by rw [cmpL_cons]; exact ot_or (cmpI_or _ _) (cmpL_or r s)
theorem cmpLit_or (a b : LitD) : cmpLit a b = -1 ∨ cmpLit a b = 0 ∨ cmpLit a b = 1 := by
  rw [cmpLit_ot]
  exact ot_or (signD_or _ _) (ot_or (cmpI_or _ _) (ot_or (cmpI_or _ _) (ot_or (cmpL_or _ _) (ot_or (cmpI_or _ _) (ot_or (signD_or _ _) (.inr (.inl rfl)))))))
end Go.Proofs.Ytoknohnodlaimaa
