/- Parts of the proof: Book.apart..: the lists of a book are each its own. · Book.apart..: the lists of a book are each its own. · Book.Ints, Strings, Kinds: a list of one's own laid into a book. · Book.Apart: the lists of a book are apart. · lemmas Conditions: none. -/
import Derived.Test.YtkfmlekomfnleaaGreatPo8
/- Book.apart..: the lists of a book are each its own. Conditions: none. -/
set_option linter.unusedVariables false
set_option linter.unusedSimpArgs false
set_option maxRecDepth 10000
namespace Go.Proofs.YtkfmlekomfnleaaGreat
open Go Go.RowKit Go.MapKept

attribute [local irreducible] RW CW
theorem apartBytes_none {b7 : Nat} {w : World} (h : mem w (fun b => ¬ No b) b7 0 nilV) : Ret Tryz.prog 60 [ptrV b7] w (.bool true) := by
  have hle : Mem.le (mem w (fun b => ¬ No b)) (mem w (fun b => ¬ No b)) := Mem.le_refl _
  refine Calls.enter Tryz.func60 rfl _ rfl rfl (S := No) (H := []) trivial ?_
  refine Ja ?_;refine Jd ?_;refine Jb ?_;refine Ja ?_;refine Jc ?_;refine Jf ?_;refine Je ?_
  refine RW.load_ro rfl hle h rfl rfl ?_
  refine Jd ?_;refine Jb ?_
  refine CW.seq ?_
  refine Ja ?_;refine Jd ?_;refine Jb ?_
  refine CW.block ?_
  refine CW.loop (ι := Unit) (fun _ => [(3, nilV), (4, .int .i64 0)]) (fun _ => []) (fun _ => 0) () ⟨rfl, rfl, trivial⟩ (fun h => h) (fun _ => ?_)
  refine CW.seq ?_
  refine Ja ?_;refine Jc ?_;refine Jc ?_;refine Jg ?_;refine Jk ?_;refine Jb ?_
  refine CW.ite rfl (fun h => absurd h (by decide)) (fun _ => ?_)
  refine CW.exit rfl ?_
  refine PW.code ?_
  refine Ja ?_;refine Jd ?_;refine Jb ?_
  refine CW.seq ?_
  refine Ja ?_;refine Jd ?_;refine Jb ?_
  refine CW.block ?_
  refine CW.loop (ι := Unit) (fun _ => [(3, nilV), (6, nilV), (7, .int .i64 0)]) (fun _ => []) (fun _ => 0) () ⟨rfl, rfl, rfl, trivial⟩ (fun h => h) (fun _ => ?_)
  refine CW.seq ?_
  refine Ja ?_;refine Jc ?_;refine Jc ?_;refine Jg ?_;refine Jk ?_;refine Jb ?_
  refine CW.ite rfl (fun h => absurd h (by decide)) (fun _ => ?_)
  refine CW.exit rfl ?_
  refine PW.code ?_
  refine CW.seq ?_
  refine Ja ?_;refine Jd ?_;refine Jb ?_
  refine CW.block ?_
  refine CW.loop (ι := Unit) (fun _ => [(3, nilV), (6, nilV), (10, .int .i64 0)]) (fun _ => []) (fun _ => 0) () ⟨rfl, rfl, rfl, trivial⟩ (fun h => h) (fun _ => ?_)
  refine CW.seq ?_
  refine Ja ?_;refine Jc ?_;refine Jc ?_;refine Jg ?_;refine Jk ?_;refine Jb ?_
  refine CW.ite rfl (fun h => absurd h (by decide)) (fun _ => ?_)
  refine CW.exit rfl ?_
  refine PW.code ?_
  refine Ja ?_;refine Jd ?_;refine Jb ?_
  exact CW.ret1 rfl Tryz.results60 rfl rfl fun w hw => ⟨rfl, hw.kp⟩
theorem apartMarks_none {b7 : Nat} {w : World} (h : mem w (fun b => ¬ No b) b7 3 nilV) : Ret Tryz.prog 63 [ptrV b7] w (.bool true) := by
  have hle : Mem.le (mem w (fun b => ¬ No b)) (mem w (fun b => ¬ No b)) := Mem.le_refl _
  refine Calls.enter Tryz.func63 rfl _ rfl rfl (S := No) (H := []) trivial ?_
  refine Ja ?_;refine Jd ?_;refine Jb ?_;refine Ja ?_;refine Jc ?_;refine Jf ?_;refine Je ?_
  refine RW.load_ro rfl hle h rfl rfl ?_
  refine Jd ?_;refine Jb ?_
  refine CW.seq ?_
  refine Ja ?_;refine Jd ?_;refine Jb ?_
  refine CW.block ?_
  refine CW.loop (ι := Unit) (fun _ => [(3, nilV), (4, .int .i64 0)]) (fun _ => []) (fun _ => 0) () ⟨rfl, rfl, trivial⟩ (fun h => h) (fun _ => ?_)
  refine CW.seq ?_
  refine Ja ?_;refine Jc ?_;refine Jc ?_;refine Jg ?_;refine Jk ?_;refine Jb ?_
  refine CW.ite rfl (fun h => absurd h (by decide)) (fun _ => ?_)
  refine CW.exit rfl ?_
  refine PW.code ?_
  refine Ja ?_;refine Jd ?_;refine Jb ?_
  refine CW.seq ?_
  refine Ja ?_;refine Jd ?_;refine Jb ?_
  refine CW.block ?_
  refine CW.loop (ι := Unit) (fun _ => [(3, nilV), (6, nilV), (7, .int .i64 0)]) (fun _ => []) (fun _ => 0) () ⟨rfl, rfl, rfl, trivial⟩ (fun h => h) (fun _ => ?_)
  refine CW.seq ?_
  refine Ja ?_;refine Jc ?_;refine Jc ?_;refine Jg ?_;refine Jk ?_;refine Jb ?_
  refine CW.ite rfl (fun h => absurd h (by decide)) (fun _ => ?_)
  refine CW.exit rfl ?_
  refine PW.code ?_
  refine CW.seq ?_
  refine Ja ?_;refine Jd ?_;refine Jb ?_
  refine CW.block ?_
  refine CW.loop (ι := Unit) (fun _ => [(3, nilV), (6, nilV), (10, .int .i64 0)]) (fun _ => []) (fun _ => 0) () ⟨rfl, rfl, rfl, trivial⟩ (fun h => h) (fun _ => ?_)
  refine CW.seq ?_
  refine Ja ?_;refine Jc ?_;refine Jc ?_;refine Jg ?_;refine Jk ?_;refine Jb ?_
  refine CW.ite rfl (fun h => absurd h (by decide)) (fun _ => ?_)
  refine CW.exit rfl ?_
  refine PW.code ?_
  refine Ja ?_;refine Jd ?_;refine Jb ?_
  exact CW.ret1 rfl Tryz.results63 rfl rfl fun w hw => ⟨rfl, hw.kp⟩
theorem apartPairs_none {b7 : Nat} {w : World} (h : mem w (fun b => ¬ No b) b7 4 nilV) : Ret Tryz.prog 64 [ptrV b7] w (.bool true) := by
  have hle : Mem.le (mem w (fun b => ¬ No b)) (mem w (fun b => ¬ No b)) := Mem.le_refl _
  refine Calls.enter Tryz.func64 rfl _ rfl rfl (S := No) (H := []) trivial ?_
  refine Ja ?_;refine Jd ?_;refine Jb ?_;refine Ja ?_;refine Jc ?_;refine Jf ?_;refine Je ?_
  refine RW.load_ro rfl hle h rfl rfl ?_
  refine Jd ?_;refine Jb ?_
  refine CW.seq ?_
  refine Ja ?_;refine Jd ?_;refine Jb ?_
  refine CW.block ?_
  refine CW.loop (ι := Unit) (fun _ => [(3, nilV), (4, .int .i64 0)]) (fun _ => []) (fun _ => 0) () ⟨rfl, rfl, trivial⟩ (fun h => h) (fun _ => ?_)
  refine CW.seq ?_
  refine Ja ?_;refine Jc ?_;refine Jc ?_;refine Jg ?_;refine Jk ?_;refine Jb ?_
  refine CW.ite rfl (fun h => absurd h (by decide)) (fun _ => ?_)
  refine CW.exit rfl ?_
  refine PW.code ?_
  refine Ja ?_;refine Jd ?_;refine Jb ?_
  refine CW.seq ?_
  refine Ja ?_;refine Jd ?_;refine Jb ?_
  refine CW.block ?_
  refine CW.loop (ι := Unit) (fun _ => [(3, nilV), (6, nilV), (7, .int .i64 0)]) (fun _ => []) (fun _ => 0) () ⟨rfl, rfl, rfl, trivial⟩ (fun h => h) (fun _ => ?_)
  refine CW.seq ?_
  refine Ja ?_;refine Jc ?_;refine Jc ?_;refine Jg ?_;refine Jk ?_;refine Jb ?_
  refine CW.ite rfl (fun h => absurd h (by decide)) (fun _ => ?_)
  refine CW.exit rfl ?_
  refine PW.code ?_
  refine CW.seq ?_
  refine Ja ?_;refine Jd ?_;refine Jb ?_
  refine CW.block ?_
  refine CW.loop (ι := Unit) (fun _ => [(3, nilV), (6, nilV), (10, .int .i64 0)]) (fun _ => []) (fun _ => 0) () ⟨rfl, rfl, rfl, trivial⟩ (fun h => h) (fun _ => ?_)
  refine CW.seq ?_
  refine Ja ?_;refine Jc ?_;refine Jc ?_;refine Jg ?_;refine Jk ?_;refine Jb ?_
  refine CW.ite rfl (fun h => absurd h (by decide)) (fun _ => ?_)
  refine CW.exit rfl ?_
  refine PW.code ?_
  refine Ja ?_;refine Jd ?_;refine Jb ?_
  exact CW.ret1 rfl Tryz.results64 rfl rfl fun w hw => ⟨rfl, hw.kp⟩
theorem apartMoney_none {b7 : Nat} {w : World} (h : mem w (fun b => ¬ No b) b7 5 nilV) : Ret Tryz.prog 65 [ptrV b7] w (.bool true) := by
  have hle : Mem.le (mem w (fun b => ¬ No b)) (mem w (fun b => ¬ No b)) := Mem.le_refl _
  refine Calls.enter Tryz.func65 rfl _ rfl rfl (S := No) (H := []) trivial ?_
  refine Ja ?_;refine Jd ?_;refine Jb ?_;refine Ja ?_;refine Jc ?_;refine Jf ?_;refine Je ?_
  refine RW.load_ro rfl hle h rfl rfl ?_
  refine Jd ?_;refine Jb ?_
  refine CW.seq ?_
  refine Ja ?_;refine Jd ?_;refine Jb ?_
  refine CW.block ?_
  refine CW.loop (ι := Unit) (fun _ => [(3, nilV), (4, .int .i64 0)]) (fun _ => []) (fun _ => 0) () ⟨rfl, rfl, trivial⟩ (fun h => h) (fun _ => ?_)
  refine CW.seq ?_
  refine Ja ?_;refine Jc ?_;refine Jc ?_;refine Jg ?_;refine Jk ?_;refine Jb ?_
  refine CW.ite rfl (fun h => absurd h (by decide)) (fun _ => ?_)
  refine CW.exit rfl ?_
  refine PW.code ?_
  refine Ja ?_;refine Jd ?_;refine Jb ?_
  refine CW.seq ?_
  refine Ja ?_;refine Jd ?_;refine Jb ?_
  refine CW.block ?_
  refine CW.loop (ι := Unit) (fun _ => [(3, nilV), (6, nilV), (7, .int .i64 0)]) (fun _ => []) (fun _ => 0) () ⟨rfl, rfl, rfl, trivial⟩ (fun h => h) (fun _ => ?_)
  refine CW.seq ?_
  refine Ja ?_;refine Jc ?_;refine Jc ?_;refine Jg ?_;refine Jk ?_;refine Jb ?_
  refine CW.ite rfl (fun h => absurd h (by decide)) (fun _ => ?_)
  refine CW.exit rfl ?_
  refine PW.code ?_
  refine CW.seq ?_
  refine Ja ?_;refine Jd ?_;refine Jb ?_
  refine CW.block ?_
  refine CW.loop (ι := Unit) (fun _ => [(3, nilV), (6, nilV), (10, .int .i64 0)]) (fun _ => []) (fun _ => 0) () ⟨rfl, rfl, rfl, trivial⟩ (fun h => h) (fun _ => ?_)
  refine CW.seq ?_
  refine Ja ?_;refine Jc ?_;refine Jc ?_;refine Jg ?_;refine Jk ?_;refine Jb ?_
  refine CW.ite rfl (fun h => absurd h (by decide)) (fun _ => ?_)
  refine CW.exit rfl ?_
  refine PW.code ?_
  refine Ja ?_;refine Jd ?_;refine Jb ?_
  exact CW.ret1 rfl Tryz.results65 rfl rfl fun w hw => ⟨rfl, hw.kp⟩
theorem apartSteps_none {b7 : Nat} {w : World} (h : mem w (fun b => ¬ No b) b7 6 nilV) : Ret Tryz.prog 76 [ptrV b7] w (.bool true) := by
  have hle : Mem.le (mem w (fun b => ¬ No b)) (mem w (fun b => ¬ No b)) := Mem.le_refl _
  refine Calls.enter Tryz.func76 rfl _ rfl rfl (S := No) (H := []) trivial ?_
  refine Ja ?_;refine Jd ?_;refine Jb ?_;refine Ja ?_;refine Jc ?_;refine Jf ?_;refine Je ?_
  refine RW.load_ro rfl hle h rfl rfl ?_
  refine Jd ?_;refine Jb ?_
  refine CW.seq ?_
  refine Ja ?_;refine Jd ?_;refine Jb ?_
  refine CW.block ?_
  refine CW.loop (ι := Unit) (fun _ => [(3, nilV), (4, .int .i64 0)]) (fun _ => []) (fun _ => 0) () ⟨rfl, rfl, trivial⟩ (fun h => h) (fun _ => ?_)
  refine CW.seq ?_
  refine Ja ?_;refine Jc ?_;refine Jc ?_;refine Jg ?_;refine Jk ?_;refine Jb ?_
  refine CW.ite rfl (fun h => absurd h (by decide)) (fun _ => ?_)
  refine CW.exit rfl ?_
  refine PW.code ?_
  refine Ja ?_;refine Jd ?_;refine Jb ?_
  refine CW.seq ?_
  refine Ja ?_;refine Jd ?_;refine Jb ?_
  refine CW.block ?_
  refine CW.loop (ι := Unit) (fun _ => [(3, nilV), (6, nilV), (7, .int .i64 0)]) (fun _ => []) (fun _ => 0) () ⟨rfl, rfl, rfl, trivial⟩ (fun h => h) (fun _ => ?_)
  refine CW.seq ?_
  refine Ja ?_;refine Jc ?_;refine Jc ?_;refine Jg ?_;refine Jk ?_;refine Jb ?_
  refine CW.ite rfl (fun h => absurd h (by decide)) (fun _ => ?_)
  refine CW.exit rfl ?_
  refine PW.code ?_
  refine CW.seq ?_
  refine Ja ?_;refine Jd ?_;refine Jb ?_
  refine CW.block ?_
  refine CW.loop (ι := Unit) (fun _ => [(3, nilV), (6, nilV), (10, .int .i64 0)]) (fun _ => []) (fun _ => 0) () ⟨rfl, rfl, rfl, trivial⟩ (fun h => h) (fun _ => ?_)
  refine CW.seq ?_
  refine Ja ?_;refine Jc ?_;refine Jc ?_;refine Jg ?_;refine Jk ?_;refine Jb ?_
  refine CW.ite rfl (fun h => absurd h (by decide)) (fun _ => ?_)
  refine CW.exit rfl ?_
  refine PW.code ?_
  refine Ja ?_;refine Jd ?_;refine Jb ?_
  exact CW.ret1 rfl Tryz.results76 rfl rfl fun w hw => ⟨rfl, hw.kp⟩
theorem apartChoices_none {b7 : Nat} {w : World} (h : mem w (fun b => ¬ No b) b7 7 nilV) : Ret Tryz.prog 66 [ptrV b7] w (.bool true) := by
  have hle : Mem.le (mem w (fun b => ¬ No b)) (mem w (fun b => ¬ No b)) := Mem.le_refl _
  refine Calls.enter Tryz.func66 rfl _ rfl rfl (S := No) (H := []) trivial ?_
  refine Ja ?_;refine Jd ?_;refine Jb ?_;refine Ja ?_;refine Jc ?_;refine Jf ?_;refine Je ?_
  refine RW.load_ro rfl hle h rfl rfl ?_
  refine Jd ?_;refine Jb ?_
  refine CW.seq ?_
  refine Ja ?_;refine Jd ?_;refine Jb ?_
  refine CW.block ?_
  refine CW.loop (ι := Unit) (fun _ => [(3, nilV), (4, .int .i64 0)]) (fun _ => []) (fun _ => 0) () ⟨rfl, rfl, trivial⟩ (fun h => h) (fun _ => ?_)
  refine CW.seq ?_
  refine Ja ?_;refine Jc ?_;refine Jc ?_;refine Jg ?_;refine Jk ?_;refine Jb ?_
  refine CW.ite rfl (fun h => absurd h (by decide)) (fun _ => ?_)
  refine CW.exit rfl ?_
  refine PW.code ?_
  refine Ja ?_;refine Jd ?_;refine Jb ?_
  refine CW.seq ?_
  refine Ja ?_;refine Jd ?_;refine Jb ?_
  refine CW.block ?_
  refine CW.loop (ι := Unit) (fun _ => [(3, nilV), (6, nilV), (7, .int .i64 0)]) (fun _ => []) (fun _ => 0) () ⟨rfl, rfl, rfl, trivial⟩ (fun h => h) (fun _ => ?_)
  refine CW.seq ?_
  refine Ja ?_;refine Jc ?_;refine Jc ?_;refine Jg ?_;refine Jk ?_;refine Jb ?_
  refine CW.ite rfl (fun h => absurd h (by decide)) (fun _ => ?_)
  refine CW.exit rfl ?_
  refine PW.code ?_
  refine CW.seq ?_
  refine Ja ?_;refine Jd ?_;refine Jb ?_
  refine CW.block ?_
  refine CW.loop (ι := Unit) (fun _ => [(3, nilV), (6, nilV), (10, .int .i64 0)]) (fun _ => []) (fun _ => 0) () ⟨rfl, rfl, rfl, trivial⟩ (fun h => h) (fun _ => ?_)
  refine CW.seq ?_
  refine Ja ?_;refine Jc ?_;refine Jc ?_;refine Jg ?_;refine Jk ?_;refine Jb ?_
  refine CW.ite rfl (fun h => absurd h (by decide)) (fun _ => ?_)
  refine CW.exit rfl ?_
  refine PW.code ?_
  refine Ja ?_;refine Jd ?_;refine Jb ?_
  exact CW.ret1 rfl Tryz.results66 rfl rfl fun w hw => ⟨rfl, hw.kp⟩
theorem apartLits_none {b7 : Nat} {w : World} (h : mem w (fun b => ¬ No b) b7 8 nilV) : Ret Tryz.prog 77 [ptrV b7] w (.bool true) := by
  have hle : Mem.le (mem w (fun b => ¬ No b)) (mem w (fun b => ¬ No b)) := Mem.le_refl _
  refine Calls.enter Tryz.func77 rfl _ rfl rfl (S := No) (H := []) trivial ?_
  refine Ja ?_;refine Jd ?_;refine Jb ?_;refine Ja ?_;refine Jc ?_;refine Jf ?_;refine Je ?_
  refine RW.load_ro rfl hle h rfl rfl ?_
  refine Jd ?_;refine Jb ?_
  refine CW.seq ?_
  refine Ja ?_;refine Jd ?_;refine Jb ?_
  refine CW.block ?_
  refine CW.loop (ι := Unit) (fun _ => [(3, nilV), (4, .int .i64 0)]) (fun _ => []) (fun _ => 0) () ⟨rfl, rfl, trivial⟩ (fun h => h) (fun _ => ?_)
  refine CW.seq ?_
  refine Ja ?_;refine Jc ?_;refine Jc ?_;refine Jg ?_;refine Jk ?_;refine Jb ?_
  refine CW.ite rfl (fun h => absurd h (by decide)) (fun _ => ?_)
  refine CW.exit rfl ?_
  refine PW.code ?_
  refine Ja ?_;refine Jd ?_;refine Jb ?_
  refine CW.seq ?_
  refine Ja ?_;refine Jd ?_;refine Jb ?_
  refine CW.block ?_
  refine CW.loop (ι := Unit) (fun _ => [(3, nilV), (6, nilV), (7, .int .i64 0)]) (fun _ => []) (fun _ => 0) () ⟨rfl, rfl, rfl, trivial⟩ (fun h => h) (fun _ => ?_)
  refine CW.seq ?_
  refine Ja ?_;refine Jc ?_;refine Jc ?_;refine Jg ?_;refine Jk ?_;refine Jb ?_
  refine CW.ite rfl (fun h => absurd h (by decide)) (fun _ => ?_)
  refine CW.exit rfl ?_
  refine PW.code ?_
  refine CW.seq ?_
  refine Ja ?_;refine Jd ?_;refine Jb ?_
  refine CW.block ?_
  refine CW.loop (ι := Unit) (fun _ => [(3, nilV), (6, nilV), (10, .int .i64 0)]) (fun _ => []) (fun _ => 0) () ⟨rfl, rfl, rfl, trivial⟩ (fun h => h) (fun _ => ?_)
  refine CW.seq ?_
  refine Ja ?_;refine Jc ?_;refine Jc ?_;refine Jg ?_;refine Jk ?_;refine Jb ?_
  refine CW.ite rfl (fun h => absurd h (by decide)) (fun _ => ?_)
  refine CW.exit rfl ?_
  refine PW.code ?_
  refine Ja ?_;refine Jd ?_;refine Jb ?_
  exact CW.ret1 rfl Tryz.results77 rfl rfl fun w hw => ⟨rfl, hw.kp⟩
theorem apartRules_none {b7 : Nat} {w : World} (h : mem w (fun b => ¬ No b) b7 9 nilV) : Ret Tryz.prog 78 [ptrV b7] w (.bool true) := by
  have hle : Mem.le (mem w (fun b => ¬ No b)) (mem w (fun b => ¬ No b)) := Mem.le_refl _
  refine Calls.enter Tryz.func78 rfl _ rfl rfl (S := No) (H := []) trivial ?_
  refine Ja ?_;refine Jd ?_;refine Jb ?_;refine Ja ?_;refine Jc ?_;refine Jf ?_;refine Je ?_
  refine RW.load_ro rfl hle h rfl rfl ?_
  refine Jd ?_;refine Jb ?_
  refine CW.seq ?_
  refine Ja ?_;refine Jd ?_;refine Jb ?_
  refine CW.block ?_
  refine CW.loop (ι := Unit) (fun _ => [(3, nilV), (4, .int .i64 0)]) (fun _ => []) (fun _ => 0) () ⟨rfl, rfl, trivial⟩ (fun h => h) (fun _ => ?_)
  refine CW.seq ?_
  refine Ja ?_;refine Jc ?_;refine Jc ?_;refine Jg ?_;refine Jk ?_;refine Jb ?_
  refine CW.ite rfl (fun h => absurd h (by decide)) (fun _ => ?_)
  refine CW.exit rfl ?_
  refine PW.code ?_
  refine Ja ?_;refine Jd ?_;refine Jb ?_
  refine CW.seq ?_
  refine Ja ?_;refine Jd ?_;refine Jb ?_
  refine CW.block ?_
  refine CW.loop (ι := Unit) (fun _ => [(3, nilV), (6, nilV), (7, .int .i64 0)]) (fun _ => []) (fun _ => 0) () ⟨rfl, rfl, rfl, trivial⟩ (fun h => h) (fun _ => ?_)
  refine CW.seq ?_
  refine Ja ?_;refine Jc ?_;refine Jc ?_;refine Jg ?_;refine Jk ?_;refine Jb ?_
  refine CW.ite rfl (fun h => absurd h (by decide)) (fun _ => ?_)
  refine CW.exit rfl ?_
  refine PW.code ?_
  refine CW.seq ?_
  refine Ja ?_;refine Jd ?_;refine Jb ?_
  refine CW.block ?_
  refine CW.loop (ι := Unit) (fun _ => [(3, nilV), (6, nilV), (10, .int .i64 0)]) (fun _ => []) (fun _ => 0) () ⟨rfl, rfl, rfl, trivial⟩ (fun h => h) (fun _ => ?_)
  refine CW.seq ?_
  refine Ja ?_;refine Jc ?_;refine Jc ?_;refine Jg ?_;refine Jk ?_;refine Jb ?_
  refine CW.ite rfl (fun h => absurd h (by decide)) (fun _ => ?_)
  refine CW.exit rfl ?_
  refine PW.code ?_
  refine Ja ?_;refine Jd ?_;refine Jb ?_
  exact CW.ret1 rfl Tryz.results78 rfl rfl fun w hw => ⟨rfl, hw.kp⟩
theorem apartTerms_none {b7 : Nat} {w : World} (h : mem w (fun b => ¬ No b) b7 10 nilV) : Ret Tryz.prog 73 [ptrV b7] w (.bool true) := by
  have hle : Mem.le (mem w (fun b => ¬ No b)) (mem w (fun b => ¬ No b)) := Mem.le_refl _
  refine Calls.enter Tryz.func73 rfl _ rfl rfl (S := No) (H := []) trivial ?_
  refine Ja ?_;refine Jd ?_;refine Jb ?_;refine Ja ?_;refine Jc ?_;refine Jf ?_;refine Je ?_
  refine RW.load_ro rfl hle h rfl rfl ?_
  refine Jd ?_;refine Jb ?_
  refine CW.seq ?_
  refine Ja ?_;refine Jd ?_;refine Jb ?_
  refine CW.block ?_
  refine CW.loop (ι := Unit) (fun _ => [(3, nilV), (4, .int .i64 0)]) (fun _ => []) (fun _ => 0) () ⟨rfl, rfl, trivial⟩ (fun h => h) (fun _ => ?_)
  refine CW.seq ?_
  refine Ja ?_;refine Jc ?_;refine Jc ?_;refine Jg ?_;refine Jk ?_;refine Jb ?_
  refine CW.ite rfl (fun h => absurd h (by decide)) (fun _ => ?_)
  refine CW.exit rfl ?_
  refine PW.code ?_
  refine Ja ?_;refine Jd ?_;refine Jb ?_
  refine CW.seq ?_
  refine Ja ?_;refine Jd ?_;refine Jb ?_
  refine CW.block ?_
  refine CW.loop (ι := Unit) (fun _ => [(3, nilV), (6, nilV), (7, .int .i64 0)]) (fun _ => []) (fun _ => 0) () ⟨rfl, rfl, rfl, trivial⟩ (fun h => h) (fun _ => ?_)
  refine CW.seq ?_
  refine Ja ?_;refine Jc ?_;refine Jc ?_;refine Jg ?_;refine Jk ?_;refine Jb ?_
  refine CW.ite rfl (fun h => absurd h (by decide)) (fun _ => ?_)
  refine CW.exit rfl ?_
  refine PW.code ?_
  refine CW.seq ?_
  refine Ja ?_;refine Jd ?_;refine Jb ?_
  refine CW.block ?_
  refine CW.loop (ι := Unit) (fun _ => [(3, nilV), (6, nilV), (10, .int .i64 0)]) (fun _ => []) (fun _ => 0) () ⟨rfl, rfl, rfl, trivial⟩ (fun h => h) (fun _ => ?_)
  refine CW.seq ?_
  refine Ja ?_;refine Jc ?_;refine Jc ?_;refine Jg ?_;refine Jk ?_;refine Jb ?_
  refine CW.ite rfl (fun h => absurd h (by decide)) (fun _ => ?_)
  refine CW.exit rfl ?_
  refine PW.code ?_
  refine Ja ?_;refine Jd ?_;refine Jb ?_
  exact CW.ret1 rfl Tryz.results73 rfl rfl fun w hw => ⟨rfl, hw.kp⟩
theorem apartGuards_none {b7 : Nat} {w : World} (h : mem w (fun b => ¬ No b) b7 11 nilV) : Ret Tryz.prog 79 [ptrV b7] w (.bool true) := by
  have hle : Mem.le (mem w (fun b => ¬ No b)) (mem w (fun b => ¬ No b)) := Mem.le_refl _
  refine Calls.enter Tryz.func79 rfl _ rfl rfl (S := No) (H := []) trivial ?_
  refine Ja ?_;refine Jd ?_;refine Jb ?_;refine Ja ?_;refine Jc ?_;refine Jf ?_;refine Je ?_
  refine RW.load_ro rfl hle h rfl rfl ?_
  refine Jd ?_;refine Jb ?_
  refine CW.seq ?_
  refine Ja ?_;refine Jd ?_;refine Jb ?_
  refine CW.block ?_
  refine CW.loop (ι := Unit) (fun _ => [(3, nilV), (4, .int .i64 0)]) (fun _ => []) (fun _ => 0) () ⟨rfl, rfl, trivial⟩ (fun h => h) (fun _ => ?_)
  refine CW.seq ?_
  refine Ja ?_;refine Jc ?_;refine Jc ?_;refine Jg ?_;refine Jk ?_;refine Jb ?_
  refine CW.ite rfl (fun h => absurd h (by decide)) (fun _ => ?_)
  refine CW.exit rfl ?_
  refine PW.code ?_
  refine Ja ?_;refine Jd ?_;refine Jb ?_
  refine CW.seq ?_
  refine Ja ?_;refine Jd ?_;refine Jb ?_
  refine CW.block ?_
  refine CW.loop (ι := Unit) (fun _ => [(3, nilV), (6, nilV), (7, .int .i64 0)]) (fun _ => []) (fun _ => 0) () ⟨rfl, rfl, rfl, trivial⟩ (fun h => h) (fun _ => ?_)
  refine CW.seq ?_
  refine Ja ?_;refine Jc ?_;refine Jc ?_;refine Jg ?_;refine Jk ?_;refine Jb ?_
  refine CW.ite rfl (fun h => absurd h (by decide)) (fun _ => ?_)
  refine CW.exit rfl ?_
  refine PW.code ?_
  refine CW.seq ?_
  refine Ja ?_;refine Jd ?_;refine Jb ?_
  refine CW.block ?_
  refine CW.loop (ι := Unit) (fun _ => [(3, nilV), (6, nilV), (10, .int .i64 0)]) (fun _ => []) (fun _ => 0) () ⟨rfl, rfl, rfl, trivial⟩ (fun h => h) (fun _ => ?_)
  refine CW.seq ?_
  refine Ja ?_;refine Jc ?_;refine Jc ?_;refine Jg ?_;refine Jk ?_;refine Jb ?_
  refine CW.ite rfl (fun h => absurd h (by decide)) (fun _ => ?_)
  refine CW.exit rfl ?_
  refine PW.code ?_
  refine Ja ?_;refine Jd ?_;refine Jb ?_
  exact CW.ret1 rfl Tryz.results79 rfl rfl fun w hw => ⟨rfl, hw.kp⟩
theorem apartNumbers_none {b7 : Nat} {w : World} (h : mem w (fun b => ¬ No b) b7 12 nilV) : Ret Tryz.prog 75 [ptrV b7] w (.bool true) := by
  have hle : Mem.le (mem w (fun b => ¬ No b)) (mem w (fun b => ¬ No b)) := Mem.le_refl _
  refine Calls.enter Tryz.func75 rfl _ rfl rfl (S := No) (H := []) trivial ?_
  refine Ja ?_;refine Jd ?_;refine Jb ?_;refine Ja ?_;refine Jc ?_;refine Jf ?_;refine Je ?_
  refine RW.load_ro rfl hle h rfl rfl ?_
  refine Jd ?_;refine Jb ?_
  refine CW.seq ?_
  refine Ja ?_;refine Jd ?_;refine Jb ?_
  refine CW.block ?_
  refine CW.loop (ι := Unit) (fun _ => [(3, nilV), (4, .int .i64 0)]) (fun _ => []) (fun _ => 0) () ⟨rfl, rfl, trivial⟩ (fun h => h) (fun _ => ?_)
  refine CW.seq ?_
  refine Ja ?_;refine Jc ?_;refine Jc ?_;refine Jg ?_;refine Jk ?_;refine Jb ?_
  refine CW.ite rfl (fun h => absurd h (by decide)) (fun _ => ?_)
  refine CW.exit rfl ?_
  refine PW.code ?_
  refine Ja ?_;refine Jd ?_;refine Jb ?_
  refine CW.seq ?_
  refine Ja ?_;refine Jd ?_;refine Jb ?_
  refine CW.block ?_
  refine CW.loop (ι := Unit) (fun _ => [(3, nilV), (6, nilV), (7, .int .i64 0)]) (fun _ => []) (fun _ => 0) () ⟨rfl, rfl, rfl, trivial⟩ (fun h => h) (fun _ => ?_)
  refine CW.seq ?_
  refine Ja ?_;refine Jc ?_;refine Jc ?_;refine Jg ?_;refine Jk ?_;refine Jb ?_
  refine CW.ite rfl (fun h => absurd h (by decide)) (fun _ => ?_)
  refine CW.exit rfl ?_
  refine PW.code ?_
  refine CW.seq ?_
  refine Ja ?_;refine Jd ?_;refine Jb ?_
  refine CW.block ?_
  refine CW.loop (ι := Unit) (fun _ => [(3, nilV), (6, nilV), (10, .int .i64 0)]) (fun _ => []) (fun _ => 0) () ⟨rfl, rfl, rfl, trivial⟩ (fun h => h) (fun _ => ?_)
  refine CW.seq ?_
  refine Ja ?_;refine Jc ?_;refine Jc ?_;refine Jg ?_;refine Jk ?_;refine Jb ?_
  refine CW.ite rfl (fun h => absurd h (by decide)) (fun _ => ?_)
  refine CW.exit rfl ?_
  refine PW.code ?_
  refine Ja ?_;refine Jd ?_;refine Jb ?_
  exact CW.ret1 rfl Tryz.results75 rfl rfl fun w hw => ⟨rfl, hw.kp⟩
theorem apartTokens_none {b7 : Nat} {w : World} (h : mem w (fun b => ¬ No b) b7 13 nilV) : Ret Tryz.prog 67 [ptrV b7] w (.bool true) := by
  have hle : Mem.le (mem w (fun b => ¬ No b)) (mem w (fun b => ¬ No b)) := Mem.le_refl _
  refine Calls.enter Tryz.func67 rfl _ rfl rfl (S := No) (H := []) trivial ?_
  refine Ja ?_;refine Jd ?_;refine Jb ?_;refine Ja ?_;refine Jc ?_;refine Jf ?_;refine Je ?_
  refine RW.load_ro rfl hle h rfl rfl ?_
  refine Jd ?_;refine Jb ?_
  refine CW.seq ?_
  refine Ja ?_;refine Jd ?_;refine Jb ?_
  refine CW.block ?_
  refine CW.loop (ι := Unit) (fun _ => [(3, nilV), (4, .int .i64 0)]) (fun _ => []) (fun _ => 0) () ⟨rfl, rfl, trivial⟩ (fun h => h) (fun _ => ?_)
  refine CW.seq ?_
  refine Ja ?_;refine Jc ?_;refine Jc ?_;refine Jg ?_;refine Jk ?_;refine Jb ?_
  refine CW.ite rfl (fun h => absurd h (by decide)) (fun _ => ?_)
  refine CW.exit rfl ?_
  refine PW.code ?_
  refine Ja ?_;refine Jd ?_;refine Jb ?_
  refine CW.seq ?_
  refine Ja ?_;refine Jd ?_;refine Jb ?_
  refine CW.block ?_
  refine CW.loop (ι := Unit) (fun _ => [(3, nilV), (6, nilV), (7, .int .i64 0)]) (fun _ => []) (fun _ => 0) () ⟨rfl, rfl, rfl, trivial⟩ (fun h => h) (fun _ => ?_)
  refine CW.seq ?_
  refine Ja ?_;refine Jc ?_;refine Jc ?_;refine Jg ?_;refine Jk ?_;refine Jb ?_
  refine CW.ite rfl (fun h => absurd h (by decide)) (fun _ => ?_)
  refine CW.exit rfl ?_
  refine PW.code ?_
  refine CW.seq ?_
  refine Ja ?_;refine Jd ?_;refine Jb ?_
  refine CW.block ?_
  refine CW.loop (ι := Unit) (fun _ => [(3, nilV), (6, nilV), (10, .int .i64 0)]) (fun _ => []) (fun _ => 0) () ⟨rfl, rfl, rfl, trivial⟩ (fun h => h) (fun _ => ?_)
  refine CW.seq ?_
  refine Ja ?_;refine Jc ?_;refine Jc ?_;refine Jg ?_;refine Jk ?_;refine Jb ?_
  refine CW.ite rfl (fun h => absurd h (by decide)) (fun _ => ?_)
  refine CW.exit rfl ?_
  refine PW.code ?_
  refine Ja ?_;refine Jd ?_;refine Jb ?_
  exact CW.ret1 rfl Tryz.results67 rfl rfl fun w hw => ⟨rfl, hw.kp⟩
theorem apartAtoms_none {b7 : Nat} {w : World} (h : mem w (fun b => ¬ No b) b7 14 nilV) : Ret Tryz.prog 74 [ptrV b7] w (.bool true) := by
  have hle : Mem.le (mem w (fun b => ¬ No b)) (mem w (fun b => ¬ No b)) := Mem.le_refl _
  refine Calls.enter Tryz.func74 rfl _ rfl rfl (S := No) (H := []) trivial ?_
  refine Ja ?_;refine Jd ?_;refine Jb ?_;refine Ja ?_;refine Jc ?_;refine Jf ?_;refine Je ?_
  refine RW.load_ro rfl hle h rfl rfl ?_
  refine Jd ?_;refine Jb ?_
  refine CW.seq ?_
  refine Ja ?_;refine Jd ?_;refine Jb ?_
  refine CW.block ?_
  refine CW.loop (ι := Unit) (fun _ => [(3, nilV), (4, .int .i64 0)]) (fun _ => []) (fun _ => 0) () ⟨rfl, rfl, trivial⟩ (fun h => h) (fun _ => ?_)
  refine CW.seq ?_
  refine Ja ?_;refine Jc ?_;refine Jc ?_;refine Jg ?_;refine Jk ?_;refine Jb ?_
  refine CW.ite rfl (fun h => absurd h (by decide)) (fun _ => ?_)
  refine CW.exit rfl ?_
  refine PW.code ?_
  refine Ja ?_;refine Jd ?_;refine Jb ?_
  refine CW.seq ?_
  refine Ja ?_;refine Jd ?_;refine Jb ?_
  refine CW.block ?_
  refine CW.loop (ι := Unit) (fun _ => [(3, nilV), (6, nilV), (7, .int .i64 0)]) (fun _ => []) (fun _ => 0) () ⟨rfl, rfl, rfl, trivial⟩ (fun h => h) (fun _ => ?_)
  refine CW.seq ?_
  refine Ja ?_;refine Jc ?_;refine Jc ?_;refine Jg ?_;refine Jk ?_;refine Jb ?_
  refine CW.ite rfl (fun h => absurd h (by decide)) (fun _ => ?_)
  refine CW.exit rfl ?_
  refine PW.code ?_
  refine CW.seq ?_
  refine Ja ?_;refine Jd ?_;refine Jb ?_
  refine CW.block ?_
  refine CW.loop (ι := Unit) (fun _ => [(3, nilV), (6, nilV), (10, .int .i64 0)]) (fun _ => []) (fun _ => 0) () ⟨rfl, rfl, rfl, trivial⟩ (fun h => h) (fun _ => ?_)
  refine CW.seq ?_
  refine Ja ?_;refine Jc ?_;refine Jc ?_;refine Jg ?_;refine Jk ?_;refine Jb ?_
  refine CW.ite rfl (fun h => absurd h (by decide)) (fun _ => ?_)
  refine CW.exit rfl ?_
  refine PW.code ?_
  refine Ja ?_;refine Jd ?_;refine Jb ?_
  exact CW.ret1 rfl Tryz.results74 rfl rfl fun w hw => ⟨rfl, hw.kp⟩
theorem apartMembers_none {b7 : Nat} {w : World} (h : mem w (fun b => ¬ No b) b7 16 nilV) : Ret Tryz.prog 69 [ptrV b7] w (.bool true) := by
  have hle : Mem.le (mem w (fun b => ¬ No b)) (mem w (fun b => ¬ No b)) := Mem.le_refl _
  refine Calls.enter Tryz.func69 rfl _ rfl rfl (S := No) (H := []) trivial ?_
  refine Ja ?_;refine Jd ?_;refine Jb ?_;refine Ja ?_;refine Jc ?_;refine Jf ?_;refine Je ?_
  refine RW.load_ro rfl hle h rfl rfl ?_
  refine Jd ?_;refine Jb ?_
  refine CW.seq ?_
  refine Ja ?_;refine Jd ?_;refine Jb ?_
  refine CW.block ?_
  refine CW.loop (ι := Unit) (fun _ => [(3, nilV), (4, .int .i64 0)]) (fun _ => []) (fun _ => 0) () ⟨rfl, rfl, trivial⟩ (fun h => h) (fun _ => ?_)
  refine CW.seq ?_
  refine Ja ?_;refine Jc ?_;refine Jc ?_;refine Jg ?_;refine Jk ?_;refine Jb ?_
  refine CW.ite rfl (fun h => absurd h (by decide)) (fun _ => ?_)
  refine CW.exit rfl ?_
  refine PW.code ?_
  refine Ja ?_;refine Jd ?_;refine Jb ?_
  refine CW.seq ?_
  refine Ja ?_;refine Jd ?_;refine Jb ?_
  refine CW.block ?_
  refine CW.loop (ι := Unit) (fun _ => [(3, nilV), (6, nilV), (7, .int .i64 0)]) (fun _ => []) (fun _ => 0) () ⟨rfl, rfl, rfl, trivial⟩ (fun h => h) (fun _ => ?_)
  refine CW.seq ?_
  refine Ja ?_;refine Jc ?_;refine Jc ?_;refine Jg ?_;refine Jk ?_;refine Jb ?_
  refine CW.ite rfl (fun h => absurd h (by decide)) (fun _ => ?_)
  refine CW.exit rfl ?_
  refine PW.code ?_
  refine CW.seq ?_
  refine Ja ?_;refine Jd ?_;refine Jb ?_
  refine CW.block ?_
  refine CW.loop (ι := Unit) (fun _ => [(3, nilV), (6, nilV), (10, .int .i64 0)]) (fun _ => []) (fun _ => 0) () ⟨rfl, rfl, rfl, trivial⟩ (fun h => h) (fun _ => ?_)
  refine CW.seq ?_
  refine Ja ?_;refine Jc ?_;refine Jc ?_;refine Jg ?_;refine Jk ?_;refine Jb ?_
  refine CW.ite rfl (fun h => absurd h (by decide)) (fun _ => ?_)
  refine CW.exit rfl ?_
  refine PW.code ?_
  refine Ja ?_;refine Jd ?_;refine Jb ?_
  exact CW.ret1 rfl Tryz.results69 rfl rfl fun w hw => ⟨rfl, hw.kp⟩
theorem apartPreds_none {b7 : Nat} {w : World} (h : mem w (fun b => ¬ No b) b7 17 nilV) : Ret Tryz.prog 81 [ptrV b7] w (.bool true) := by
  have hle : Mem.le (mem w (fun b => ¬ No b)) (mem w (fun b => ¬ No b)) := Mem.le_refl _
  refine Calls.enter Tryz.func81 rfl _ rfl rfl (S := No) (H := []) trivial ?_
  refine Ja ?_;refine Jd ?_;refine Jb ?_;refine Ja ?_;refine Jc ?_;refine Jf ?_;refine Je ?_
  refine RW.load_ro rfl hle h rfl rfl ?_
  refine Jd ?_;refine Jb ?_
  refine CW.seq ?_
  refine Ja ?_;refine Jd ?_;refine Jb ?_
  refine CW.block ?_
  refine CW.loop (ι := Unit) (fun _ => [(3, nilV), (4, .int .i64 0)]) (fun _ => []) (fun _ => 0) () ⟨rfl, rfl, trivial⟩ (fun h => h) (fun _ => ?_)
  refine CW.seq ?_
  refine Ja ?_;refine Jc ?_;refine Jc ?_;refine Jg ?_;refine Jk ?_;refine Jb ?_
  refine CW.ite rfl (fun h => absurd h (by decide)) (fun _ => ?_)
  refine CW.exit rfl ?_
  refine PW.code ?_
  refine Ja ?_;refine Jd ?_;refine Jb ?_
  refine CW.seq ?_
  refine Ja ?_;refine Jd ?_;refine Jb ?_
  refine CW.block ?_
  refine CW.loop (ι := Unit) (fun _ => [(3, nilV), (6, nilV), (7, .int .i64 0)]) (fun _ => []) (fun _ => 0) () ⟨rfl, rfl, rfl, trivial⟩ (fun h => h) (fun _ => ?_)
  refine CW.seq ?_
  refine Ja ?_;refine Jc ?_;refine Jc ?_;refine Jg ?_;refine Jk ?_;refine Jb ?_
  refine CW.ite rfl (fun h => absurd h (by decide)) (fun _ => ?_)
  refine CW.exit rfl ?_
  refine PW.code ?_
  refine CW.seq ?_
  refine Ja ?_;refine Jd ?_;refine Jb ?_
  refine CW.block ?_
  refine CW.loop (ι := Unit) (fun _ => [(3, nilV), (6, nilV), (10, .int .i64 0)]) (fun _ => []) (fun _ => 0) () ⟨rfl, rfl, rfl, trivial⟩ (fun h => h) (fun _ => ?_)
  refine CW.seq ?_
  refine Ja ?_;refine Jc ?_;refine Jc ?_;refine Jg ?_;refine Jk ?_;refine Jb ?_
  refine CW.ite rfl (fun h => absurd h (by decide)) (fun _ => ?_)
  refine CW.exit rfl ?_
  refine PW.code ?_
  refine Ja ?_;refine Jd ?_;refine Jb ?_
  exact CW.ret1 rfl Tryz.results81 rfl rfl fun w hw => ⟨rfl, hw.kp⟩
theorem apartSources_none {b7 : Nat} {w : World} (h : mem w (fun b => ¬ No b) b7 18 nilV) : Ret Tryz.prog 70 [ptrV b7] w (.bool true) := by
  have hle : Mem.le (mem w (fun b => ¬ No b)) (mem w (fun b => ¬ No b)) := Mem.le_refl _
  refine Calls.enter Tryz.func70 rfl _ rfl rfl (S := No) (H := []) trivial ?_
  refine Ja ?_;refine Jd ?_;refine Jb ?_;refine Ja ?_;refine Jc ?_;refine Jf ?_;refine Je ?_
  refine RW.load_ro rfl hle h rfl rfl ?_
  refine Jd ?_;refine Jb ?_
  refine CW.seq ?_
  refine Ja ?_;refine Jd ?_;refine Jb ?_
  refine CW.block ?_
  refine CW.loop (ι := Unit) (fun _ => [(3, nilV), (4, .int .i64 0)]) (fun _ => []) (fun _ => 0) () ⟨rfl, rfl, trivial⟩ (fun h => h) (fun _ => ?_)
  refine CW.seq ?_
  refine Ja ?_;refine Jc ?_;refine Jc ?_;refine Jg ?_;refine Jk ?_;refine Jb ?_
  refine CW.ite rfl (fun h => absurd h (by decide)) (fun _ => ?_)
  refine CW.exit rfl ?_
  refine PW.code ?_
  refine Ja ?_;refine Jd ?_;refine Jb ?_
  refine CW.seq ?_
  refine Ja ?_;refine Jd ?_;refine Jb ?_
  refine CW.block ?_
  refine CW.loop (ι := Unit) (fun _ => [(3, nilV), (6, nilV), (7, .int .i64 0)]) (fun _ => []) (fun _ => 0) () ⟨rfl, rfl, rfl, trivial⟩ (fun h => h) (fun _ => ?_)
  refine CW.seq ?_
  refine Ja ?_;refine Jc ?_;refine Jc ?_;refine Jg ?_;refine Jk ?_;refine Jb ?_
  refine CW.ite rfl (fun h => absurd h (by decide)) (fun _ => ?_)
  refine CW.exit rfl ?_
  refine PW.code ?_
  refine CW.seq ?_
  refine Ja ?_;refine Jd ?_;refine Jb ?_
  refine CW.block ?_
  refine CW.loop (ι := Unit) (fun _ => [(3, nilV), (6, nilV), (10, .int .i64 0)]) (fun _ => []) (fun _ => 0) () ⟨rfl, rfl, rfl, trivial⟩ (fun h => h) (fun _ => ?_)
  refine CW.seq ?_
  refine Ja ?_;refine Jc ?_;refine Jc ?_;refine Jg ?_;refine Jk ?_;refine Jb ?_
  refine CW.ite rfl (fun h => absurd h (by decide)) (fun _ => ?_)
  refine CW.exit rfl ?_
  refine PW.code ?_
  refine Ja ?_;refine Jd ?_;refine Jb ?_
  exact CW.ret1 rfl Tryz.results70 rfl rfl fun w hw => ⟨rfl, hw.kp⟩
theorem apartRuleTexts_none {b7 : Nat} {w : World} (h : mem w (fun b => ¬ No b) b7 19 nilV) : Ret Tryz.prog 82 [ptrV b7] w (.bool true) := by
  have hle : Mem.le (mem w (fun b => ¬ No b)) (mem w (fun b => ¬ No b)) := Mem.le_refl _
  refine Calls.enter Tryz.func82 rfl _ rfl rfl (S := No) (H := []) trivial ?_
  refine Ja ?_;refine Jd ?_;refine Jb ?_;refine Ja ?_;refine Jc ?_;refine Jf ?_;refine Je ?_
  refine RW.load_ro rfl hle h rfl rfl ?_
  refine Jd ?_;refine Jb ?_
  refine CW.seq ?_
  refine Ja ?_;refine Jd ?_;refine Jb ?_
  refine CW.block ?_
  refine CW.loop (ι := Unit) (fun _ => [(3, nilV), (4, .int .i64 0)]) (fun _ => []) (fun _ => 0) () ⟨rfl, rfl, trivial⟩ (fun h => h) (fun _ => ?_)
  refine CW.seq ?_
  refine Ja ?_;refine Jc ?_;refine Jc ?_;refine Jg ?_;refine Jk ?_;refine Jb ?_
  refine CW.ite rfl (fun h => absurd h (by decide)) (fun _ => ?_)
  refine CW.exit rfl ?_
  refine PW.code ?_
  refine Ja ?_;refine Jd ?_;refine Jb ?_
  refine CW.seq ?_
  refine Ja ?_;refine Jd ?_;refine Jb ?_
  refine CW.block ?_
  refine CW.loop (ι := Unit) (fun _ => [(3, nilV), (6, nilV), (7, .int .i64 0)]) (fun _ => []) (fun _ => 0) () ⟨rfl, rfl, rfl, trivial⟩ (fun h => h) (fun _ => ?_)
  refine CW.seq ?_
  refine Ja ?_;refine Jc ?_;refine Jc ?_;refine Jg ?_;refine Jk ?_;refine Jb ?_
  refine CW.ite rfl (fun h => absurd h (by decide)) (fun _ => ?_)
  refine CW.exit rfl ?_
  refine PW.code ?_
  refine CW.seq ?_
  refine Ja ?_;refine Jd ?_;refine Jb ?_
  refine CW.block ?_
  refine CW.loop (ι := Unit) (fun _ => [(3, nilV), (6, nilV), (10, .int .i64 0)]) (fun _ => []) (fun _ => 0) () ⟨rfl, rfl, rfl, trivial⟩ (fun h => h) (fun _ => ?_)
  refine CW.seq ?_
  refine Ja ?_;refine Jc ?_;refine Jc ?_;refine Jg ?_;refine Jk ?_;refine Jb ?_
  refine CW.ite rfl (fun h => absurd h (by decide)) (fun _ => ?_)
  refine CW.exit rfl ?_
  refine PW.code ?_
  refine Ja ?_;refine Jd ?_;refine Jb ?_
  exact CW.ret1 rfl Tryz.results82 rfl rfl fun w hw => ⟨rfl, hw.kp⟩
theorem apartPremises_none {b7 : Nat} {w : World} (h : mem w (fun b => ¬ No b) b7 20 nilV) : Ret Tryz.prog 80 [ptrV b7] w (.bool true) := by
  have hle : Mem.le (mem w (fun b => ¬ No b)) (mem w (fun b => ¬ No b)) := Mem.le_refl _
  refine Calls.enter Tryz.func80 rfl _ rfl rfl (S := No) (H := []) trivial ?_
  refine Ja ?_;refine Jd ?_;refine Jb ?_;refine Ja ?_;refine Jc ?_;refine Jf ?_;refine Je ?_
  refine RW.load_ro rfl hle h rfl rfl ?_
  refine Jd ?_;refine Jb ?_
  refine CW.seq ?_
  refine Ja ?_;refine Jd ?_;refine Jb ?_
  refine CW.block ?_
  refine CW.loop (ι := Unit) (fun _ => [(3, nilV), (4, .int .i64 0)]) (fun _ => []) (fun _ => 0) () ⟨rfl, rfl, trivial⟩ (fun h => h) (fun _ => ?_)
  refine CW.seq ?_
  refine Ja ?_;refine Jc ?_;refine Jc ?_;refine Jg ?_;refine Jk ?_;refine Jb ?_
  refine CW.ite rfl (fun h => absurd h (by decide)) (fun _ => ?_)
  refine CW.exit rfl ?_
  refine PW.code ?_
  refine Ja ?_;refine Jd ?_;refine Jb ?_
  refine CW.seq ?_
  refine Ja ?_;refine Jd ?_;refine Jb ?_
  refine CW.block ?_
  refine CW.loop (ι := Unit) (fun _ => [(3, nilV), (6, nilV), (7, .int .i64 0)]) (fun _ => []) (fun _ => 0) () ⟨rfl, rfl, rfl, trivial⟩ (fun h => h) (fun _ => ?_)
  refine CW.seq ?_
  refine Ja ?_;refine Jc ?_;refine Jc ?_;refine Jg ?_;refine Jk ?_;refine Jb ?_
  refine CW.ite rfl (fun h => absurd h (by decide)) (fun _ => ?_)
  refine CW.exit rfl ?_
  refine PW.code ?_
  refine CW.seq ?_
  refine Ja ?_;refine Jd ?_;refine Jb ?_
  refine CW.block ?_
  refine CW.loop (ι := Unit) (fun _ => [(3, nilV), (6, nilV), (10, .int .i64 0)]) (fun _ => []) (fun _ => 0) () ⟨rfl, rfl, rfl, trivial⟩ (fun h => h) (fun _ => ?_)
  refine CW.seq ?_
  refine Ja ?_;refine Jc ?_;refine Jc ?_;refine Jg ?_;refine Jk ?_;refine Jb ?_
  refine CW.ite rfl (fun h => absurd h (by decide)) (fun _ => ?_)
  refine CW.exit rfl ?_
  refine PW.code ?_
  refine Ja ?_;refine Jd ?_;refine Jb ?_
  exact CW.ret1 rfl Tryz.results80 rfl rfl fun w hw => ⟨rfl, hw.kp⟩
theorem apartTermTexts_none {b7 : Nat} {w : World} (h : mem w (fun b => ¬ No b) b7 21 nilV) : Ret Tryz.prog 72 [ptrV b7] w (.bool true) := by
  have hle : Mem.le (mem w (fun b => ¬ No b)) (mem w (fun b => ¬ No b)) := Mem.le_refl _
  refine Calls.enter Tryz.func72 rfl _ rfl rfl (S := No) (H := []) trivial ?_
  refine Ja ?_;refine Jd ?_;refine Jb ?_;refine Ja ?_;refine Jc ?_;refine Jf ?_;refine Je ?_
  refine RW.load_ro rfl hle h rfl rfl ?_
  refine Jd ?_;refine Jb ?_
  refine CW.seq ?_
  refine Ja ?_;refine Jd ?_;refine Jb ?_
  refine CW.block ?_
  refine CW.loop (ι := Unit) (fun _ => [(3, nilV), (4, .int .i64 0)]) (fun _ => []) (fun _ => 0) () ⟨rfl, rfl, trivial⟩ (fun h => h) (fun _ => ?_)
  refine CW.seq ?_
  refine Ja ?_;refine Jc ?_;refine Jc ?_;refine Jg ?_;refine Jk ?_;refine Jb ?_
  refine CW.ite rfl (fun h => absurd h (by decide)) (fun _ => ?_)
  refine CW.exit rfl ?_
  refine PW.code ?_
  refine Ja ?_;refine Jd ?_;refine Jb ?_
  refine CW.seq ?_
  refine Ja ?_;refine Jd ?_;refine Jb ?_
  refine CW.block ?_
  refine CW.loop (ι := Unit) (fun _ => [(3, nilV), (6, nilV), (7, .int .i64 0)]) (fun _ => []) (fun _ => 0) () ⟨rfl, rfl, rfl, trivial⟩ (fun h => h) (fun _ => ?_)
  refine CW.seq ?_
  refine Ja ?_;refine Jc ?_;refine Jc ?_;refine Jg ?_;refine Jk ?_;refine Jb ?_
  refine CW.ite rfl (fun h => absurd h (by decide)) (fun _ => ?_)
  refine CW.exit rfl ?_
  refine PW.code ?_
  refine CW.seq ?_
  refine Ja ?_;refine Jd ?_;refine Jb ?_
  refine CW.block ?_
  refine CW.loop (ι := Unit) (fun _ => [(3, nilV), (6, nilV), (10, .int .i64 0)]) (fun _ => []) (fun _ => 0) () ⟨rfl, rfl, rfl, trivial⟩ (fun h => h) (fun _ => ?_)
  refine CW.seq ?_
  refine Ja ?_;refine Jc ?_;refine Jc ?_;refine Jg ?_;refine Jk ?_;refine Jb ?_
  refine CW.ite rfl (fun h => absurd h (by decide)) (fun _ => ?_)
  refine CW.exit rfl ?_
  refine PW.code ?_
  refine Ja ?_;refine Jd ?_;refine Jb ?_
  exact CW.ret1 rfl Tryz.results72 rfl rfl fun w hw => ⟨rfl, hw.kp⟩
theorem apartExcepts_none {b7 : Nat} {w : World} (h : mem w (fun b => ¬ No b) b7 22 nilV) : Ret Tryz.prog 71 [ptrV b7] w (.bool true) := by
  have hle : Mem.le (mem w (fun b => ¬ No b)) (mem w (fun b => ¬ No b)) := Mem.le_refl _
  refine Calls.enter Tryz.func71 rfl _ rfl rfl (S := No) (H := []) trivial ?_
  refine Ja ?_;refine Jd ?_;refine Jb ?_;refine Ja ?_;refine Jc ?_;refine Jf ?_;refine Je ?_
  refine RW.load_ro rfl hle h rfl rfl ?_
  refine Jd ?_;refine Jb ?_
  refine CW.seq ?_
  refine Ja ?_;refine Jd ?_;refine Jb ?_
  refine CW.block ?_
  refine CW.loop (ι := Unit) (fun _ => [(3, nilV), (4, .int .i64 0)]) (fun _ => []) (fun _ => 0) () ⟨rfl, rfl, trivial⟩ (fun h => h) (fun _ => ?_)
  refine CW.seq ?_
  refine Ja ?_;refine Jc ?_;refine Jc ?_;refine Jg ?_;refine Jk ?_;refine Jb ?_
  refine CW.ite rfl (fun h => absurd h (by decide)) (fun _ => ?_)
  refine CW.exit rfl ?_
  refine PW.code ?_
  refine Ja ?_;refine Jd ?_;refine Jb ?_
  refine CW.seq ?_
  refine Ja ?_;refine Jd ?_;refine Jb ?_
  refine CW.block ?_
  refine CW.loop (ι := Unit) (fun _ => [(3, nilV), (6, nilV), (7, .int .i64 0)]) (fun _ => []) (fun _ => 0) () ⟨rfl, rfl, rfl, trivial⟩ (fun h => h) (fun _ => ?_)
  refine CW.seq ?_
  refine Ja ?_;refine Jc ?_;refine Jc ?_;refine Jg ?_;refine Jk ?_;refine Jb ?_
  refine CW.ite rfl (fun h => absurd h (by decide)) (fun _ => ?_)
  refine CW.exit rfl ?_
  refine PW.code ?_
  refine CW.seq ?_
  refine Ja ?_;refine Jd ?_;refine Jb ?_
  refine CW.block ?_
  refine CW.loop (ι := Unit) (fun _ => [(3, nilV), (6, nilV), (10, .int .i64 0)]) (fun _ => []) (fun _ => 0) () ⟨rfl, rfl, rfl, trivial⟩ (fun h => h) (fun _ => ?_)
  refine CW.seq ?_
  refine Ja ?_;refine Jc ?_;refine Jc ?_;refine Jg ?_;refine Jk ?_;refine Jb ?_
  refine CW.ite rfl (fun h => absurd h (by decide)) (fun _ => ?_)
  refine CW.exit rfl ?_
  refine PW.code ?_
  refine Ja ?_;refine Jd ?_;refine Jb ?_
  exact CW.ret1 rfl Tryz.results71 rfl rfl fun w hw => ⟨rfl, hw.kp⟩
theorem apartTotals_none {b7 : Nat} {w : World} (h : mem w (fun b => ¬ No b) b7 23 nilV) : Ret Tryz.prog 83 [ptrV b7] w (.bool true) := by
  have hle : Mem.le (mem w (fun b => ¬ No b)) (mem w (fun b => ¬ No b)) := Mem.le_refl _
  refine Calls.enter Tryz.func83 rfl _ rfl rfl (S := No) (H := []) trivial ?_
  refine Ja ?_;refine Jd ?_;refine Jb ?_;refine Ja ?_;refine Jc ?_;refine Jf ?_;refine Je ?_
  refine RW.load_ro rfl hle h rfl rfl ?_
  refine Jd ?_;refine Jb ?_
  refine CW.seq ?_
  refine Ja ?_;refine Jd ?_;refine Jb ?_
  refine CW.block ?_
  refine CW.loop (ι := Unit) (fun _ => [(3, nilV), (4, .int .i64 0)]) (fun _ => []) (fun _ => 0) () ⟨rfl, rfl, trivial⟩ (fun h => h) (fun _ => ?_)
  refine CW.seq ?_
  refine Ja ?_;refine Jc ?_;refine Jc ?_;refine Jg ?_;refine Jk ?_;refine Jb ?_
  refine CW.ite rfl (fun h => absurd h (by decide)) (fun _ => ?_)
  refine CW.exit rfl ?_
  refine PW.code ?_
  refine Ja ?_;refine Jd ?_;refine Jb ?_
  refine CW.seq ?_
  refine Ja ?_;refine Jd ?_;refine Jb ?_
  refine CW.block ?_
  refine CW.loop (ι := Unit) (fun _ => [(3, nilV), (6, nilV), (7, .int .i64 0)]) (fun _ => []) (fun _ => 0) () ⟨rfl, rfl, rfl, trivial⟩ (fun h => h) (fun _ => ?_)
  refine CW.seq ?_
  refine Ja ?_;refine Jc ?_;refine Jc ?_;refine Jg ?_;refine Jk ?_;refine Jb ?_
  refine CW.ite rfl (fun h => absurd h (by decide)) (fun _ => ?_)
  refine CW.exit rfl ?_
  refine PW.code ?_
  refine CW.seq ?_
  refine Ja ?_;refine Jd ?_;refine Jb ?_
  refine CW.block ?_
  refine CW.loop (ι := Unit) (fun _ => [(3, nilV), (6, nilV), (10, .int .i64 0)]) (fun _ => []) (fun _ => 0) () ⟨rfl, rfl, rfl, trivial⟩ (fun h => h) (fun _ => ?_)
  refine CW.seq ?_
  refine Ja ?_;refine Jc ?_;refine Jc ?_;refine Jg ?_;refine Jk ?_;refine Jb ?_
  refine CW.ite rfl (fun h => absurd h (by decide)) (fun _ => ?_)
  refine CW.exit rfl ?_
  refine PW.code ?_
  refine Ja ?_;refine Jd ?_;refine Jb ?_
  exact CW.ret1 rfl Tryz.results83 rfl rfl fun w hw => ⟨rfl, hw.kp⟩
end Go.Proofs.YtkfmlekomfnleaaGreat
/- Book.apart..: the lists of a book are each its own. Conditions: none. -/
set_option linter.unusedVariables false
set_option linter.unusedSimpArgs false
set_option maxRecDepth 10000
namespace Go.Proofs.YtkfmlekomfnleaaGreat
open Go Go.RowKit Go.MapKept

theorem nil_chunks {e : TypeId} {x y : HP} {r : List HP} {w : World} {A : Nat → Prop} (h : Sep (x :: y :: r) w A) : Sep (x :: y :: ownHP e 1 nilV [] :: allHP [] :: r) w A :=
  Sep.cons_perm (fun _ => Sep.cons_perm (fun _ h => Sep.addp (.inl ⟨rfl, rfl⟩) (Sep.addp (c := allHP []) (trivial : Sep [] w No) h))) h
attribute [local irreducible] RW CW
set_option maxHeartbeats 32000000 in
theorem apartInts_ret {b7 : Nat} {iv sv kv : Value} {L : List Rw} {w : World} {F : Nat → Prop} (hel : ∀ p ∈ L, ∀ x ∈ p.2.2, x.length = 1) (hsz : ∀ p ∈ L, (p.2.2.length + 21) * 8 ≤ 140737488355328) (hL : L.length ≤ 1000)
    (hH : Sep [blk b7 (bookC iv sv kv) 88, ownHP 38 1 iv (heads L), allHP (L.map (rowH 3))] w F) : RetC Tryz.prog 61 [ptrV b7] w F (fun _ : Unit => .bool true) (fun _ => [blk b7 (bookC iv sv kv) 88]) := by
  refine Calls.enter Tryz.func61 rfl _ rfl rfl (S := F) (H := [blk b7 (bookC iv sv kv) 88, ownHP 38 1 iv (heads L), allHP (L.map (rowH 3))]) hH ?_
  refine CW.have_ (φ := ∃ IA ic, iv = .slice IA L.length ic ∧ (L ≠ [] → ∃ B, IA = some ⟨B, 0, none⟩)) (fun w hw => ?_) (fun ⟨IA, ic, hiv, hIA⟩ => ?_)
  · obtain ⟨A, c, h1, h2⟩ := own_shapeM (pre := [_]) hw
    rw [List.length_map] at h1
    exact ⟨A, c, h1, fun h => h2 (by simpa using h)⟩
  subst hiv
  have hne : ∀ i, i < L.length → L ≠ [] := fun i h e => by rw [e] at h; simp at h
  have hhd : ∀ i (h : i < L.length), (heads L)[i]? = some [rv L[i]] := fun i h => by rw [List.getElem?_map, List.getElem?_eq_getElem h]; rfl
  refine Ja ?_;refine Jd ?_;refine Jb ?_;refine Ja ?_;refine Jc ?_;refine Jf ?_;refine Je ?_;refine JA ?_;refine Jd ?_;refine Jb ?_
  refine CW.seq ?_
  refine Ja ?_;refine Jd ?_;refine Jb ?_
  refine CW.block ?_
  refine CW.loop (ι := { i : Nat // i ≤ L.length }) (fun i => [(3, .slice IA L.length ic), (4, .int .i64 i.1)]) (fun i => [blk b7 (bookC (.slice IA L.length ic) sv kv) 88, ownHP 38 1 (.slice IA L.length ic) (heads L), allHP ((Lp mI i.1 L).map (rowH 3))]) (fun i => L.length - i.1) ⟨0, Nat.zero_le _⟩ ⟨rfl, rfl, trivial⟩ (fun h => by rw [Lp_zero]; exact h) ?_
  intro ⟨i, hi⟩
  dsimp only at hi ⊢
  refine CW.seq ?_
  refine Ja ?_;refine Jc ?_;refine Jc ?_;refine Jg ?_;refine Jk ?_;refine Jb ?_
  refine CW.ite rfl (fun hlt => ?_) (fun hge => ?_)
  · have hlt' : i < L.length := by simpa using hlt
    obtain ⟨IB, rfl⟩ := hIA (hne i hlt')
    have hel' := hel _ (List.getElem_mem hlt')
    have hsz' := hsz _ (List.getElem_mem hlt')
    have hh := hhd i hlt'
    have hgi : ((Lp mI i L).map (rowH 3))[i]? = some (rowH 3 L[i]) := by rw [List.getElem?_map, Lp_get hlt']; rfl
    have hst := Lp_set (m := mI) hlt'
    generalize L[i] = p at *
    refine CW.skip ?_
    refine PW.code ?_
    refine CW.seq ?_
    refine CW.block ?_
    refine CW.sep [blk b7 (bookC (.slice (some ⟨IB, 0, none⟩) L.length ic) sv kv) 88, ownHP 38 1 (.slice (some ⟨IB, 0, none⟩) L.length ic) (heads L), rowH 3 p, allHP (((Lp mI i L).map (rowH 3)).eraseIdx i)] (fun w A h => Sep.cons_perm (fun _ => Sep.cons_perm (fun _ h => rows_out hgi h)) h) ?_
    refine Ja ?_;refine Jd ?_;refine Jb ?_
    refine CW.block ?_
    refine CW.loop (ι := { k : Nat // k ≤ p.2.2.length }) (fun k => [(3, .slice (some ⟨IB, 0, none⟩) L.length ic), (4, .int .i64 i), (5, .int .i64 k.1)]) (fun k => [blk b7 (bookC (.slice (some ⟨IB, 0, none⟩) L.length ic) sv kv) 88, ownHP 38 1 (.slice (some ⟨IB, 0, none⟩) L.length ic) (heads L), ownHP 3 1 (rv p) (marks mI i k.1 ++ p.2.2.drop k.1), allHP (((Lp mI i L).map (rowH 3)).eraseIdx i)]) (fun k => p.2.2.length - k.1) ⟨0, Nat.zero_le _⟩ ⟨rfl, rfl, rfl, trivial⟩ (fun h => h) ?_
    intro ⟨k, hk⟩
    dsimp only at hk ⊢
    refine CW.seq ?_
    refine Ja ?_;refine Jc ?_;refine Jc ?_;refine Jc ?_
    refine RW.indexAddr rfl rfl (by omega) hlt rfl ?_
    refine RW.loadOwn1 [_] (i := i) (j := 0) rfl (by simp) hh rfl rfl rfl ?_
    refine Jg ?_;refine Jk ?_;refine Jb ?_
    refine CW.ite rfl (fun hltk => ?_) (fun hgek => ?_)
    · have hltk' : k < p.2.2.length := by simpa using hltk
      obtain ⟨cs, hcs, hcl, hset⟩ := mark_one (m := mI) (i := i) hltk' hel'
      have hset' : (marks mI i k ++ p.2.2.drop k).set k (cs.set 0 (.int .i64 (mkI (i : Int) (k : Int)))) = marks mI i (k + 1) ++ p.2.2.drop (k + 1) := hset
      refine CW.skip ?_
      refine PW.code ?_
      refine CW.seq ?_
      refine CW.block ?_
      refine CW.anyV (by kernel_rfl) rfl ?_
      refine AW.val rfl (fun _ _ => by refine Jc ?_;exact RW.done rfl) ?_;refine AW.val rfl (fun _ _ => by refine Jc ?_;exact RW.done rfl) ?_
      (apply AW.val rfl; · intro Gx X; (first | refine RW.yes rfl ?_ | skip); refine RW.indexAddr rfl rfl (by omega) hlt rfl ?_; exact RW.done rfl)
      (apply AW.val rfl; · intro Gx X; (first | refine RW.yes rfl ?_ | skip); refine RW.loadOwn1 [_] (i := i) (j := 0) rfl (by simp) hh rfl rfl rfl ?_; exact RW.done rfl)
      refine AW.val rfl (fun _ _ => by refine Jc ?_;exact RW.done rfl) ?_;refine AW.val rfl (fun _ _ => by refine Jc ?_;exact RW.done rfl) ?_;refine AW.val rfl (fun _ _ => by refine Jc ?_;exact RW.done rfl) ?_
      (apply AW.val rfl; · intro Gx X; (first | refine RW.yes rfl ?_ | skip); refine RW.call Tryz.call140 rfl (fun w2 hw => markInts_ret) rfl ?_; exact RW.done rfl)
      (apply AW.val rfl; · intro Gx X; (first | refine RW.yes rfl ?_ | skip); refine RW.indexAddr rfl rfl (by omega) hltk rfl ?_; exact RW.done rfl)
      refine AW.stop (by kernel_rfl) (by kernel_rfl) fun bs => ?_
      refine RW.storeOwn [_, _] (v := (.int .i64 (mkI (i : Int) (k : Int)))) (i := k) (j := 0) rfl (by simp) rfl rfl rfl hcs hcl ?_
      rw [hset']
      refine RW.nil ?_
      refine PW.code ?_
      refine CW.region ?_
      refine Jc ?_
      refine RW.add rfl rfl (w64 (by omega) (by omega)) rfl ?_
      refine Jd ?_
      refine RW.nil ?_
      exact PW.again ⟨k + 1, hltk'⟩ ⟨rfl, rfl, rfl, trivial⟩ (fun h => h) (by show p.2.2.length - (k + 1) < p.2.2.length - k; omega)
    · have hgek' : p.2.2.length ≤ k := by simpa using hgek
      have hkl : k = p.2.2.length := by omega
      subst hkl
      refine CW.exit rfl ?_
      refine PW.code ?_
      refine CW.sep [blk b7 (bookC (.slice (some ⟨IB, 0, none⟩) L.length ic) sv kv) 88, ownHP 38 1 (.slice (some ⟨IB, 0, none⟩) L.length ic) (heads L), allHP ((Lp mI (i + 1) L).map (rowH 3))] (fun w A h => Sep.cons_perm (fun _ => Sep.cons_perm (fun _ h => ?_)) h) ?_
      · have e1 : ownHP 3 1 (rv p) (marks mI i p.2.2.length ++ p.2.2.drop p.2.2.length) = rowH 3 (mkRow mI i p) := by
          rw [List.drop_length, List.append_nil]
          unfold rowH
          rw [mkRow_v]
          rfl
        rw [e1] at h
        rw [← hst, List.map_set]
        exact rows_in (by rw [List.length_map, Lp_len]; exact hlt') h
      refine CW.region ?_
      refine Jc ?_
      refine RW.add rfl rfl (w64 (by omega) (by omega)) rfl ?_
      refine Jd ?_
      refine RW.nil ?_
      exact PW.again ⟨i + 1, hlt'⟩ ⟨rfl, rfl, trivial⟩ (fun h => h) (by show L.length - (i + 1) < L.length - i; omega)
  have hge' : L.length ≤ i := by simpa using hge
  have ha : ∀ j (h : j < L.length), (Lp mI i L)[j]? = some (mkRow mI j L[j]) := fun j h => Lp_all hge' h
  have hal : (Lp mI i L).length = L.length := Lp_len
  generalize Lp mI i L = La at *
  refine CW.exit rfl ?_
  refine PW.code ?_
  refine Ja ?_;refine Jd ?_;refine Jb ?_
  refine CW.seq ?_
  refine Ja ?_;refine Jd ?_;refine Jb ?_
  refine CW.block ?_
  refine CW.loop (ι := { q : Nat × Value × List GR // q.1 ≤ L.length ∧ q.2.2.length = q.1 ∧ ∀ (j : Nat) (g : GR), q.2.2[j]? = some g → ∃ p : Rw, L[j]? = some p ∧ g.1 = p.1 ∧ g.2.1 = p.2.1 ∧ g.2.2.1 = p.2.2.length }) (fun q => [(3, .slice IA L.length ic), (6, q.1.2.1), (7, .int .i64 q.1.1)])
    (fun q => [blk b7 (bookC (.slice IA L.length ic) sv kv) 88, ownHP 38 1 (.slice IA L.length ic) (heads L), ownHP 38 1 q.1.2.1 (q.1.2.2.map fun g => [gv g 20]), allHP (q.1.2.2.mapIdx fun i g => gH mI 3 i 20 g), allHP ((La.drop q.1.1).map (rowH 3))]) (fun q => L.length - q.1.1) ⟨(0, nilV, []), Nat.zero_le _, rfl, fun j g h => by cases h⟩ ⟨rfl, rfl, rfl, trivial⟩
    (fun h => h.sep_map fun w A h => nil_chunks h) ?_
  intro ⟨⟨i, gvv, Gs⟩, hi, hGl, hG⟩
  dsimp only at hi hGl hG ⊢
  refine CW.seq ?_
  refine Ja ?_;refine Jc ?_;refine Jc ?_;refine Jg ?_;refine Jk ?_;refine Jb ?_
  refine CW.ite rfl (fun hlt => ?_) (fun hge => ?_)
  · have hlt' : i < L.length := by simpa using hlt
    obtain ⟨IB, rfl⟩ := hIA (hne i hlt')
    have hsz' := hsz _ (List.getElem_mem hlt')
    have hh := hhd i hlt'
    have hdr := drop_rows (e := 3) hal ha hlt'
    have hLi : L[i]? = some L[i] := List.getElem?_eq_getElem hlt'
    rw [hdr]
    generalize L[i] = p at *
    rw [row_g]
    obtain ⟨pB, pc, pes⟩ := p
    dsimp only at hsz' hh ⊢
    generalize hnn : pes.length = n at *
    refine CW.skip ?_
    refine PW.code ?_
    refine CW.seq ?_
    refine CW.block ?_
    refine CW.sep [blk b7 (bookC (.slice (some ⟨IB, 0, none⟩) L.length ic) sv kv) 88, ownHP 38 1 (.slice (some ⟨IB, 0, none⟩) L.length ic) (heads L), ownHP 38 1 gvv (Gs.map fun g => [gv g 20]), allHP (Gs.mapIdx fun i g => gH mI 3 i 20 g), gH mI 3 i 0 (pB, pc, n, none), allHP ((La.drop (i + 1)).map (rowH 3))] (fun w A h => Sep.cons_perm (fun _ => Sep.cons_perm (fun _ => Sep.cons_perm (fun _ => Sep.cons_perm (fun _ h => all_cons h)))) h) ?_
    refine Ja ?_;refine Jc ?_;refine Jc ?_
    refine RW.indexAddr rfl rfl (by omega) hlt rfl ?_
    refine RW.loadOwn1 [_] (i := i) (j := 0) rfl (by simp) hh rfl rfl rfl ?_
    refine Jd ?_;refine Jb ?_
    refine CW.seq ?_
    refine Ja ?_;refine Jd ?_;refine Jb ?_
    refine CW.block ?_
    refine CW.loop (ι := { q : Nat × Option (Nat × Nat) // q.1 ≤ 20 }) (fun q => [(3, .slice (some ⟨IB, 0, none⟩) L.length ic), (6, gvv), (7, .int .i64 i), (8, gv (pB, pc, n, q.1.2) q.1.1), (9, .int .i64 q.1.1)])
      (fun q => [blk b7 (bookC (.slice (some ⟨IB, 0, none⟩) L.length ic) sv kv) 88, ownHP 38 1 (.slice (some ⟨IB, 0, none⟩) L.length ic) (heads L), ownHP 38 1 gvv (Gs.map fun g => [gv g 20]), allHP (Gs.mapIdx fun i g => gH mI 3 i 20 g), gH mI 3 i q.1.1 (pB, pc, n, q.1.2), allHP ((La.drop (i + 1)).map (rowH 3))]) (fun q => 20 - q.1.1) ⟨(0, none), Nat.zero_le _⟩ ⟨rfl, rfl, rfl, (by show some _ = some _; unfold rv; rw [hnn]; rfl), rfl, trivial⟩ (fun h => h) ?_
    intro ⟨⟨j, nw⟩, hj⟩
    dsimp only at hj ⊢
    refine CW.seq ?_
    refine Ja ?_;refine Jc ?_;refine Jk ?_;refine Jb ?_
    refine CW.ite rfl (fun hltj => ?_) (fun hgej => ?_)
    · have hltj' : j < 20 := by omega
      have hmk : marks mI i (n + j) ++ [[.int .i64 (mkI (i : Int) ((n + j : Nat) : Int))]] = marks mI i (n + (j + 1)) := (marks_succ (m := mI)).symm
      refine CW.skip ?_
      refine PW.code ?_
      refine CW.seq ?_
      refine CW.block ?_
      refine CW.region ?_
      refine Jc ?_;refine Jc ?_;refine Jc ?_;refine Jg ?_
      refine RW.call Tryz.call140 rfl (fun w2 hw => markInts_ret) rfl ?_
      refine RW.buildSlice (e := 3) (c := [.int .i64 (mkI (i : Int) ((n + j : Nat) : Int))]) rfl (fun w => by kernel_rfl) rfl fun b60 _ => ?_
      cases nw with
      | none =>
        refine RW.change [_, _, _, _, _] (ownHP 3 1 (.slice (some ⟨pB, 0, none⟩) (n + j) pc) (marks mI i (n + j))) (fun w F hp => hp) ?_
        by_cases hroom : n + j + 1 ≤ pc
        · refine RW.appendRoom [_, _, _, _, _] (e := 3) (sz := 1) (news := [[.int .i64 (mkI (i : Int) ((n + j : Nat) : Int))]]) rfl rfl marks_len rfl (by simp) (by simp [Value.oneCell']) (fun w hw => CellsAt.of_blk (St.blk (pre := []) hw)) hroom rfl ?_
          rw [hmk]
          refine Jd ?_;refine RW.nil (PW.code ?_)
          refine CW.region ?_
          refine Jc ?_
          refine RW.add rfl rfl (w64 (by omega) (by omega)) rfl ?_
          refine Jd ?_
          refine RW.nil ?_
          exact PW.againT ⟨(j + 1, none), hltj'⟩ [1, 2, 3, 4, 5, 6] ⟨rfl, rfl, rfl, rfl, rfl, trivial⟩ rfl (by show 20 - (j + 1) < 20 - j; omega)
        · refine RW.appendOut [_, _, _, _, _] (e := 3) (sz := 1) (news := [[.int .i64 (mkI (i : Int) ((n + j : Nat) : Int))]]) (zc := [.int .i64 0]) rfl rfl rfl rfl marks_len rfl (by decide) marks_one (by simp) (fun w hw => CellsAt.of_blk (St.blk (pre := []) hw)) (by omega) (by omega) (by unfold maxN; omega) rfl fun b c' _ => ?_
          rw [hmk]
          refine RW.change [_, _, _, _, _, _] (ownHP 3 1 (.slice (some ⟨pB, 0, none⟩) n pc) (marks mI i n)) (fun w F hp => own_shrink hp) ?_
          refine Jd ?_;refine RW.nil (PW.code ?_)
          refine CW.region ?_
          refine Jc ?_
          refine RW.add rfl rfl (w64 (by omega) (by omega)) rfl ?_
          refine Jd ?_
          refine RW.nil ?_
          refine PW.sep (H' := [blk b7 (bookC (.slice (some ⟨IB, 0, none⟩) L.length ic) sv kv) 88, ownHP 38 1 (.slice (some ⟨IB, 0, none⟩) L.length ic) (heads L), ownHP 38 1 gvv (Gs.map fun g => [gv g 20]), allHP (Gs.mapIdx fun i g => gH mI 3 i 20 g), gH mI 3 i (j + 1) (pB, pc, n, some (b, c')), allHP ((La.drop (i + 1)).map (rowH 3))]) (fun w A h => Sep.cons_perm (fun _ => Sep.cons_perm (fun _ => Sep.cons_perm (fun _ => Sep.cons_perm (fun _ h => Sep.pack (L := [_, _]) h)))) (Sep.take [2, 3, 4, 5, 0, 6, 7] h)) ?_
          exact PW.again ⟨(j + 1, some (b, c')), hltj'⟩ ⟨rfl, rfl, rfl, rfl, rfl, trivial⟩ (fun h => h) (by show 20 - (j + 1) < 20 - j; omega)
      | some q =>
        refine RW.sep [blk b60 [.int .i64 (mkI (i : Int) ((n + j : Nat) : Int))] 3, blk b7 (bookC (.slice (some ⟨IB, 0, none⟩) L.length ic) sv kv) 88, ownHP 38 1 (.slice (some ⟨IB, 0, none⟩) L.length ic) (heads L), ownHP 38 1 gvv (Gs.map fun g => [gv g 20]), allHP (Gs.mapIdx fun i g => gH mI 3 i 20 g), ownHP 3 1 (.slice (some ⟨q.1, 0, none⟩) (n + j) q.2) (marks mI i (n + j)), ownHP 3 1 (.slice (some ⟨pB, 0, none⟩) n pc) (marks mI i n), allHP ((La.drop (i + 1)).map (rowH 3))] (fun w A h => Sep.cons_perm (fun _ => Sep.cons_perm (fun _ => Sep.cons_perm (fun _ => Sep.cons_perm (fun _ => Sep.cons_perm (fun _ h => Sep.unpack (L := [_, _]) h))))) h) ?_
        by_cases hroom : n + j + 1 ≤ q.2
        · refine RW.appendRoom [_, _, _, _, _] (e := 3) (sz := 1) (news := [[.int .i64 (mkI (i : Int) ((n + j : Nat) : Int))]]) rfl rfl marks_len rfl (by simp) (by simp [Value.oneCell']) (fun w hw => CellsAt.of_blk (St.blk (pre := []) hw)) hroom rfl ?_
          rw [hmk]
          refine Jd ?_;refine RW.nil (PW.code ?_)
          refine CW.region ?_
          refine Jc ?_
          refine RW.add rfl rfl (w64 (by omega) (by omega)) rfl ?_
          refine Jd ?_
          refine RW.nil ?_
          refine PW.sep (H' := [blk b7 (bookC (.slice (some ⟨IB, 0, none⟩) L.length ic) sv kv) 88, ownHP 38 1 (.slice (some ⟨IB, 0, none⟩) L.length ic) (heads L), ownHP 38 1 gvv (Gs.map fun g => [gv g 20]), allHP (Gs.mapIdx fun i g => gH mI 3 i 20 g), gH mI 3 i (j + 1) (pB, pc, n, some q), allHP ((La.drop (i + 1)).map (rowH 3))]) (fun w A h => Sep.cons_perm (fun _ => Sep.cons_perm (fun _ => Sep.cons_perm (fun _ => Sep.cons_perm (fun _ h => Sep.pack (L := [_, _]) h)))) (Sep.take [1, 2, 3, 4, 5, 6, 7] h)) ?_
          exact PW.again ⟨(j + 1, some q), hltj'⟩ ⟨rfl, rfl, rfl, rfl, rfl, trivial⟩ (fun h => h) (by show 20 - (j + 1) < 20 - j; omega)
        · refine RW.appendOut [_, _, _, _, _] (e := 3) (sz := 1) (news := [[.int .i64 (mkI (i : Int) ((n + j : Nat) : Int))]]) (zc := [.int .i64 0]) rfl rfl rfl rfl marks_len rfl (by decide) marks_one (by simp) (fun w hw => CellsAt.of_blk (St.blk (pre := []) hw)) (by omega) (by omega) (by unfold maxN; omega) rfl fun b c' _ => ?_
          rw [hmk]
          refine Jd ?_;refine RW.nil (PW.code ?_)
          refine CW.region ?_
          refine Jc ?_
          refine RW.add rfl rfl (w64 (by omega) (by omega)) rfl ?_
          refine Jd ?_
          refine RW.nil ?_
          refine PW.sep (H' := [blk b7 (bookC (.slice (some ⟨IB, 0, none⟩) L.length ic) sv kv) 88, ownHP 38 1 (.slice (some ⟨IB, 0, none⟩) L.length ic) (heads L), ownHP 38 1 gvv (Gs.map fun g => [gv g 20]), allHP (Gs.mapIdx fun i g => gH mI 3 i 20 g), gH mI 3 i (j + 1) (pB, pc, n, some (b, c')), allHP ((La.drop (i + 1)).map (rowH 3))]) (fun w A h => Sep.cons_perm (fun _ => Sep.cons_perm (fun _ => Sep.cons_perm (fun _ => Sep.cons_perm (fun _ h => Sep.pack (L := [_, _]) h)))) (Sep.take [2, 3, 4, 5, 0, 7, 8] h)) ?_
          exact PW.again ⟨(j + 1, some (b, c')), hltj'⟩ ⟨rfl, rfl, rfl, rfl, rfl, trivial⟩ (fun h => h) (by show 20 - (j + 1) < 20 - j; omega)
    · have hj20 : j = 20 := by omega
      subst hj20
      refine CW.exit rfl ?_
      refine PW.code ?_
      refine CW.region ?_
      refine Jc ?_;refine Jc ?_
      refine RW.buildSlice (e := 38) (c := [gv (pB, pc, n, nw) 20]) rfl (fun w => by kernel_rfl) rfl fun b64 _ => ?_
      refine RW.append [_, _, _] (e := 38) (sz := 1) (news := [[gv (pB, pc, n, nw) 20]]) (zc := [nilV]) rfl rfl rfl rfl rfl (by simp) (fun u hu v hv => by rw [List.mem_singleton.1 hu] at hv; rw [List.mem_singleton.1 hv]; rfl) (fun w hw hn => ⟨b64, 0, rfl, CellsAt.of_blk (St.blk (pre := []) hw)⟩) (by rw [List.length_map, hGl]; omega) (by rw [List.length_map, hGl]; unfold maxN; omega) rfl fun u1 => ?_
      refine Jd ?_;refine RW.nil (PW.code ?_)
      refine CW.region ?_
      refine Jc ?_
      refine RW.add rfl rfl (w64 (by omega) (by omega)) rfl ?_
      refine Jd ?_
      refine RW.nil ?_
      refine PW.sep (H' := [blk b7 (bookC (.slice (some ⟨IB, 0, none⟩) L.length ic) sv kv) 88, ownHP 38 1 (.slice (some ⟨IB, 0, none⟩) L.length ic) (heads L), ownHP 38 1 u1 ((Gs ++ [(pB, pc, n, nw)]).map fun g => [gv g 20]), allHP ((Gs ++ [(pB, pc, n, nw)]).mapIdx fun i g => gH mI 3 i 20 g), allHP ((La.drop (i + 1)).map (rowH 3))]) (fun w A h => ?_) ?_
      · have h2 := Sep.take [1, 2, 3, 5, 4, 6] h
        rw [List.map_append, List.mapIdx_concat, hGl]
        exact Sep.cons_perm (fun _ => Sep.cons_perm (fun _ => Sep.cons_perm (fun _ h => all_snoc h))) h2
      refine PW.again ⟨(i + 1, u1, Gs ++ [(pB, pc, n, nw)]), hlt', by show (Gs ++ [_]).length = i + 1; rw [List.length_append, hGl]; rfl, fun j2 g hg => ?_⟩ ⟨rfl, rfl, rfl, trivial⟩ (fun h => h) (by show L.length - (i + 1) < L.length - i; omega)
      rcases Nat.lt_or_ge j2 Gs.length with h1 | h1
      · exact hG j2 g (by rwa [List.getElem?_append_left h1] at hg)
      · have h2 : j2 = i := by
          have := (List.getElem?_eq_some_iff.1 hg).1
          rw [List.length_append, List.length_singleton] at this
          omega
        subst h2
        rw [List.getElem?_append_right h1, hGl, Nat.sub_self] at hg
        cases hg
        exact ⟨_, hLi, rfl, rfl, hnn.symm⟩
  have hge2 : L.length ≤ i := by simpa using hge
  have hiL : i = L.length := by omega
  subst hiL
  refine CW.have_ (φ := ∃ GA gc, gvv = .slice GA L.length gc ∧ (L ≠ [] → ∃ B, GA = some ⟨B, 0, none⟩)) (fun w hw => ?_) (fun ⟨GA, gc, hgvv, hGA⟩ => ?_)
  · obtain ⟨A, c, h1, h2⟩ := own_shapeM (pre := [_, _]) hw
    rw [List.length_map, hGl] at h1
    exact ⟨A, c, h1, fun h => h2 (fun e => by rw [List.map_eq_nil_iff] at e; rw [e] at hGl; exact h (List.eq_nil_of_length_eq_zero hGl.symm))⟩
  subst hgvv
  refine CW.exit rfl ?_
  refine PW.code ?_
  refine CW.take [0, 1, 2, 3] ?_
  refine CW.seq ?_
  refine Ja ?_;refine Jd ?_;refine Jb ?_
  refine CW.block ?_
  refine CW.loop (ι := { i : Nat // i ≤ L.length }) (fun i => [(3, .slice IA L.length ic), (6, .slice GA L.length gc), (10, .int .i64 i.1)])
    (fun i => [blk b7 (bookC (.slice IA L.length ic) sv kv) 88, ownHP 38 1 (.slice IA L.length ic) (heads L), ownHP 38 1 (.slice GA L.length gc) (Gs.map fun g => [gv g 20]), allHP (Gs.mapIdx fun i g => gH mI 3 i 20 g)]) (fun i => L.length - i.1) ⟨0, Nat.zero_le _⟩ ⟨rfl, rfl, rfl, trivial⟩ (fun h => h) ?_
  intro ⟨i, hi⟩
  dsimp only at hi ⊢
  refine CW.seq ?_
  refine Ja ?_;refine Jc ?_;refine Jc ?_;refine Jg ?_;refine Jk ?_;refine Jb ?_
  refine CW.ite rfl (fun hlt => ?_) (fun hge => ?_)
  rotate_left
  · refine CW.exit rfl ?_
    refine PW.code ?_
    refine Ja ?_;refine Jd ?_;refine Jb ?_
    exact CW.ret1 rfl Tryz.results61 rfl rfl fun w hw => ⟨(), rfl, hw.take [0]⟩
  have hlt' : i < L.length := by simpa using hlt
  obtain ⟨IB, rfl⟩ := hIA (hne i hlt')
  obtain ⟨GB, rfl⟩ := hGA (hne i hlt')
  have hsz' := hsz _ (List.getElem_mem hlt')
  have hh := hhd i hlt'
  have hgg : Gs[i]? = some (Gs[i]'(by omega)) := List.getElem?_eq_getElem _
  generalize Gs[i]'(by omega) = g at hgg
  have hgh : (Gs.map fun g => [gv g 20])[i]? = some [gv g 20] := by rw [List.getElem?_map, hgg]; rfl
  have hgr : (Gs.mapIdx fun i g => gH mI 3 i 20 g)[i]? = some (gH mI 3 i 20 g) := by rw [List.getElem?_mapIdx, hgg]; rfl
  obtain ⟨p, hp0, hp1, hp2, hp3⟩ := hG i g hgg
  rw [List.getElem?_eq_getElem hlt'] at hp0
  obtain rfl := Option.some.inj hp0
  generalize L[i] = p at *
  have hrv : rv p = .slice (some ⟨g.1, 0, none⟩) g.2.2.1 p.2.1 := by unfold rv; rw [hp1, hp3]
  rw [hrv] at hh
  rw [← hp3] at hsz'
  clear hp0 hp1 hp2 hp3 hrv
  refine CW.skip ?_
  refine PW.code ?_
  refine CW.seq ?_
  refine CW.block ?_
  refine Ja ?_;refine Jd ?_;refine Jb ?_
  refine CW.block ?_
  refine CW.loop (ι := { k : Nat // k ≤ g.2.2.1 + 20 }) (fun k => [(3, .slice (some ⟨IB, 0, none⟩) L.length ic), (6, .slice (some ⟨GB, 0, none⟩) L.length gc), (10, .int .i64 i), (11, .int .i64 k.1)])
    (fun k => [blk b7 (bookC (.slice (some ⟨IB, 0, none⟩) L.length ic) sv kv) 88, ownHP 38 1 (.slice (some ⟨IB, 0, none⟩) L.length ic) (heads L), ownHP 38 1 (.slice (some ⟨GB, 0, none⟩) L.length gc) (Gs.map fun g => [gv g 20]), allHP (Gs.mapIdx fun i g => gH mI 3 i 20 g)]) (fun k => g.2.2.1 + 20 - k.1) ⟨0, Nat.zero_le _⟩ ⟨rfl, rfl, rfl, rfl, trivial⟩ (fun h => h) ?_
  intro ⟨k, hk⟩
  dsimp only at hk ⊢
  refine CW.seq ?_
  refine Ja ?_;refine Jc ?_;refine Jc ?_;refine Jc ?_
  refine RW.indexAddr rfl rfl (by omega) hlt rfl ?_
  refine RW.loadOwn1 [_, _] (i := i) (j := 0) rfl (by simp) hgh rfl rfl rfl ?_
  refine Jg ?_;refine Jk ?_;refine Jb ?_
  refine CW.ite rfl (fun hltk => ?_) (fun hgek => ?_)
  rotate_left
  · refine CW.exit rfl ?_
    refine PW.code ?_
    refine CW.region ?_
    refine Jc ?_
    refine RW.add rfl rfl (w64 (by omega) (by omega)) rfl ?_
    refine Jd ?_
    refine RW.nil ?_
    exact PW.again ⟨i + 1, hlt'⟩ ⟨rfl, rfl, rfl, trivial⟩ (fun h => h) (by show L.length - (i + 1) < L.length - i; omega)
  have hltk' : k < g.2.2.1 + 20 := by have : (k : Int) < ((g.2.2.1 + 20 : Nat) : Int) := hltk; omega
  refine CW.skip ?_
  refine PW.code ?_
  refine CW.seq ?_
  refine CW.block ?_
  refine Ja ?_;refine Jc ?_;refine Jc ?_
  refine RW.call Tryz.call140 rfl (fun w2 hw => markInts_ret) rfl ?_
  refine Jd ?_;refine Jb ?_;refine Ja ?_;refine Jc ?_;refine Jc ?_
  refine RW.indexAddr rfl rfl (by omega) hlt rfl ?_
  refine RW.loadOwn1 [_, _] (i := i) (j := 0) rfl (by simp) hgh rfl rfl rfl ?_
  refine Jc ?_
  refine RW.indexAddr rfl rfl (by omega) hltk rfl ?_
  refine RW.load_fact (v := (.int .i64 (mkI (i : Int) (k : Int)))) rfl rfl rfl (fun w hw => ?_) ?_
  · obtain ⟨F, hp⟩ := all_get (pre := [_, _, _]) hw hgr
    exact g_cell (m := mI) hp hltk'
  refine Jc ?_;refine Jj ?_;refine Jc ?_
  refine RW.splitD 93 rfl (fun h => absurd rfl h) (fun _ => ?_)
  refine Jy ?_;refine Jc ?_;refine Jy ?_;refine Jc ?_;refine Jy ?_;refine Jc ?_;refine Jy ?_
  refine RW.indexAddr rfl rfl (by omega) hlt rfl ?_
  refine Jy ?_
  refine RW.loadOwn1 [_] (i := i) (j := 0) rfl (by simp) hh rfl rfl rfl ?_
  refine Jy ?_;refine Jg ?_;refine Jy ?_;refine Jk ?_;refine Jy ?_;refine Jc ?_
  refine RW.splitD 101 rfl (fun hk3 => ?_) (fun hk3 => ?_)
  · have hk3' : k < g.2.2.1 := by omega
    refine Jy ?_;refine Jc ?_;refine Jy ?_;refine Jc ?_;refine Jy ?_
    refine RW.indexAddr rfl rfl (by omega) hlt rfl ?_
    refine Jy ?_
    refine RW.loadOwn1 [_] (i := i) (j := 0) rfl (by simp) hh rfl rfl rfl ?_
    refine Jy ?_;refine Jc ?_;refine Jy ?_
    refine RW.indexAddr rfl rfl (by omega) hk3 rfl ?_
    refine Jy ?_
    refine RW.load_fact (v := (.int .i64 (mkI (i : Int) (k : Int)))) rfl rfl rfl (fun w hw => ?_) ?_
    · obtain ⟨F, hp⟩ := all_get (pre := [_, _, _]) hw hgr
      exact v_cell (m := mI) hp hk3'
    refine Jy ?_;refine Jc ?_;refine Jy ?_;refine Jj ?_;refine Jy ?_;refine Jv ?_;refine Jw ?_;refine Jb ?_
    refine CW.ite rfl (fun h => absurd rfl h) (fun _ => ?_)
    refine CW.skip ?_
    refine PW.code ?_
    refine CW.region ?_
    refine Jc ?_
    refine RW.add rfl rfl (w64 (by omega) (by omega)) rfl ?_
    refine Jd ?_
    refine RW.nil ?_
    exact PW.again ⟨k + 1, hltk'⟩ ⟨rfl, rfl, rfl, rfl, trivial⟩ (fun h => h) (by show g.2.2.1 + 20 - (k + 1) < g.2.2.1 + 20 - k; omega)
  · refine Jz ?_;refine Jz ?_;refine Jz ?_;refine Jz ?_;refine Jz ?_;refine Jz ?_;refine Jz ?_;refine Jz ?_;refine Jz ?_;refine Jy ?_;refine Jw ?_;refine Jw ?_;refine Jb ?_
    refine CW.cf rfl ?_
    refine CW.skip ?_
    refine PW.code ?_
    refine CW.region ?_
    refine Jc ?_
    refine RW.add rfl rfl (w64 (by omega) (by omega)) rfl ?_
    refine Jd ?_
    refine RW.nil ?_
    exact PW.again ⟨k + 1, hltk'⟩ ⟨rfl, rfl, rfl, rfl, trivial⟩ (fun h => h) (by show g.2.2.1 + 20 - (k + 1) < g.2.2.1 + 20 - k; omega)
set_option maxHeartbeats 32000000 in
theorem apartStrings_ret {b7 : Nat} {iv sv kv : Value} {L : List Rw} {w : World} {F : Nat → Prop} (hel : ∀ p ∈ L, ∀ x ∈ p.2.2, x.length = 1) (hsz : ∀ p ∈ L, (p.2.2.length + 21) * 16 ≤ 140737488355328) (hL : L.length ≤ 1000)
    (hH : Sep [blk b7 (bookC iv sv kv) 88, ownHP 22 1 sv (heads L), allHP (L.map (rowH 9))] w F) : RetC Tryz.prog 62 [ptrV b7] w F (fun _ : Unit => .bool true) (fun _ => [blk b7 (bookC iv sv kv) 88]) := by
  refine Calls.enter Tryz.func62 rfl _ rfl rfl (S := F) (H := [blk b7 (bookC iv sv kv) 88, ownHP 22 1 sv (heads L), allHP (L.map (rowH 9))]) hH ?_
  refine CW.have_ (φ := ∃ IA ic, sv = .slice IA L.length ic ∧ (L ≠ [] → ∃ B, IA = some ⟨B, 0, none⟩)) (fun w hw => ?_) (fun ⟨IA, ic, hiv, hIA⟩ => ?_)
  · obtain ⟨A, c, h1, h2⟩ := own_shapeM (pre := [_]) hw
    rw [List.length_map] at h1
    exact ⟨A, c, h1, fun h => h2 (by simpa using h)⟩
  subst hiv
  have hne : ∀ i, i < L.length → L ≠ [] := fun i h e => by rw [e] at h; simp at h
  have hhd : ∀ i (h : i < L.length), (heads L)[i]? = some [rv L[i]] := fun i h => by rw [List.getElem?_map, List.getElem?_eq_getElem h]; rfl
  refine Ja ?_;refine Jd ?_;refine Jb ?_;refine Ja ?_;refine Jc ?_;refine Jf ?_;refine Je ?_;refine JA ?_;refine Jd ?_;refine Jb ?_
  refine CW.seq ?_
  refine Ja ?_;refine Jd ?_;refine Jb ?_
  refine CW.block ?_
  refine CW.loop (ι := { i : Nat // i ≤ L.length }) (fun i => [(3, .slice IA L.length ic), (4, .int .i64 i.1)]) (fun i => [blk b7 (bookC iv (.slice IA L.length ic) kv) 88, ownHP 22 1 (.slice IA L.length ic) (heads L), allHP ((Lp mS i.1 L).map (rowH 9))]) (fun i => L.length - i.1) ⟨0, Nat.zero_le _⟩ ⟨rfl, rfl, trivial⟩ (fun h => by rw [Lp_zero]; exact h) ?_
  intro ⟨i, hi⟩
  dsimp only at hi ⊢
  refine CW.seq ?_
  refine Ja ?_;refine Jc ?_;refine Jc ?_;refine Jg ?_;refine Jk ?_;refine Jb ?_
  refine CW.ite rfl (fun hlt => ?_) (fun hge => ?_)
  · have hlt' : i < L.length := by simpa using hlt
    obtain ⟨IB, rfl⟩ := hIA (hne i hlt')
    have hel' := hel _ (List.getElem_mem hlt')
    have hsz' := hsz _ (List.getElem_mem hlt')
    have hh := hhd i hlt'
    have hgi : ((Lp mS i L).map (rowH 9))[i]? = some (rowH 9 L[i]) := by rw [List.getElem?_map, Lp_get hlt']; rfl
    have hst := Lp_set (m := mS) hlt'
    generalize L[i] = p at *
    refine CW.skip ?_
    refine PW.code ?_
    refine CW.seq ?_
    refine CW.block ?_
    refine CW.sep [blk b7 (bookC iv (.slice (some ⟨IB, 0, none⟩) L.length ic) kv) 88, ownHP 22 1 (.slice (some ⟨IB, 0, none⟩) L.length ic) (heads L), rowH 9 p, allHP (((Lp mS i L).map (rowH 9)).eraseIdx i)] (fun w A h => Sep.cons_perm (fun _ => Sep.cons_perm (fun _ h => rows_out hgi h)) h) ?_
    refine Ja ?_;refine Jd ?_;refine Jb ?_
    refine CW.block ?_
    refine CW.loop (ι := { k : Nat // k ≤ p.2.2.length }) (fun k => [(3, .slice (some ⟨IB, 0, none⟩) L.length ic), (4, .int .i64 i), (5, .int .i64 k.1)]) (fun k => [blk b7 (bookC iv (.slice (some ⟨IB, 0, none⟩) L.length ic) kv) 88, ownHP 22 1 (.slice (some ⟨IB, 0, none⟩) L.length ic) (heads L), ownHP 9 1 (rv p) (marks mS i k.1 ++ p.2.2.drop k.1), allHP (((Lp mS i L).map (rowH 9)).eraseIdx i)]) (fun k => p.2.2.length - k.1) ⟨0, Nat.zero_le _⟩ ⟨rfl, rfl, rfl, trivial⟩ (fun h => h) ?_
    intro ⟨k, hk⟩
    dsimp only at hk ⊢
    refine CW.seq ?_
    refine Ja ?_;refine Jc ?_;refine Jc ?_;refine Jc ?_
    refine RW.indexAddr rfl rfl (by omega) hlt rfl ?_
    refine RW.loadOwn1 [_] (i := i) (j := 0) rfl (by simp) hh rfl rfl rfl ?_
    refine Jg ?_;refine Jk ?_;refine Jb ?_
    refine CW.ite rfl (fun hltk => ?_) (fun hgek => ?_)
    · have hltk' : k < p.2.2.length := by simpa using hltk
      obtain ⟨cs, hcs, hcl, hset⟩ := mark_one (m := mS) (i := i) hltk' hel'
      have hset' : (marks mS i k ++ p.2.2.drop k).set k (cs.set 0 (.string (mkS (i : Int) (k : Int)))) = marks mS i (k + 1) ++ p.2.2.drop (k + 1) := hset
      refine CW.skip ?_
      refine PW.code ?_
      refine CW.seq ?_
      refine CW.block ?_
      refine CW.anyV (by kernel_rfl) rfl ?_
      refine AW.val rfl (fun _ _ => by refine Jc ?_;exact RW.done rfl) ?_;refine AW.val rfl (fun _ _ => by refine Jc ?_;exact RW.done rfl) ?_
      (apply AW.val rfl; · intro Gx X; (first | refine RW.yes rfl ?_ | skip); refine RW.indexAddr rfl rfl (by omega) hlt rfl ?_; exact RW.done rfl)
      (apply AW.val rfl; · intro Gx X; (first | refine RW.yes rfl ?_ | skip); refine RW.loadOwn1 [_] (i := i) (j := 0) rfl (by simp) hh rfl rfl rfl ?_; exact RW.done rfl)
      refine AW.val rfl (fun _ _ => by refine Jc ?_;exact RW.done rfl) ?_;refine AW.val rfl (fun _ _ => by refine Jc ?_;exact RW.done rfl) ?_;refine AW.val rfl (fun _ _ => by refine Jc ?_;exact RW.done rfl) ?_
      (apply AW.val rfl; · intro Gx X; (first | refine RW.yes rfl ?_ | skip); refine RW.call Tryz.call141 rfl (fun w2 hw => markStrings_ret) rfl ?_; exact RW.done rfl)
      (apply AW.val rfl; · intro Gx X; (first | refine RW.yes rfl ?_ | skip); refine RW.indexAddr rfl rfl (by omega) hltk rfl ?_; exact RW.done rfl)
      refine AW.stop (by kernel_rfl) (by kernel_rfl) fun bs => ?_
      refine RW.storeOwn [_, _] (v := (.string (mkS (i : Int) (k : Int)))) (i := k) (j := 0) rfl (by simp) rfl rfl rfl hcs hcl ?_
      rw [hset']
      refine RW.nil ?_
      refine PW.code ?_
      refine CW.region ?_
      refine Jc ?_
      refine RW.add rfl rfl (w64 (by omega) (by omega)) rfl ?_
      refine Jd ?_
      refine RW.nil ?_
      exact PW.again ⟨k + 1, hltk'⟩ ⟨rfl, rfl, rfl, trivial⟩ (fun h => h) (by show p.2.2.length - (k + 1) < p.2.2.length - k; omega)
    · have hgek' : p.2.2.length ≤ k := by simpa using hgek
      have hkl : k = p.2.2.length := by omega
      subst hkl
      refine CW.exit rfl ?_
      refine PW.code ?_
      refine CW.sep [blk b7 (bookC iv (.slice (some ⟨IB, 0, none⟩) L.length ic) kv) 88, ownHP 22 1 (.slice (some ⟨IB, 0, none⟩) L.length ic) (heads L), allHP ((Lp mS (i + 1) L).map (rowH 9))] (fun w A h => Sep.cons_perm (fun _ => Sep.cons_perm (fun _ h => ?_)) h) ?_
      · have e1 : ownHP 9 1 (rv p) (marks mS i p.2.2.length ++ p.2.2.drop p.2.2.length) = rowH 9 (mkRow mS i p) := by
          rw [List.drop_length, List.append_nil]
          unfold rowH
          rw [mkRow_v]
          rfl
        rw [e1] at h
        rw [← hst, List.map_set]
        exact rows_in (by rw [List.length_map, Lp_len]; exact hlt') h
      refine CW.region ?_
      refine Jc ?_
      refine RW.add rfl rfl (w64 (by omega) (by omega)) rfl ?_
      refine Jd ?_
      refine RW.nil ?_
      exact PW.again ⟨i + 1, hlt'⟩ ⟨rfl, rfl, trivial⟩ (fun h => h) (by show L.length - (i + 1) < L.length - i; omega)
  have hge' : L.length ≤ i := by simpa using hge
  have ha : ∀ j (h : j < L.length), (Lp mS i L)[j]? = some (mkRow mS j L[j]) := fun j h => Lp_all hge' h
  have hal : (Lp mS i L).length = L.length := Lp_len
  generalize Lp mS i L = La at *
  refine CW.exit rfl ?_
  refine PW.code ?_
  refine Ja ?_;refine Jd ?_;refine Jb ?_
  refine CW.seq ?_
  refine Ja ?_;refine Jd ?_;refine Jb ?_
  refine CW.block ?_
  refine CW.loop (ι := { q : Nat × Value × List GR // q.1 ≤ L.length ∧ q.2.2.length = q.1 ∧ ∀ (j : Nat) (g : GR), q.2.2[j]? = some g → ∃ p : Rw, L[j]? = some p ∧ g.1 = p.1 ∧ g.2.1 = p.2.1 ∧ g.2.2.1 = p.2.2.length }) (fun q => [(3, .slice IA L.length ic), (6, q.1.2.1), (7, .int .i64 q.1.1)])
    (fun q => [blk b7 (bookC iv (.slice IA L.length ic) kv) 88, ownHP 22 1 (.slice IA L.length ic) (heads L), ownHP 22 1 q.1.2.1 (q.1.2.2.map fun g => [gv g 20]), allHP (q.1.2.2.mapIdx fun i g => gH mS 9 i 20 g), allHP ((La.drop q.1.1).map (rowH 9))]) (fun q => L.length - q.1.1) ⟨(0, nilV, []), Nat.zero_le _, rfl, fun j g h => by cases h⟩ ⟨rfl, rfl, rfl, trivial⟩
    (fun h => h.sep_map fun w A h => nil_chunks h) ?_
  intro ⟨⟨i, gvv, Gs⟩, hi, hGl, hG⟩
  dsimp only at hi hGl hG ⊢
  refine CW.seq ?_
  refine Ja ?_;refine Jc ?_;refine Jc ?_;refine Jg ?_;refine Jk ?_;refine Jb ?_
  refine CW.ite rfl (fun hlt => ?_) (fun hge => ?_)
  · have hlt' : i < L.length := by simpa using hlt
    obtain ⟨IB, rfl⟩ := hIA (hne i hlt')
    have hsz' := hsz _ (List.getElem_mem hlt')
    have hh := hhd i hlt'
    have hdr := drop_rows (e := 9) hal ha hlt'
    have hLi : L[i]? = some L[i] := List.getElem?_eq_getElem hlt'
    rw [hdr]
    generalize L[i] = p at *
    rw [row_g]
    obtain ⟨pB, pc, pes⟩ := p
    dsimp only at hsz' hh ⊢
    generalize hnn : pes.length = n at *
    refine CW.skip ?_
    refine PW.code ?_
    refine CW.seq ?_
    refine CW.block ?_
    refine CW.sep [blk b7 (bookC iv (.slice (some ⟨IB, 0, none⟩) L.length ic) kv) 88, ownHP 22 1 (.slice (some ⟨IB, 0, none⟩) L.length ic) (heads L), ownHP 22 1 gvv (Gs.map fun g => [gv g 20]), allHP (Gs.mapIdx fun i g => gH mS 9 i 20 g), gH mS 9 i 0 (pB, pc, n, none), allHP ((La.drop (i + 1)).map (rowH 9))] (fun w A h => Sep.cons_perm (fun _ => Sep.cons_perm (fun _ => Sep.cons_perm (fun _ => Sep.cons_perm (fun _ h => all_cons h)))) h) ?_
    refine Ja ?_;refine Jc ?_;refine Jc ?_
    refine RW.indexAddr rfl rfl (by omega) hlt rfl ?_
    refine RW.loadOwn1 [_] (i := i) (j := 0) rfl (by simp) hh rfl rfl rfl ?_
    refine Jd ?_;refine Jb ?_
    refine CW.seq ?_
    refine Ja ?_;refine Jd ?_;refine Jb ?_
    refine CW.block ?_
    refine CW.loop (ι := { q : Nat × Option (Nat × Nat) // q.1 ≤ 20 }) (fun q => [(3, .slice (some ⟨IB, 0, none⟩) L.length ic), (6, gvv), (7, .int .i64 i), (8, gv (pB, pc, n, q.1.2) q.1.1), (9, .int .i64 q.1.1)])
      (fun q => [blk b7 (bookC iv (.slice (some ⟨IB, 0, none⟩) L.length ic) kv) 88, ownHP 22 1 (.slice (some ⟨IB, 0, none⟩) L.length ic) (heads L), ownHP 22 1 gvv (Gs.map fun g => [gv g 20]), allHP (Gs.mapIdx fun i g => gH mS 9 i 20 g), gH mS 9 i q.1.1 (pB, pc, n, q.1.2), allHP ((La.drop (i + 1)).map (rowH 9))]) (fun q => 20 - q.1.1) ⟨(0, none), Nat.zero_le _⟩ ⟨rfl, rfl, rfl, (by show some _ = some _; unfold rv; rw [hnn]; rfl), rfl, trivial⟩ (fun h => h) ?_
    intro ⟨⟨j, nw⟩, hj⟩
    dsimp only at hj ⊢
    refine CW.seq ?_
    refine Ja ?_;refine Jc ?_;refine Jk ?_;refine Jb ?_
    refine CW.ite rfl (fun hltj => ?_) (fun hgej => ?_)
    · have hltj' : j < 20 := by omega
      have hmk : marks mS i (n + j) ++ [[.string (mkS (i : Int) ((n + j : Nat) : Int))]] = marks mS i (n + (j + 1)) := (marks_succ (m := mS)).symm
      refine CW.skip ?_
      refine PW.code ?_
      refine CW.seq ?_
      refine CW.block ?_
      refine CW.region ?_
      refine Jc ?_;refine Jc ?_;refine Jc ?_;refine Jg ?_
      refine RW.call Tryz.call141 rfl (fun w2 hw => markStrings_ret) rfl ?_
      refine RW.buildSlice (e := 9) (c := [.string (mkS (i : Int) ((n + j : Nat) : Int))]) rfl (fun w => by kernel_rfl) rfl fun b60 _ => ?_
      cases nw with
      | none =>
        refine RW.change [_, _, _, _, _] (ownHP 9 1 (.slice (some ⟨pB, 0, none⟩) (n + j) pc) (marks mS i (n + j))) (fun w F hp => hp) ?_
        by_cases hroom : n + j + 1 ≤ pc
        · refine RW.appendRoom [_, _, _, _, _] (e := 9) (sz := 1) (news := [[.string (mkS (i : Int) ((n + j : Nat) : Int))]]) rfl rfl marks_len rfl (by simp) (by simp [Value.oneCell']) (fun w hw => CellsAt.of_blk (St.blk (pre := []) hw)) hroom rfl ?_
          rw [hmk]
          refine Jd ?_;refine RW.nil (PW.code ?_)
          refine CW.region ?_
          refine Jc ?_
          refine RW.add rfl rfl (w64 (by omega) (by omega)) rfl ?_
          refine Jd ?_
          refine RW.nil ?_
          exact PW.againT ⟨(j + 1, none), hltj'⟩ [1, 2, 3, 4, 5, 6] ⟨rfl, rfl, rfl, rfl, rfl, trivial⟩ rfl (by show 20 - (j + 1) < 20 - j; omega)
        · refine RW.appendOut [_, _, _, _, _] (e := 9) (sz := 1) (news := [[.string (mkS (i : Int) ((n + j : Nat) : Int))]]) (zc := [.string ByteArray.empty]) rfl rfl rfl rfl marks_len rfl (by decide) marks_one (by simp) (fun w hw => CellsAt.of_blk (St.blk (pre := []) hw)) (by omega) (by omega) (by unfold maxN; omega) rfl fun b c' _ => ?_
          rw [hmk]
          refine RW.change [_, _, _, _, _, _] (ownHP 9 1 (.slice (some ⟨pB, 0, none⟩) n pc) (marks mS i n)) (fun w F hp => own_shrink hp) ?_
          refine Jd ?_;refine RW.nil (PW.code ?_)
          refine CW.region ?_
          refine Jc ?_
          refine RW.add rfl rfl (w64 (by omega) (by omega)) rfl ?_
          refine Jd ?_
          refine RW.nil ?_
          refine PW.sep (H' := [blk b7 (bookC iv (.slice (some ⟨IB, 0, none⟩) L.length ic) kv) 88, ownHP 22 1 (.slice (some ⟨IB, 0, none⟩) L.length ic) (heads L), ownHP 22 1 gvv (Gs.map fun g => [gv g 20]), allHP (Gs.mapIdx fun i g => gH mS 9 i 20 g), gH mS 9 i (j + 1) (pB, pc, n, some (b, c')), allHP ((La.drop (i + 1)).map (rowH 9))]) (fun w A h => Sep.cons_perm (fun _ => Sep.cons_perm (fun _ => Sep.cons_perm (fun _ => Sep.cons_perm (fun _ h => Sep.pack (L := [_, _]) h)))) (Sep.take [2, 3, 4, 5, 0, 6, 7] h)) ?_
          exact PW.again ⟨(j + 1, some (b, c')), hltj'⟩ ⟨rfl, rfl, rfl, rfl, rfl, trivial⟩ (fun h => h) (by show 20 - (j + 1) < 20 - j; omega)
      | some q =>
        refine RW.sep [blk b60 [.string (mkS (i : Int) ((n + j : Nat) : Int))] 9, blk b7 (bookC iv (.slice (some ⟨IB, 0, none⟩) L.length ic) kv) 88, ownHP 22 1 (.slice (some ⟨IB, 0, none⟩) L.length ic) (heads L), ownHP 22 1 gvv (Gs.map fun g => [gv g 20]), allHP (Gs.mapIdx fun i g => gH mS 9 i 20 g), ownHP 9 1 (.slice (some ⟨q.1, 0, none⟩) (n + j) q.2) (marks mS i (n + j)), ownHP 9 1 (.slice (some ⟨pB, 0, none⟩) n pc) (marks mS i n), allHP ((La.drop (i + 1)).map (rowH 9))] (fun w A h => Sep.cons_perm (fun _ => Sep.cons_perm (fun _ => Sep.cons_perm (fun _ => Sep.cons_perm (fun _ => Sep.cons_perm (fun _ h => Sep.unpack (L := [_, _]) h))))) h) ?_
        by_cases hroom : n + j + 1 ≤ q.2
        · refine RW.appendRoom [_, _, _, _, _] (e := 9) (sz := 1) (news := [[.string (mkS (i : Int) ((n + j : Nat) : Int))]]) rfl rfl marks_len rfl (by simp) (by simp [Value.oneCell']) (fun w hw => CellsAt.of_blk (St.blk (pre := []) hw)) hroom rfl ?_
          rw [hmk]
          refine Jd ?_;refine RW.nil (PW.code ?_)
          refine CW.region ?_
          refine Jc ?_
          refine RW.add rfl rfl (w64 (by omega) (by omega)) rfl ?_
          refine Jd ?_
          refine RW.nil ?_
          refine PW.sep (H' := [blk b7 (bookC iv (.slice (some ⟨IB, 0, none⟩) L.length ic) kv) 88, ownHP 22 1 (.slice (some ⟨IB, 0, none⟩) L.length ic) (heads L), ownHP 22 1 gvv (Gs.map fun g => [gv g 20]), allHP (Gs.mapIdx fun i g => gH mS 9 i 20 g), gH mS 9 i (j + 1) (pB, pc, n, some q), allHP ((La.drop (i + 1)).map (rowH 9))]) (fun w A h => Sep.cons_perm (fun _ => Sep.cons_perm (fun _ => Sep.cons_perm (fun _ => Sep.cons_perm (fun _ h => Sep.pack (L := [_, _]) h)))) (Sep.take [1, 2, 3, 4, 5, 6, 7] h)) ?_
          exact PW.again ⟨(j + 1, some q), hltj'⟩ ⟨rfl, rfl, rfl, rfl, rfl, trivial⟩ (fun h => h) (by show 20 - (j + 1) < 20 - j; omega)
        · refine RW.appendOut [_, _, _, _, _] (e := 9) (sz := 1) (news := [[.string (mkS (i : Int) ((n + j : Nat) : Int))]]) (zc := [.string ByteArray.empty]) rfl rfl rfl rfl marks_len rfl (by decide) marks_one (by simp) (fun w hw => CellsAt.of_blk (St.blk (pre := []) hw)) (by omega) (by omega) (by unfold maxN; omega) rfl fun b c' _ => ?_
          rw [hmk]
          refine Jd ?_;refine RW.nil (PW.code ?_)
          refine CW.region ?_
          refine Jc ?_
          refine RW.add rfl rfl (w64 (by omega) (by omega)) rfl ?_
          refine Jd ?_
          refine RW.nil ?_
          refine PW.sep (H' := [blk b7 (bookC iv (.slice (some ⟨IB, 0, none⟩) L.length ic) kv) 88, ownHP 22 1 (.slice (some ⟨IB, 0, none⟩) L.length ic) (heads L), ownHP 22 1 gvv (Gs.map fun g => [gv g 20]), allHP (Gs.mapIdx fun i g => gH mS 9 i 20 g), gH mS 9 i (j + 1) (pB, pc, n, some (b, c')), allHP ((La.drop (i + 1)).map (rowH 9))]) (fun w A h => Sep.cons_perm (fun _ => Sep.cons_perm (fun _ => Sep.cons_perm (fun _ => Sep.cons_perm (fun _ h => Sep.pack (L := [_, _]) h)))) (Sep.take [2, 3, 4, 5, 0, 7, 8] h)) ?_
          exact PW.again ⟨(j + 1, some (b, c')), hltj'⟩ ⟨rfl, rfl, rfl, rfl, rfl, trivial⟩ (fun h => h) (by show 20 - (j + 1) < 20 - j; omega)
    · have hj20 : j = 20 := by omega
      subst hj20
      refine CW.exit rfl ?_
      refine PW.code ?_
      refine CW.region ?_
      refine Jc ?_;refine Jc ?_
      refine RW.buildSlice (e := 22) (c := [gv (pB, pc, n, nw) 20]) rfl (fun w => by kernel_rfl) rfl fun b64 _ => ?_
      refine RW.append [_, _, _] (e := 22) (sz := 1) (news := [[gv (pB, pc, n, nw) 20]]) (zc := [nilV]) rfl rfl rfl rfl rfl (by simp) (fun u hu v hv => by rw [List.mem_singleton.1 hu] at hv; rw [List.mem_singleton.1 hv]; rfl) (fun w hw hn => ⟨b64, 0, rfl, CellsAt.of_blk (St.blk (pre := []) hw)⟩) (by rw [List.length_map, hGl]; omega) (by rw [List.length_map, hGl]; unfold maxN; omega) rfl fun u1 => ?_
      refine Jd ?_;refine RW.nil (PW.code ?_)
      refine CW.region ?_
      refine Jc ?_
      refine RW.add rfl rfl (w64 (by omega) (by omega)) rfl ?_
      refine Jd ?_
      refine RW.nil ?_
      refine PW.sep (H' := [blk b7 (bookC iv (.slice (some ⟨IB, 0, none⟩) L.length ic) kv) 88, ownHP 22 1 (.slice (some ⟨IB, 0, none⟩) L.length ic) (heads L), ownHP 22 1 u1 ((Gs ++ [(pB, pc, n, nw)]).map fun g => [gv g 20]), allHP ((Gs ++ [(pB, pc, n, nw)]).mapIdx fun i g => gH mS 9 i 20 g), allHP ((La.drop (i + 1)).map (rowH 9))]) (fun w A h => ?_) ?_
      · have h2 := Sep.take [1, 2, 3, 5, 4, 6] h
        rw [List.map_append, List.mapIdx_concat, hGl]
        exact Sep.cons_perm (fun _ => Sep.cons_perm (fun _ => Sep.cons_perm (fun _ h => all_snoc h))) h2
      refine PW.again ⟨(i + 1, u1, Gs ++ [(pB, pc, n, nw)]), hlt', by show (Gs ++ [_]).length = i + 1; rw [List.length_append, hGl]; rfl, fun j2 g hg => ?_⟩ ⟨rfl, rfl, rfl, trivial⟩ (fun h => h) (by show L.length - (i + 1) < L.length - i; omega)
      rcases Nat.lt_or_ge j2 Gs.length with h1 | h1
      · exact hG j2 g (by rwa [List.getElem?_append_left h1] at hg)
      · have h2 : j2 = i := by
          have := (List.getElem?_eq_some_iff.1 hg).1
          rw [List.length_append, List.length_singleton] at this
          omega
        subst h2
        rw [List.getElem?_append_right h1, hGl, Nat.sub_self] at hg
        cases hg
        exact ⟨_, hLi, rfl, rfl, hnn.symm⟩
  have hge2 : L.length ≤ i := by simpa using hge
  have hiL : i = L.length := by omega
  subst hiL
  refine CW.have_ (φ := ∃ GA gc, gvv = .slice GA L.length gc ∧ (L ≠ [] → ∃ B, GA = some ⟨B, 0, none⟩)) (fun w hw => ?_) (fun ⟨GA, gc, hgvv, hGA⟩ => ?_)
  · obtain ⟨A, c, h1, h2⟩ := own_shapeM (pre := [_, _]) hw
    rw [List.length_map, hGl] at h1
    exact ⟨A, c, h1, fun h => h2 (fun e => by rw [List.map_eq_nil_iff] at e; rw [e] at hGl; exact h (List.eq_nil_of_length_eq_zero hGl.symm))⟩
  subst hgvv
  refine CW.exit rfl ?_
  refine PW.code ?_
  refine CW.take [0, 1, 2, 3] ?_
  refine CW.seq ?_
  refine Ja ?_;refine Jd ?_;refine Jb ?_
  refine CW.block ?_
  refine CW.loop (ι := { i : Nat // i ≤ L.length }) (fun i => [(3, .slice IA L.length ic), (6, .slice GA L.length gc), (10, .int .i64 i.1)])
    (fun i => [blk b7 (bookC iv (.slice IA L.length ic) kv) 88, ownHP 22 1 (.slice IA L.length ic) (heads L), ownHP 22 1 (.slice GA L.length gc) (Gs.map fun g => [gv g 20]), allHP (Gs.mapIdx fun i g => gH mS 9 i 20 g)]) (fun i => L.length - i.1) ⟨0, Nat.zero_le _⟩ ⟨rfl, rfl, rfl, trivial⟩ (fun h => h) ?_
  intro ⟨i, hi⟩
  dsimp only at hi ⊢
  refine CW.seq ?_
  refine Ja ?_;refine Jc ?_;refine Jc ?_;refine Jg ?_;refine Jk ?_;refine Jb ?_
  refine CW.ite rfl (fun hlt => ?_) (fun hge => ?_)
  rotate_left
  · refine CW.exit rfl ?_
    refine PW.code ?_
    refine Ja ?_;refine Jd ?_;refine Jb ?_
    exact CW.ret1 rfl Tryz.results62 rfl rfl fun w hw => ⟨(), rfl, hw.take [0]⟩
  have hlt' : i < L.length := by simpa using hlt
  obtain ⟨IB, rfl⟩ := hIA (hne i hlt')
  obtain ⟨GB, rfl⟩ := hGA (hne i hlt')
  have hsz' := hsz _ (List.getElem_mem hlt')
  have hh := hhd i hlt'
  have hgg : Gs[i]? = some (Gs[i]'(by omega)) := List.getElem?_eq_getElem _
  generalize Gs[i]'(by omega) = g at hgg
  have hgh : (Gs.map fun g => [gv g 20])[i]? = some [gv g 20] := by rw [List.getElem?_map, hgg]; rfl
  have hgr : (Gs.mapIdx fun i g => gH mS 9 i 20 g)[i]? = some (gH mS 9 i 20 g) := by rw [List.getElem?_mapIdx, hgg]; rfl
  obtain ⟨p, hp0, hp1, hp2, hp3⟩ := hG i g hgg
  rw [List.getElem?_eq_getElem hlt'] at hp0
  obtain rfl := Option.some.inj hp0
  generalize L[i] = p at *
  have hrv : rv p = .slice (some ⟨g.1, 0, none⟩) g.2.2.1 p.2.1 := by unfold rv; rw [hp1, hp3]
  rw [hrv] at hh
  rw [← hp3] at hsz'
  clear hp0 hp1 hp2 hp3 hrv
  refine CW.skip ?_
  refine PW.code ?_
  refine CW.seq ?_
  refine CW.block ?_
  refine Ja ?_;refine Jd ?_;refine Jb ?_
  refine CW.block ?_
  refine CW.loop (ι := { k : Nat // k ≤ g.2.2.1 + 20 }) (fun k => [(3, .slice (some ⟨IB, 0, none⟩) L.length ic), (6, .slice (some ⟨GB, 0, none⟩) L.length gc), (10, .int .i64 i), (11, .int .i64 k.1)])
    (fun k => [blk b7 (bookC iv (.slice (some ⟨IB, 0, none⟩) L.length ic) kv) 88, ownHP 22 1 (.slice (some ⟨IB, 0, none⟩) L.length ic) (heads L), ownHP 22 1 (.slice (some ⟨GB, 0, none⟩) L.length gc) (Gs.map fun g => [gv g 20]), allHP (Gs.mapIdx fun i g => gH mS 9 i 20 g)]) (fun k => g.2.2.1 + 20 - k.1) ⟨0, Nat.zero_le _⟩ ⟨rfl, rfl, rfl, rfl, trivial⟩ (fun h => h) ?_
  intro ⟨k, hk⟩
  dsimp only at hk ⊢
  refine CW.seq ?_
  refine Ja ?_;refine Jc ?_;refine Jc ?_;refine Jc ?_
  refine RW.indexAddr rfl rfl (by omega) hlt rfl ?_
  refine RW.loadOwn1 [_, _] (i := i) (j := 0) rfl (by simp) hgh rfl rfl rfl ?_
  refine Jg ?_;refine Jk ?_;refine Jb ?_
  refine CW.ite rfl (fun hltk => ?_) (fun hgek => ?_)
  rotate_left
  · refine CW.exit rfl ?_
    refine PW.code ?_
    refine CW.region ?_
    refine Jc ?_
    refine RW.add rfl rfl (w64 (by omega) (by omega)) rfl ?_
    refine Jd ?_
    refine RW.nil ?_
    exact PW.again ⟨i + 1, hlt'⟩ ⟨rfl, rfl, rfl, trivial⟩ (fun h => h) (by show L.length - (i + 1) < L.length - i; omega)
  have hltk' : k < g.2.2.1 + 20 := by have : (k : Int) < ((g.2.2.1 + 20 : Nat) : Int) := hltk; omega
  refine CW.skip ?_
  refine PW.code ?_
  refine CW.seq ?_
  refine CW.block ?_
  refine Ja ?_;refine Jc ?_;refine Jc ?_
  refine RW.call Tryz.call141 rfl (fun w2 hw => markStrings_ret) rfl ?_
  refine Jd ?_;refine Jb ?_;refine Ja ?_;refine Jc ?_;refine Jc ?_
  refine RW.indexAddr rfl rfl (by omega) hlt rfl ?_
  refine RW.loadOwn1 [_, _] (i := i) (j := 0) rfl (by simp) hgh rfl rfl rfl ?_
  refine Jc ?_
  refine RW.indexAddr rfl rfl (by omega) hltk rfl ?_
  refine RW.load_fact (v := (.string (mkS (i : Int) (k : Int)))) rfl rfl rfl (fun w hw => ?_) ?_
  · obtain ⟨F, hp⟩ := all_get (pre := [_, _, _]) hw hgr
    exact g_cell (m := mS) hp hltk'
  refine Jc ?_;refine Jp ?_;refine Jc ?_
  refine RW.splitD 93 rfl (fun h => absurd rfl h) (fun _ => ?_)
  refine Jy ?_;refine Jc ?_;refine Jy ?_;refine Jc ?_;refine Jy ?_;refine Jc ?_;refine Jy ?_
  refine RW.indexAddr rfl rfl (by omega) hlt rfl ?_
  refine Jy ?_
  refine RW.loadOwn1 [_] (i := i) (j := 0) rfl (by simp) hh rfl rfl rfl ?_
  refine Jy ?_;refine Jg ?_;refine Jy ?_;refine Jk ?_;refine Jy ?_;refine Jc ?_
  refine RW.splitD 101 rfl (fun hk3 => ?_) (fun hk3 => ?_)
  · have hk3' : k < g.2.2.1 := by omega
    refine Jy ?_;refine Jc ?_;refine Jy ?_;refine Jc ?_;refine Jy ?_
    refine RW.indexAddr rfl rfl (by omega) hlt rfl ?_
    refine Jy ?_
    refine RW.loadOwn1 [_] (i := i) (j := 0) rfl (by simp) hh rfl rfl rfl ?_
    refine Jy ?_;refine Jc ?_;refine Jy ?_
    refine RW.indexAddr rfl rfl (by omega) hk3 rfl ?_
    refine Jy ?_
    refine RW.load_fact (v := (.string (mkS (i : Int) (k : Int)))) rfl rfl rfl (fun w hw => ?_) ?_
    · obtain ⟨F, hp⟩ := all_get (pre := [_, _, _]) hw hgr
      exact v_cell (m := mS) hp hk3'
    refine Jy ?_;refine Jc ?_;refine Jy ?_;refine Jp ?_;refine Jy ?_;refine Jv ?_;refine Jw ?_;refine Jb ?_
    refine CW.ite rfl (fun h => absurd rfl h) (fun _ => ?_)
    refine CW.skip ?_
    refine PW.code ?_
    refine CW.region ?_
    refine Jc ?_
    refine RW.add rfl rfl (w64 (by omega) (by omega)) rfl ?_
    refine Jd ?_
    refine RW.nil ?_
    exact PW.again ⟨k + 1, hltk'⟩ ⟨rfl, rfl, rfl, rfl, trivial⟩ (fun h => h) (by show g.2.2.1 + 20 - (k + 1) < g.2.2.1 + 20 - k; omega)
  · refine Jz ?_;refine Jz ?_;refine Jz ?_;refine Jz ?_;refine Jz ?_;refine Jz ?_;refine Jz ?_;refine Jz ?_;refine Jz ?_;refine Jy ?_;refine Jw ?_;refine Jw ?_;refine Jb ?_
    refine CW.cf rfl ?_
    refine CW.skip ?_
    refine PW.code ?_
    refine CW.region ?_
    refine Jc ?_
    refine RW.add rfl rfl (w64 (by omega) (by omega)) rfl ?_
    refine Jd ?_
    refine RW.nil ?_
    exact PW.again ⟨k + 1, hltk'⟩ ⟨rfl, rfl, rfl, rfl, trivial⟩ (fun h => h) (by show g.2.2.1 + 20 - (k + 1) < g.2.2.1 + 20 - k; omega)
set_option maxHeartbeats 32000000 in
theorem apartKinds_ret {b7 : Nat} {iv sv kv : Value} {L : List Rw} {w : World} {F : Nat → Prop} (hel : ∀ p ∈ L, ∀ x ∈ p.2.2, x.length = 1) (hsz : ∀ p ∈ L, (p.2.2.length + 21) * 8 ≤ 140737488355328) (hL : L.length ≤ 1000)
    (hH : Sep [blk b7 (bookC iv sv kv) 88, ownHP 93 1 kv (heads L), allHP (L.map (rowH 148))] w F) : RetC Tryz.prog 68 [ptrV b7] w F (fun _ : Unit => .bool true) (fun _ => [blk b7 (bookC iv sv kv) 88]) := by
  refine Calls.enter Tryz.func68 rfl _ rfl rfl (S := F) (H := [blk b7 (bookC iv sv kv) 88, ownHP 93 1 kv (heads L), allHP (L.map (rowH 148))]) hH ?_
  refine CW.have_ (φ := ∃ IA ic, kv = .slice IA L.length ic ∧ (L ≠ [] → ∃ B, IA = some ⟨B, 0, none⟩)) (fun w hw => ?_) (fun ⟨IA, ic, hiv, hIA⟩ => ?_)
  · obtain ⟨A, c, h1, h2⟩ := own_shapeM (pre := [_]) hw
    rw [List.length_map] at h1
    exact ⟨A, c, h1, fun h => h2 (by simpa using h)⟩
  subst hiv
  have hne : ∀ i, i < L.length → L ≠ [] := fun i h e => by rw [e] at h; simp at h
  have hhd : ∀ i (h : i < L.length), (heads L)[i]? = some [rv L[i]] := fun i h => by rw [List.getElem?_map, List.getElem?_eq_getElem h]; rfl
  refine Ja ?_;refine Jd ?_;refine Jb ?_;refine Ja ?_;refine Jc ?_;refine Jf ?_;refine Je ?_;refine JA ?_;refine Jd ?_;refine Jb ?_
  refine CW.seq ?_
  refine Ja ?_;refine Jd ?_;refine Jb ?_
  refine CW.block ?_
  refine CW.loop (ι := { i : Nat // i ≤ L.length }) (fun i => [(3, .slice IA L.length ic), (4, .int .i64 i.1)]) (fun i => [blk b7 (bookC iv sv (.slice IA L.length ic)) 88, ownHP 93 1 (.slice IA L.length ic) (heads L), allHP ((Lp mK i.1 L).map (rowH 148))]) (fun i => L.length - i.1) ⟨0, Nat.zero_le _⟩ ⟨rfl, rfl, trivial⟩ (fun h => by rw [Lp_zero]; exact h) ?_
  intro ⟨i, hi⟩
  dsimp only at hi ⊢
  refine CW.seq ?_
  refine Ja ?_;refine Jc ?_;refine Jc ?_;refine Jg ?_;refine Jk ?_;refine Jb ?_
  refine CW.ite rfl (fun hlt => ?_) (fun hge => ?_)
  · have hlt' : i < L.length := by simpa using hlt
    obtain ⟨IB, rfl⟩ := hIA (hne i hlt')
    have hel' := hel _ (List.getElem_mem hlt')
    have hsz' := hsz _ (List.getElem_mem hlt')
    have hh := hhd i hlt'
    have hgi : ((Lp mK i L).map (rowH 148))[i]? = some (rowH 148 L[i]) := by rw [List.getElem?_map, Lp_get hlt']; rfl
    have hst := Lp_set (m := mK) hlt'
    generalize L[i] = p at *
    refine CW.skip ?_
    refine PW.code ?_
    refine CW.seq ?_
    refine CW.block ?_
    refine CW.sep [blk b7 (bookC iv sv (.slice (some ⟨IB, 0, none⟩) L.length ic)) 88, ownHP 93 1 (.slice (some ⟨IB, 0, none⟩) L.length ic) (heads L), rowH 148 p, allHP (((Lp mK i L).map (rowH 148)).eraseIdx i)] (fun w A h => Sep.cons_perm (fun _ => Sep.cons_perm (fun _ h => rows_out hgi h)) h) ?_
    refine Ja ?_;refine Jd ?_;refine Jb ?_
    refine CW.block ?_
    refine CW.loop (ι := { k : Nat // k ≤ p.2.2.length }) (fun k => [(3, .slice (some ⟨IB, 0, none⟩) L.length ic), (4, .int .i64 i), (5, .int .i64 k.1)]) (fun k => [blk b7 (bookC iv sv (.slice (some ⟨IB, 0, none⟩) L.length ic)) 88, ownHP 93 1 (.slice (some ⟨IB, 0, none⟩) L.length ic) (heads L), ownHP 148 1 (rv p) (marks mK i k.1 ++ p.2.2.drop k.1), allHP (((Lp mK i L).map (rowH 148)).eraseIdx i)]) (fun k => p.2.2.length - k.1) ⟨0, Nat.zero_le _⟩ ⟨rfl, rfl, rfl, trivial⟩ (fun h => h) ?_
    intro ⟨k, hk⟩
    dsimp only at hk ⊢
    refine CW.seq ?_
    refine Ja ?_;refine Jc ?_;refine Jc ?_;refine Jc ?_
    refine RW.indexAddr rfl rfl (by omega) hlt rfl ?_
    refine RW.loadOwn1 [_] (i := i) (j := 0) rfl (by simp) hh rfl rfl rfl ?_
    refine Jg ?_;refine Jk ?_;refine Jb ?_
    refine CW.ite rfl (fun hltk => ?_) (fun hgek => ?_)
    · have hltk' : k < p.2.2.length := by simpa using hltk
      obtain ⟨cs, hcs, hcl, hset⟩ := mark_one (m := mK) (i := i) hltk' hel'
      have hset' : (marks mK i k ++ p.2.2.drop k).set k (cs.set 0 (.int .i64 (mkK (i : Int) (k : Int)))) = marks mK i (k + 1) ++ p.2.2.drop (k + 1) := hset
      refine CW.skip ?_
      refine PW.code ?_
      refine CW.seq ?_
      refine CW.block ?_
      refine CW.anyV (by kernel_rfl) rfl ?_
      refine AW.val rfl (fun _ _ => by refine Jc ?_;exact RW.done rfl) ?_;refine AW.val rfl (fun _ _ => by refine Jc ?_;exact RW.done rfl) ?_
      (apply AW.val rfl; · intro Gx X; (first | refine RW.yes rfl ?_ | skip); refine RW.indexAddr rfl rfl (by omega) hlt rfl ?_; exact RW.done rfl)
      (apply AW.val rfl; · intro Gx X; (first | refine RW.yes rfl ?_ | skip); refine RW.loadOwn1 [_] (i := i) (j := 0) rfl (by simp) hh rfl rfl rfl ?_; exact RW.done rfl)
      refine AW.val rfl (fun _ _ => by refine Jc ?_;exact RW.done rfl) ?_;refine AW.val rfl (fun _ _ => by refine Jc ?_;exact RW.done rfl) ?_;refine AW.val rfl (fun _ _ => by refine Jc ?_;exact RW.done rfl) ?_
      (apply AW.val rfl; · intro Gx X; (first | refine RW.yes rfl ?_ | skip); refine RW.call Tryz.call147 rfl (fun w2 hw => markKinds_ret) rfl ?_; exact RW.done rfl)
      (apply AW.val rfl; · intro Gx X; (first | refine RW.yes rfl ?_ | skip); refine RW.indexAddr rfl rfl (by omega) hltk rfl ?_; exact RW.done rfl)
      refine AW.stop (by kernel_rfl) (by kernel_rfl) fun bs => ?_
      refine RW.storeOwn [_, _] (v := (.int .i64 (mkK (i : Int) (k : Int)))) (i := k) (j := 0) rfl (by simp) rfl rfl rfl hcs hcl ?_
      rw [hset']
      refine RW.nil ?_
      refine PW.code ?_
      refine CW.region ?_
      refine Jc ?_
      refine RW.add rfl rfl (w64 (by omega) (by omega)) rfl ?_
      refine Jd ?_
      refine RW.nil ?_
      exact PW.again ⟨k + 1, hltk'⟩ ⟨rfl, rfl, rfl, trivial⟩ (fun h => h) (by show p.2.2.length - (k + 1) < p.2.2.length - k; omega)
    · have hgek' : p.2.2.length ≤ k := by simpa using hgek
      have hkl : k = p.2.2.length := by omega
      subst hkl
      refine CW.exit rfl ?_
      refine PW.code ?_
      refine CW.sep [blk b7 (bookC iv sv (.slice (some ⟨IB, 0, none⟩) L.length ic)) 88, ownHP 93 1 (.slice (some ⟨IB, 0, none⟩) L.length ic) (heads L), allHP ((Lp mK (i + 1) L).map (rowH 148))] (fun w A h => Sep.cons_perm (fun _ => Sep.cons_perm (fun _ h => ?_)) h) ?_
      · have e1 : ownHP 148 1 (rv p) (marks mK i p.2.2.length ++ p.2.2.drop p.2.2.length) = rowH 148 (mkRow mK i p) := by
          rw [List.drop_length, List.append_nil]
          unfold rowH
          rw [mkRow_v]
          rfl
        rw [e1] at h
        rw [← hst, List.map_set]
        exact rows_in (by rw [List.length_map, Lp_len]; exact hlt') h
      refine CW.region ?_
      refine Jc ?_
      refine RW.add rfl rfl (w64 (by omega) (by omega)) rfl ?_
      refine Jd ?_
      refine RW.nil ?_
      exact PW.again ⟨i + 1, hlt'⟩ ⟨rfl, rfl, trivial⟩ (fun h => h) (by show L.length - (i + 1) < L.length - i; omega)
  have hge' : L.length ≤ i := by simpa using hge
  have ha : ∀ j (h : j < L.length), (Lp mK i L)[j]? = some (mkRow mK j L[j]) := fun j h => Lp_all hge' h
  have hal : (Lp mK i L).length = L.length := Lp_len
  generalize Lp mK i L = La at *
  refine CW.exit rfl ?_
  refine PW.code ?_
  refine Ja ?_;refine Jd ?_;refine Jb ?_
  refine CW.seq ?_
  refine Ja ?_;refine Jd ?_;refine Jb ?_
  refine CW.block ?_
  refine CW.loop (ι := { q : Nat × Value × List GR // q.1 ≤ L.length ∧ q.2.2.length = q.1 ∧ ∀ (j : Nat) (g : GR), q.2.2[j]? = some g → ∃ p : Rw, L[j]? = some p ∧ g.1 = p.1 ∧ g.2.1 = p.2.1 ∧ g.2.2.1 = p.2.2.length }) (fun q => [(3, .slice IA L.length ic), (6, q.1.2.1), (7, .int .i64 q.1.1)])
    (fun q => [blk b7 (bookC iv sv (.slice IA L.length ic)) 88, ownHP 93 1 (.slice IA L.length ic) (heads L), ownHP 93 1 q.1.2.1 (q.1.2.2.map fun g => [gv g 20]), allHP (q.1.2.2.mapIdx fun i g => gH mK 148 i 20 g), allHP ((La.drop q.1.1).map (rowH 148))]) (fun q => L.length - q.1.1) ⟨(0, nilV, []), Nat.zero_le _, rfl, fun j g h => by cases h⟩ ⟨rfl, rfl, rfl, trivial⟩
    (fun h => h.sep_map fun w A h => nil_chunks h) ?_
  intro ⟨⟨i, gvv, Gs⟩, hi, hGl, hG⟩
  dsimp only at hi hGl hG ⊢
  refine CW.seq ?_
  refine Ja ?_;refine Jc ?_;refine Jc ?_;refine Jg ?_;refine Jk ?_;refine Jb ?_
  refine CW.ite rfl (fun hlt => ?_) (fun hge => ?_)
  · have hlt' : i < L.length := by simpa using hlt
    obtain ⟨IB, rfl⟩ := hIA (hne i hlt')
    have hsz' := hsz _ (List.getElem_mem hlt')
    have hh := hhd i hlt'
    have hdr := drop_rows (e := 148) hal ha hlt'
    have hLi : L[i]? = some L[i] := List.getElem?_eq_getElem hlt'
    rw [hdr]
    generalize L[i] = p at *
    rw [row_g]
    obtain ⟨pB, pc, pes⟩ := p
    dsimp only at hsz' hh ⊢
    generalize hnn : pes.length = n at *
    refine CW.skip ?_
    refine PW.code ?_
    refine CW.seq ?_
    refine CW.block ?_
    refine CW.sep [blk b7 (bookC iv sv (.slice (some ⟨IB, 0, none⟩) L.length ic)) 88, ownHP 93 1 (.slice (some ⟨IB, 0, none⟩) L.length ic) (heads L), ownHP 93 1 gvv (Gs.map fun g => [gv g 20]), allHP (Gs.mapIdx fun i g => gH mK 148 i 20 g), gH mK 148 i 0 (pB, pc, n, none), allHP ((La.drop (i + 1)).map (rowH 148))] (fun w A h => Sep.cons_perm (fun _ => Sep.cons_perm (fun _ => Sep.cons_perm (fun _ => Sep.cons_perm (fun _ h => all_cons h)))) h) ?_
    refine Ja ?_;refine Jc ?_;refine Jc ?_
    refine RW.indexAddr rfl rfl (by omega) hlt rfl ?_
    refine RW.loadOwn1 [_] (i := i) (j := 0) rfl (by simp) hh rfl rfl rfl ?_
    refine Jd ?_;refine Jb ?_
    refine CW.seq ?_
    refine Ja ?_;refine Jd ?_;refine Jb ?_
    refine CW.block ?_
    refine CW.loop (ι := { q : Nat × Option (Nat × Nat) // q.1 ≤ 20 }) (fun q => [(3, .slice (some ⟨IB, 0, none⟩) L.length ic), (6, gvv), (7, .int .i64 i), (8, gv (pB, pc, n, q.1.2) q.1.1), (9, .int .i64 q.1.1)])
      (fun q => [blk b7 (bookC iv sv (.slice (some ⟨IB, 0, none⟩) L.length ic)) 88, ownHP 93 1 (.slice (some ⟨IB, 0, none⟩) L.length ic) (heads L), ownHP 93 1 gvv (Gs.map fun g => [gv g 20]), allHP (Gs.mapIdx fun i g => gH mK 148 i 20 g), gH mK 148 i q.1.1 (pB, pc, n, q.1.2), allHP ((La.drop (i + 1)).map (rowH 148))]) (fun q => 20 - q.1.1) ⟨(0, none), Nat.zero_le _⟩ ⟨rfl, rfl, rfl, (by show some _ = some _; unfold rv; rw [hnn]; rfl), rfl, trivial⟩ (fun h => h) ?_
    intro ⟨⟨j, nw⟩, hj⟩
    dsimp only at hj ⊢
    refine CW.seq ?_
    refine Ja ?_;refine Jc ?_;refine Jk ?_;refine Jb ?_
    refine CW.ite rfl (fun hltj => ?_) (fun hgej => ?_)
    · have hltj' : j < 20 := by omega
      have hmk : marks mK i (n + j) ++ [[.int .i64 (mkK (i : Int) ((n + j : Nat) : Int))]] = marks mK i (n + (j + 1)) := (marks_succ (m := mK)).symm
      refine CW.skip ?_
      refine PW.code ?_
      refine CW.seq ?_
      refine CW.block ?_
      refine CW.region ?_
      refine Jc ?_;refine Jc ?_;refine Jc ?_;refine Jg ?_
      refine RW.call Tryz.call147 rfl (fun w2 hw => markKinds_ret) rfl ?_
      refine RW.buildSlice (e := 148) (c := [.int .i64 (mkK (i : Int) ((n + j : Nat) : Int))]) rfl (fun w => by kernel_rfl) rfl fun b60 _ => ?_
      cases nw with
      | none =>
        refine RW.change [_, _, _, _, _] (ownHP 148 1 (.slice (some ⟨pB, 0, none⟩) (n + j) pc) (marks mK i (n + j))) (fun w F hp => hp) ?_
        by_cases hroom : n + j + 1 ≤ pc
        · refine RW.appendRoom [_, _, _, _, _] (e := 148) (sz := 1) (news := [[.int .i64 (mkK (i : Int) ((n + j : Nat) : Int))]]) rfl rfl marks_len rfl (by simp) (by simp [Value.oneCell']) (fun w hw => CellsAt.of_blk (St.blk (pre := []) hw)) hroom rfl ?_
          rw [hmk]
          refine Jd ?_;refine RW.nil (PW.code ?_)
          refine CW.region ?_
          refine Jc ?_
          refine RW.add rfl rfl (w64 (by omega) (by omega)) rfl ?_
          refine Jd ?_
          refine RW.nil ?_
          exact PW.againT ⟨(j + 1, none), hltj'⟩ [1, 2, 3, 4, 5, 6] ⟨rfl, rfl, rfl, rfl, rfl, trivial⟩ rfl (by show 20 - (j + 1) < 20 - j; omega)
        · refine RW.appendOut [_, _, _, _, _] (e := 148) (sz := 1) (news := [[.int .i64 (mkK (i : Int) ((n + j : Nat) : Int))]]) (zc := [.int .i64 0]) rfl rfl rfl rfl marks_len rfl (by decide) marks_one (by simp) (fun w hw => CellsAt.of_blk (St.blk (pre := []) hw)) (by omega) (by omega) (by unfold maxN; omega) rfl fun b c' _ => ?_
          rw [hmk]
          refine RW.change [_, _, _, _, _, _] (ownHP 148 1 (.slice (some ⟨pB, 0, none⟩) n pc) (marks mK i n)) (fun w F hp => own_shrink hp) ?_
          refine Jd ?_;refine RW.nil (PW.code ?_)
          refine CW.region ?_
          refine Jc ?_
          refine RW.add rfl rfl (w64 (by omega) (by omega)) rfl ?_
          refine Jd ?_
          refine RW.nil ?_
          refine PW.sep (H' := [blk b7 (bookC iv sv (.slice (some ⟨IB, 0, none⟩) L.length ic)) 88, ownHP 93 1 (.slice (some ⟨IB, 0, none⟩) L.length ic) (heads L), ownHP 93 1 gvv (Gs.map fun g => [gv g 20]), allHP (Gs.mapIdx fun i g => gH mK 148 i 20 g), gH mK 148 i (j + 1) (pB, pc, n, some (b, c')), allHP ((La.drop (i + 1)).map (rowH 148))]) (fun w A h => Sep.cons_perm (fun _ => Sep.cons_perm (fun _ => Sep.cons_perm (fun _ => Sep.cons_perm (fun _ h => Sep.pack (L := [_, _]) h)))) (Sep.take [2, 3, 4, 5, 0, 6, 7] h)) ?_
          exact PW.again ⟨(j + 1, some (b, c')), hltj'⟩ ⟨rfl, rfl, rfl, rfl, rfl, trivial⟩ (fun h => h) (by show 20 - (j + 1) < 20 - j; omega)
      | some q =>
        refine RW.sep [blk b60 [.int .i64 (mkK (i : Int) ((n + j : Nat) : Int))] 148, blk b7 (bookC iv sv (.slice (some ⟨IB, 0, none⟩) L.length ic)) 88, ownHP 93 1 (.slice (some ⟨IB, 0, none⟩) L.length ic) (heads L), ownHP 93 1 gvv (Gs.map fun g => [gv g 20]), allHP (Gs.mapIdx fun i g => gH mK 148 i 20 g), ownHP 148 1 (.slice (some ⟨q.1, 0, none⟩) (n + j) q.2) (marks mK i (n + j)), ownHP 148 1 (.slice (some ⟨pB, 0, none⟩) n pc) (marks mK i n), allHP ((La.drop (i + 1)).map (rowH 148))] (fun w A h => Sep.cons_perm (fun _ => Sep.cons_perm (fun _ => Sep.cons_perm (fun _ => Sep.cons_perm (fun _ => Sep.cons_perm (fun _ h => Sep.unpack (L := [_, _]) h))))) h) ?_
        by_cases hroom : n + j + 1 ≤ q.2
        · refine RW.appendRoom [_, _, _, _, _] (e := 148) (sz := 1) (news := [[.int .i64 (mkK (i : Int) ((n + j : Nat) : Int))]]) rfl rfl marks_len rfl (by simp) (by simp [Value.oneCell']) (fun w hw => CellsAt.of_blk (St.blk (pre := []) hw)) hroom rfl ?_
          rw [hmk]
          refine Jd ?_;refine RW.nil (PW.code ?_)
          refine CW.region ?_
          refine Jc ?_
          refine RW.add rfl rfl (w64 (by omega) (by omega)) rfl ?_
          refine Jd ?_
          refine RW.nil ?_
          refine PW.sep (H' := [blk b7 (bookC iv sv (.slice (some ⟨IB, 0, none⟩) L.length ic)) 88, ownHP 93 1 (.slice (some ⟨IB, 0, none⟩) L.length ic) (heads L), ownHP 93 1 gvv (Gs.map fun g => [gv g 20]), allHP (Gs.mapIdx fun i g => gH mK 148 i 20 g), gH mK 148 i (j + 1) (pB, pc, n, some q), allHP ((La.drop (i + 1)).map (rowH 148))]) (fun w A h => Sep.cons_perm (fun _ => Sep.cons_perm (fun _ => Sep.cons_perm (fun _ => Sep.cons_perm (fun _ h => Sep.pack (L := [_, _]) h)))) (Sep.take [1, 2, 3, 4, 5, 6, 7] h)) ?_
          exact PW.again ⟨(j + 1, some q), hltj'⟩ ⟨rfl, rfl, rfl, rfl, rfl, trivial⟩ (fun h => h) (by show 20 - (j + 1) < 20 - j; omega)
        · refine RW.appendOut [_, _, _, _, _] (e := 148) (sz := 1) (news := [[.int .i64 (mkK (i : Int) ((n + j : Nat) : Int))]]) (zc := [.int .i64 0]) rfl rfl rfl rfl marks_len rfl (by decide) marks_one (by simp) (fun w hw => CellsAt.of_blk (St.blk (pre := []) hw)) (by omega) (by omega) (by unfold maxN; omega) rfl fun b c' _ => ?_
          rw [hmk]
          refine Jd ?_;refine RW.nil (PW.code ?_)
          refine CW.region ?_
          refine Jc ?_
          refine RW.add rfl rfl (w64 (by omega) (by omega)) rfl ?_
          refine Jd ?_
          refine RW.nil ?_
          refine PW.sep (H' := [blk b7 (bookC iv sv (.slice (some ⟨IB, 0, none⟩) L.length ic)) 88, ownHP 93 1 (.slice (some ⟨IB, 0, none⟩) L.length ic) (heads L), ownHP 93 1 gvv (Gs.map fun g => [gv g 20]), allHP (Gs.mapIdx fun i g => gH mK 148 i 20 g), gH mK 148 i (j + 1) (pB, pc, n, some (b, c')), allHP ((La.drop (i + 1)).map (rowH 148))]) (fun w A h => Sep.cons_perm (fun _ => Sep.cons_perm (fun _ => Sep.cons_perm (fun _ => Sep.cons_perm (fun _ h => Sep.pack (L := [_, _]) h)))) (Sep.take [2, 3, 4, 5, 0, 7, 8] h)) ?_
          exact PW.again ⟨(j + 1, some (b, c')), hltj'⟩ ⟨rfl, rfl, rfl, rfl, rfl, trivial⟩ (fun h => h) (by show 20 - (j + 1) < 20 - j; omega)
    · have hj20 : j = 20 := by omega
      subst hj20
      refine CW.exit rfl ?_
      refine PW.code ?_
      refine CW.region ?_
      refine Jc ?_;refine Jc ?_
      refine RW.buildSlice (e := 93) (c := [gv (pB, pc, n, nw) 20]) rfl (fun w => by kernel_rfl) rfl fun b64 _ => ?_
      refine RW.append [_, _, _] (e := 93) (sz := 1) (news := [[gv (pB, pc, n, nw) 20]]) (zc := [nilV]) rfl rfl rfl rfl rfl (by simp) (fun u hu v hv => by rw [List.mem_singleton.1 hu] at hv; rw [List.mem_singleton.1 hv]; rfl) (fun w hw hn => ⟨b64, 0, rfl, CellsAt.of_blk (St.blk (pre := []) hw)⟩) (by rw [List.length_map, hGl]; omega) (by rw [List.length_map, hGl]; unfold maxN; omega) rfl fun u1 => ?_
      refine Jd ?_;refine RW.nil (PW.code ?_)
      refine CW.region ?_
      refine Jc ?_
      refine RW.add rfl rfl (w64 (by omega) (by omega)) rfl ?_
      refine Jd ?_
      refine RW.nil ?_
      refine PW.sep (H' := [blk b7 (bookC iv sv (.slice (some ⟨IB, 0, none⟩) L.length ic)) 88, ownHP 93 1 (.slice (some ⟨IB, 0, none⟩) L.length ic) (heads L), ownHP 93 1 u1 ((Gs ++ [(pB, pc, n, nw)]).map fun g => [gv g 20]), allHP ((Gs ++ [(pB, pc, n, nw)]).mapIdx fun i g => gH mK 148 i 20 g), allHP ((La.drop (i + 1)).map (rowH 148))]) (fun w A h => ?_) ?_
      · have h2 := Sep.take [1, 2, 3, 5, 4, 6] h
        rw [List.map_append, List.mapIdx_concat, hGl]
        exact Sep.cons_perm (fun _ => Sep.cons_perm (fun _ => Sep.cons_perm (fun _ h => all_snoc h))) h2
      refine PW.again ⟨(i + 1, u1, Gs ++ [(pB, pc, n, nw)]), hlt', by show (Gs ++ [_]).length = i + 1; rw [List.length_append, hGl]; rfl, fun j2 g hg => ?_⟩ ⟨rfl, rfl, rfl, trivial⟩ (fun h => h) (by show L.length - (i + 1) < L.length - i; omega)
      rcases Nat.lt_or_ge j2 Gs.length with h1 | h1
      · exact hG j2 g (by rwa [List.getElem?_append_left h1] at hg)
      · have h2 : j2 = i := by
          have := (List.getElem?_eq_some_iff.1 hg).1
          rw [List.length_append, List.length_singleton] at this
          omega
        subst h2
        rw [List.getElem?_append_right h1, hGl, Nat.sub_self] at hg
        cases hg
        exact ⟨_, hLi, rfl, rfl, hnn.symm⟩
  have hge2 : L.length ≤ i := by simpa using hge
  have hiL : i = L.length := by omega
  subst hiL
  refine CW.have_ (φ := ∃ GA gc, gvv = .slice GA L.length gc ∧ (L ≠ [] → ∃ B, GA = some ⟨B, 0, none⟩)) (fun w hw => ?_) (fun ⟨GA, gc, hgvv, hGA⟩ => ?_)
  · obtain ⟨A, c, h1, h2⟩ := own_shapeM (pre := [_, _]) hw
    rw [List.length_map, hGl] at h1
    exact ⟨A, c, h1, fun h => h2 (fun e => by rw [List.map_eq_nil_iff] at e; rw [e] at hGl; exact h (List.eq_nil_of_length_eq_zero hGl.symm))⟩
  subst hgvv
  refine CW.exit rfl ?_
  refine PW.code ?_
  refine CW.take [0, 1, 2, 3] ?_
  refine CW.seq ?_
  refine Ja ?_;refine Jd ?_;refine Jb ?_
  refine CW.block ?_
  refine CW.loop (ι := { i : Nat // i ≤ L.length }) (fun i => [(3, .slice IA L.length ic), (6, .slice GA L.length gc), (10, .int .i64 i.1)])
    (fun i => [blk b7 (bookC iv sv (.slice IA L.length ic)) 88, ownHP 93 1 (.slice IA L.length ic) (heads L), ownHP 93 1 (.slice GA L.length gc) (Gs.map fun g => [gv g 20]), allHP (Gs.mapIdx fun i g => gH mK 148 i 20 g)]) (fun i => L.length - i.1) ⟨0, Nat.zero_le _⟩ ⟨rfl, rfl, rfl, trivial⟩ (fun h => h) ?_
  intro ⟨i, hi⟩
  dsimp only at hi ⊢
  refine CW.seq ?_
  refine Ja ?_;refine Jc ?_;refine Jc ?_;refine Jg ?_;refine Jk ?_;refine Jb ?_
  refine CW.ite rfl (fun hlt => ?_) (fun hge => ?_)
  rotate_left
  · refine CW.exit rfl ?_
    refine PW.code ?_
    refine Ja ?_;refine Jd ?_;refine Jb ?_
    exact CW.ret1 rfl Tryz.results68 rfl rfl fun w hw => ⟨(), rfl, hw.take [0]⟩
  have hlt' : i < L.length := by simpa using hlt
  obtain ⟨IB, rfl⟩ := hIA (hne i hlt')
  obtain ⟨GB, rfl⟩ := hGA (hne i hlt')
  have hsz' := hsz _ (List.getElem_mem hlt')
  have hh := hhd i hlt'
  have hgg : Gs[i]? = some (Gs[i]'(by omega)) := List.getElem?_eq_getElem _
  generalize Gs[i]'(by omega) = g at hgg
  have hgh : (Gs.map fun g => [gv g 20])[i]? = some [gv g 20] := by rw [List.getElem?_map, hgg]; rfl
  have hgr : (Gs.mapIdx fun i g => gH mK 148 i 20 g)[i]? = some (gH mK 148 i 20 g) := by rw [List.getElem?_mapIdx, hgg]; rfl
  obtain ⟨p, hp0, hp1, hp2, hp3⟩ := hG i g hgg
  rw [List.getElem?_eq_getElem hlt'] at hp0
  obtain rfl := Option.some.inj hp0
  generalize L[i] = p at *
  have hrv : rv p = .slice (some ⟨g.1, 0, none⟩) g.2.2.1 p.2.1 := by unfold rv; rw [hp1, hp3]
  rw [hrv] at hh
  rw [← hp3] at hsz'
  clear hp0 hp1 hp2 hp3 hrv
  refine CW.skip ?_
  refine PW.code ?_
  refine CW.seq ?_
  refine CW.block ?_
  refine Ja ?_;refine Jd ?_;refine Jb ?_
  refine CW.block ?_
  refine CW.loop (ι := { k : Nat // k ≤ g.2.2.1 + 20 }) (fun k => [(3, .slice (some ⟨IB, 0, none⟩) L.length ic), (6, .slice (some ⟨GB, 0, none⟩) L.length gc), (10, .int .i64 i), (11, .int .i64 k.1)])
    (fun k => [blk b7 (bookC iv sv (.slice (some ⟨IB, 0, none⟩) L.length ic)) 88, ownHP 93 1 (.slice (some ⟨IB, 0, none⟩) L.length ic) (heads L), ownHP 93 1 (.slice (some ⟨GB, 0, none⟩) L.length gc) (Gs.map fun g => [gv g 20]), allHP (Gs.mapIdx fun i g => gH mK 148 i 20 g)]) (fun k => g.2.2.1 + 20 - k.1) ⟨0, Nat.zero_le _⟩ ⟨rfl, rfl, rfl, rfl, trivial⟩ (fun h => h) ?_
  intro ⟨k, hk⟩
  dsimp only at hk ⊢
  refine CW.seq ?_
  refine Ja ?_;refine Jc ?_;refine Jc ?_;refine Jc ?_
  refine RW.indexAddr rfl rfl (by omega) hlt rfl ?_
  refine RW.loadOwn1 [_, _] (i := i) (j := 0) rfl (by simp) hgh rfl rfl rfl ?_
  refine Jg ?_;refine Jk ?_;refine Jb ?_
  refine CW.ite rfl (fun hltk => ?_) (fun hgek => ?_)
  rotate_left
  · refine CW.exit rfl ?_
    refine PW.code ?_
    refine CW.region ?_
    refine Jc ?_
    refine RW.add rfl rfl (w64 (by omega) (by omega)) rfl ?_
    refine Jd ?_
    refine RW.nil ?_
    exact PW.again ⟨i + 1, hlt'⟩ ⟨rfl, rfl, rfl, trivial⟩ (fun h => h) (by show L.length - (i + 1) < L.length - i; omega)
  have hltk' : k < g.2.2.1 + 20 := by have : (k : Int) < ((g.2.2.1 + 20 : Nat) : Int) := hltk; omega
  refine CW.skip ?_
  refine PW.code ?_
  refine CW.seq ?_
  refine CW.block ?_
  refine Ja ?_;refine Jc ?_;refine Jc ?_
  refine RW.call Tryz.call147 rfl (fun w2 hw => markKinds_ret) rfl ?_
  refine Jd ?_;refine Jb ?_;refine Ja ?_;refine Jc ?_;refine Jc ?_
  refine RW.indexAddr rfl rfl (by omega) hlt rfl ?_
  refine RW.loadOwn1 [_, _] (i := i) (j := 0) rfl (by simp) hgh rfl rfl rfl ?_
  refine Jc ?_
  refine RW.indexAddr rfl rfl (by omega) hltk rfl ?_
  refine RW.load_fact (v := (.int .i64 (mkK (i : Int) (k : Int)))) rfl rfl rfl (fun w hw => ?_) ?_
  · obtain ⟨F, hp⟩ := all_get (pre := [_, _, _]) hw hgr
    exact g_cell (m := mK) hp hltk'
  refine Jc ?_;refine Jj ?_;refine Jc ?_
  refine RW.splitD 93 rfl (fun h => absurd rfl h) (fun _ => ?_)
  refine Jy ?_;refine Jc ?_;refine Jy ?_;refine Jc ?_;refine Jy ?_;refine Jc ?_;refine Jy ?_
  refine RW.indexAddr rfl rfl (by omega) hlt rfl ?_
  refine Jy ?_
  refine RW.loadOwn1 [_] (i := i) (j := 0) rfl (by simp) hh rfl rfl rfl ?_
  refine Jy ?_;refine Jg ?_;refine Jy ?_;refine Jk ?_;refine Jy ?_;refine Jc ?_
  refine RW.splitD 101 rfl (fun hk3 => ?_) (fun hk3 => ?_)
  · have hk3' : k < g.2.2.1 := by omega
    refine Jy ?_;refine Jc ?_;refine Jy ?_;refine Jc ?_;refine Jy ?_
    refine RW.indexAddr rfl rfl (by omega) hlt rfl ?_
    refine Jy ?_
    refine RW.loadOwn1 [_] (i := i) (j := 0) rfl (by simp) hh rfl rfl rfl ?_
    refine Jy ?_;refine Jc ?_;refine Jy ?_
    refine RW.indexAddr rfl rfl (by omega) hk3 rfl ?_
    refine Jy ?_
    refine RW.load_fact (v := (.int .i64 (mkK (i : Int) (k : Int)))) rfl rfl rfl (fun w hw => ?_) ?_
    · obtain ⟨F, hp⟩ := all_get (pre := [_, _, _]) hw hgr
      exact v_cell (m := mK) hp hk3'
    refine Jy ?_;refine Jc ?_;refine Jy ?_;refine Jj ?_;refine Jy ?_;refine Jv ?_;refine Jw ?_;refine Jb ?_
    refine CW.ite rfl (fun h => absurd rfl h) (fun _ => ?_)
    refine CW.skip ?_
    refine PW.code ?_
    refine CW.region ?_
    refine Jc ?_
    refine RW.add rfl rfl (w64 (by omega) (by omega)) rfl ?_
    refine Jd ?_
    refine RW.nil ?_
    exact PW.again ⟨k + 1, hltk'⟩ ⟨rfl, rfl, rfl, rfl, trivial⟩ (fun h => h) (by show g.2.2.1 + 20 - (k + 1) < g.2.2.1 + 20 - k; omega)
  · refine Jz ?_;refine Jz ?_;refine Jz ?_;refine Jz ?_;refine Jz ?_;refine Jz ?_;refine Jz ?_;refine Jz ?_;refine Jz ?_;refine Jy ?_;refine Jw ?_;refine Jw ?_;refine Jb ?_
    refine CW.cf rfl ?_
    refine CW.skip ?_
    refine PW.code ?_
    refine CW.region ?_
    refine Jc ?_
    refine RW.add rfl rfl (w64 (by omega) (by omega)) rfl ?_
    refine Jd ?_
    refine RW.nil ?_
    exact PW.again ⟨k + 1, hltk'⟩ ⟨rfl, rfl, rfl, rfl, trivial⟩ (fun h => h) (by show g.2.2.1 + 20 - (k + 1) < g.2.2.1 + 20 - k; omega)
end Go.Proofs.YtkfmlekomfnleaaGreat
/- Book.Ints, Strings, Kinds: a list of one's own laid into a book. Conditions: none. -/
set_option linter.unusedVariables false
set_option linter.unusedSimpArgs false
set_option maxRecDepth 10000
namespace Go.Proofs.YtkfmlekomfnleaaGreat
open Go Go.RowKit Go.MapKept

theorem heads_snoc {L : List Rw} {p : Rw} : heads (L ++ [p]) = heads L ++ [[rv p]] := by unfold heads; rw [List.map_append]; rfl
attribute [local irreducible] RW CW
/-- What the book holds after. -/
theorem bookInts_ret {b7 : Nat} {iv sv kv v : Value} {L : List Rw} {es : List (List Value)} {w : World} {F : Nat → Prop} (hL : L.length ≤ 1000)
    (hH : Sep [blk b7 (bookC iv sv kv) 88, ownHP 38 1 iv (heads L), allHP (L.map (rowH 3)), ownHP 3 1 v es] w F) :
    RetC Tryz.prog 22 [ptrV b7, v] w F (fun _ : Value × List Rw => .tuple #[]) (fun q => [blk b7 (bookC q.1 sv kv) 88, ownHP 38 1 q.1 (heads q.2), allHP (q.2.map (rowH 3)), pureHP (q.2 = L ∨ ∃ B c, q.2 = L ++ [(B, c, es)])]) := by
  refine Calls.enter Tryz.func22 rfl _ rfl rfl (S := F) (H := [blk b7 (bookC iv sv kv) 88, ownHP 38 1 iv (heads L), allHP (L.map (rowH 3)), ownHP 3 1 v es]) hH ?_
  refine CW.have_ (φ := v = .slice none 0 0 ∧ es = [] ∨ ∃ B c, v = .slice (some ⟨B, 0, none⟩) es.length c) (fun w hw => ?_) (fun hv => ?_)
  · rcases own_form (pre := [_, _, _]) hw with h | ⟨B, c, h, _⟩
    · exact .inl h
    · exact .inr ⟨B, c, h⟩
  refine CW.have_ (φ := ∃ IA ic, iv = .slice IA L.length ic ∧ (L ≠ [] → ∃ B, IA = some ⟨B, 0, none⟩)) (fun w hw => ?_) (fun ⟨IA, ic, hiv, hIA⟩ => ?_)
  · obtain ⟨A, c, h1, h2⟩ := own_shapeM (pre := [_]) hw
    rw [List.length_map] at h1
    exact ⟨A, c, h1, fun h => h2 (by simpa using h)⟩
  have nothing : ∀ (w2 : World), St w F [blk b7 (bookC iv sv kv) 88, ownHP 38 1 iv (heads L), allHP (L.map (rowH 3)), ownHP 3 1 v es] w2 → St w F [blk b7 (bookC iv sv kv) 88, ownHP 38 1 iv (heads L), allHP (L.map (rowH 3)), pureHP (L = L ∨ ∃ B c, L = L ++ [(B, c, es)])] w2 := fun w2 hw =>
    hw.sep_map fun w A h => Sep.cons_perm (fun _ => Sep.cons_perm (fun _ => Sep.cons_perm (fun _ h => Sep.addp (.inl rfl) (Sep.take [] h)))) h
  rcases hv with ⟨rfl, rfl⟩ | ⟨B, c, rfl⟩
  · refine Ja ?_;refine Jc ?_;refine Jg ?_;refine Jm ?_;refine Jb ?_
    refine CW.ite rfl (fun h => absurd h (by decide)) (fun _ => ?_)
    refine CW.skip ?_
    exact PW.ret (rs := []) (vs := []) Tryz.results22 rfl ResOK.nil fun w2 hw => ⟨(iv, L), rfl, nothing w2 hw⟩
  · refine Ja ?_;refine Jc ?_;refine Jg ?_;refine Jm ?_;refine Jb ?_
    refine CW.ite rfl (fun h => ?_) (fun _ => ?_)
    rotate_left
    · refine CW.skip ?_
      exact PW.ret (rs := []) (vs := []) Tryz.results22 rfl ResOK.nil fun w2 hw => ⟨(iv, L), rfl, nothing w2 hw⟩
    clear nothing
    refine CW.region ?_
    refine Jc ?_;refine Jc ?_;refine Jf ?_;refine Je ?_;refine JA ?_;refine Jc ?_
    refine RW.buildSlice (e := 38) (c := [.slice (some ⟨B, 0, none⟩) es.length c]) rfl (fun w => by kernel_rfl) rfl fun b64 _ => ?_
    refine RW.append [_, _] (e := 38) (sz := 1) (news := [[.slice (some ⟨B, 0, none⟩) es.length c]]) (zc := [nilV]) rfl rfl rfl rfl rfl (by simp) (fun u hu v hv => by rw [List.mem_singleton.1 hu] at hv; rw [List.mem_singleton.1 hv]; rfl) (fun w hw hn => ⟨b64, 0, rfl, CellsAt.of_blk (St.blk (pre := []) hw)⟩) (by rw [List.length_map]; omega) (by rw [List.length_map]; unfold maxN; omega) rfl fun u1 => ?_
    refine RW.have_ (φ := u1.oneCell' = true ∧ u1.cells = #[u1]) (fun w hw => ?_) (fun ⟨hu, hu2⟩ => ?_)
    · obtain ⟨F2, hp, _⟩ := St.get (pre := [_, _]) hw
      rcases hp with ⟨rfl, _⟩ | ⟨B, c, tl, rfl, _⟩ <;> exact ⟨rfl, rfl⟩
    refine Jf ?_;refine Je ?_
    refine RW.store_blk [_] rfl rfl rfl hu2 hu (by show _ < 24; omega) ?_
    refine RW.nil ?_
    refine PW.ret (rs := []) (vs := []) Tryz.results22 rfl ResOK.nil fun w2 hw => ⟨(u1, L ++ [(B, c, es)]), rfl, hw.sep_map fun w A h => ?_⟩
    have h2 := Sep.take [1, 2, 4, 3] h
    dsimp only
    rw [heads_snoc, List.map_append]
    exact Sep.cons_perm (fun _ => Sep.cons_perm (fun _ h => Sep.cons_perm (fun _ h => Sep.addp (.inr ⟨B, c, rfl⟩) (Sep.take [] h)) (all_snoc h))) h2
/-- What the book holds after. -/
theorem bookStrings_ret {b7 : Nat} {iv sv kv v : Value} {L : List Rw} {es : List (List Value)} {w : World} {F : Nat → Prop} (hL : L.length ≤ 1000)
    (hH : Sep [blk b7 (bookC iv sv kv) 88, ownHP 22 1 sv (heads L), allHP (L.map (rowH 9)), ownHP 9 1 v es] w F) :
    RetC Tryz.prog 21 [ptrV b7, v] w F (fun _ : Value × List Rw => .tuple #[]) (fun q => [blk b7 (bookC iv q.1 kv) 88, ownHP 22 1 q.1 (heads q.2), allHP (q.2.map (rowH 9)), pureHP (q.2 = L ∨ ∃ B c, q.2 = L ++ [(B, c, es)])]) := by
  refine Calls.enter Tryz.func21 rfl _ rfl rfl (S := F) (H := [blk b7 (bookC iv sv kv) 88, ownHP 22 1 sv (heads L), allHP (L.map (rowH 9)), ownHP 9 1 v es]) hH ?_
  refine CW.have_ (φ := v = .slice none 0 0 ∧ es = [] ∨ ∃ B c, v = .slice (some ⟨B, 0, none⟩) es.length c) (fun w hw => ?_) (fun hv => ?_)
  · rcases own_form (pre := [_, _, _]) hw with h | ⟨B, c, h, _⟩
    · exact .inl h
    · exact .inr ⟨B, c, h⟩
  refine CW.have_ (φ := ∃ IA ic, sv = .slice IA L.length ic ∧ (L ≠ [] → ∃ B, IA = some ⟨B, 0, none⟩)) (fun w hw => ?_) (fun ⟨IA, ic, hiv, hIA⟩ => ?_)
  · obtain ⟨A, c, h1, h2⟩ := own_shapeM (pre := [_]) hw
    rw [List.length_map] at h1
    exact ⟨A, c, h1, fun h => h2 (by simpa using h)⟩
  have nothing : ∀ (w2 : World), St w F [blk b7 (bookC iv sv kv) 88, ownHP 22 1 sv (heads L), allHP (L.map (rowH 9)), ownHP 9 1 v es] w2 → St w F [blk b7 (bookC iv sv kv) 88, ownHP 22 1 sv (heads L), allHP (L.map (rowH 9)), pureHP (L = L ∨ ∃ B c, L = L ++ [(B, c, es)])] w2 := fun w2 hw =>
    hw.sep_map fun w A h => Sep.cons_perm (fun _ => Sep.cons_perm (fun _ => Sep.cons_perm (fun _ h => Sep.addp (.inl rfl) (Sep.take [] h)))) h
  rcases hv with ⟨rfl, rfl⟩ | ⟨B, c, rfl⟩
  · refine Ja ?_;refine Jc ?_;refine Jg ?_;refine Jm ?_;refine Jb ?_
    refine CW.ite rfl (fun h => absurd h (by decide)) (fun _ => ?_)
    refine CW.skip ?_
    exact PW.ret (rs := []) (vs := []) Tryz.results21 rfl ResOK.nil fun w2 hw => ⟨(sv, L), rfl, nothing w2 hw⟩
  · refine Ja ?_;refine Jc ?_;refine Jg ?_;refine Jm ?_;refine Jb ?_
    refine CW.ite rfl (fun h => ?_) (fun _ => ?_)
    rotate_left
    · refine CW.skip ?_
      exact PW.ret (rs := []) (vs := []) Tryz.results21 rfl ResOK.nil fun w2 hw => ⟨(sv, L), rfl, nothing w2 hw⟩
    clear nothing
    refine CW.region ?_
    refine Jc ?_;refine Jc ?_;refine Jf ?_;refine Je ?_;refine JA ?_;refine Jc ?_
    refine RW.buildSlice (e := 22) (c := [.slice (some ⟨B, 0, none⟩) es.length c]) rfl (fun w => by kernel_rfl) rfl fun b64 _ => ?_
    refine RW.append [_, _] (e := 22) (sz := 1) (news := [[.slice (some ⟨B, 0, none⟩) es.length c]]) (zc := [nilV]) rfl rfl rfl rfl rfl (by simp) (fun u hu v hv => by rw [List.mem_singleton.1 hu] at hv; rw [List.mem_singleton.1 hv]; rfl) (fun w hw hn => ⟨b64, 0, rfl, CellsAt.of_blk (St.blk (pre := []) hw)⟩) (by rw [List.length_map]; omega) (by rw [List.length_map]; unfold maxN; omega) rfl fun u1 => ?_
    refine RW.have_ (φ := u1.oneCell' = true ∧ u1.cells = #[u1]) (fun w hw => ?_) (fun ⟨hu, hu2⟩ => ?_)
    · obtain ⟨F2, hp, _⟩ := St.get (pre := [_, _]) hw
      rcases hp with ⟨rfl, _⟩ | ⟨B, c, tl, rfl, _⟩ <;> exact ⟨rfl, rfl⟩
    refine Jf ?_;refine Je ?_
    refine RW.store_blk [_] rfl rfl rfl hu2 hu (by show _ < 24; omega) ?_
    refine RW.nil ?_
    refine PW.ret (rs := []) (vs := []) Tryz.results21 rfl ResOK.nil fun w2 hw => ⟨(u1, L ++ [(B, c, es)]), rfl, hw.sep_map fun w A h => ?_⟩
    have h2 := Sep.take [1, 2, 4, 3] h
    dsimp only
    rw [heads_snoc, List.map_append]
    exact Sep.cons_perm (fun _ => Sep.cons_perm (fun _ h => Sep.cons_perm (fun _ h => Sep.addp (.inr ⟨B, c, rfl⟩) (Sep.take [] h)) (all_snoc h))) h2
/-- What the book holds after. -/
theorem bookKinds_ret {b7 : Nat} {iv sv kv v : Value} {L : List Rw} {es : List (List Value)} {w : World} {F : Nat → Prop} (hL : L.length ≤ 1000)
    (hH : Sep [blk b7 (bookC iv sv kv) 88, ownHP 93 1 kv (heads L), allHP (L.map (rowH 148)), ownHP 148 1 v es] w F) :
    RetC Tryz.prog 24 [ptrV b7, v] w F (fun _ : Value × List Rw => .tuple #[]) (fun q => [blk b7 (bookC iv sv q.1) 88, ownHP 93 1 q.1 (heads q.2), allHP (q.2.map (rowH 148)), pureHP (q.2 = L ∨ ∃ B c, q.2 = L ++ [(B, c, es)])]) := by
  refine Calls.enter Tryz.func24 rfl _ rfl rfl (S := F) (H := [blk b7 (bookC iv sv kv) 88, ownHP 93 1 kv (heads L), allHP (L.map (rowH 148)), ownHP 148 1 v es]) hH ?_
  refine CW.have_ (φ := v = .slice none 0 0 ∧ es = [] ∨ ∃ B c, v = .slice (some ⟨B, 0, none⟩) es.length c) (fun w hw => ?_) (fun hv => ?_)
  · rcases own_form (pre := [_, _, _]) hw with h | ⟨B, c, h, _⟩
    · exact .inl h
    · exact .inr ⟨B, c, h⟩
  refine CW.have_ (φ := ∃ IA ic, kv = .slice IA L.length ic ∧ (L ≠ [] → ∃ B, IA = some ⟨B, 0, none⟩)) (fun w hw => ?_) (fun ⟨IA, ic, hiv, hIA⟩ => ?_)
  · obtain ⟨A, c, h1, h2⟩ := own_shapeM (pre := [_]) hw
    rw [List.length_map] at h1
    exact ⟨A, c, h1, fun h => h2 (by simpa using h)⟩
  have nothing : ∀ (w2 : World), St w F [blk b7 (bookC iv sv kv) 88, ownHP 93 1 kv (heads L), allHP (L.map (rowH 148)), ownHP 148 1 v es] w2 → St w F [blk b7 (bookC iv sv kv) 88, ownHP 93 1 kv (heads L), allHP (L.map (rowH 148)), pureHP (L = L ∨ ∃ B c, L = L ++ [(B, c, es)])] w2 := fun w2 hw =>
    hw.sep_map fun w A h => Sep.cons_perm (fun _ => Sep.cons_perm (fun _ => Sep.cons_perm (fun _ h => Sep.addp (.inl rfl) (Sep.take [] h)))) h
  rcases hv with ⟨rfl, rfl⟩ | ⟨B, c, rfl⟩
  · refine Ja ?_;refine Jc ?_;refine Jg ?_;refine Jm ?_;refine Jb ?_
    refine CW.ite rfl (fun h => absurd h (by decide)) (fun _ => ?_)
    refine CW.skip ?_
    exact PW.ret (rs := []) (vs := []) Tryz.results24 rfl ResOK.nil fun w2 hw => ⟨(kv, L), rfl, nothing w2 hw⟩
  · refine Ja ?_;refine Jc ?_;refine Jg ?_;refine Jm ?_;refine Jb ?_
    refine CW.ite rfl (fun h => ?_) (fun _ => ?_)
    rotate_left
    · refine CW.skip ?_
      exact PW.ret (rs := []) (vs := []) Tryz.results24 rfl ResOK.nil fun w2 hw => ⟨(kv, L), rfl, nothing w2 hw⟩
    clear nothing
    refine CW.region ?_
    refine Jc ?_;refine Jc ?_;refine Jf ?_;refine Je ?_;refine JA ?_;refine Jc ?_
    refine RW.buildSlice (e := 93) (c := [.slice (some ⟨B, 0, none⟩) es.length c]) rfl (fun w => by kernel_rfl) rfl fun b64 _ => ?_
    refine RW.append [_, _] (e := 93) (sz := 1) (news := [[.slice (some ⟨B, 0, none⟩) es.length c]]) (zc := [nilV]) rfl rfl rfl rfl rfl (by simp) (fun u hu v hv => by rw [List.mem_singleton.1 hu] at hv; rw [List.mem_singleton.1 hv]; rfl) (fun w hw hn => ⟨b64, 0, rfl, CellsAt.of_blk (St.blk (pre := []) hw)⟩) (by rw [List.length_map]; omega) (by rw [List.length_map]; unfold maxN; omega) rfl fun u1 => ?_
    refine RW.have_ (φ := u1.oneCell' = true ∧ u1.cells = #[u1]) (fun w hw => ?_) (fun ⟨hu, hu2⟩ => ?_)
    · obtain ⟨F2, hp, _⟩ := St.get (pre := [_, _]) hw
      rcases hp with ⟨rfl, _⟩ | ⟨B, c, tl, rfl, _⟩ <;> exact ⟨rfl, rfl⟩
    refine Jf ?_;refine Je ?_
    refine RW.store_blk [_] rfl rfl rfl hu2 hu (by show _ < 24; omega) ?_
    refine RW.nil ?_
    refine PW.ret (rs := []) (vs := []) Tryz.results24 rfl ResOK.nil fun w2 hw => ⟨(u1, L ++ [(B, c, es)]), rfl, hw.sep_map fun w A h => ?_⟩
    have h2 := Sep.take [1, 2, 4, 3] h
    dsimp only
    rw [heads_snoc, List.map_append]
    exact Sep.cons_perm (fun _ => Sep.cons_perm (fun _ h => Sep.cons_perm (fun _ h => Sep.addp (.inr ⟨B, c, rfl⟩) (Sep.take [] h)) (all_snoc h))) h2
end Go.Proofs.YtkfmlekomfnleaaGreat
/- Book.Apart: the lists of a book are apart. Conditions: none. -/
set_option linter.unusedVariables false
set_option linter.unusedSimpArgs false
set_option maxRecDepth 10000
namespace Go.Proofs.YtkfmlekomfnleaaGreat
open Go Go.RowKit Go.MapKept

theorem bk {w0 w : World} {S : Nat → Prop} {r : List HP} {b j : Nat} {c : List Value} {t : TypeId} {v : Value} (h : St w0 S (blk b c t :: r) w) (hj : c[j]? = some v) : mem w (fun b => ¬ No b) b j v :=
  blk_mem (fun k => k) (St.blk (pre := []) h) j v hj
/-- A book's rows are of single cells, few, and not too long. -/
def RowsOk (by_ : Nat) (L : List Rw) : Prop := (∀ p ∈ L, ∀ x ∈ p.2.2, x.length = 1) ∧ (∀ p ∈ L, (p.2.2.length + 21) * by_ ≤ 140737488355328) ∧ L.length ≤ 1000
attribute [local irreducible] RW CW
set_option maxHeartbeats 32000000 in
theorem apart_ret {b7 : Nat} {iv sv kv : Value} {LI LS LK : List Rw} {w : World} {F : Nat → Prop} (hI : RowsOk 8 LI) (hS : RowsOk 16 LS) (hK : RowsOk 8 LK)
    (hH : Sep [blk b7 (bookC iv sv kv) 88, ownHP 38 1 iv (heads LI), allHP (LI.map (rowH 3)), ownHP 22 1 sv (heads LS), allHP (LS.map (rowH 9)), ownHP 93 1 kv (heads LK), allHP (LK.map (rowH 148))] w F) :
    RetC Tryz.prog 27 [ptrV b7] w F (fun _ : Unit => .bool true) (fun _ => []) := by
  refine Calls.enter Tryz.func27 rfl _ rfl rfl (S := F) (H := [blk b7 (bookC iv sv kv) 88, ownHP 38 1 iv (heads LI), allHP (LI.map (rowH 3)), ownHP 22 1 sv (heads LS), allHP (LS.map (rowH 9)), ownHP 93 1 kv (heads LK), allHP (LK.map (rowH 148))]) hH ?_
  refine Ja ?_;refine Jd ?_;refine Jb ?_;refine Ja ?_;refine Jc ?_
  refine RW.call Tryz.call60 rfl (fun w2 hw => apartBytes_none (bk hw rfl)) rfl ?_
  refine Jc ?_;refine Jy ?_;refine Jc ?_;refine Jy ?_
  refine RW.callT [0, 1, 2, 3, 4, 5, 6] [blk b7 (bookC iv sv kv) 88, ownHP 38 1 iv (heads LI), allHP (LI.map (rowH 3))] (r := [ownHP 22 1 sv (heads LS), allHP (LS.map (rowH 9)), ownHP 93 1 kv (heads LK), allHP (LK.map (rowH 148))]) rfl rfl rfl Tryz.call61 (fun w2 F hle hC hr => apartInts_ret hI.1 hI.2.1 hI.2.2 hC) fun _ => ?_
  refine Jv ?_;refine Jc ?_;refine Jy ?_;refine Jc ?_;refine Jy ?_
  refine RW.callT [0, 1, 2, 3, 4] [blk b7 (bookC iv sv kv) 88, ownHP 22 1 sv (heads LS), allHP (LS.map (rowH 9))] (r := [ownHP 93 1 kv (heads LK), allHP (LK.map (rowH 148))]) rfl rfl rfl Tryz.call62 (fun w2 F hle hC hr => apartStrings_ret hS.1 hS.2.1 hS.2.2 hC) fun _ => ?_
  refine Jv ?_;refine Jc ?_;refine Jy ?_;refine Jc ?_;refine Jy ?_
  refine RW.call Tryz.call63 rfl (fun w2 hw => apartMarks_none (bk hw rfl)) rfl ?_
  refine Jv ?_;refine Jc ?_;refine Jy ?_;refine Jc ?_;refine Jy ?_
  refine RW.call Tryz.call64 rfl (fun w2 hw => apartPairs_none (bk hw rfl)) rfl ?_
  refine Jv ?_;refine Jc ?_;refine Jy ?_;refine Jc ?_;refine Jy ?_
  refine RW.call Tryz.call65 rfl (fun w2 hw => apartMoney_none (bk hw rfl)) rfl ?_
  refine Jv ?_;refine Jc ?_;refine Jy ?_;refine Jc ?_;refine Jy ?_
  refine RW.call Tryz.call66 rfl (fun w2 hw => apartChoices_none (bk hw rfl)) rfl ?_
  refine Jv ?_;refine Jc ?_;refine Jy ?_;refine Jc ?_;refine Jy ?_
  refine RW.call Tryz.call67 rfl (fun w2 hw => apartTokens_none (bk hw rfl)) rfl ?_
  refine Jv ?_;refine Jc ?_;refine Jy ?_;refine Jc ?_;refine Jy ?_
  refine RW.callT [0, 1, 2] [blk b7 (bookC iv sv kv) 88, ownHP 93 1 kv (heads LK), allHP (LK.map (rowH 148))] (r := []) rfl rfl rfl Tryz.call68 (fun w2 F hle hC hr => apartKinds_ret hK.1 hK.2.1 hK.2.2 hC) fun _ => ?_
  refine Jv ?_;refine Jc ?_;refine Jy ?_;refine Jc ?_;refine Jy ?_
  refine RW.call Tryz.call69 rfl (fun w2 hw => apartMembers_none (bk hw rfl)) rfl ?_
  refine Jv ?_;refine Jc ?_;refine Jy ?_;refine Jc ?_;refine Jy ?_
  refine RW.call Tryz.call70 rfl (fun w2 hw => apartSources_none (bk hw rfl)) rfl ?_
  refine Jv ?_;refine Jc ?_;refine Jy ?_;refine Jc ?_;refine Jy ?_
  refine RW.call Tryz.call71 rfl (fun w2 hw => apartExcepts_none (bk hw rfl)) rfl ?_
  refine Jv ?_;refine Jc ?_;refine Jy ?_;refine Jc ?_;refine Jy ?_
  refine RW.call Tryz.call72 rfl (fun w2 hw => apartTermTexts_none (bk hw rfl)) rfl ?_
  refine Jv ?_;refine Jc ?_;refine Jy ?_;refine Jc ?_;refine Jy ?_
  refine RW.call Tryz.call73 rfl (fun w2 hw => apartTerms_none (bk hw rfl)) rfl ?_
  refine Jv ?_;refine Jc ?_;refine Jy ?_;refine Jc ?_;refine Jy ?_
  refine RW.call Tryz.call74 rfl (fun w2 hw => apartAtoms_none (bk hw rfl)) rfl ?_
  refine Jv ?_;refine Jc ?_;refine Jy ?_;refine Jc ?_;refine Jy ?_
  refine RW.call Tryz.call75 rfl (fun w2 hw => apartNumbers_none (bk hw rfl)) rfl ?_
  refine Jv ?_;refine Jc ?_;refine Jy ?_;refine Jc ?_;refine Jy ?_
  refine RW.call Tryz.call76 rfl (fun w2 hw => apartSteps_none (bk hw rfl)) rfl ?_
  refine Jv ?_;refine Jc ?_;refine Jy ?_;refine Jc ?_;refine Jy ?_
  refine RW.call Tryz.call77 rfl (fun w2 hw => apartLits_none (bk hw rfl)) rfl ?_
  refine Jv ?_;refine Jc ?_;refine Jy ?_;refine Jc ?_;refine Jy ?_
  refine RW.call Tryz.call78 rfl (fun w2 hw => apartRules_none (bk hw rfl)) rfl ?_
  refine Jv ?_;refine Jc ?_;refine Jy ?_;refine Jc ?_;refine Jy ?_
  refine RW.call Tryz.call79 rfl (fun w2 hw => apartGuards_none (bk hw rfl)) rfl ?_
  refine Jv ?_;refine Jc ?_;refine Jy ?_;refine Jc ?_;refine Jy ?_
  refine RW.call Tryz.call80 rfl (fun w2 hw => apartPremises_none (bk hw rfl)) rfl ?_
  refine Jv ?_;refine Jc ?_;refine Jy ?_;refine Jc ?_;refine Jy ?_
  refine RW.call Tryz.call81 rfl (fun w2 hw => apartPreds_none (bk hw rfl)) rfl ?_
  refine Jv ?_;refine Jc ?_;refine Jy ?_;refine Jc ?_;refine Jy ?_
  refine RW.call Tryz.call82 rfl (fun w2 hw => apartRuleTexts_none (bk hw rfl)) rfl ?_
  refine Jv ?_;refine Jc ?_;refine Jy ?_;refine Jc ?_;refine Jy ?_
  refine RW.call Tryz.call83 rfl (fun w2 hw => apartTotals_none (bk hw rfl)) rfl ?_
  refine Jv ?_;refine Jd ?_;refine Jb ?_
  exact CW.ret1 rfl Tryz.results27 rfl rfl fun w hw => ⟨(), rfl, hw.take []⟩
end Go.Proofs.YtkfmlekomfnleaaGreat
/- The types of chapter 08 as kinds of data. -/
set_option linter.unusedVariables false
set_option linter.unusedSimpArgs false
namespace Go.Proofs.YtkfmlekomfnleaaGreat
open Go Go.RowKit

theorem ty_int : TyK Tryz.prog 3 kI := .int Tryz.underlying3
theorem ty_int64 : TyK Tryz.prog 2 kI := .int Tryz.underlying2
theorem ty_money : TyK Tryz.prog 49 kI := .int Tryz.underlying49
theorem ty_sort : TyK Tryz.prog 148 kI := .int Tryz.underlying148
theorem ty_bool : TyK Tryz.prog 4 .bool := .bool Tryz.underlying4
theorem ty_str : TyK Tryz.prog 9 .str := .str Tryz.underlying9
theorem ty_moneys : TyK Tryz.prog 149 kInts := .sl Tryz.underlying149 (by kernel_rfl) (by kernel_rfl) ty_money
theorem ty_strs : TyK Tryz.prog 22 kStrs := .sl Tryz.underlying22 (by kernel_rfl) (by kernel_rfl) ty_str
theorem ty_member : TyK Tryz.prog 158 kMember := .st Tryz.underlying158 (by kernel_rfl) (.cons rfl (by kernel_rfl) ty_str (.one rfl (by kernel_rfl) ty_str))
theorem ty_predT : TyK Tryz.prog 151 kPredT := .st Tryz.underlying151 (by kernel_rfl) (.cons rfl (by kernel_rfl) ty_str (.cons rfl (by kernel_rfl) ty_sort (.cons rfl (by kernel_rfl) ty_strs (.one rfl (by kernel_rfl) ty_moneys))))
theorem ty_source : TyK Tryz.prog 161 kSource := .st Tryz.underlying161 (by kernel_rfl) (.cons rfl (by kernel_rfl) ty_str (.one rfl (by kernel_rfl) ty_int))
theorem ty_litT : TyK Tryz.prog 51 kLitT := .st Tryz.underlying51 (by kernel_rfl) (.cons rfl (by kernel_rfl) ty_bool (.cons rfl (by kernel_rfl) ty_str (.cons rfl (by kernel_rfl) ty_strs (.cons rfl (by kernel_rfl) ty_bool (.one rfl (by kernel_rfl) ty_money)))))
theorem ty_term : TyK Tryz.prog 207 kTerm := .st Tryz.underlying207 (by kernel_rfl) (.cons rfl (by kernel_rfl) ty_int64 (.cons rfl (by kernel_rfl) ty_str (.cons rfl (by kernel_rfl) ty_strs (.one rfl (by kernel_rfl) ty_money))))
theorem ty_terms : TyK Tryz.prog 140 kTerms := .sl Tryz.underlying140 (by kernel_rfl) (by kernel_rfl) ty_term
theorem ty_op : TyK Tryz.prog 141 kI := .int Tryz.underlying141
theorem ty_guard : TyK Tryz.prog 143 kGuard := .st Tryz.underlying143 (by kernel_rfl) (.cons rfl (by kernel_rfl) ty_terms (.cons rfl (by kernel_rfl) ty_op (.one rfl (by kernel_rfl) ty_terms)))
theorem ty_premK : TyK Tryz.prog 139 kI := .int Tryz.underlying139
theorem ty_prem : TyK Tryz.prog 145 kPrem := .st Tryz.underlying145 (by kernel_rfl) (.cons rfl (by kernel_rfl) ty_premK (.cons rfl (by kernel_rfl) ty_litT (.cons rfl (by kernel_rfl) ty_guard (.cons rfl (by kernel_rfl) ty_str (.one rfl (by kernel_rfl) ty_str)))))
theorem ty_prems : TyK Tryz.prog 117 kPrems := .sl Tryz.underlying117 (by kernel_rfl) (by kernel_rfl) ty_prem
theorem ty_date : TyK Tryz.prog 116 kI := .int Tryz.underlying116
theorem ty_arrow : TyK Tryz.prog 118 kI := .int Tryz.underlying118
theorem ty_rule : TyK Tryz.prog 120 kRule := .st Tryz.underlying120 (by kernel_rfl) (.cons rfl (by kernel_rfl) ty_str (.cons rfl (by kernel_rfl) ty_str (.cons rfl (by kernel_rfl) ty_date (.cons rfl (by kernel_rfl) ty_date (.cons rfl (by kernel_rfl) ty_prems (.cons rfl (by kernel_rfl) ty_arrow (.one rfl (by kernel_rfl) ty_litT)))))))
theorem ty_exc : TyK Tryz.prog 164 kExc := .st Tryz.underlying164 (by kernel_rfl) (.cons rfl (by kernel_rfl) ty_str (.one rfl (by kernel_rfl) ty_str))
theorem ty_total : TyK Tryz.prog 166 kTotal := .st Tryz.underlying166 (by kernel_rfl) (.cons rfl (by kernel_rfl) ty_str (.cons rfl (by kernel_rfl) ty_str (.cons rfl (by kernel_rfl) ty_strs (.cons rfl (by kernel_rfl) ty_bool (.one rfl (by kernel_rfl) ty_money)))))
theorem ty_stat : TyK Tryz.prog 31 kStat := .st Tryz.underlying31 (by kernel_rfl) (.cons rfl (by kernel_rfl) ty_str (.cons rfl (by kernel_rfl) ty_strs (.cons rfl (by kernel_rfl) (.sl Tryz.underlying23 (by kernel_rfl) (by kernel_rfl) ty_member) (.cons rfl (by kernel_rfl) (.sl Tryz.underlying24 (by kernel_rfl) (by kernel_rfl) ty_predT) (.cons rfl (by kernel_rfl) (.sl Tryz.underlying25 (by kernel_rfl) (by kernel_rfl) ty_strs)
  (.cons rfl (by kernel_rfl) (.sl Tryz.underlying26 (by kernel_rfl) (by kernel_rfl) ty_source) (.cons rfl (by kernel_rfl) (.sl Tryz.underlying27 (by kernel_rfl) (by kernel_rfl) ty_rule) (.cons rfl (by kernel_rfl) (.sl Tryz.underlying28 (by kernel_rfl) (by kernel_rfl) ty_exc) (.one rfl (by kernel_rfl) (.sl Tryz.underlying29 (by kernel_rfl) (by kernel_rfl) ty_total))))))))))
/-- A statute, its slices named. -/
theorem rd_stat {M : Mem} {cs : List Value} {s : kStat.V} (h : Rd kStat M cs s) : ∃ x : RC, cs = x.stat s ∧ StatOn M s x := by
  obtain ⟨c0, r0, rfl, h0, c1, r1, rfl, h1, c2, r2, rfl, h2, c3, r3, rfl, h3, c4, r4, rfl, h4, c5, r5, rfl, h5, c6, r6, rfl, h6, c7, r7, rfl, h7, h8⟩ := h
  obtain rfl := str_cell h0
  obtain ⟨A1, k1, rfl⟩ := sl_cell h1
  obtain ⟨A2, k2, rfl⟩ := sl_cell h2
  obtain ⟨A3, k3, rfl⟩ := sl_cell h3
  obtain ⟨A4, k4, rfl⟩ := sl_cell h4
  obtain ⟨A5, k5, rfl⟩ := sl_cell h5
  obtain ⟨A6, k6, rfl⟩ := sl_cell h6
  obtain ⟨A7, k7, rfl⟩ := sl_cell h7
  obtain ⟨A8, k8, rfl⟩ := sl_cell h8
  exact ⟨⟨A1, A2, A3, A4, A5, A6, A7, A8, k1, k2, k3, k4, k5, k6, k7, k8, 0, 0, 0, 0, 0, 0⟩, rfl, h1, h2, h3, h4, h5, h6, h7, h8⟩
end Go.Proofs.YtkfmlekomfnleaaGreat
