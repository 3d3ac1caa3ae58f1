/- SameStrings; the law of a new name, walked. Conditions: none. -/
import Derived.Test.YtkfmlekomfnleaaP3
import Derived.Test.YtkfmlekomfnleaaR26
import Derived.Test.YtkfmlekomfnleaaK08
set_option linter.unusedVariables false
set_option linter.unusedSimpArgs false
set_option maxRecDepth 10000
namespace Go.Proofs.Ytkfmlekomfnleaa
open Go Go.RowKit Go.MapKept

section
variable {P : Program} {E : Env} {ops : Array Oper} {Q : Pst} {rest : List Oper} {G : List (Nat × Value)} {H : List HP}
variable {dst : Nat} {ty : TypeId} {pos : String} {af : Array Edge} {t ty' : TypeId} {x y : Operand} {a b : Int} {k : IntKind}
theorem RW.rem (hx : ev G x = some (.int k a)) (hy : ev G y = some (.int k b)) (hb : ¬ b = 0) (hN : Nat.blt dst E.N = true) (kk : RW P E ops Q rest ((dst, .int k (a.tmod b)) :: G) H) :
    RW P E ops Q (⟨some dst, .binOp .rem t x y ty', ty, pos, af, none⟩ :: rest) G H :=
  RW.val hN (fun f w hf _ => by simp [execOp, hf.eval hx, hf.eval hy, run_eqGuard_int, binOp, Op.intDiv, hb]) kk
end
theorem rem_index (a : Int) {n : Nat} (hn : 0 < n) : ∃ k : Nat, k < n ∧ (a.tmod n + n).tmod n = (k : Int) ∧ -(n : Int) < a.tmod n ∧ a.tmod n < n := by
  have hpos : (0 : Int) < n := by omega
  have h1 : a.tmod n < n := Int.tmod_lt_of_pos a hpos
  have h2 : -(n : Int) < a.tmod n := by
    have := Int.lt_tmod_of_pos a hpos
    omega
  have h3 : 0 ≤ (a.tmod n + n).tmod n := Int.tmod_nonneg _ (by omega)
  have h4 : (a.tmod n + n).tmod n < n := Int.tmod_lt_of_pos _ hpos
  exact ⟨((a.tmod n + n).tmod n).toNat, by omega, by omega, h2, h1⟩
theorem stat_all {pre r : List HP} {x : RC} {s : kStat.V} {w : World} {A : Nat → Prop} (h : Sep (pre ++ allHP (statH x s) :: r) w A) : StatOn (mem w (fun b => ¬ No b)) s x := stat_on (Sep.unpack (Sep.pull h))
theorem own_str {w0 w : World} {S : Nat → Prop} {pre r : List HP} {B n c : Nat} {l : List Str} {k : Nat} (h : St w0 S (pre ++ ownHP 9 1 (.slice (some ⟨B, 0, none⟩) n c) (l.map strE) :: r) w) (hk : k < l.length) : w.cell? ⟨B, 0 + (k : Int).toNat * 1, none⟩ = some (.string l[k]) := by
  have h2 := flatten_at (sz := 1) (es := l.map strE) (fun x hx => by obtain ⟨a, _, rfl⟩ := List.mem_map.1 hx; rfl) (i := k) (x := strE l[k]) (by rw [List.getElem?_map, List.getElem?_eq_getElem hk]; rfl) (j := 0) (v := .string l[k]) rfl
  exact (own_cells h).at_ (k * 1 + 0) h2
theorem own_num {w0 w : World} {S : Nat → Prop} {pre r : List HP} {B n c : Nat} {l : List Int} {k : Nat} (h : St w0 S (pre ++ ownHP 3 1 (.slice (some ⟨B, 0, none⟩) n c) (l.map intE) :: r) w) (hk : k < l.length) : w.cell? ⟨B, 0 + (k : Int).toNat * 1, none⟩ = some (.int .i64 l[k]) := by
  have h2 := flatten_at (sz := 1) (es := l.map intE) (fun x hx => by obtain ⟨a, _, rfl⟩ := List.mem_map.1 hx; rfl) (i := k) (x := intE l[k]) (by rw [List.getElem?_map, List.getElem?_eq_getElem hk]; rfl) (j := 0) (v := .int .i64 l[k]) rfl
  exact (own_cells h).at_ (k * 1 + 0) h2
theorem own_shapeM {w0 w : World} {S : Nat → Prop} {pre r : List HP} {e : TypeId} {sz : Nat} {v : Value} {es : List (List Value)} (h : St w0 S (pre ++ ownHP e sz v es :: r) w) : ∃ A c, v = .slice A es.length c ∧ (es ≠ [] → ∃ B, A = some ⟨B, 0, none⟩) := by
  rcases own_form h with ⟨h1, h2⟩ | ⟨B, c, h1, _⟩
  · exact ⟨none, 0, by rw [h1, h2]; rfl, fun h => absurd h2 h⟩
  · exact ⟨_, c, h1, fun _ => ⟨B, rfl⟩⟩
attribute [local irreducible] RW CW
theorem sameStr_ret {A B : Option Addr} {c d : Nat} {l : List Str} {w : World} (hn : l.length ≤ 9223372036854775807) (h1 : ∀ k (hk : k < l.length), ∃ b, A = some ⟨b, 0, none⟩ ∧ w.cell? ⟨b, 0 + (k : Int).toNat * 1, none⟩ = some (.string l[k])) (h2 : ∀ k (hk : k < l.length), ∃ b, B = some ⟨b, 0, none⟩ ∧ w.cell? ⟨b, 0 + (k : Int).toNat * 1, none⟩ = some (.string l[k])) :
    Ret Try.prog 12 [.slice A l.length c, .slice B l.length d] w (.bool true) := by
  refine Calls.enter Try.func12 rfl _ rfl rfl (S := No) (H := []) trivial ?_
  repeat (first|refine Ja ?_|refine Jb ?_|refine Jc ?_|refine Jd ?_|refine Je ?_|refine Jf ?_|refine Jg ?_|refine Jh ?_|refine Ji ?_|refine Jj ?_|refine Jk ?_|refine Jl ?_|refine Jm ?_|refine Jn ?_|refine Jo ?_|refine Jp ?_|refine Jq ?_|refine Jr ?_|refine Js ?_|refine Jt ?_|refine Ju ?_|refine Jv ?_|refine Jw ?_|refine Jx ?_|refine Jy ?_|refine Jz ?_|refine JA ?_|refine JB ?_|refine JC ?_|refine JD ?_|refine JE ?_|refine JF ?_|refine JG ?_|refine JH ?_|refine JI ?_|refine JJ ?_|refine JK ?_|refine JL ?_|refine JM ?_|refine CW.skip (PW.code ?_)|refine RW.nil (PW.code ?_))
  refine CW.seq ?_
  repeat (first|refine Ja ?_|refine Jb ?_|refine Jc ?_|refine Jd ?_|refine Je ?_|refine Jf ?_|refine Jg ?_|refine Jh ?_|refine Ji ?_|refine Jj ?_|refine Jk ?_|refine Jl ?_|refine Jm ?_|refine Jn ?_|refine Jo ?_|refine Jp ?_|refine Jq ?_|refine Jr ?_|refine Js ?_|refine Jt ?_|refine Ju ?_|refine Jv ?_|refine Jw ?_|refine Jx ?_|refine Jy ?_|refine Jz ?_|refine JA ?_|refine JB ?_|refine JC ?_|refine JD ?_|refine JE ?_|refine JF ?_|refine JG ?_|refine JH ?_|refine JI ?_|refine JJ ?_|refine JK ?_|refine JL ?_|refine JM ?_|refine CW.skip (PW.code ?_)|refine RW.nil (PW.code ?_))
  refine CW.ite rfl (fun h => absurd rfl h) (fun _ => ?_)
  refine CW.skip ?_
  refine PW.code ?_
  refine CW.seq ?_
  repeat (first|refine Ja ?_|refine Jb ?_|refine Jc ?_|refine Jd ?_|refine Je ?_|refine Jf ?_|refine Jg ?_|refine Jh ?_|refine Ji ?_|refine Jj ?_|refine Jk ?_|refine Jl ?_|refine Jm ?_|refine Jn ?_|refine Jo ?_|refine Jp ?_|refine Jq ?_|refine Jr ?_|refine Js ?_|refine Jt ?_|refine Ju ?_|refine Jv ?_|refine Jw ?_|refine Jx ?_|refine Jy ?_|refine Jz ?_|refine JA ?_|refine JB ?_|refine JC ?_|refine JD ?_|refine JE ?_|refine JF ?_|refine JG ?_|refine JH ?_|refine JI ?_|refine JJ ?_|refine JK ?_|refine JL ?_|refine JM ?_|refine CW.skip (PW.code ?_)|refine RW.nil (PW.code ?_))
  refine CW.block ?_
  refine CW.loop (ι := { k : Nat // k ≤ l.length }) (fun k => [(0, .slice A l.length c), (1, .slice B l.length d), (5, .int .i64 k.1)]) (fun _ => []) (fun k => l.length - k.1) ⟨0, Nat.zero_le _⟩ ⟨rfl, rfl, rfl, trivial⟩ (fun h => h) ?_
  intro ⟨k, hk⟩
  dsimp only at hk ⊢
  refine CW.seq ?_
  repeat (first|refine Ja ?_|refine Jb ?_|refine Jc ?_|refine Jd ?_|refine Je ?_|refine Jf ?_|refine Jg ?_|refine Jh ?_|refine Ji ?_|refine Jj ?_|refine Jk ?_|refine Jl ?_|refine Jm ?_|refine Jn ?_|refine Jo ?_|refine Jp ?_|refine Jq ?_|refine Jr ?_|refine Js ?_|refine Jt ?_|refine Ju ?_|refine Jv ?_|refine Jw ?_|refine Jx ?_|refine Jy ?_|refine Jz ?_|refine JA ?_|refine JB ?_|refine JC ?_|refine JD ?_|refine JE ?_|refine JF ?_|refine JG ?_|refine JH ?_|refine JI ?_|refine JJ ?_|refine JK ?_|refine JL ?_|refine JM ?_|refine CW.skip (PW.code ?_)|refine RW.nil (PW.code ?_))
  refine CW.ite rfl (fun hlt => ?_) (fun hge => ?_)
  · have hlt' : k < l.length := by simpa using hlt
    obtain ⟨B1, hA, g1⟩ := h1 k hlt'
    obtain ⟨B2, hB, g2⟩ := h2 k hlt'
    refine CW.skip ?_
    refine PW.code ?_
    refine CW.seq ?_
    refine CW.block ?_
    refine CW.seqA (by kernel_rfl) rfl ?_
    repeat (apply AW.val rfl; · intro Gx X; (first | refine RW.yes rfl ?_ | skip); (first|refine Jc ?_|refine Jd ?_|refine Je ?_|refine Jf ?_|refine Jg ?_|refine Jh ?_|refine Ji ?_|refine Jj ?_|refine Jk ?_|refine Jl ?_|refine Jm ?_|refine Jn ?_|refine Jo ?_|refine Jp ?_|refine Jq ?_|refine Jr ?_|refine Js ?_|refine Jt ?_|refine Ju ?_|refine Jv ?_|refine Jw ?_|refine Jx ?_|refine Jz ?_|refine JA ?_|refine JB ?_|refine JC ?_|refine JD ?_|refine JE ?_|refine JF ?_|refine JG ?_|refine JH ?_|refine JI ?_|refine JJ ?_|refine JK ?_|refine JL ?_); exact RW.done rfl)
    (apply AW.val rfl; · intro Gx X; (first | refine RW.yes rfl ?_ | skip); refine RW.indexAddrE hA rfl rfl (by omega) hlt rfl ?_; exact RW.done rfl)
    (apply AW.val rfl; · intro Gx X; (first | refine RW.yes rfl ?_ | skip); refine RW.load_old rfl g1 (fun h => h) rfl rfl ?_; exact RW.done rfl)
    repeat (apply AW.val rfl; · intro Gx X; (first | refine RW.yes rfl ?_ | skip); (first|refine Jc ?_|refine Jd ?_|refine Je ?_|refine Jf ?_|refine Jg ?_|refine Jh ?_|refine Ji ?_|refine Jj ?_|refine Jk ?_|refine Jl ?_|refine Jm ?_|refine Jn ?_|refine Jo ?_|refine Jp ?_|refine Jq ?_|refine Jr ?_|refine Js ?_|refine Jt ?_|refine Ju ?_|refine Jv ?_|refine Jw ?_|refine Jx ?_|refine Jz ?_|refine JA ?_|refine JB ?_|refine JC ?_|refine JD ?_|refine JE ?_|refine JF ?_|refine JG ?_|refine JH ?_|refine JI ?_|refine JJ ?_|refine JK ?_|refine JL ?_); exact RW.done rfl)
    (apply AW.val rfl; · intro Gx X; (first | refine RW.yes rfl ?_ | skip); refine RW.indexAddrE hB rfl rfl (by omega) hlt rfl ?_; exact RW.done rfl)
    (apply AW.val rfl; · intro Gx X; (first | refine RW.yes rfl ?_ | skip); refine RW.load_old rfl g2 (fun h => h) rfl rfl ?_; exact RW.done rfl)
    repeat (apply AW.val rfl; · intro Gx X; (first | refine RW.yes rfl ?_ | skip); (first|refine Jc ?_|refine Jd ?_|refine Je ?_|refine Jf ?_|refine Jg ?_|refine Jh ?_|refine Ji ?_|refine Jj ?_|refine Jk ?_|refine Jl ?_|refine Jm ?_|refine Jn ?_|refine Jo ?_|refine Jp ?_|refine Jq ?_|refine Jr ?_|refine Js ?_|refine Jt ?_|refine Ju ?_|refine Jv ?_|refine Jw ?_|refine Jx ?_|refine Jz ?_|refine JA ?_|refine JB ?_|refine JC ?_|refine JD ?_|refine JE ?_|refine JF ?_|refine JG ?_|refine JH ?_|refine JI ?_|refine JJ ?_|refine JK ?_|refine JL ?_); exact RW.done rfl)
    refine AW.stop (by kernel_rfl) (by kernel_rfl) fun bs => ?_
    repeat (first|refine Ja ?_|refine Jb ?_|refine Jc ?_|refine Jd ?_|refine Je ?_|refine Jf ?_|refine Jg ?_|refine Jh ?_|refine Ji ?_|refine Jj ?_|refine Jk ?_|refine Jl ?_|refine Jm ?_|refine Jn ?_|refine Jo ?_|refine Jp ?_|refine Jq ?_|refine Jr ?_|refine Js ?_|refine Jt ?_|refine Ju ?_|refine Jv ?_|refine Jw ?_|refine Jx ?_|refine Jy ?_|refine Jz ?_|refine JA ?_|refine JB ?_|refine JC ?_|refine JD ?_|refine JE ?_|refine JF ?_|refine JG ?_|refine JH ?_|refine JI ?_|refine JJ ?_|refine JK ?_|refine JL ?_|refine JM ?_|refine CW.skip (PW.code ?_)|refine RW.nil (PW.code ?_))
    refine CW.ite rfl (fun h => absurd rfl h) (fun _ => ?_)
    refine CW.skip ?_
    refine PW.code ?_
    refine CW.region ?_
    repeat (first|refine Ja ?_|refine Jb ?_|refine Jc ?_|refine Jd ?_|refine Je ?_|refine Jf ?_|refine Jg ?_|refine Jh ?_|refine Ji ?_|refine Jj ?_|refine Jk ?_|refine Jl ?_|refine Jm ?_|refine Jn ?_|refine Jo ?_|refine Jp ?_|refine Jq ?_|refine Jr ?_|refine Js ?_|refine Jt ?_|refine Ju ?_|refine Jv ?_|refine Jw ?_|refine Jx ?_|refine Jy ?_|refine Jz ?_|refine JA ?_|refine JB ?_|refine JC ?_|refine JD ?_|refine JE ?_|refine JF ?_|refine JG ?_|refine JH ?_|refine JI ?_|refine JJ ?_|refine JK ?_|refine JL ?_|refine JM ?_|refine CW.skip (PW.code ?_)|refine RW.nil (PW.code ?_))
    refine RW.add rfl rfl (w64 (by omega) (by omega)) rfl ?_
    repeat (first|refine Ja ?_|refine Jb ?_|refine Jc ?_|refine Jd ?_|refine Je ?_|refine Jf ?_|refine Jg ?_|refine Jh ?_|refine Ji ?_|refine Jj ?_|refine Jk ?_|refine Jl ?_|refine Jm ?_|refine Jn ?_|refine Jo ?_|refine Jp ?_|refine Jq ?_|refine Jr ?_|refine Js ?_|refine Jt ?_|refine Ju ?_|refine Jv ?_|refine Jw ?_|refine Jx ?_|refine Jy ?_|refine Jz ?_|refine JA ?_|refine JB ?_|refine JC ?_|refine JD ?_|refine JE ?_|refine JF ?_|refine JG ?_|refine JH ?_|refine JI ?_|refine JJ ?_|refine JK ?_|refine JL ?_|refine JM ?_|refine CW.skip (PW.code ?_)|refine RW.nil (PW.code ?_))
    refine RW.nil ?_
    exact PW.again ⟨k + 1, hlt'⟩ ⟨rfl, rfl, rfl, trivial⟩ (fun h => h) (by show l.length - (k + 1) < l.length - k; omega)
  refine CW.exit rfl ?_
  refine PW.code ?_
  repeat (first|refine Ja ?_|refine Jb ?_|refine Jc ?_|refine Jd ?_|refine Je ?_|refine Jf ?_|refine Jg ?_|refine Jh ?_|refine Ji ?_|refine Jj ?_|refine Jk ?_|refine Jl ?_|refine Jm ?_|refine Jn ?_|refine Jo ?_|refine Jp ?_|refine Jq ?_|refine Jr ?_|refine Js ?_|refine Jt ?_|refine Ju ?_|refine Jv ?_|refine Jw ?_|refine Jx ?_|refine Jy ?_|refine Jz ?_|refine JA ?_|refine JB ?_|refine JC ?_|refine JD ?_|refine JE ?_|refine JF ?_|refine JG ?_|refine JH ?_|refine JI ?_|refine JJ ?_|refine JK ?_|refine JL ?_|refine JM ?_|refine CW.skip (PW.code ?_)|refine RW.nil (PW.code ?_))
  exact CW.ret1 rfl Try.results12 rfl rfl fun w hw => ⟨rfl, hw.kp⟩
theorem sameS_own {w0 w : World} {S : Nat → Prop} {v1 v2 : Value} {l : List Str} {pre pre2 r r2 : List HP} (h1 : St w0 S (pre ++ ownHP 9 1 v1 (l.map strE) :: r) w) (h2 : St w0 S (pre2 ++ ownHP 9 1 v2 (l.map strE) :: r2) w) : Ret Try.prog 12 [v1, v2] w (.bool true) := by
  have hb : l.length ≤ 9223372036854775807 := by
    rcases own_form h1 with ⟨_, h⟩ | ⟨_, c, _, h3, h4, _⟩
    · have : l = [] := by simpa using h
      rw [this]; decide
    · rw [List.length_map] at h3
      unfold maxN at h4
      omega
  obtain ⟨A, c, e1, f1⟩ := own_shapeM h1
  obtain ⟨B, d, e2, f2⟩ := own_shapeM h2
  rw [List.length_map] at e1 e2
  subst e1
  subst e2
  have ne : ∀ k, k < l.length → l.map strE ≠ [] := fun k hk h => by
    have : l = [] := by simpa using h
    rw [this] at hk
    simp at hk
  refine sameStr_ret hb (fun k hk => ?_) (fun k hk => ?_)
  · obtain ⟨b, rfl⟩ := f1 (ne k hk)
    exact ⟨b, rfl, own_str h1 hk⟩
  · obtain ⟨b, rfl⟩ := f2 (ne k hk)
    exact ⟨b, rfl, own_str h2 hk⟩
theorem sameInt_ret {A B : Option Addr} {c d : Nat} {l : List Int} {w : World} (hn : l.length ≤ 9223372036854775807) (h1 : ∀ k (hk : k < l.length), ∃ b, A = some ⟨b, 0, none⟩ ∧ w.cell? ⟨b, 0 + (k : Int).toNat * 1, none⟩ = some (.int .i64 l[k])) (h2 : ∀ k (hk : k < l.length), ∃ b, B = some ⟨b, 0, none⟩ ∧ w.cell? ⟨b, 0 + (k : Int).toNat * 1, none⟩ = some (.int .i64 l[k])) :
    Ret Try.prog 13 [.slice A l.length c, .slice B l.length d] w (.bool true) := by
  refine Calls.enter Try.func13 rfl _ rfl rfl (S := No) (H := []) trivial ?_
  repeat (first|refine Ja ?_|refine Jb ?_|refine Jc ?_|refine Jd ?_|refine Je ?_|refine Jf ?_|refine Jg ?_|refine Jh ?_|refine Ji ?_|refine Jj ?_|refine Jk ?_|refine Jl ?_|refine Jm ?_|refine Jn ?_|refine Jo ?_|refine Jp ?_|refine Jq ?_|refine Jr ?_|refine Js ?_|refine Jt ?_|refine Ju ?_|refine Jv ?_|refine Jw ?_|refine Jx ?_|refine Jy ?_|refine Jz ?_|refine JA ?_|refine JB ?_|refine JC ?_|refine JD ?_|refine JE ?_|refine JF ?_|refine JG ?_|refine JH ?_|refine JI ?_|refine JJ ?_|refine JK ?_|refine JL ?_|refine JM ?_|refine CW.skip (PW.code ?_)|refine RW.nil (PW.code ?_))
  refine CW.seq ?_
  repeat (first|refine Ja ?_|refine Jb ?_|refine Jc ?_|refine Jd ?_|refine Je ?_|refine Jf ?_|refine Jg ?_|refine Jh ?_|refine Ji ?_|refine Jj ?_|refine Jk ?_|refine Jl ?_|refine Jm ?_|refine Jn ?_|refine Jo ?_|refine Jp ?_|refine Jq ?_|refine Jr ?_|refine Js ?_|refine Jt ?_|refine Ju ?_|refine Jv ?_|refine Jw ?_|refine Jx ?_|refine Jy ?_|refine Jz ?_|refine JA ?_|refine JB ?_|refine JC ?_|refine JD ?_|refine JE ?_|refine JF ?_|refine JG ?_|refine JH ?_|refine JI ?_|refine JJ ?_|refine JK ?_|refine JL ?_|refine JM ?_|refine CW.skip (PW.code ?_)|refine RW.nil (PW.code ?_))
  refine CW.ite rfl (fun h => absurd rfl h) (fun _ => ?_)
  refine CW.skip ?_
  refine PW.code ?_
  refine CW.seq ?_
  repeat (first|refine Ja ?_|refine Jb ?_|refine Jc ?_|refine Jd ?_|refine Je ?_|refine Jf ?_|refine Jg ?_|refine Jh ?_|refine Ji ?_|refine Jj ?_|refine Jk ?_|refine Jl ?_|refine Jm ?_|refine Jn ?_|refine Jo ?_|refine Jp ?_|refine Jq ?_|refine Jr ?_|refine Js ?_|refine Jt ?_|refine Ju ?_|refine Jv ?_|refine Jw ?_|refine Jx ?_|refine Jy ?_|refine Jz ?_|refine JA ?_|refine JB ?_|refine JC ?_|refine JD ?_|refine JE ?_|refine JF ?_|refine JG ?_|refine JH ?_|refine JI ?_|refine JJ ?_|refine JK ?_|refine JL ?_|refine JM ?_|refine CW.skip (PW.code ?_)|refine RW.nil (PW.code ?_))
  refine CW.block ?_
  refine CW.loop (ι := { k : Nat // k ≤ l.length }) (fun k => [(0, .slice A l.length c), (1, .slice B l.length d), (5, .int .i64 k.1)]) (fun _ => []) (fun k => l.length - k.1) ⟨0, Nat.zero_le _⟩ ⟨rfl, rfl, rfl, trivial⟩ (fun h => h) ?_
  intro ⟨k, hk⟩
  dsimp only at hk ⊢
  refine CW.seq ?_
  repeat (first|refine Ja ?_|refine Jb ?_|refine Jc ?_|refine Jd ?_|refine Je ?_|refine Jf ?_|refine Jg ?_|refine Jh ?_|refine Ji ?_|refine Jj ?_|refine Jk ?_|refine Jl ?_|refine Jm ?_|refine Jn ?_|refine Jo ?_|refine Jp ?_|refine Jq ?_|refine Jr ?_|refine Js ?_|refine Jt ?_|refine Ju ?_|refine Jv ?_|refine Jw ?_|refine Jx ?_|refine Jy ?_|refine Jz ?_|refine JA ?_|refine JB ?_|refine JC ?_|refine JD ?_|refine JE ?_|refine JF ?_|refine JG ?_|refine JH ?_|refine JI ?_|refine JJ ?_|refine JK ?_|refine JL ?_|refine JM ?_|refine CW.skip (PW.code ?_)|refine RW.nil (PW.code ?_))
  refine CW.ite rfl (fun hlt => ?_) (fun hge => ?_)
  · have hlt' : k < l.length := by simpa using hlt
    obtain ⟨B1, hA, g1⟩ := h1 k hlt'
    obtain ⟨B2, hB, g2⟩ := h2 k hlt'
    refine CW.skip ?_
    refine PW.code ?_
    refine CW.seq ?_
    refine CW.block ?_
    refine CW.seqA (by kernel_rfl) rfl ?_
    repeat (apply AW.val rfl; · intro Gx X; (first | refine RW.yes rfl ?_ | skip); (first|refine Jc ?_|refine Jd ?_|refine Je ?_|refine Jf ?_|refine Jg ?_|refine Jh ?_|refine Ji ?_|refine Jj ?_|refine Jk ?_|refine Jl ?_|refine Jm ?_|refine Jn ?_|refine Jo ?_|refine Jp ?_|refine Jq ?_|refine Jr ?_|refine Js ?_|refine Jt ?_|refine Ju ?_|refine Jv ?_|refine Jw ?_|refine Jx ?_|refine Jz ?_|refine JA ?_|refine JB ?_|refine JC ?_|refine JD ?_|refine JE ?_|refine JF ?_|refine JG ?_|refine JH ?_|refine JI ?_|refine JJ ?_|refine JK ?_|refine JL ?_); exact RW.done rfl)
    (apply AW.val rfl; · intro Gx X; (first | refine RW.yes rfl ?_ | skip); refine RW.indexAddrE hA rfl rfl (by omega) hlt rfl ?_; exact RW.done rfl)
    (apply AW.val rfl; · intro Gx X; (first | refine RW.yes rfl ?_ | skip); refine RW.load_old rfl g1 (fun h => h) rfl rfl ?_; exact RW.done rfl)
    repeat (apply AW.val rfl; · intro Gx X; (first | refine RW.yes rfl ?_ | skip); (first|refine Jc ?_|refine Jd ?_|refine Je ?_|refine Jf ?_|refine Jg ?_|refine Jh ?_|refine Ji ?_|refine Jj ?_|refine Jk ?_|refine Jl ?_|refine Jm ?_|refine Jn ?_|refine Jo ?_|refine Jp ?_|refine Jq ?_|refine Jr ?_|refine Js ?_|refine Jt ?_|refine Ju ?_|refine Jv ?_|refine Jw ?_|refine Jx ?_|refine Jz ?_|refine JA ?_|refine JB ?_|refine JC ?_|refine JD ?_|refine JE ?_|refine JF ?_|refine JG ?_|refine JH ?_|refine JI ?_|refine JJ ?_|refine JK ?_|refine JL ?_); exact RW.done rfl)
    (apply AW.val rfl; · intro Gx X; (first | refine RW.yes rfl ?_ | skip); refine RW.indexAddrE hB rfl rfl (by omega) hlt rfl ?_; exact RW.done rfl)
    (apply AW.val rfl; · intro Gx X; (first | refine RW.yes rfl ?_ | skip); refine RW.load_old rfl g2 (fun h => h) rfl rfl ?_; exact RW.done rfl)
    repeat (apply AW.val rfl; · intro Gx X; (first | refine RW.yes rfl ?_ | skip); (first|refine Jc ?_|refine Jd ?_|refine Je ?_|refine Jf ?_|refine Jg ?_|refine Jh ?_|refine Ji ?_|refine Jj ?_|refine Jk ?_|refine Jl ?_|refine Jm ?_|refine Jn ?_|refine Jo ?_|refine Jp ?_|refine Jq ?_|refine Jr ?_|refine Js ?_|refine Jt ?_|refine Ju ?_|refine Jv ?_|refine Jw ?_|refine Jx ?_|refine Jz ?_|refine JA ?_|refine JB ?_|refine JC ?_|refine JD ?_|refine JE ?_|refine JF ?_|refine JG ?_|refine JH ?_|refine JI ?_|refine JJ ?_|refine JK ?_|refine JL ?_); exact RW.done rfl)
    refine AW.stop (by kernel_rfl) (by kernel_rfl) fun bs => ?_
    repeat (first|refine Ja ?_|refine Jb ?_|refine Jc ?_|refine Jd ?_|refine Je ?_|refine Jf ?_|refine Jg ?_|refine Jh ?_|refine Ji ?_|refine Jj ?_|refine Jk ?_|refine Jl ?_|refine Jm ?_|refine Jn ?_|refine Jo ?_|refine Jp ?_|refine Jq ?_|refine Jr ?_|refine Js ?_|refine Jt ?_|refine Ju ?_|refine Jv ?_|refine Jw ?_|refine Jx ?_|refine Jy ?_|refine Jz ?_|refine JA ?_|refine JB ?_|refine JC ?_|refine JD ?_|refine JE ?_|refine JF ?_|refine JG ?_|refine JH ?_|refine JI ?_|refine JJ ?_|refine JK ?_|refine JL ?_|refine JM ?_|refine CW.skip (PW.code ?_)|refine RW.nil (PW.code ?_))
    refine CW.ite rfl (fun h => absurd rfl h) (fun _ => ?_)
    refine CW.skip ?_
    refine PW.code ?_
    refine CW.region ?_
    repeat (first|refine Ja ?_|refine Jb ?_|refine Jc ?_|refine Jd ?_|refine Je ?_|refine Jf ?_|refine Jg ?_|refine Jh ?_|refine Ji ?_|refine Jj ?_|refine Jk ?_|refine Jl ?_|refine Jm ?_|refine Jn ?_|refine Jo ?_|refine Jp ?_|refine Jq ?_|refine Jr ?_|refine Js ?_|refine Jt ?_|refine Ju ?_|refine Jv ?_|refine Jw ?_|refine Jx ?_|refine Jy ?_|refine Jz ?_|refine JA ?_|refine JB ?_|refine JC ?_|refine JD ?_|refine JE ?_|refine JF ?_|refine JG ?_|refine JH ?_|refine JI ?_|refine JJ ?_|refine JK ?_|refine JL ?_|refine JM ?_|refine CW.skip (PW.code ?_)|refine RW.nil (PW.code ?_))
    refine RW.add rfl rfl (w64 (by omega) (by omega)) rfl ?_
    repeat (first|refine Ja ?_|refine Jb ?_|refine Jc ?_|refine Jd ?_|refine Je ?_|refine Jf ?_|refine Jg ?_|refine Jh ?_|refine Ji ?_|refine Jj ?_|refine Jk ?_|refine Jl ?_|refine Jm ?_|refine Jn ?_|refine Jo ?_|refine Jp ?_|refine Jq ?_|refine Jr ?_|refine Js ?_|refine Jt ?_|refine Ju ?_|refine Jv ?_|refine Jw ?_|refine Jx ?_|refine Jy ?_|refine Jz ?_|refine JA ?_|refine JB ?_|refine JC ?_|refine JD ?_|refine JE ?_|refine JF ?_|refine JG ?_|refine JH ?_|refine JI ?_|refine JJ ?_|refine JK ?_|refine JL ?_|refine JM ?_|refine CW.skip (PW.code ?_)|refine RW.nil (PW.code ?_))
    refine RW.nil ?_
    exact PW.again ⟨k + 1, hlt'⟩ ⟨rfl, rfl, rfl, trivial⟩ (fun h => h) (by show l.length - (k + 1) < l.length - k; omega)
  refine CW.exit rfl ?_
  refine PW.code ?_
  repeat (first|refine Ja ?_|refine Jb ?_|refine Jc ?_|refine Jd ?_|refine Je ?_|refine Jf ?_|refine Jg ?_|refine Jh ?_|refine Ji ?_|refine Jj ?_|refine Jk ?_|refine Jl ?_|refine Jm ?_|refine Jn ?_|refine Jo ?_|refine Jp ?_|refine Jq ?_|refine Jr ?_|refine Js ?_|refine Jt ?_|refine Ju ?_|refine Jv ?_|refine Jw ?_|refine Jx ?_|refine Jy ?_|refine Jz ?_|refine JA ?_|refine JB ?_|refine JC ?_|refine JD ?_|refine JE ?_|refine JF ?_|refine JG ?_|refine JH ?_|refine JI ?_|refine JJ ?_|refine JK ?_|refine JL ?_|refine JM ?_|refine CW.skip (PW.code ?_)|refine RW.nil (PW.code ?_))
  exact CW.ret1 rfl Try.results13 rfl rfl fun w hw => ⟨rfl, hw.kp⟩
theorem sameI_own {w0 w : World} {S : Nat → Prop} {v1 v2 : Value} {l : List Int} {pre pre2 r r2 : List HP} (h1 : St w0 S (pre ++ ownHP 3 1 v1 (l.map intE) :: r) w) (h2 : St w0 S (pre2 ++ ownHP 3 1 v2 (l.map intE) :: r2) w) : Ret Try.prog 13 [v1, v2] w (.bool true) := by
  have hb : l.length ≤ 9223372036854775807 := by
    rcases own_form h1 with ⟨_, h⟩ | ⟨_, c, _, h3, h4, _⟩
    · have : l = [] := by simpa using h
      rw [this]; decide
    · rw [List.length_map] at h3
      unfold maxN at h4
      omega
  obtain ⟨A, c, e1, f1⟩ := own_shapeM h1
  obtain ⟨B, d, e2, f2⟩ := own_shapeM h2
  rw [List.length_map] at e1 e2
  subst e1
  subst e2
  have ne : ∀ k, k < l.length → l.map intE ≠ [] := fun k hk h => by
    have : l = [] := by simpa using h
    rw [this] at hk
    simp at hk
  refine sameInt_ret hb (fun k hk => ?_) (fun k hk => ?_)
  · obtain ⟨b, rfl⟩ := f1 (ne k hk)
    exact ⟨b, rfl, own_num h1 hk⟩
  · obtain ⟨b, rfl⟩ := f2 (ne k hk)
    exact ⟨b, rfl, own_num h2 hk⟩
abbrev nNew : Str := ⟨#[113, 117, 105, 116, 101, 95, 97, 95, 110, 101, 119, 95, 110, 97, 109, 101]⟩
set_option maxHeartbeats 16000000 in
theorem renamedLaw_ret {s : kStat.V} {x : RC} {wh sc : Int} {w : World} (hst : StatOn (mem w (fun b => ¬ No b)) s x) : Ret Try.prog 4 [.agg (x.stat s).toArray, .int .i64 wh, .int .i64 sc] w (.bool true) := by
  have hsm := sl_small hst.members
  have hle : Mem.le (mem w (fun b => ¬ No b)) (mem w (fun b => ¬ No b)) := Mem.le_refl _
  unfold reach at hsm
  refine Calls.enter Try.func4 rfl _ rfl rfl (S := No) (H := []) trivial ?_
  refine CW.seqR ?_
  refine RW.box_agg (l := x.stat s) rfl rfl fun b3 _ => ?_
  repeat (first|refine Ja ?_|refine Jb ?_|refine Jc ?_|refine Jd ?_|refine Je ?_|refine Jf ?_|refine Jg ?_|refine Jh ?_|refine Ji ?_|refine Jj ?_|refine Jk ?_|refine Jl ?_|refine Jm ?_|refine Jn ?_|refine Jo ?_|refine Jp ?_|refine Jq ?_|refine Jr ?_|refine Js ?_|refine Jt ?_|refine Ju ?_|refine Jv ?_|refine Jw ?_|refine Jx ?_|refine Jy ?_|refine Jz ?_|refine JA ?_|refine JB ?_|refine JC ?_|refine JD ?_|refine JE ?_|refine JF ?_|refine JG ?_|refine JH ?_|refine JI ?_|refine JJ ?_|refine JK ?_|refine JL ?_|refine JM ?_|refine CW.skip (PW.code ?_)|refine RW.nil (PW.code ?_))
  refine CW.seq ?_
  repeat (first|refine Ja ?_|refine Jb ?_|refine Jc ?_|refine Jd ?_|refine Je ?_|refine Jf ?_|refine Jg ?_|refine Jh ?_|refine Ji ?_|refine Jj ?_|refine Jk ?_|refine Jl ?_|refine Jm ?_|refine Jn ?_|refine Jo ?_|refine Jp ?_|refine Jq ?_|refine Jr ?_|refine Js ?_|refine Jt ?_|refine Ju ?_|refine Jv ?_|refine Jw ?_|refine Jx ?_|refine Jy ?_|refine Jz ?_|refine JA ?_|refine JB ?_|refine JC ?_|refine JD ?_|refine JE ?_|refine JF ?_|refine JG ?_|refine JH ?_|refine JI ?_|refine JJ ?_|refine JK ?_|refine JL ?_|refine JM ?_|refine CW.skip (PW.code ?_)|refine RW.nil (PW.code ?_))
  refine RW.call Try.call7 rfl (fun w2 hw => works_ret) rfl ?_
  repeat (first|refine Ja ?_|refine Jb ?_|refine Jc ?_|refine Jd ?_|refine Je ?_|refine Jf ?_|refine Jg ?_|refine Jh ?_|refine Ji ?_|refine Jj ?_|refine Jk ?_|refine Jl ?_|refine Jm ?_|refine Jn ?_|refine Jo ?_|refine Jp ?_|refine Jq ?_|refine Jr ?_|refine Js ?_|refine Jt ?_|refine Ju ?_|refine Jv ?_|refine Jw ?_|refine Jx ?_|refine Jy ?_|refine Jz ?_|refine JA ?_|refine JB ?_|refine JC ?_|refine JD ?_|refine JE ?_|refine JF ?_|refine JG ?_|refine JH ?_|refine JI ?_|refine JJ ?_|refine JK ?_|refine JL ?_|refine JM ?_|refine CW.skip (PW.code ?_)|refine RW.nil (PW.code ?_))
  refine CW.cf rfl ?_
  refine CW.skip ?_
  refine PW.code ?_
  repeat (first|refine Ja ?_|refine Jb ?_|refine Jc ?_|refine Jd ?_|refine Je ?_|refine Jf ?_|refine Jg ?_|refine Jh ?_|refine Ji ?_|refine Jj ?_|refine Jk ?_|refine Jl ?_|refine Jm ?_|refine Jn ?_|refine Jo ?_|refine Jp ?_|refine Jq ?_|refine Jr ?_|refine Js ?_|refine Jt ?_|refine Ju ?_|refine Jv ?_|refine Jw ?_|refine Jx ?_|refine Jy ?_|refine Jz ?_|refine JA ?_|refine JB ?_|refine JC ?_|refine JD ?_|refine JE ?_|refine JF ?_|refine JG ?_|refine JH ?_|refine JI ?_|refine JJ ?_|refine JK ?_|refine JL ?_|refine JM ?_|refine CW.skip (PW.code ?_)|refine RW.nil (PW.code ?_))
  refine RW.call Try.call8 rfl (fun w2 hw => check_ret (StatOn.mono hst (ro_call hw))) rfl ?_
  repeat (first|refine Ja ?_|refine Jb ?_|refine Jc ?_|refine Jd ?_|refine Je ?_|refine Jf ?_|refine Jg ?_|refine Jh ?_|refine Ji ?_|refine Jj ?_|refine Jk ?_|refine Jl ?_|refine Jm ?_|refine Jn ?_|refine Jo ?_|refine Jp ?_|refine Jq ?_|refine Jr ?_|refine Js ?_|refine Jt ?_|refine Ju ?_|refine Jv ?_|refine Jw ?_|refine Jx ?_|refine Jy ?_|refine Jz ?_|refine JA ?_|refine JB ?_|refine JC ?_|refine JD ?_|refine JE ?_|refine JF ?_|refine JG ?_|refine JH ?_|refine JI ?_|refine JJ ?_|refine JK ?_|refine JL ?_|refine JM ?_|refine CW.skip (PW.code ?_)|refine RW.nil (PW.code ?_))
  refine CW.seq ?_
  repeat (first|refine Ja ?_|refine Jb ?_|refine Jc ?_|refine Jd ?_|refine Je ?_|refine Jf ?_|refine Jg ?_|refine Jh ?_|refine Ji ?_|refine Jj ?_|refine Jk ?_|refine Jl ?_|refine Jm ?_|refine Jn ?_|refine Jo ?_|refine Jp ?_|refine Jq ?_|refine Jr ?_|refine Js ?_|refine Jt ?_|refine Ju ?_|refine Jv ?_|refine Jw ?_|refine Jx ?_|refine Jy ?_|refine Jz ?_|refine JA ?_|refine JB ?_|refine JC ?_|refine JD ?_|refine JE ?_|refine JF ?_|refine JG ?_|refine JH ?_|refine JI ?_|refine JJ ?_|refine JK ?_|refine JL ?_|refine JM ?_|refine CW.skip (PW.code ?_)|refine RW.nil (PW.code ?_))
  refine RW.splitD 34 rfl (fun h1 => ?_) (fun h1 => ?_)
  · repeat (first|refine Ja ?_|refine Jb ?_|refine Jc ?_|refine Jd ?_|refine Je ?_|refine Jf ?_|refine Jg ?_|refine Jh ?_|refine Ji ?_|refine Jj ?_|refine Jk ?_|refine Jl ?_|refine Jm ?_|refine Jn ?_|refine Jo ?_|refine Jp ?_|refine Jq ?_|refine Jr ?_|refine Js ?_|refine Jt ?_|refine Ju ?_|refine Jv ?_|refine Jw ?_|refine Jx ?_|refine Jy ?_|refine Jz ?_|refine JA ?_|refine JB ?_|refine JC ?_|refine JD ?_|refine JE ?_|refine JF ?_|refine JG ?_|refine JH ?_|refine JI ?_|refine JJ ?_|refine JK ?_|refine JL ?_|refine JM ?_|refine CW.skip (PW.code ?_)|refine RW.nil (PW.code ?_))
    refine CW.ct rfl ?_
    repeat (first|refine Ja ?_|refine Jb ?_|refine Jc ?_|refine Jd ?_|refine Je ?_|refine Jf ?_|refine Jg ?_|refine Jh ?_|refine Ji ?_|refine Jj ?_|refine Jk ?_|refine Jl ?_|refine Jm ?_|refine Jn ?_|refine Jo ?_|refine Jp ?_|refine Jq ?_|refine Jr ?_|refine Js ?_|refine Jt ?_|refine Ju ?_|refine Jv ?_|refine Jw ?_|refine Jx ?_|refine Jy ?_|refine Jz ?_|refine JA ?_|refine JB ?_|refine JC ?_|refine JD ?_|refine JE ?_|refine JF ?_|refine JG ?_|refine JH ?_|refine JI ?_|refine JJ ?_|refine JK ?_|refine JL ?_|refine JM ?_|refine CW.skip (PW.code ?_)|refine RW.nil (PW.code ?_))
    exact CW.ret1 rfl Try.results4 rfl rfl fun w hw => ⟨rfl, hw.kp⟩
  repeat (first|refine Ja ?_|refine Jb ?_|refine Jc ?_|refine Jd ?_|refine Je ?_|refine Jf ?_|refine Jg ?_|refine Jh ?_|refine Ji ?_|refine Jj ?_|refine Jk ?_|refine Jl ?_|refine Jm ?_|refine Jn ?_|refine Jo ?_|refine Jp ?_|refine Jq ?_|refine Jr ?_|refine Js ?_|refine Jt ?_|refine Ju ?_|refine Jv ?_|refine Jw ?_|refine Jx ?_|refine Jy ?_|refine Jz ?_|refine JA ?_|refine JB ?_|refine JC ?_|refine JD ?_|refine JE ?_|refine JF ?_|refine JG ?_|refine JH ?_|refine JI ?_|refine JJ ?_|refine JK ?_|refine JL ?_|refine JM ?_|refine CW.skip (PW.code ?_)|refine RW.nil (PW.code ?_))
  refine CW.ite rfl (fun h2 => ?_) (fun h2 => ?_)
  · repeat (first|refine Ja ?_|refine Jb ?_|refine Jc ?_|refine Jd ?_|refine Je ?_|refine Jf ?_|refine Jg ?_|refine Jh ?_|refine Ji ?_|refine Jj ?_|refine Jk ?_|refine Jl ?_|refine Jm ?_|refine Jn ?_|refine Jo ?_|refine Jp ?_|refine Jq ?_|refine Jr ?_|refine Js ?_|refine Jt ?_|refine Ju ?_|refine Jv ?_|refine Jw ?_|refine Jx ?_|refine Jy ?_|refine Jz ?_|refine JA ?_|refine JB ?_|refine JC ?_|refine JD ?_|refine JE ?_|refine JF ?_|refine JG ?_|refine JH ?_|refine JI ?_|refine JJ ?_|refine JK ?_|refine JL ?_|refine JM ?_|refine CW.skip (PW.code ?_)|refine RW.nil (PW.code ?_))
    exact CW.ret1 rfl Try.results4 rfl rfl fun w hw => ⟨rfl, hw.kp⟩
  obtain ⟨n, hn, hcn⟩ := check_ok (Decidable.of_not_not h1)
  rw [hcn]
  refine CW.skip ?_
  refine PW.code ?_
  obtain ⟨k, hk, ek, er1, er2⟩ := rem_index wh (n := (sMembers s).length) (by omega)
  obtain ⟨B1, O1, cs, hA, hl1, hr, hmm⟩ := sl_get hst.members (List.getElem?_eq_getElem hk)
  have hk2 := List.getElem?_eq_getElem hk
  generalize hx : (sMembers s)[k] = m at *
  obtain ⟨_, _, rfl, r1, r2⟩ := hr
  obtain rfl := str_cell r1
  obtain rfl := str_cell r2
  refine CW.seqA (by kernel_rfl) rfl ?_
  repeat (apply AW.val rfl; · intro Gx X; (first | refine RW.yes rfl ?_ | skip); (first|refine Jc ?_|refine Jd ?_|refine Je ?_|refine Jf ?_|refine Jg ?_|refine Jh ?_|refine Ji ?_|refine Jj ?_|refine Jk ?_|refine Jl ?_|refine Jm ?_|refine Jn ?_|refine Jo ?_|refine Jp ?_|refine Jq ?_|refine Jr ?_|refine Js ?_|refine Jt ?_|refine Ju ?_|refine Jv ?_|refine Jw ?_|refine Jx ?_|refine Jz ?_|refine JA ?_|refine JB ?_|refine JC ?_|refine JD ?_|refine JE ?_|refine JF ?_|refine JG ?_|refine JH ?_|refine JI ?_|refine JJ ?_|refine JK ?_|refine JL ?_); exact RW.done rfl)
  (apply AW.val rfl; · intro Gx X; (first | refine RW.yes rfl ?_ | skip); refine RW.rem rfl rfl h2 rfl ?_; exact RW.done rfl)
  repeat (apply AW.val rfl; · intro Gx X; (first | refine RW.yes rfl ?_ | skip); (first|refine Jc ?_|refine Jd ?_|refine Je ?_|refine Jf ?_|refine Jg ?_|refine Jh ?_|refine Ji ?_|refine Jj ?_|refine Jk ?_|refine Jl ?_|refine Jm ?_|refine Jn ?_|refine Jo ?_|refine Jp ?_|refine Jq ?_|refine Jr ?_|refine Js ?_|refine Jt ?_|refine Ju ?_|refine Jv ?_|refine Jw ?_|refine Jx ?_|refine Jz ?_|refine JA ?_|refine JB ?_|refine JC ?_|refine JD ?_|refine JE ?_|refine JF ?_|refine JG ?_|refine JH ?_|refine JI ?_|refine JJ ?_|refine JK ?_|refine JL ?_); exact RW.done rfl)
  (apply AW.val rfl; · intro Gx X; (first | refine RW.yes rfl ?_ | skip); refine RW.add rfl rfl (w64 (by omega) (by omega)) rfl ?_; exact RW.done rfl)
  repeat (apply AW.val rfl; · intro Gx X; (first | refine RW.yes rfl ?_ | skip); (first|refine Jc ?_|refine Jd ?_|refine Je ?_|refine Jf ?_|refine Jg ?_|refine Jh ?_|refine Ji ?_|refine Jj ?_|refine Jk ?_|refine Jl ?_|refine Jm ?_|refine Jn ?_|refine Jo ?_|refine Jp ?_|refine Jq ?_|refine Jr ?_|refine Js ?_|refine Jt ?_|refine Ju ?_|refine Jv ?_|refine Jw ?_|refine Jx ?_|refine Jz ?_|refine JA ?_|refine JB ?_|refine JC ?_|refine JD ?_|refine JE ?_|refine JF ?_|refine JG ?_|refine JH ?_|refine JI ?_|refine JJ ?_|refine JK ?_|refine JL ?_); exact RW.done rfl)
  (apply AW.val rfl; · intro Gx X; (first | refine RW.yes rfl ?_ | skip); refine RW.rem rfl rfl h2 rfl ?_; exact RW.done_eq (v := .int .i64 (k : Int)) rfl (by rw [ek]))
  (apply AW.val rfl; · intro Gx X; (first | refine RW.yes rfl ?_ | skip); refine RW.indexAddrE hA rfl rfl (by omega) (by omega) rfl ?_; exact RW.done rfl)
  repeat (apply AW.val rfl; · intro Gx X; (first | refine RW.yes rfl ?_ | skip); (first|refine Jc ?_|refine Jd ?_|refine Je ?_|refine Jf ?_|refine Jg ?_|refine Jh ?_|refine Ji ?_|refine Jj ?_|refine Jk ?_|refine Jl ?_|refine Jm ?_|refine Jn ?_|refine Jo ?_|refine Jp ?_|refine Jq ?_|refine Jr ?_|refine Js ?_|refine Jt ?_|refine Ju ?_|refine Jv ?_|refine Jw ?_|refine Jx ?_|refine Jz ?_|refine JA ?_|refine JB ?_|refine JC ?_|refine JD ?_|refine JE ?_|refine JF ?_|refine JG ?_|refine JH ?_|refine JI ?_|refine JJ ?_|refine JK ?_|refine JL ?_); exact RW.done rfl)
  (apply AW.val rfl; · intro Gx X; (first | refine RW.yes rfl ?_ | skip); refine RW.load_ro rfl hle (hmm 0 _ rfl) rfl rfl ?_; exact RW.done rfl)
  repeat (apply AW.val rfl; · intro Gx X; (first | refine RW.yes rfl ?_ | skip); (first|refine Jc ?_|refine Jd ?_|refine Je ?_|refine Jf ?_|refine Jg ?_|refine Jh ?_|refine Ji ?_|refine Jj ?_|refine Jk ?_|refine Jl ?_|refine Jm ?_|refine Jn ?_|refine Jo ?_|refine Jp ?_|refine Jq ?_|refine Jr ?_|refine Js ?_|refine Jt ?_|refine Ju ?_|refine Jv ?_|refine Jw ?_|refine Jx ?_|refine Jz ?_|refine JA ?_|refine JB ?_|refine JC ?_|refine JD ?_|refine JE ?_|refine JF ?_|refine JG ?_|refine JH ?_|refine JI ?_|refine JJ ?_|refine JK ?_|refine JL ?_); exact RW.done rfl)
  refine AW.stop (by kernel_rfl) (by kernel_rfl) fun bs => ?_
  repeat (first|refine Ja ?_|refine Jb ?_|refine Jc ?_|refine Jd ?_|refine Je ?_|refine Jf ?_|refine Jg ?_|refine Jh ?_|refine Ji ?_|refine Jj ?_|refine Jk ?_|refine Jl ?_|refine Jm ?_|refine Jn ?_|refine Jo ?_|refine Jp ?_|refine Jq ?_|refine Jr ?_|refine Js ?_|refine Jt ?_|refine Ju ?_|refine Jv ?_|refine Jw ?_|refine Jx ?_|refine Jy ?_|refine Jz ?_|refine JA ?_|refine JB ?_|refine JC ?_|refine JD ?_|refine JE ?_|refine JF ?_|refine JG ?_|refine JH ?_|refine JI ?_|refine JJ ?_|refine JK ?_|refine JL ?_|refine JM ?_|refine CW.skip (PW.code ?_)|refine RW.nil (PW.code ?_))
  refine RW.callN Try.call9 rfl (fun w2 hw => renamed_ret (b := nNew) (by decide) (hst.mono (ro_call hw))) rfl fun y => ?_
  refine RW.pack (statH y (statR m.1 nNew s)) ?_
  refine RW.alloc (c := [.string ByteArray.empty, .slice none 0 0, .slice none 0 0, .slice none 0 0, .slice none 0 0, .slice none 0 0, .slice none 0 0, .slice none 0 0, .slice none 0 0]) rfl rfl fun b10 _ => ?_
  refine RW.store_whole [] rfl rfl (vs := y.stat (statR m.1 nNew s)) rfl rfl rfl (by simp [Value.oneCell']) ?_
  repeat (first|refine Ja ?_|refine Jb ?_|refine Jc ?_|refine Jd ?_|refine Je ?_|refine Jf ?_|refine Jg ?_|refine Jh ?_|refine Ji ?_|refine Jj ?_|refine Jk ?_|refine Jl ?_|refine Jm ?_|refine Jn ?_|refine Jo ?_|refine Jp ?_|refine Jq ?_|refine Jr ?_|refine Js ?_|refine Jt ?_|refine Ju ?_|refine Jv ?_|refine Jw ?_|refine Jx ?_|refine Jy ?_|refine Jz ?_|refine JA ?_|refine JB ?_|refine JC ?_|refine JD ?_|refine JE ?_|refine JF ?_|refine JG ?_|refine JH ?_|refine JI ?_|refine JJ ?_|refine JK ?_|refine JL ?_|refine JM ?_|refine CW.skip (PW.code ?_)|refine RW.nil (PW.code ?_))
  refine RW.call Try.call10 rfl (fun w2 hw => Member_num_ret (StatOn.mono hst (ro_call hw))) rfl ?_
  repeat (first|refine Ja ?_|refine Jb ?_|refine Jc ?_|refine Jd ?_|refine Je ?_|refine Jf ?_|refine Jg ?_|refine Jh ?_|refine Ji ?_|refine Jj ?_|refine Jk ?_|refine Jl ?_|refine Jm ?_|refine Jn ?_|refine Jo ?_|refine Jp ?_|refine Jq ?_|refine Jr ?_|refine Js ?_|refine Jt ?_|refine Ju ?_|refine Jv ?_|refine Jw ?_|refine Jx ?_|refine Jy ?_|refine Jz ?_|refine JA ?_|refine JB ?_|refine JC ?_|refine JD ?_|refine JE ?_|refine JF ?_|refine JG ?_|refine JH ?_|refine JI ?_|refine JJ ?_|refine JK ?_|refine JL ?_|refine JM ?_|refine CW.skip (PW.code ?_)|refine RW.nil (PW.code ?_))
  refine CW.seq ?_
  repeat (first|refine Ja ?_|refine Jb ?_|refine Jc ?_|refine Jd ?_|refine Je ?_|refine Jf ?_|refine Jg ?_|refine Jh ?_|refine Ji ?_|refine Jj ?_|refine Jk ?_|refine Jl ?_|refine Jm ?_|refine Jn ?_|refine Jo ?_|refine Jp ?_|refine Jq ?_|refine Jr ?_|refine Js ?_|refine Jt ?_|refine Ju ?_|refine Jv ?_|refine Jw ?_|refine Jx ?_|refine Jy ?_|refine Jz ?_|refine JA ?_|refine JB ?_|refine JC ?_|refine JD ?_|refine JE ?_|refine JF ?_|refine JG ?_|refine JH ?_|refine JI ?_|refine JJ ?_|refine JK ?_|refine JL ?_|refine JM ?_|refine CW.skip (PW.code ?_)|refine RW.nil (PW.code ?_))
  refine CW.cond rfl (fun h3 => ?_) (fun h3 => ?_)
  · repeat (first|refine Ja ?_|refine Jb ?_|refine Jc ?_|refine Jd ?_|refine Je ?_|refine Jf ?_|refine Jg ?_|refine Jh ?_|refine Ji ?_|refine Jj ?_|refine Jk ?_|refine Jl ?_|refine Jm ?_|refine Jn ?_|refine Jo ?_|refine Jp ?_|refine Jq ?_|refine Jr ?_|refine Js ?_|refine Jt ?_|refine Ju ?_|refine Jv ?_|refine Jw ?_|refine Jx ?_|refine Jy ?_|refine Jz ?_|refine JA ?_|refine JB ?_|refine JC ?_|refine JD ?_|refine JE ?_|refine JF ?_|refine JG ?_|refine JH ?_|refine JI ?_|refine JJ ?_|refine JK ?_|refine JL ?_|refine JM ?_|refine CW.skip (PW.code ?_)|refine RW.nil (PW.code ?_))
    exact CW.ret1 rfl Try.results4 rfl rfl fun w hw => ⟨rfl, hw.kp⟩
  have hm0 : mGet s nNew = none := by
    cases hg : mGet s nNew with
    | none => rfl
    | some v =>
      unfold mGet at hg
      rw [hg] at h3
      cases h3
  obtain ⟨g1, g2, g3, g4⟩ := renamed_law hn hk2 hm0 (by decide)
  have hC : checkD (statR m.1 nNew s) = (0, n) := by unfold checkD; rw [g1]
  refine CW.skip ?_
  refine PW.code ?_
  repeat (first|refine Ja ?_|refine Jb ?_|refine Jc ?_|refine Jd ?_|refine Je ?_|refine Jf ?_|refine Jg ?_|refine Jh ?_|refine Ji ?_|refine Jj ?_|refine Jk ?_|refine Jl ?_|refine Jm ?_|refine Jn ?_|refine Jo ?_|refine Jp ?_|refine Jq ?_|refine Jr ?_|refine Js ?_|refine Jt ?_|refine Ju ?_|refine Jv ?_|refine Jw ?_|refine Jx ?_|refine Jy ?_|refine Jz ?_|refine JA ?_|refine JB ?_|refine JC ?_|refine JD ?_|refine JE ?_|refine JF ?_|refine JG ?_|refine JH ?_|refine JI ?_|refine JJ ?_|refine JK ?_|refine JL ?_|refine JM ?_|refine CW.skip (PW.code ?_)|refine RW.nil (PW.code ?_))
  refine RW.call Try.call8 rfl (fun w2 hw => check_ret (stat_all (pre := [_]) hw.sep)) rfl ?_
  rw [hC]
  repeat (first|refine Ja ?_|refine Jb ?_|refine Jc ?_|refine Jd ?_|refine Je ?_|refine Jf ?_|refine Jg ?_|refine Jh ?_|refine Ji ?_|refine Jj ?_|refine Jk ?_|refine Jl ?_|refine Jm ?_|refine Jn ?_|refine Jo ?_|refine Jp ?_|refine Jq ?_|refine Jr ?_|refine Js ?_|refine Jt ?_|refine Ju ?_|refine Jv ?_|refine Jw ?_|refine Jx ?_|refine Jy ?_|refine Jz ?_|refine JA ?_|refine JB ?_|refine JC ?_|refine JD ?_|refine JE ?_|refine JF ?_|refine JG ?_|refine JH ?_|refine JI ?_|refine JJ ?_|refine JK ?_|refine JL ?_|refine JM ?_|refine CW.skip (PW.code ?_)|refine RW.nil (PW.code ?_))
  refine RW.callN Try.call11 rfl (fun w2 hw => vars_ret (StatOn.mono hst (ro_call hw))) rfl fun ⟨v1, v2⟩ => ?_
  refine RW.take [2, 3, 4, 0, 1] ?_
  repeat (first|refine Ja ?_|refine Jb ?_|refine Jc ?_|refine Jd ?_|refine Je ?_|refine Jf ?_|refine Jg ?_|refine Jh ?_|refine Ji ?_|refine Jj ?_|refine Jk ?_|refine Jl ?_|refine Jm ?_|refine Jn ?_|refine Jo ?_|refine Jp ?_|refine Jq ?_|refine Jr ?_|refine Js ?_|refine Jt ?_|refine Ju ?_|refine Jv ?_|refine Jw ?_|refine Jx ?_|refine Jy ?_|refine Jz ?_|refine JA ?_|refine JB ?_|refine JC ?_|refine JD ?_|refine JE ?_|refine JF ?_|refine JG ?_|refine JH ?_|refine JI ?_|refine JJ ?_|refine JK ?_|refine JL ?_|refine JM ?_|refine CW.skip (PW.code ?_)|refine RW.nil (PW.code ?_))
  refine RW.callN Try.call11 rfl (fun w2 hw => vars_ret (stat_all (pre := [_]) hw.sep)) rfl fun ⟨v3, v4⟩ => ?_
  rw [g2]
  refine RW.take [2, 3, 4, 0, 1, 5, 6] ?_
  repeat (first|refine Ja ?_|refine Jb ?_|refine Jc ?_|refine Jd ?_|refine Je ?_|refine Jf ?_|refine Jg ?_|refine Jh ?_|refine Ji ?_|refine Jj ?_|refine Jk ?_|refine Jl ?_|refine Jm ?_|refine Jn ?_|refine Jo ?_|refine Jp ?_|refine Jq ?_|refine Jr ?_|refine Js ?_|refine Jt ?_|refine Ju ?_|refine Jv ?_|refine Jw ?_|refine Jx ?_|refine Jy ?_|refine Jz ?_|refine JA ?_|refine JB ?_|refine JC ?_|refine JD ?_|refine JE ?_|refine JF ?_|refine JG ?_|refine JH ?_|refine JI ?_|refine JJ ?_|refine JK ?_|refine JL ?_|refine JM ?_|refine CW.skip (PW.code ?_)|refine RW.nil (PW.code ?_))
  refine RW.call Try.call10 rfl (fun w2 hw => Member_num_ret (StatOn.mono hst (ro_call hw))) rfl ?_
  repeat (first|refine Ja ?_|refine Jb ?_|refine Jc ?_|refine Jd ?_|refine Je ?_|refine Jf ?_|refine Jg ?_|refine Jh ?_|refine Ji ?_|refine Jj ?_|refine Jk ?_|refine Jl ?_|refine Jm ?_|refine Jn ?_|refine Jo ?_|refine Jp ?_|refine Jq ?_|refine Jr ?_|refine Js ?_|refine Jt ?_|refine Ju ?_|refine Jv ?_|refine Jw ?_|refine Jx ?_|refine Jy ?_|refine Jz ?_|refine JA ?_|refine JB ?_|refine JC ?_|refine JD ?_|refine JE ?_|refine JF ?_|refine JG ?_|refine JH ?_|refine JI ?_|refine JJ ?_|refine JK ?_|refine JL ?_|refine JM ?_|refine CW.skip (PW.code ?_)|refine RW.nil (PW.code ?_))
  refine RW.call Try.call10 rfl (fun w2 hw => Member_num_ret (stat_all (pre := [_]) hw.sep)) rfl ?_
  unfold numV
  rw [g3, g4]
  repeat (first|refine Ja ?_|refine Jb ?_|refine Jc ?_|refine Jd ?_|refine Je ?_|refine Jf ?_|refine Jg ?_|refine Jh ?_|refine Ji ?_|refine Jj ?_|refine Jk ?_|refine Jl ?_|refine Jm ?_|refine Jn ?_|refine Jo ?_|refine Jp ?_|refine Jq ?_|refine Jr ?_|refine Js ?_|refine Jt ?_|refine Ju ?_|refine Jv ?_|refine Jw ?_|refine Jx ?_|refine Jy ?_|refine Jz ?_|refine JA ?_|refine JB ?_|refine JC ?_|refine JD ?_|refine JE ?_|refine JF ?_|refine JG ?_|refine JH ?_|refine JI ?_|refine JJ ?_|refine JK ?_|refine JL ?_|refine JM ?_|refine CW.skip (PW.code ?_)|refine RW.nil (PW.code ?_))
  refine RW.splitD 104 rfl (fun _ => ?_) (fun h => absurd rfl h)
  repeat (first|refine Ja ?_|refine Jb ?_|refine Jc ?_|refine Jd ?_|refine Je ?_|refine Jf ?_|refine Jg ?_|refine Jh ?_|refine Ji ?_|refine Jj ?_|refine Jk ?_|refine Jl ?_|refine Jm ?_|refine Jn ?_|refine Jo ?_|refine Jp ?_|refine Jq ?_|refine Jr ?_|refine Js ?_|refine Jt ?_|refine Ju ?_|refine Jv ?_|refine Jw ?_|refine Jx ?_|refine Jy ?_|refine Jz ?_|refine JA ?_|refine JB ?_|refine JC ?_|refine JD ?_|refine JE ?_|refine JF ?_|refine JG ?_|refine JH ?_|refine JI ?_|refine JJ ?_|refine JK ?_|refine JL ?_|refine JM ?_|refine CW.skip (PW.code ?_)|refine RW.nil (PW.code ?_))
  refine RW.splitD 109 rfl (fun _ => ?_) (fun h => absurd rfl h)
  repeat (first|refine Ja ?_|refine Jb ?_|refine Jc ?_|refine Jd ?_|refine Je ?_|refine Jf ?_|refine Jg ?_|refine Jh ?_|refine Ji ?_|refine Jj ?_|refine Jk ?_|refine Jl ?_|refine Jm ?_|refine Jn ?_|refine Jo ?_|refine Jp ?_|refine Jq ?_|refine Jr ?_|refine Js ?_|refine Jt ?_|refine Ju ?_|refine Jv ?_|refine Jw ?_|refine Jx ?_|refine Jy ?_|refine Jz ?_|refine JA ?_|refine JB ?_|refine JC ?_|refine JD ?_|refine JE ?_|refine JF ?_|refine JG ?_|refine JH ?_|refine JI ?_|refine JJ ?_|refine JK ?_|refine JL ?_|refine JM ?_|refine CW.skip (PW.code ?_)|refine RW.nil (PW.code ?_))
  refine RW.call Try.call12 rfl (fun w hw => sameS_own (pre := [_, _, _, _, _]) (pre2 := [_, _, _]) hw hw) rfl ?_
  repeat (first|refine Ja ?_|refine Jb ?_|refine Jc ?_|refine Jd ?_|refine Je ?_|refine Jf ?_|refine Jg ?_|refine Jh ?_|refine Ji ?_|refine Jj ?_|refine Jk ?_|refine Jl ?_|refine Jm ?_|refine Jn ?_|refine Jo ?_|refine Jp ?_|refine Jq ?_|refine Jr ?_|refine Js ?_|refine Jt ?_|refine Ju ?_|refine Jv ?_|refine Jw ?_|refine Jx ?_|refine Jy ?_|refine Jz ?_|refine JA ?_|refine JB ?_|refine JC ?_|refine JD ?_|refine JE ?_|refine JF ?_|refine JG ?_|refine JH ?_|refine JI ?_|refine JJ ?_|refine JK ?_|refine JL ?_|refine JM ?_|refine CW.skip (PW.code ?_)|refine RW.nil (PW.code ?_))
  refine RW.call Try.call13 rfl (fun w hw => sameI_own (pre := [_, _, _, _, _, _]) (pre2 := [_, _, _, _]) hw hw) rfl ?_
  repeat (first|refine Ja ?_|refine Jb ?_|refine Jc ?_|refine Jd ?_|refine Je ?_|refine Jf ?_|refine Jg ?_|refine Jh ?_|refine Ji ?_|refine Jj ?_|refine Jk ?_|refine Jl ?_|refine Jm ?_|refine Jn ?_|refine Jo ?_|refine Jp ?_|refine Jq ?_|refine Jr ?_|refine Js ?_|refine Jt ?_|refine Ju ?_|refine Jv ?_|refine Jw ?_|refine Jx ?_|refine Jy ?_|refine Jz ?_|refine JA ?_|refine JB ?_|refine JC ?_|refine JD ?_|refine JE ?_|refine JF ?_|refine JG ?_|refine JH ?_|refine JI ?_|refine JJ ?_|refine JK ?_|refine JL ?_|refine JM ?_|refine CW.skip (PW.code ?_)|refine RW.nil (PW.code ?_))
  exact CW.ret1 rfl Try.results4 rfl rfl fun w hw => ⟨by rw [decide_eq_true rfl], hw.kp⟩
theorem law_ResolveRenamed (W : World) {c0 : List Value} {x0 : kStat.V} {a1 x1 a2 x2 : Int} (y0 : Rd kStat (mem W Any) c0 x0) (y1 : Rd kI (mem W Any) [.int .i64 a1] x1) (y2 : Rd kI (mem W Any) [.int .i64 a2] x2) : Ret Try.prog 4 [.agg c0.toArray, .int .i64 a1, .int .i64 a2] W (.bool true) := by
  obtain ⟨x, rfl, h⟩ := rd_stat y0
  exact renamedLaw_ret (h.mono (mem_up fun _ _ k => k))
end Go.Proofs.Ytkfmlekomfnleaa
