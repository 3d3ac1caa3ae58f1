/- resolve.Check, by the calculus. Conditions: none. -/
import Derived.Test.YtkfmlekomfnleaaR19
set_option linter.unusedVariables false
set_option linter.unusedSimpArgs false
set_option maxRecDepth 10000
namespace Go.Proofs.Ytkfmlekomfnleaa
open Go Go.RowKit Go.MapKept

section
variable {P : Program} {E : Env} {ops : Array Oper} {Q : Pst} {rest : List Oper} {G : List (Nat × Value)} {H : List HP}
variable {dst : Nat} {ty : TypeId} {pos : String} {af : Array Edge}
/-- A call of try. -/
theorem RW.callXT {l : List Operand} {vs : List Value} {at_ : Array TypeId} {f : FuncId} {α β : Type} {sp : Ex α} {c : α → β → List HP} (C : List HP) {r : List HP}
    (hcall : ∀ args w, (callFunc f args).run P w = .ok (.enter f args) w) (hl : evs G l = some vs)
    (hc : ∀ w F, St E.w0 E.S (C ++ r) w → (∀ b, F b → E.S b ∨ E.w0.heap.size ≤ b) → Sep C w F → Sep r w (fun b => (E.S b ∨ E.w0.heap.size ≤ b) ∧ ¬ F b) → Calls P f vs.toArray w (XT w F sp c)) (hN : Nat.blt dst E.N = true)
    (herr : ∀ er, sp = .error er → RW P E ops Q rest ((dst, .agg #[.int .i64 er.1, .int .i64 er.2]) :: G) r)
    (kk : ∀ x y, sp = .ok x → RW P E ops Q rest ((dst, .agg #[.int .i64 0, .int .i64 0]) :: G) (c x y ++ r)) : RW P E ops Q (⟨some dst, .call ⟨.value (.func f), l.toArray, at_⟩, ty, pos, af, none⟩ :: rest) G (C ++ r) :=
  RW.call_gen hcall hl (fun a w hf hw => by
    obtain ⟨F, hF, h1, h2⟩ := Sep.split hw.sep
    refine (hc w F hw (fun b hb => (hF b hb).1) h1 h2).mono ?_
    intro e w' he
    unfold XT at he
    cases sp with
    | error er =>
      obtain ⟨rfl, hx⟩ := he
      exact herr er rfl _ _ (hf.put hN _) (St.turnF hw.kp hF h2 hx)
    | ok x =>
      obtain ⟨y, rfl, hx⟩ := he
      exact kk x y rfl _ _ (hf.put hN _) (St.turnF hw.kp hF h2 hx))
end
theorem map_at {pre r : List HP} {b : Nat} {D : List (Str × Int)} {w : World} {A F : Nat → Prop} (h : Sep (pre ++ mapHP strK intK .string b D :: r) w (fun b => A b ∧ ¬ F b)) : MapOn w (fun b => ¬ F b) b D := by
  obtain ⟨F', hF', hp, _⟩ := Sep.pull h
  exact ⟨(hF' b hp.1).1.2, hp.2⟩
theorem StatOn.with {M : Mem} {s : kStat.V} {x : RC} (h : StatOn M s x) (b1 b2 b3 b4 b5 b6 : Nat) : StatOn M s (x.with b1 b2 b3 b4 b5 b6) := ⟨h.kinds, h.members, h.preds, h.classes, h.sources, h.rules, h.excepts, h.totals⟩
theorem RD.of {s : kStat.V} {x : RC} {r : List HP} {w : World} {A F : Nat → Prop} (hs : StatOn (mem w (fun b => ¬ F b)) s x) (h : Sep (mapsH s x ++ r) w (fun b => A b ∧ ¬ F b)) : RD w (fun b => ¬ F b) s x :=
  ⟨hs, map_at (pre := []) h, map_at (pre := [_]) h, map_at (pre := [_, _]) h, map_at (pre := [_, _, _]) h, map_at (pre := [_, _, _, _]) h, map_at (pre := [_, _, _, _, _]) h⟩
attribute [local irreducible] RW CW
/-- What Check answers. -/
def checkD (s : kStat.V) : Int × Int := match itemsD s 0 with
  | .ok n => (0, n)
  | .error e => e
set_option maxHeartbeats 8000000 in
theorem check_ret {s : kStat.V} {x : RC} {w : World} (hst : StatOn (mem w (fun b => ¬ No b)) s x) :
    Ret Try.prog 8 [.agg (x.stat s).toArray] w (.tuple #[.int .i64 (checkD s).1, .int .i64 (checkD s).2]) := by
  refine Calls.enter Try.func8 rfl _ rfl rfl (S := No) (H := []) trivial ?_
  refine CW.seqR ?_
  refine RW.box_agg (l := x.stat s) rfl rfl fun b1 _ => ?_
  repeat (first|refine Ja ?_|refine Jb ?_|refine Jc ?_|refine Jd ?_|refine Je ?_|refine Jf ?_|refine Jg ?_|refine Jh ?_|refine Ji ?_|refine Jj ?_|refine Jk ?_|refine Jl ?_|refine Jm ?_|refine Jn ?_|refine Jo ?_|refine Jp ?_|refine Jq ?_|refine Jr ?_|refine Js ?_|refine Jt ?_|refine Ju ?_|refine Jv ?_|refine Jw ?_|refine Jx ?_|refine Jy ?_|refine Jz ?_|refine JA ?_|refine JB ?_|refine JC ?_|refine JD ?_|refine JE ?_|refine JF ?_|refine JG ?_|refine JH ?_|refine JI ?_|refine JJ ?_|refine JK ?_|refine JL ?_|refine JM ?_|refine CW.skip (PW.code ?_)|refine RW.nil (PW.code ?_))
  refine RW.callN Try.call35 rfl (fun w2 hw => resolve_ret (StatOn.mono hst (ro_call hw))) rfl fun q => ?_
  obtain ⟨br, y⟩ := q
  refine RW.purely [_, _, _, _, _, _, _] (fun hy => ?_)
  dsimp only at hy ⊢
  have hst2 : StatOn (mem w (fun b => ¬ No b)) s y := by rw [hy]; exact hst.with _ _ _ _ _ _
  clear hy
  repeat (first|refine Ja ?_|refine Jb ?_|refine Jc ?_|refine Jd ?_|refine Je ?_|refine Jf ?_|refine Jg ?_|refine Jh ?_|refine Ji ?_|refine Jj ?_|refine Jk ?_|refine Jl ?_|refine Jm ?_|refine Jn ?_|refine Jo ?_|refine Jp ?_|refine Jq ?_|refine Jr ?_|refine Js ?_|refine Jt ?_|refine Ju ?_|refine Jv ?_|refine Jw ?_|refine Jx ?_|refine Jy ?_|refine Jz ?_|refine JA ?_|refine JB ?_|refine JC ?_|refine JD ?_|refine JE ?_|refine JF ?_|refine JG ?_|refine JH ?_|refine JI ?_|refine JJ ?_|refine JK ?_|refine JL ?_|refine JM ?_|refine CW.skip (PW.code ?_)|refine RW.nil (PW.code ?_))
  refine CW.seq ?_
  repeat (first|refine Ja ?_|refine Jb ?_|refine Jc ?_|refine Jd ?_|refine Je ?_|refine Jf ?_|refine Jg ?_|refine Jh ?_|refine Ji ?_|refine Jj ?_|refine Jk ?_|refine Jl ?_|refine Jm ?_|refine Jn ?_|refine Jo ?_|refine Jp ?_|refine Jq ?_|refine Jr ?_|refine Js ?_|refine Jt ?_|refine Ju ?_|refine Jv ?_|refine Jw ?_|refine Jx ?_|refine Jy ?_|refine Jz ?_|refine JA ?_|refine JB ?_|refine JC ?_|refine JD ?_|refine JE ?_|refine JF ?_|refine JG ?_|refine JH ?_|refine JI ?_|refine JJ ?_|refine JK ?_|refine JL ?_|refine JM ?_|refine CW.skip (PW.code ?_)|refine RW.nil (PW.code ?_))
  refine RW.callXT (sp := itemsD s 0) (r := mapsH s y ++ [_]) [blk br (y.cells s 0) 80] Try.call36 rfl (fun w2 F2 hw2 hF2 h1 h2 => try_ret (pre := [ptrV br]) (caps := []) Try.call37 h1 fun w3 F3 hst3 hsep => items_ret ((RD.of (StatOn.mono (M := Env.ro ⟨Try.f8.ntmps, [], w, No⟩) hst2 (ro_callF hw2 hF2)) h2).stay hst3) hsep) rfl (fun er he => ?_) fun n u he => ?_
  · have hc : checkD s = er := by unfold checkD; rw [he]
    have hne : er.1 ≠ 0 := nz_items er he
    rw [hc]
    refine RW.alloc (c := [.int .i64 0, .int .i64 0]) rfl rfl fun b5 _ => ?_
    refine RW.store_whole [] rfl rfl (vs := [.int .i64 er.1, .int .i64 er.2]) rfl rfl rfl (by simp [Value.oneCell']) ?_
    repeat (first|refine Ja ?_|refine Jb ?_|refine Jc ?_|refine Jd ?_|refine Je ?_|refine Jf ?_|refine Jg ?_|refine Jh ?_|refine Ji ?_|refine Jj ?_|refine Jk ?_|refine Jl ?_|refine Jm ?_|refine Jn ?_|refine Jo ?_|refine Jp ?_|refine Jq ?_|refine Jr ?_|refine Js ?_|refine Jt ?_|refine Ju ?_|refine Jv ?_|refine Jw ?_|refine Jx ?_|refine Jy ?_|refine Jz ?_|refine JA ?_|refine JB ?_|refine JC ?_|refine JD ?_|refine JE ?_|refine JF ?_|refine JG ?_|refine JH ?_|refine JI ?_|refine JJ ?_|refine JK ?_|refine JL ?_|refine JM ?_|refine CW.skip (PW.code ?_)|refine RW.nil (PW.code ?_))
    refine CW.ite rfl (fun _ => ?_) (fun h => absurd hne h)
    refine CW.keep [(5, ptrV b5)] ⟨rfl, trivial⟩ ?_
    refine CW.seqA (by kernel_rfl) rfl ?_
    repeat (apply AW.val rfl; · intro Gx X; (first | refine RW.yes rfl ?_ | skip); (first|refine Jc ?_|refine Jd ?_|refine Je ?_|refine Jf ?_|refine Jg ?_|refine Jh ?_|refine Ji ?_|refine Jj ?_|refine Jk ?_|refine Jl ?_|refine Jm ?_|refine Jn ?_|refine Jo ?_|refine Jp ?_|refine Jq ?_|refine Jr ?_|refine Js ?_|refine Jt ?_|refine Ju ?_|refine Jv ?_|refine Jw ?_|refine Jx ?_|refine Jz ?_|refine JA ?_|refine JB ?_|refine JC ?_|refine JD ?_|refine JE ?_|refine JF ?_|refine JG ?_|refine JH ?_|refine JI ?_|refine JJ ?_|refine JK ?_|refine JL ?_); exact RW.done rfl)
    refine AW.stop (by kernel_rfl) (by kernel_rfl) fun bs => ?_
    repeat (first|refine Ja ?_|refine Jb ?_|refine Jc ?_|refine Jd ?_|refine Je ?_|refine Jf ?_|refine Jg ?_|refine Jh ?_|refine Ji ?_|refine Jj ?_|refine Jk ?_|refine Jl ?_|refine Jm ?_|refine Jn ?_|refine Jo ?_|refine Jp ?_|refine Jq ?_|refine Jr ?_|refine Js ?_|refine Jt ?_|refine Ju ?_|refine Jv ?_|refine Jw ?_|refine Jx ?_|refine Jy ?_|refine Jz ?_|refine JA ?_|refine JB ?_|refine JC ?_|refine JD ?_|refine JE ?_|refine JF ?_|refine JG ?_|refine JH ?_|refine JI ?_|refine JJ ?_|refine JK ?_|refine JL ?_|refine JM ?_|refine CW.skip (PW.code ?_)|refine RW.nil (PW.code ?_))
    exact CW.rets (rs := [.tmp 2, .tmp 3]) (vs := [_, _]) rfl Try.results8 rfl (ResOK.tmp rfl (ResOK.tmp rfl ResOK.nil)) fun w hw => ⟨rfl, hw.kp⟩
  · have hc : checkD s = (0, n) := by unfold checkD; rw [he]
    rw [hc]
    refine RW.alloc (c := [.int .i64 0, .int .i64 0]) rfl rfl fun b5 _ => ?_
    refine RW.store_whole [] rfl rfl (vs := [.int .i64 0, .int .i64 0]) rfl rfl rfl (by simp [Value.oneCell']) ?_
    repeat (first|refine Ja ?_|refine Jb ?_|refine Jc ?_|refine Jd ?_|refine Je ?_|refine Jf ?_|refine Jg ?_|refine Jh ?_|refine Ji ?_|refine Jj ?_|refine Jk ?_|refine Jl ?_|refine Jm ?_|refine Jn ?_|refine Jo ?_|refine Jp ?_|refine Jq ?_|refine Jr ?_|refine Js ?_|refine Jt ?_|refine Ju ?_|refine Jv ?_|refine Jw ?_|refine Jx ?_|refine Jy ?_|refine Jz ?_|refine JA ?_|refine JB ?_|refine JC ?_|refine JD ?_|refine JE ?_|refine JF ?_|refine JG ?_|refine JH ?_|refine JI ?_|refine JJ ?_|refine JK ?_|refine JL ?_|refine JM ?_|refine CW.skip (PW.code ?_)|refine RW.nil (PW.code ?_))
    refine CW.ite rfl (fun h => absurd rfl h) (fun _ => ?_)
    refine CW.skip ?_
    refine PW.code ?_
    refine CW.keep [(4, ptrV br)] ⟨rfl, trivial⟩ ?_
    refine CW.seqA (by kernel_rfl) rfl ?_
    repeat (apply AW.val rfl; · intro Gx X; (first | refine RW.yes rfl ?_ | skip); (first|refine Jc ?_|refine Jd ?_|refine Je ?_|refine Jf ?_|refine Jg ?_|refine Jh ?_|refine Ji ?_|refine Jj ?_|refine Jk ?_|refine Jl ?_|refine Jm ?_|refine Jn ?_|refine Jo ?_|refine Jp ?_|refine Jq ?_|refine Jr ?_|refine Js ?_|refine Jt ?_|refine Ju ?_|refine Jv ?_|refine Jw ?_|refine Jx ?_|refine Jz ?_|refine JA ?_|refine JB ?_|refine JC ?_|refine JD ?_|refine JE ?_|refine JF ?_|refine JG ?_|refine JH ?_|refine JI ?_|refine JJ ?_|refine JK ?_|refine JL ?_); exact RW.done rfl)
    refine AW.stop (by kernel_rfl) (by kernel_rfl) fun bs => ?_
    repeat (first|refine Ja ?_|refine Jb ?_|refine Jc ?_|refine Jd ?_|refine Je ?_|refine Jf ?_|refine Jg ?_|refine Jh ?_|refine Ji ?_|refine Jj ?_|refine Jk ?_|refine Jl ?_|refine Jm ?_|refine Jn ?_|refine Jo ?_|refine Jp ?_|refine Jq ?_|refine Jr ?_|refine Js ?_|refine Jt ?_|refine Ju ?_|refine Jv ?_|refine Jw ?_|refine Jx ?_|refine Jy ?_|refine Jz ?_|refine JA ?_|refine JB ?_|refine JC ?_|refine JD ?_|refine JE ?_|refine JF ?_|refine JG ?_|refine JH ?_|refine JI ?_|refine JJ ?_|refine JK ?_|refine JL ?_|refine JM ?_|refine CW.skip (PW.code ?_)|refine RW.nil (PW.code ?_))
    exact CW.rets (rs := [.tmp 2, .tmp 3]) (vs := [_, _]) rfl Try.results8 rfl (ResOK.tmp rfl (ResOK.tmp rfl ResOK.nil)) fun w hw => ⟨rfl, hw.kp⟩
end Go.Proofs.Ytkfmlekomfnleaa
