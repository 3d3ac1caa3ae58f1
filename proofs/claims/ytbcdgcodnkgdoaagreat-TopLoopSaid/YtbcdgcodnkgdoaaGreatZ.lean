/- The calculus, sixteenth part: append that outgrows its room; slices of known blocks as data. Conditions: none; everything holds over any program. -/
import Derived.Test.YtbcdgcodnkgdoaaGreatM
set_option linter.unusedVariables false
set_option linter.unusedSimpArgs false
namespace Go.Proofs.YtbcdgcodnkgdoaaGreat
open Go Go.RowKit

section
variable {P : Program} {E : Env} {ops : Array Oper} {Q : Pst} {rest : List Oper} {G : List (Nat × Value)} {H : List HP}
variable {dst : Nat} {ty : TypeId} {pos : String} {af : Array Edge} {t e : TypeId} {d : TypeDesc} {z z' : Value} {sz by_ sz' by' : Nat} {x y : Operand}
theorem RW.appendGrow {B O B2 O2 sl sc m cp : Nat} {olds news zc : List Value} [T : Ty P t (.slice e) z' sz' by'] [T2 : Ty P e d z sz by_] (hx : ev G x = some (.slice (some ⟨B, O, none⟩) sl sc)) (hy : ev G y = some (.slice (some ⟨B2, O2, none⟩) m cp))
    (hz : z.cells = zc.toArray) (hzs : zc.length = sz) (hm : 0 < m) (hl : olds.length = sl * sz) (hnl : news.length = m * sz) (hold : ∀ w, St E.w0 E.S H w → CellsAt w B O olds) (hsrc : ∀ w, St E.w0 E.S H w → CellsAt w B2 O2 news) (hg : sc < sl + m) (hb : (sl + m) * by_ ≤ 140737488355328) (hmx : sl + m ≤ maxN) (hN : Nat.blt dst E.N = true)
    (kk : ∀ b cap tl, E.w0.heap.size ≤ b → sl + m ≤ cap → cap ≤ maxN → (olds ++ news).length + tl.length = cap * sz → RW P E ops Q rest ((dst, .slice (some ⟨b, 0, none⟩) (sl + m) cap) :: G) (blk b ((olds ++ news) ++ tl) e :: H)) :
    RW P E ops Q (⟨some dst, .call ⟨.builtin .append, #[x, y], #[t, t]⟩, ty, pos, af, none⟩ :: rest) G H :=
  RW.step rfl (fun f w hf hw => by
    have hexec : ∀ v' w', (Builtin.append_ #[t, t] ty #[.slice (some ⟨B, O, none⟩) sl sc, .slice (some ⟨B2, O2, none⟩) m cp]).run P w = .ok v' w' → (execOp f.eval ⟨some dst, .call ⟨.builtin .append, #[x, y], #[t, t]⟩, ty, pos, af, none⟩).run P w = .ok (.value v') w' := by
      intro v' w' h
      simp [execOp, resolve, invoke, builtin, hf.eval hx, hf.eval hy, h]
    obtain ⟨i, hi, hz', hs', hb'⟩ := T2.info
    have hr := run_append_grow (P := P) w t ty e i z T.und hi hz' ⟨B, O, none⟩ sl sc olds (by rw [hs']; exact hl) (cellsAdd (hold w hw)) ⟨B2, O2, none⟩ m cp news (by rw [hs']; exact hnl) (cellsAdd (hsrc w hw)) (by omega) (by unfold maxN at hmx; omega) (by rw [hb']; exact growslice_fits (by omega) hb)
    obtain ⟨tl, htl, htll⟩ := zeroCells_flat hz (grownCap w (sl + m) sc e - (sl + m))
    have hge := grownCap_ge w (sl + m) sc e
    have hge2 := grownCap_le_maxLen w (sl + m) sc e (by unfold maxN at hmx; unfold maxLen; omega)
    rw [hexec _ _ hr, htl]
    refine kk w.heap.size _ tl hw.kp.size hge (by unfold maxLen at hge2; unfold maxN; exact hge2) ?_ _ _ (hf.put hN _) ?_
    · rw [List.length_append, hl, hnl, htll, hzs, ← Nat.add_mul, ← Nat.add_mul]
      congr 1
      omega
    · have e1 : olds.toArray ++ news.toArray ++ tl.toArray = ((olds ++ news) ++ tl).toArray := by simp
      rw [e1]
      refine hw.fresh (Keeps.trans (S2 := No) (Keeps.drew No w) (Keeps.alloc No w.drew _) (fun _ hb => hb.elim)) ⟨⟨Nat.le_refl _, ?_⟩, ?_⟩
      · show _ < (w.heap.push _).size; simp
      · show (w.heap.push _)[_]? = _; simp)
end
/-- A number for a block and a room. -/
theorem enc (b c : Nat) (h : c ≤ maxN) : ∃ n, b = n / 9223372036854775808 ∧ c = n % 9223372036854775808 := ⟨b * 9223372036854775808 + c, by unfold maxN at h; omega, by unfold maxN at h; omega⟩
/-! ### data by hand -/
theorem rdS {M : Mem} (x : ByteArray) (h : Nat.ble x.size reach = true) : Rd .str M [.string x] x := ⟨rfl, by simpa [Nat.ble_eq] using h⟩
theorem rdI {M : Mem} (k : IntKind) (x : Int) (h : (Lit.int k x).wf = true) : Rd (.int k) M [.int k x] x := ⟨rfl, h⟩
theorem rdB {M : Mem} (b : Bool) : Rd .bool M [.bool b] b := rfl
theorem rdP {M : Mem} {a b : K} {c1 c2 : List Value} {x : a.V} {y : b.V} (h : Rd a M c1 x) (k : Rd b M c2 y) : Rd (.pr a b) M (c1 ++ c2) (x, y) := ⟨c1, c2, rfl, h, k⟩
theorem rdNil {M : Mem} {by_ : Nat} {t : K} : Rd (.sl by_ t) M [.slice none 0 0] ([] : List t.V) := ⟨none, 0, rfl, Nat.le_refl _, Nat.zero_le _, by simp, RowAt.nil⟩
theorem rdOne {M : Mem} {by_ b : Nat} {t : K} {cs : List Value} {x : t.V} (hc : ∀ (j : Nat) (v : Value), cs[j]? = some v → M b j v) (hx : Rd t M cs x) (hb : Nat.ble by_ reach = true) : Rd (.sl by_ t) M [.slice (some ⟨b, 0, none⟩) 1 1] ([x] : List t.V) := by
  refine ⟨some ⟨b, 0, none⟩, 1, rfl, Nat.le_refl _, by decide, by simpa [Nat.ble_eq] using hb, fun _ => ⟨b, 0, rfl, fun j y hj => ?_⟩⟩
  cases j with
  | zero =>
    simp only [List.getElem?_cons_zero, Option.some.injEq] at hj
    subst hj
    exact ⟨cs, hx.len, hx, fun i v hv => by simpa using hc i v hv⟩
  | succ j => simp at hj
end Go.Proofs.YtbcdgcodnkgdoaaGreat
