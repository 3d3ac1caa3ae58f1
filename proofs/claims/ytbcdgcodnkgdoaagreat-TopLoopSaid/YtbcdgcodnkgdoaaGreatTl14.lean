/- TopLoop answers true, whatever it is given. Conditions: none. -/
import Derived.Test.YtbcdgcodnkgdoaaGreatTl2
import Derived.Test.YtbcdgcodnkgdoaaGreatTl3
import Derived.Test.YtbcdgcodnkgdoaaGreatTl4
import Derived.Test.YtbcdgcodnkgdoaaGreatTl5
import Derived.Test.YtbcdgcodnkgdoaaGreatTl6
import Derived.Test.YtbcdgcodnkgdoaaGreatTl7
import Derived.Test.YtbcdgcodnkgdoaaGreatTl8
import Derived.Test.YtbcdgcodnkgdoaaGreatTl9
import Derived.Test.YtbcdgcodnkgdoaaGreatTl10
import Derived.Test.YtbcdgcodnkgdoaaGreatTl11
import Derived.Test.YtbcdgcodnkgdoaaGreatTl12
import Derived.Test.YtbcdgcodnkgdoaaGreatTl13
set_option linter.unusedVariables false
set_option maxRecDepth 100000
namespace Go.Proofs.YtbcdgcodnkgdoaaGreat.Run
open Go Go.RowKit

theorem tlq0 : dC tlB 0 = .seq (tlC 0) (dC tlB 1) := by kernel_rfl
theorem tlq1 : dC tlB 1 = .seq (tlC 1) (dC tlB 2) := by kernel_rfl
theorem tlq2 : dC tlB 2 = .seq (tlC 2) (dC tlB 3) := by kernel_rfl
theorem tlq3 : dC tlB 3 = .seq (tlC 3) (dC tlB 4) := by kernel_rfl
theorem tlq4 : dC tlB 4 = .seq (tlC 4) (dC tlB 5) := by kernel_rfl
theorem tlq5 : dC tlB 5 = .seq (tlC 5) (dC tlB 6) := by kernel_rfl
theorem tlq6 : dC tlB 6 = .seq (tlC 6) (dC tlB 7) := by kernel_rfl
theorem tlq7 : dC tlB 7 = .seq (tlC 7) (dC tlB 8) := by kernel_rfl
theorem tlq8 : dC tlB 8 = .seq (tlC 8) (dC tlB 9) := by kernel_rfl
theorem tlq9 : dC tlB 9 = .seq (tlC 9) (dC tlB 10) := by kernel_rfl
theorem tlq10 : dC tlB 10 = .seq (tlC 10) (dC tlB 11) := by kernel_rfl
theorem tlq11 : dC tlB 11 = .seq (tlC 11) (dC tlB 12) := by kernel_rfl
theorem tlq12 : dC tlB 12 = .seq (tlC 12) (dC tlB 13) := by kernel_rfl
/-- The pieces at one number. -/
structure TlAt (m : Nat) : Prop where
  c : ∀ k, TG 4 nsT (ck3 (.ofNat m) k) .nrm (ck6 m 2 k)
  d : TG 5 nsT (ck6 m 2 1) .nrm (ck6 m 1 1)
  e : TG 5 nsT (ck6 m 2 (.ofNat 0)) .nrm (ck6 m 2 (.ofNat 0))
  f : ∀ j : Nat, TG 5 nsT (ck6 m 2 (.ofNat (j + 2))) .nrm (ck6 m 2 (.ofNat (j + 2)))
  g : ∀ j : Nat, TG 5 nsT (ck6 m 2 (.negSucc j)) .nrm (ck6 m 2 (.negSucc j))
  p : ∀ s k, TG 6 nsA (ck6 m (tlKd s) k) .nrm (ck7 m s k)
  q : ∀ s k, TG 7 nsB (ck7 m s k) .nrm (ck8 m s k)
  r : ∀ s k, TG 8 nsB (ck8 m s k) .nrm (ck9 m s k)
  t : ∀ s k, TG 9 nsB (ck9 m s k) .nrm (ck10 m s k)
  h : ∀ s k, TG 10 [.at_ 6] (ck10 m s k) .nrm (ck11 m s k)
  i : ∀ s k, TG 11 [.at_ 6] (ck11 m s k) .nrm (ck11 m s k)
  j : TG 12 [] (ck11 m true 1) .ret ck13
  k : TG 12 [.at_ 6] (ck11 m false (.ofNat 0)) .nrm (ck11 m false (.ofNat 0))
  o : ∀ j : Nat, TG 12 [.at_ 6] (ck11 m false (.ofNat (j + 2))) .nrm (ck11 m false (.ofNat (j + 2)))
  v : ∀ j : Nat, TG 12 [.at_ 6] (ck11 m false (.negSucc j)) .nrm (ck11 m false (.negSucc j))
  n : ∀ k, Goes2 tlCf 3000 114 6 (dC tlB 13) [] (ck11 m false k) .ret ck13
theorem Thru.seqE {w0 : World} {N : Nat} {c d : Code} {a b : Ck} {e : Xt} (he : e ≠ .nrm) (h1 : Thru w0 N c a e b) : Thru w0 N (.seq c d) a e b := fun n σ ac w Q hf hd H k =>
  wpIn_seq (h1 n σ ac w _ hf hd H fun σ1 a1 w1 hf1 hd1 H1 => xt_then he (k σ1 a1 w1 hf1 hd1 H1))
section
variable {w0 : World}
theorem tlCf_ok : CFok w0 tlCf := orc_ok (exN_ok w0 3000 60)
theorem tl_of {i : Nat} {ns : List Nm} {a b : Ck} {e : Xt} (h : TG i ns a e b) : Thru w0 114 (tlC i) a e b := thru2 tlCf_ok h
theorem tl_mid {m : Nat} (T : TlAt m) (s : Bool) (k : Int) {b : Ck} {e : Xt} (h : Thru w0 114 (dC tlB 12) (ck11 m s k) e b) : Thru w0 114 (dC tlB 6) (ck6 m (tlKd s) k) e b := by
  rw [tlq6, tlq7, tlq8, tlq9, tlq10, tlq11]
  exact (tl_of (T.p s k)).seq ((tl_of (T.q s k)).seq ((tl_of (T.r s k)).seq ((tl_of (T.t s k)).seq ((tl_of (T.h s k)).seq ((tl_of (T.i s k)).seq h)))))
theorem tl_end {m : Nat} (T : TlAt m) {k : Int} (h : TG 12 [.at_ 6] (ck11 m false k) .nrm (ck11 m false k)) : Thru w0 114 (dC tlB 12) (ck11 m false k) .ret ck13 := by
  rw [tlq12]
  exact (tl_of h).seq (thru2 tlCf_ok (T.n k))
theorem tl_tail {m : Nat} (T : TlAt m) (k : Int) : Thru w0 114 (dC tlB 4) (ck3 (.ofNat m) k) .ret ck13 := by
  rw [tlq4, tlq5]
  refine (tl_of (T.c k)).seq ?_
  match k with
  | .ofNat 0 => exact (tl_of T.e).seq (tl_mid T false _ (tl_end T T.k))
  | .ofNat 1 => exact (tl_of T.d).seq (tl_mid T true _ (by rw [tlq12]; exact (tl_of T.j).seqE (by simp)))
  | .ofNat (j + 2) => exact (tl_of (T.f j)).seq (tl_mid T false _ (tl_end T (T.o j)))
  | .negSucc j => exact (tl_of (T.g j)).seq (tl_mid T false _ (tl_end T (T.v j)))
end
theorem tz0 : TlAt 0 := ⟨tc0, td0, te0, tf0, tg0, fun s k => match s with | true => tp0b k | false => tp0a k, fun s k => match s with | true => tq0b k | false => tq0a k, fun s k => match s with | true => tr0b k | false => tr0a k, fun s k => match s with | true => ts0b k | false => ts0a k, fun s k => match s with | true => th0b k | false => th0a k, fun s k => match s with | true => ti0b k | false => ti0a k, tj0, tk0, to0, tm0, tn0⟩
theorem tz1 : TlAt 1 := ⟨tc1, td1, te1, tf1, tg1, fun s k => match s with | true => tp1b k | false => tp1a k, fun s k => match s with | true => tq1b k | false => tq1a k, fun s k => match s with | true => tr1b k | false => tr1a k, fun s k => match s with | true => ts1b k | false => ts1a k, fun s k => match s with | true => th1b k | false => th1a k, fun s k => match s with | true => ti1b k | false => ti1a k, tj1, tk1, to1, tm1, tn1⟩
theorem tz2 : TlAt 2 := ⟨tc2, td2, te2, tf2, tg2, fun s k => match s with | true => tp2b k | false => tp2a k, fun s k => match s with | true => tq2b k | false => tq2a k, fun s k => match s with | true => tr2b k | false => tr2a k, fun s k => match s with | true => ts2b k | false => ts2a k, fun s k => match s with | true => th2b k | false => th2a k, fun s k => match s with | true => ti2b k | false => ti2a k, tj2, tk2, to2, tm2, tn2⟩
theorem tz3 : TlAt 3 := ⟨tc3, td3, te3, tf3, tg3, fun s k => match s with | true => tp3b k | false => tp3a k, fun s k => match s with | true => tq3b k | false => tq3a k, fun s k => match s with | true => tr3b k | false => tr3a k, fun s k => match s with | true => ts3b k | false => ts3a k, fun s k => match s with | true => th3b k | false => th3a k, fun s k => match s with | true => ti3b k | false => ti3a k, tj3, tk3, to3, tm3, tn3⟩
theorem tz4 : TlAt 4 := ⟨tc4, td4, te4, tf4, tg4, fun s k => match s with | true => tp4b k | false => tp4a k, fun s k => match s with | true => tq4b k | false => tq4a k, fun s k => match s with | true => tr4b k | false => tr4a k, fun s k => match s with | true => ts4b k | false => ts4a k, fun s k => match s with | true => th4b k | false => th4a k, fun s k => match s with | true => ti4b k | false => ti4a k, tj4, tk4, to4, tm4, tn4⟩
theorem tz5 : TlAt 5 := ⟨tc5, td5, te5, tf5, tg5, fun s k => match s with | true => tp5b k | false => tp5a k, fun s k => match s with | true => tq5b k | false => tq5a k, fun s k => match s with | true => tr5b k | false => tr5a k, fun s k => match s with | true => ts5b k | false => ts5a k, fun s k => match s with | true => th5b k | false => th5a k, fun s k => match s with | true => ti5b k | false => ti5a k, tj5, tk5, to5, tm5, tn5⟩
theorem tz6 : TlAt 6 := ⟨tc6, td6, te6, tf6, tg6, fun s k => match s with | true => tp6b k | false => tp6a k, fun s k => match s with | true => tq6b k | false => tq6a k, fun s k => match s with | true => tr6b k | false => tr6a k, fun s k => match s with | true => ts6b k | false => ts6a k, fun s k => match s with | true => th6b k | false => th6a k, fun s k => match s with | true => ti6b k | false => ti6a k, tj6, tk6, to6, tm6, tn6⟩
theorem tz7 : TlAt 7 := ⟨tc7, td7, te7, tf7, tg7, fun s k => match s with | true => tp7b k | false => tp7a k, fun s k => match s with | true => tq7b k | false => tq7a k, fun s k => match s with | true => tr7b k | false => tr7a k, fun s k => match s with | true => ts7b k | false => ts7a k, fun s k => match s with | true => th7b k | false => th7a k, fun s k => match s with | true => ti7b k | false => ti7a k, tj7, tk7, to7, tm7, tn7⟩
theorem tz8 : TlAt 8 := ⟨tc8, td8, te8, tf8, tg8, fun s k => match s with | true => tp8b k | false => tp8a k, fun s k => match s with | true => tq8b k | false => tq8a k, fun s k => match s with | true => tr8b k | false => tr8a k, fun s k => match s with | true => ts8b k | false => ts8a k, fun s k => match s with | true => th8b k | false => th8a k, fun s k => match s with | true => ti8b k | false => ti8a k, tj8, tk8, to8, tm8, tn8⟩
theorem tz9 : TlAt 9 := ⟨tc9, td9, te9, tf9, tg9, fun s k => match s with | true => tp9b k | false => tp9a k, fun s k => match s with | true => tq9b k | false => tq9a k, fun s k => match s with | true => tr9b k | false => tr9a k, fun s k => match s with | true => ts9b k | false => ts9a k, fun s k => match s with | true => th9b k | false => th9a k, fun s k => match s with | true => ti9b k | false => ti9a k, tj9, tk9, to9, tm9, tn9⟩
theorem tz10 : TlAt 10 := ⟨tc10, td10, te10, tf10, tg10, fun s k => match s with | true => tp10b k | false => tp10a k, fun s k => match s with | true => tq10b k | false => tq10a k, fun s k => match s with | true => tr10b k | false => tr10a k, fun s k => match s with | true => ts10b k | false => ts10a k, fun s k => match s with | true => th10b k | false => th10a k, fun s k => match s with | true => ti10b k | false => ti10a k, tj10, tk10, to10, tm10, tn10⟩
theorem tz11 : TlAt 11 := ⟨tc11, td11, te11, tf11, tg11, fun s k => match s with | true => tp11b k | false => tp11a k, fun s k => match s with | true => tq11b k | false => tq11a k, fun s k => match s with | true => tr11b k | false => tr11a k, fun s k => match s with | true => ts11b k | false => ts11a k, fun s k => match s with | true => th11b k | false => th11a k, fun s k => match s with | true => ti11b k | false => ti11a k, tj11, tk11, to11, tm11, tn11⟩
theorem tz12 : TlAt 12 := ⟨tc12, td12, te12, tf12, tg12, fun s k => match s with | true => tp12b k | false => tp12a k, fun s k => match s with | true => tq12b k | false => tq12a k, fun s k => match s with | true => tr12b k | false => tr12a k, fun s k => match s with | true => ts12b k | false => ts12a k, fun s k => match s with | true => th12b k | false => th12a k, fun s k => match s with | true => ti12b k | false => ti12a k, tj12, tk12, to12, tm12, tn12⟩
theorem tz13 : TlAt 13 := ⟨tc13, td13, te13, tf13, tg13, fun s k => match s with | true => tp13b k | false => tp13a k, fun s k => match s with | true => tq13b k | false => tq13a k, fun s k => match s with | true => tr13b k | false => tr13a k, fun s k => match s with | true => ts13b k | false => ts13a k, fun s k => match s with | true => th13b k | false => th13a k, fun s k => match s with | true => ti13b k | false => ti13a k, tj13, tk13, to13, tm13, tn13⟩
theorem tz14 : TlAt 14 := ⟨tc14, td14, te14, tf14, tg14, fun s k => match s with | true => tp14b k | false => tp14a k, fun s k => match s with | true => tq14b k | false => tq14a k, fun s k => match s with | true => tr14b k | false => tr14a k, fun s k => match s with | true => ts14b k | false => ts14a k, fun s k => match s with | true => th14b k | false => th14a k, fun s k => match s with | true => ti14b k | false => ti14a k, tj14, tk14, to14, tm14, tn14⟩
theorem tz15 : TlAt 15 := ⟨tc15, td15, te15, tf15, tg15, fun s k => match s with | true => tp15b k | false => tp15a k, fun s k => match s with | true => tq15b k | false => tq15a k, fun s k => match s with | true => tr15b k | false => tr15a k, fun s k => match s with | true => ts15b k | false => ts15a k, fun s k => match s with | true => th15b k | false => th15a k, fun s k => match s with | true => ti15b k | false => ti15a k, tj15, tk15, to15, tm15, tn15⟩
theorem tz16 : TlAt 16 := ⟨tc16, td16, te16, tf16, tg16, fun s k => match s with | true => tp16b k | false => tp16a k, fun s k => match s with | true => tq16b k | false => tq16a k, fun s k => match s with | true => tr16b k | false => tr16a k, fun s k => match s with | true => ts16b k | false => ts16a k, fun s k => match s with | true => th16b k | false => th16a k, fun s k => match s with | true => ti16b k | false => ti16a k, tj16, tk16, to16, tm16, tn16⟩
theorem tz17 : TlAt 17 := ⟨tc17, td17, te17, tf17, tg17, fun s k => match s with | true => tp17b k | false => tp17a k, fun s k => match s with | true => tq17b k | false => tq17a k, fun s k => match s with | true => tr17b k | false => tr17a k, fun s k => match s with | true => ts17b k | false => ts17a k, fun s k => match s with | true => th17b k | false => th17a k, fun s k => match s with | true => ti17b k | false => ti17a k, tj17, tk17, to17, tm17, tn17⟩
theorem tz18 : TlAt 18 := ⟨tc18, td18, te18, tf18, tg18, fun s k => match s with | true => tp18b k | false => tp18a k, fun s k => match s with | true => tq18b k | false => tq18a k, fun s k => match s with | true => tr18b k | false => tr18a k, fun s k => match s with | true => ts18b k | false => ts18a k, fun s k => match s with | true => th18b k | false => th18a k, fun s k => match s with | true => ti18b k | false => ti18a k, tj18, tk18, to18, tm18, tn18⟩
theorem tz19 : TlAt 19 := ⟨tc19, td19, te19, tf19, tg19, fun s k => match s with | true => tp19b k | false => tp19a k, fun s k => match s with | true => tq19b k | false => tq19a k, fun s k => match s with | true => tr19b k | false => tr19a k, fun s k => match s with | true => ts19b k | false => ts19a k, fun s k => match s with | true => th19b k | false => th19a k, fun s k => match s with | true => ti19b k | false => ti19a k, tj19, tk19, to19, tm19, tn19⟩
theorem tz20 : TlAt 20 := ⟨tc20, td20, te20, tf20, tg20, fun s k => match s with | true => tp20b k | false => tp20a k, fun s k => match s with | true => tq20b k | false => tq20a k, fun s k => match s with | true => tr20b k | false => tr20a k, fun s k => match s with | true => ts20b k | false => ts20a k, fun s k => match s with | true => th20b k | false => th20a k, fun s k => match s with | true => ti20b k | false => ti20a k, tj20, tk20, to20, tm20, tn20⟩
theorem tz21 : TlAt 21 := ⟨tc21, td21, te21, tf21, tg21, fun s k => match s with | true => tp21b k | false => tp21a k, fun s k => match s with | true => tq21b k | false => tq21a k, fun s k => match s with | true => tr21b k | false => tr21a k, fun s k => match s with | true => ts21b k | false => ts21a k, fun s k => match s with | true => th21b k | false => th21a k, fun s k => match s with | true => ti21b k | false => ti21a k, tj21, tk21, to21, tm21, tn21⟩
theorem tz22 : TlAt 22 := ⟨tc22, td22, te22, tf22, tg22, fun s k => match s with | true => tp22b k | false => tp22a k, fun s k => match s with | true => tq22b k | false => tq22a k, fun s k => match s with | true => tr22b k | false => tr22a k, fun s k => match s with | true => ts22b k | false => ts22a k, fun s k => match s with | true => th22b k | false => th22a k, fun s k => match s with | true => ti22b k | false => ti22a k, tj22, tk22, to22, tm22, tn22⟩
theorem tz23 : TlAt 23 := ⟨tc23, td23, te23, tf23, tg23, fun s k => match s with | true => tp23b k | false => tp23a k, fun s k => match s with | true => tq23b k | false => tq23a k, fun s k => match s with | true => tr23b k | false => tr23a k, fun s k => match s with | true => ts23b k | false => ts23a k, fun s k => match s with | true => th23b k | false => th23a k, fun s k => match s with | true => ti23b k | false => ti23a k, tj23, tk23, to23, tm23, tn23⟩
theorem tz24 : TlAt 24 := ⟨tc24, td24, te24, tf24, tg24, fun s k => match s with | true => tp24b k | false => tp24a k, fun s k => match s with | true => tq24b k | false => tq24a k, fun s k => match s with | true => tr24b k | false => tr24a k, fun s k => match s with | true => ts24b k | false => ts24a k, fun s k => match s with | true => th24b k | false => th24a k, fun s k => match s with | true => ti24b k | false => ti24a k, tj24, tk24, to24, tm24, tn24⟩
theorem tz25 : TlAt 25 := ⟨tc25, td25, te25, tf25, tg25, fun s k => match s with | true => tp25b k | false => tp25a k, fun s k => match s with | true => tq25b k | false => tq25a k, fun s k => match s with | true => tr25b k | false => tr25a k, fun s k => match s with | true => ts25b k | false => ts25a k, fun s k => match s with | true => th25b k | false => th25a k, fun s k => match s with | true => ti25b k | false => ti25a k, tj25, tk25, to25, tm25, tn25⟩
theorem tz26 : TlAt 26 := ⟨tc26, td26, te26, tf26, tg26, fun s k => match s with | true => tp26b k | false => tp26a k, fun s k => match s with | true => tq26b k | false => tq26a k, fun s k => match s with | true => tr26b k | false => tr26a k, fun s k => match s with | true => ts26b k | false => ts26a k, fun s k => match s with | true => th26b k | false => th26a k, fun s k => match s with | true => ti26b k | false => ti26a k, tj26, tk26, to26, tm26, tn26⟩
theorem tz27 : TlAt 27 := ⟨tc27, td27, te27, tf27, tg27, fun s k => match s with | true => tp27b k | false => tp27a k, fun s k => match s with | true => tq27b k | false => tq27a k, fun s k => match s with | true => tr27b k | false => tr27a k, fun s k => match s with | true => ts27b k | false => ts27a k, fun s k => match s with | true => th27b k | false => th27a k, fun s k => match s with | true => ti27b k | false => ti27a k, tj27, tk27, to27, tm27, tn27⟩
theorem tz28 : TlAt 28 := ⟨tc28, td28, te28, tf28, tg28, fun s k => match s with | true => tp28b k | false => tp28a k, fun s k => match s with | true => tq28b k | false => tq28a k, fun s k => match s with | true => tr28b k | false => tr28a k, fun s k => match s with | true => ts28b k | false => ts28a k, fun s k => match s with | true => th28b k | false => th28a k, fun s k => match s with | true => ti28b k | false => ti28a k, tj28, tk28, to28, tm28, tn28⟩
theorem tz29 : TlAt 29 := ⟨tc29, td29, te29, tf29, tg29, fun s k => match s with | true => tp29b k | false => tp29a k, fun s k => match s with | true => tq29b k | false => tq29a k, fun s k => match s with | true => tr29b k | false => tr29a k, fun s k => match s with | true => ts29b k | false => ts29a k, fun s k => match s with | true => th29b k | false => th29a k, fun s k => match s with | true => ti29b k | false => ti29a k, tj29, tk29, to29, tm29, tn29⟩
theorem tz_all : ∀ m, m < 30 → TlAt m
  | 0, _ => tz0
  | 1, _ => tz1
  | 2, _ => tz2
  | 3, _ => tz3
  | 4, _ => tz4
  | 5, _ => tz5
  | 6, _ => tz6
  | 7, _ => tz7
  | 8, _ => tz8
  | 9, _ => tz9
  | 10, _ => tz10
  | 11, _ => tz11
  | 12, _ => tz12
  | 13, _ => tz13
  | 14, _ => tz14
  | 15, _ => tz15
  | 16, _ => tz16
  | 17, _ => tz17
  | 18, _ => tz18
  | 19, _ => tz19
  | 20, _ => tz20
  | 21, _ => tz21
  | 22, _ => tz22
  | 23, _ => tz23
  | 24, _ => tz24
  | 25, _ => tz25
  | 26, _ => tz26
  | 27, _ => tz27
  | 28, _ => tz28
  | 29, _ => tz29
  | m + 30, h => absurd h (by omega)
theorem ta_all (k : Int) : ∀ m : Nat, m < 30 → TG 3 [] (ck3 (.ofNat m) k) .nrm (ck3 (.ofNat m) k)
  | 0, _ => ta0 k
  | 1, _ => ta1 k
  | 2, _ => ta2 k
  | 3, _ => ta3 k
  | 4, _ => ta4 k
  | 5, _ => ta5 k
  | 6, _ => ta6 k
  | 7, _ => ta7 k
  | 8, _ => ta8 k
  | 9, _ => ta9 k
  | 10, _ => ta10 k
  | 11, _ => ta11 k
  | 12, _ => ta12 k
  | 13, _ => ta13 k
  | 14, _ => ta14 k
  | 15, _ => ta15 k
  | 16, _ => ta16 k
  | 17, _ => ta17 k
  | 18, _ => ta18 k
  | 19, _ => ta19 k
  | 20, _ => ta20 k
  | 21, _ => ta21 k
  | 22, _ => ta22 k
  | 23, _ => ta23 k
  | 24, _ => ta24 k
  | 25, _ => ta25 k
  | 26, _ => ta26 k
  | 27, _ => ta27 k
  | 28, _ => ta28 k
  | 29, _ => ta29 k
  | m + 30, h => absurd h (by omega)
theorem tb_all (k : Int) : ∀ m : Nat, m < 29 → TG 3 [] (ck3 (.negSucc m) k) .nrm (ck3 (.ofNat (m + 1)) k)
  | 0, _ => tb0 k
  | 1, _ => tb1 k
  | 2, _ => tb2 k
  | 3, _ => tb3 k
  | 4, _ => tb4 k
  | 5, _ => tb5 k
  | 6, _ => tb6 k
  | 7, _ => tb7 k
  | 8, _ => tb8 k
  | 9, _ => tb9 k
  | 10, _ => tb10 k
  | 11, _ => tb11 k
  | 12, _ => tb12 k
  | 13, _ => tb13 k
  | 14, _ => tb14 k
  | 15, _ => tb15 k
  | 16, _ => tb16 k
  | 17, _ => tb17 k
  | 18, _ => tb18 k
  | 19, _ => tb19 k
  | 20, _ => tb20 k
  | 21, _ => tb21 k
  | 22, _ => tb22 k
  | 23, _ => tb23 k
  | 24, _ => tb24 k
  | 25, _ => tb25 k
  | 26, _ => tb26 k
  | 27, _ => tb27 k
  | 28, _ => tb28 k
  | m + 29, h => absurd h (by omega)
theorem tl_run (w0 : World) (n k : Int) : Thru w0 114 tlB (ck3 n k) .ret ck13 := by
  show Thru w0 114 (dC tlB 0) (ck3 n k) .ret ck13
  rw [tlq0, tlq1, tlq2, tlq3]
  refine (tl_of (tl0 n k)).seq ((tl_of (tl1 n k)).seq ((tl_of (tl2 n k)).seq ?_))
  have h1 : n.tmod 30 < 30 := Int.tmod_lt_of_pos n (by omega)
  have h2 : -30 < n.tmod 30 := by
    have := Int.tmod_lt_of_pos (-n) (b := 30) (by omega)
    rw [Int.neg_tmod] at this
    omega
  generalize n.tmod 30 = r at h1 h2
  match r with
  | .ofNat m => exact (tl_of (ta_all k m (by simp at h1; omega))).seq (tl_tail (tz_all m (by simp at h1; omega)) k)
  | .negSucc m => exact (tl_of (tb_all k m (by omega))).seq (tl_tail (tz_all (m + 1) (by omega)) k)
theorem loop_ret (n k : Int) (w : World) : CallsIn Fence.wide 0 PG 6 #[.int .i64 n, .int .i64 k] w (fun e w' => e = .returned (.bool true) ∧ Keeps No w w') := by
  obtain ⟨fn, hf⟩ : ∃ fn, PG.funcs[6]? = some fn := ⟨_, rfl⟩
  have e1 : fn.ntmps = 114 := by have : (PG.funcs[6]?.map (·.ntmps)) = some 114 := by kernel_rfl
                                 rw [hf] at this; exact Option.some.inj this
  have e2 : fn.results = #[.tmp 4] := by have : (PG.funcs[6]?.map (·.results)) = some #[.tmp 4] := by kernel_rfl
                                         rw [hf] at this; exact Option.some.inj this
  have e3 : fn.body = some tlB := by
    have : (PG.funcs[6]?.bind (·.body)).isSome = true := by kernel_rfl
    have h2 : tlB = (PG.funcs[6]?.bind (·.body)).getD .skip := rfl
    rw [hf] at this h2
    simp only [Option.bind_some] at this h2
    cases hb : fn.body with
    | none => rw [hb] at this; cases this
    | some c => rw [hb] at h2; rw [h2]; rfl
  have hcall : CallsIn Fence.wide 0 PG 6 ([Value.int .i64 n, .int .i64 k] : List Value).toArray w (fun e w' => e = .returned (.bool true) ∧ Keeps No w w') := by
    refine callsIn_of_wp_marks (F := FW none) hf e3 (fw_fn none 6) (tl_run w n k 0 (fun _ => none) _ w _ ?_ rfl (den_start w) fun σ' a' w' hf' hd' H' => ?_)
    · have := enter_ok (σ := fun _ => none) (N := 114) (vs := [.i .i64 n, .i .i64 k]) (xs := [.int .i64 n, .int .i64 k]) (by simp [denL, den]) (by simp)
      rw [← e1] at this ⊢
      exact this
    · show LeavesInM (FW none) 0 PG fn a'.tmps _ a'.defers .returning w'
      rw [hd']
      obtain ⟨x, g1, g2⟩ := hf'.at_ 4 (.b true) (by kernel_rfl)
      rw [den] at g1
      obtain rfl := Option.some.inj g1
      refine ⟨_, results_tmp e2 _ _ _, ?_, H'.g.kp⟩
      rw [Array.getD_eq_getD_getElem?, g2]; rfl
  exact hcall
theorem law_TopLoop (n k : Int) (w : World) : Calls PG 6 #[.int .i64 n, .int .i64 k] w (fun e w' => e = .returned (.bool true) ∧ Keeps No w w') := callsIn_wide.1 (loop_ret n k w)
end Go.Proofs.YtbcdgcodnkgdoaaGreat.Run
