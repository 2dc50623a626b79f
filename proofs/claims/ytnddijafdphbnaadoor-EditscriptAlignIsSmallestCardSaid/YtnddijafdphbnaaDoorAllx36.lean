/- Some texts, one behind the other. -/
import Derived.Test.YtnddijafdphbnaaDoorAllSt
import Derived.Test.YtnddijafdphbnaaDoorAllx10
import Derived.Test.YtnddijafdphbnaaDoorAllx9
import Derived.Test.YtnddijafdphbnaaDoorAllx14
import Derived.Test.YtnddijafdphbnaaDoorAllx19
import Derived.Test.YtnddijafdphbnaaDoorAllx24
import Derived.Test.YtnddijafdphbnaaDoorAllx30
import Derived.Test.YtnddijafdphbnaaDoorAllx34
section
-- Printed by wip/tools/wprint.py (a program of this session over the kit's printer). Not trusted: Lean checks it.
namespace Go.Proofs.YtnddijafdphbnaaDoor.All
open Go.RowKit Go.Proofs.YtnddijafdphbnaaDoorW.PrintWords Go.Proofs.YtnddijafdphbnaaDoorW.PrintLast Go.Proofs.YtnddijafdphbnaaDoorW.PrintMore
attribute [local go_sem] max2_int min2_int max_two min_two max_three min_three max_four min_four   -- for this text's walks alone
set_option linter.unusedVariables false
set_option linter.unusedSimpArgs false

attribute [local go_sem high] eqA49
/-! ### emendateref36_Less: function 25 -/
mutual
def emendateref36_Less.l0 : Nat → List (S49) → List (S49) → Int → Option (Bool)
 | 0, _, _, _ => none
 | k + 1, x0, x1, x5 => if x5 < (x0.length : Int) then (emendateref36_Less.j1 k x0 x1 x5 (decide (x5 < (x1.length : Int)))) else (emendateref36_Less.j1 k x0 x1 x5 false)
def emendateref36_Less.j1 : Nat → List (S49) → List (S49) → Int → Bool → Option (Bool)
 | 0, _, _, _, _ => none
 | k + 1, x0, x1, x5, x15 => if x15 = true then (if 0 ≤ x5 then (if x5 < (x0.length : Int) then (if x5 < (x1.length : Int) then (if (!(((rd_T49 x0 x5).f0) == ((rd_T49 x1 x5).f0)) || (!(((rd_T49 x0 x5).f1) == ((rd_T49 x1 x5).f1)))) = true then (if ((rd_T49 x0 x5).f0) < ((rd_T49 x1 x5).f0) then (some true) else (if ((rd_T49 x0 x5).f0) = ((rd_T49 x1 x5).f0) then (some (decide (((rd_T49 x0 x5).f1) < ((rd_T49 x1 x5).f1)))) else (some false))) else (emendateref36_Less.l0 k x0 x1 (wrap64 (x5 + 1)))) else (none)) else (none)) else (none)) else (some (decide ((x0.length : Int) < (x1.length : Int))))
end
def emendateref36_Less.f (k : Nat) (l0 : List (S49)) (l1 : List (S49)) : Option (Bool) := emendateref36_Less.l0 k l0 l1 0
set_option maxHeartbeats 8000000 in
set_option maxRecDepth 100000 in
theorem emendateref36_Less.calls (k : Nat) (A0 : Option Addr) (c0 : Nat) (l0 : List (S49)) (A1 : Option Addr) (c1 : Nat) (l1 : List (S49)) (r : Bool) (w : World) (hr0 : Kd.C k49 w A0 l0.length l0) (hc0 : l0.length ≤ c0) (hr1 : Kd.C k49 w A1 l1.length l1) (hc1 : l1.length ≤ c1) (h : emendateref36_Less.f k l0 l1 = some r) :
  Calls Tryd.prog 25 #[.slice A0 l0.length c0, .slice A1 l1.length c1] w fun e w' => e = .returned (.bool r) ∧ Drawn0 w w' := by
 have hu49 := Tryd.underlying49
 have HR0 := Aside0.mk hr0
 have HC0 := Aside0.mk hc0
 clear hr0 hc0
 have HR1 := Aside0.mk hr1
 have HC1 := Aside0.mk hc1
 clear hr1 hc1
 have H : (emendateref36_Less.l0 k l0 l1 0) = some r := h
 clear h
 have H' := Aside0.mk H
 clear H
 go_enter Tryd.func25, Tryd.ntmps25
 go_wp2
 repeat (go_quiet (fail); try go_wp2)
 go_loopg [5] k (fun kq v5 w' => ∃ (x5_1 : Int), v5 = .int .i64 x5_1 ∧ Aside0 (emendateref36_Less.l0 kq l0 l1 x5_1 = some r) ∧ Aside0 (kq ≤ k) ∧ Drawn0 w w')
 case atStart => exact ⟨(0), rr, H', ⟨Nat.le_refl _⟩, by repeat (first | exact Drawn0.refl _ | apply Drawn0.step)⟩
 case round => as_aux_lemma =>
  clear H'
  try clear c1
  obtain ⟨x5_1, rfl, HA, HK1, ⟨m1, rfl⟩⟩ := hrel
  cases gk with
  | zero => exact absurd HA.out (by simp [emendateref36_Less.l0])
  | succ k1 =>
   have H := HA.out
   clear HA
   simp only [emendateref36_Less.l0] at H
   have HC3 := Aside0.mk H
   clear H
   go_upto_region 2 with (fail)
   repeat (go_quiet (fail); go_upto_region 2 with (fail))
   go_cut [15] (fun v15 wc => ∃ (kq : Nat) (x15_2 : Bool), v15 = .bool x15_2 ∧ Aside0 (emendateref36_Less.j1 kq l0 l1 x5_1 x15_2 = some r) ∧ Aside0 (kq ≤ k1) ∧ Drawn0 w wc)
   case first => as_aux_lemma =>
    have H := HC3.out
    clear HC3
    by_cases c4 : x5_1 < (l0.length : Int)
    ·
     rw [if_pos c4] at H
     have c4b0 : decide (x5_1 < (l0.length : Int)) = true := decide_eq_true c4
     clear c4
     (first | rw [c4b0] | (simp only [i64_w, i32_w]; rw [c4b0]) | skip)
     have H' := Aside0.mk H
     clear H
     go_wp2
     repeat (go_quiet (fail); try go_wp2)
     go_meet
     case rel => exact ⟨_, (decide (x5_1 < (l1.length : Int))), rr, H', ⟨by have := HK1.out; first | omega | exact Nat.le_refl _⟩, by repeat (first | exact Drawn0.refl _ | apply Drawn0.step)⟩
    ·
     rw [if_neg c4] at H
     have c4b0 : decide (x5_1 < (l0.length : Int)) = false := decide_eq_false c4
     clear c4
     (first | rw [c4b0] | (simp only [i64_w, i32_w]; rw [c4b0]) | skip)
     have H' := Aside0.mk H
     clear H
     go_wp2
     repeat (go_quiet (fail); try go_wp2)
     go_meet
     case rel => exact ⟨_, (false), rr, H', ⟨by have := HK1.out; first | omega | exact Nat.le_refl _⟩, by repeat (first | exact Drawn0.refl _ | apply Drawn0.step)⟩
   case rest => as_aux_lemma =>
    clear HC3
    try clear c1
    obtain ⟨kq, x15_2, rfl, HA, HJ2, ⟨mc2, rfl⟩⟩ := hcut
    cases kq with
    | zero => exact absurd HA.out (by simp [emendateref36_Less.j1])
    | succ kj2 =>
     have H := HA.out
     clear HA
     simp only [emendateref36_Less.j1] at H
     by_cases c5 : x15_2 = true
     ·
      subst c5
      have H1 : (if 0 ≤ x5_1 then (if x5_1 < (l0.length : Int) then (if x5_1 < (l1.length : Int) then (if (!(((rd_T49 l0 x5_1).f0) == ((rd_T49 l1 x5_1).f0)) || (!(((rd_T49 l0 x5_1).f1) == ((rd_T49 l1 x5_1).f1)))) = true then (if ((rd_T49 l0 x5_1).f0) < ((rd_T49 l1 x5_1).f0) then (some true) else (if ((rd_T49 l0 x5_1).f0) = ((rd_T49 l1 x5_1).f0) then (some (decide (((rd_T49 l0 x5_1).f1) < ((rd_T49 l1 x5_1).f1)))) else (some false))) else (emendateref36_Less.l0 kj2 l0 l1 (wrap64 (x5_1 + 1)))) else (none)) else (none)) else (none)) = some r := by rw [if_pos rfl] at H; exact H
      clear H
      have H := H1
      clear H1
      by_cases c6 : 0 ≤ x5_1
      ·
       rw [if_pos c6] at H
       have c6b0 : decide (0 ≤ x5_1) = true := decide_eq_true c6
       clear c6
       by_cases c7 : x5_1 < (l0.length : Int)
       ·
        rw [if_pos c7] at H
        have c7b0 : decide (x5_1 < (l0.length : Int)) = true := decide_eq_true c7
        clear c7
        by_cases c8 : x5_1 < (l1.length : Int)
        ·
         rw [if_pos c8] at H
         have c8b0 : decide (x5_1 < (l1.length : Int)) = true := decide_eq_true c8
         clear c8
         by_cases c9 : (!(((rd_T49 l0 x5_1).f0) == ((rd_T49 l1 x5_1).f0)) || (!(((rd_T49 l0 x5_1).f1) == ((rd_T49 l1 x5_1).f1)))) = true
         ·
          rw [if_pos c9] at H
          have c9b0 : (!(((rd_T49 l0 x5_1).f0) == ((rd_T49 l1 x5_1).f0)) || (!(((rd_T49 l0 x5_1).f1) == ((rd_T49 l1 x5_1).f1)))) = true := c9
          clear c9
          by_cases c10 : ((rd_T49 l0 x5_1).f0) < ((rd_T49 l1 x5_1).f0)
          ·
           rw [if_pos c10] at H
           have c10b0 : decide (((rd_T49 l0 x5_1).f0) < ((rd_T49 l1 x5_1).f0)) = true := decide_eq_true c10
           clear c10
           obtain rfl := Option.some.inj H
           have p480 : 0 ≤ (x5_1 : Int) := od
           have q480 : x5_1 < (l0.length : Int) := od
           obtain ⟨ad480, e480, hx480_0, hx480_1⟩ := at_T49 HR0.out x5_1 p480 q480
           cases e480
           replace p480 := eq_true p480
           replace q480 := eq_true q480
           have p481 : 0 ≤ (x5_1 : Int) := od
           have q481 : x5_1 < (l1.length : Int) := od
           obtain ⟨ad481, e481, hx481_0, hx481_1⟩ := at_T49 HR1.out x5_1 p481 q481
           cases e481
           replace p481 := eq_true p481
           replace q481 := eq_true q481
           have p482 : 0 ≤ (x5_1 : Int) := od
           have q482 : x5_1 < (l0.length : Int) := od
           obtain ⟨ad482, e482, hx482_0, hx482_1⟩ := at_T49 HR0.out x5_1 p482 q482
           obtain rfl : ad480 = ad482 := (by injection e482)
           replace p482 := eq_true p482
           replace q482 := eq_true q482
           have p483 : 0 ≤ (x5_1 : Int) := od
           have q483 : x5_1 < (l1.length : Int) := od
           obtain ⟨ad483, e483, hx483_0, hx483_1⟩ := at_T49 HR1.out x5_1 p483 q483
           obtain rfl : ad481 = ad483 := (by injection e483)
           replace p483 := eq_true p483
           replace q483 := eq_true q483
           go_wp2
           repeat (go_quiet (fail); try go_wp2)
           go_ret
           exact ⟨rr, by repeat (first | exact Drawn0.refl _ | apply Drawn0.step)⟩
          ·
           rw [if_neg c10] at H
           have c10b0 : decide (((rd_T49 l0 x5_1).f0) < ((rd_T49 l1 x5_1).f0)) = false := decide_eq_false c10
           clear c10
           by_cases c11 : ((rd_T49 l0 x5_1).f0) = ((rd_T49 l1 x5_1).f0)
           ·
            rw [if_pos c11] at H
            have c11b0 : (((rd_T49 l0 x5_1).f0) == ((rd_T49 l1 x5_1).f0)) = true := beq_iff_eq.mpr c11
            have c11b1 : (((rd_T49 l0 x5_1).f0) != ((rd_T49 l1 x5_1).f0)) = false := bne_eq_false_iff_eq.mpr c11
            have c9c : (!(((rd_T49 l0 x5_1).f1) == ((rd_T49 l1 x5_1).f1))) = true := by rw [c11b0] at c9b0; exact c9b0
            clear c11
            obtain rfl := Option.some.inj H
            have p480 : 0 ≤ (x5_1 : Int) := od
            have q480 : x5_1 < (l0.length : Int) := od
            obtain ⟨ad480, e480, hx480_0, hx480_1⟩ := at_T49 HR0.out x5_1 p480 q480
            cases e480
            replace p480 := eq_true p480
            replace q480 := eq_true q480
            have p481 : 0 ≤ (x5_1 : Int) := od
            have q481 : x5_1 < (l1.length : Int) := od
            obtain ⟨ad481, e481, hx481_0, hx481_1⟩ := at_T49 HR1.out x5_1 p481 q481
            cases e481
            replace p481 := eq_true p481
            replace q481 := eq_true q481
            have p482 : 0 ≤ (x5_1 : Int) := od
            have q482 : x5_1 < (l0.length : Int) := od
            obtain ⟨ad482, e482, hx482_0, hx482_1⟩ := at_T49 HR0.out x5_1 p482 q482
            obtain rfl : ad480 = ad482 := (by injection e482)
            replace p482 := eq_true p482
            replace q482 := eq_true q482
            have p483 : 0 ≤ (x5_1 : Int) := od
            have q483 : x5_1 < (l1.length : Int) := od
            obtain ⟨ad483, e483, hx483_0, hx483_1⟩ := at_T49 HR1.out x5_1 p483 q483
            obtain rfl : ad481 = ad483 := (by injection e483)
            replace p483 := eq_true p483
            replace q483 := eq_true q483
            have p484 : 0 ≤ (x5_1 : Int) := od
            have q484 : x5_1 < (l0.length : Int) := od
            obtain ⟨ad484, e484, hx484_0, hx484_1⟩ := at_T49 HR0.out x5_1 p484 q484
            obtain rfl : ad480 = ad484 := (by injection e484)
            replace p484 := eq_true p484
            replace q484 := eq_true q484
            have p485 : 0 ≤ (x5_1 : Int) := od
            have q485 : x5_1 < (l1.length : Int) := od
            obtain ⟨ad485, e485, hx485_0, hx485_1⟩ := at_T49 HR1.out x5_1 p485 q485
            obtain rfl : ad481 = ad485 := (by injection e485)
            replace p485 := eq_true p485
            replace q485 := eq_true q485
            have p486 : 0 ≤ (x5_1 : Int) := od
            have q486 : x5_1 < (l0.length : Int) := od
            obtain ⟨ad486, e486, hx486_0, hx486_1⟩ := at_T49 HR0.out x5_1 p486 q486
            obtain rfl : ad480 = ad486 := (by injection e486)
            replace p486 := eq_true p486
            replace q486 := eq_true q486
            have p487 : 0 ≤ (x5_1 : Int) := od
            have q487 : x5_1 < (l1.length : Int) := od
            obtain ⟨ad487, e487, hx487_0, hx487_1⟩ := at_T49 HR1.out x5_1 p487 q487
            obtain rfl : ad481 = ad487 := (by injection e487)
            replace p487 := eq_true p487
            replace q487 := eq_true q487
            go_wp2
            repeat (go_quiet (fail); try go_wp2)
            go_ret
            exact ⟨rr, by repeat (first | exact Drawn0.refl _ | apply Drawn0.step)⟩
           ·
            rw [if_neg c11] at H
            have c11b0 : (((rd_T49 l0 x5_1).f0) == ((rd_T49 l1 x5_1).f0)) = false := beq_eq_false_iff_ne.mpr c11
            have c11b1 : (((rd_T49 l0 x5_1).f0) != ((rd_T49 l1 x5_1).f0)) = true := bne_iff_ne.mpr c11
            obtain rfl := Option.some.inj H
            have p480 : 0 ≤ (x5_1 : Int) := od
            have q480 : x5_1 < (l0.length : Int) := od
            obtain ⟨ad480, e480, hx480_0, hx480_1⟩ := at_T49 HR0.out x5_1 p480 q480
            cases e480
            replace p480 := eq_true p480
            replace q480 := eq_true q480
            have p481 : 0 ≤ (x5_1 : Int) := od
            have q481 : x5_1 < (l1.length : Int) := od
            obtain ⟨ad481, e481, hx481_0, hx481_1⟩ := at_T49 HR1.out x5_1 p481 q481
            cases e481
            replace p481 := eq_true p481
            replace q481 := eq_true q481
            have p482 : 0 ≤ (x5_1 : Int) := od
            have q482 : x5_1 < (l0.length : Int) := od
            obtain ⟨ad482, e482, hx482_0, hx482_1⟩ := at_T49 HR0.out x5_1 p482 q482
            obtain rfl : ad480 = ad482 := (by injection e482)
            replace p482 := eq_true p482
            replace q482 := eq_true q482
            have p483 : 0 ≤ (x5_1 : Int) := od
            have q483 : x5_1 < (l1.length : Int) := od
            obtain ⟨ad483, e483, hx483_0, hx483_1⟩ := at_T49 HR1.out x5_1 p483 q483
            obtain rfl : ad481 = ad483 := (by injection e483)
            replace p483 := eq_true p483
            replace q483 := eq_true q483
            have p484 : 0 ≤ (x5_1 : Int) := od
            have q484 : x5_1 < (l0.length : Int) := od
            obtain ⟨ad484, e484, hx484_0, hx484_1⟩ := at_T49 HR0.out x5_1 p484 q484
            obtain rfl : ad480 = ad484 := (by injection e484)
            replace p484 := eq_true p484
            replace q484 := eq_true q484
            have p485 : 0 ≤ (x5_1 : Int) := od
            have q485 : x5_1 < (l1.length : Int) := od
            obtain ⟨ad485, e485, hx485_0, hx485_1⟩ := at_T49 HR1.out x5_1 p485 q485
            obtain rfl : ad481 = ad485 := (by injection e485)
            replace p485 := eq_true p485
            replace q485 := eq_true q485
            go_wp2
            repeat (go_quiet (fail); try go_wp2)
            go_ret
            exact ⟨rr, by repeat (first | exact Drawn0.refl _ | apply Drawn0.step)⟩
         ·
          rw [if_neg c9] at H
          have c9b0 : (!(((rd_T49 l0 x5_1).f0) == ((rd_T49 l1 x5_1).f0)) || (!(((rd_T49 l0 x5_1).f1) == ((rd_T49 l1 x5_1).f1)))) = false := by simpa using c9
          clear c9
          have H' := Aside0.mk H
          clear H
          have p480 : 0 ≤ (x5_1 : Int) := od
          have q480 : x5_1 < (l0.length : Int) := od
          obtain ⟨ad480, e480, hx480_0, hx480_1⟩ := at_T49 HR0.out x5_1 p480 q480
          cases e480
          replace p480 := eq_true p480
          replace q480 := eq_true q480
          have p481 : 0 ≤ (x5_1 : Int) := od
          have q481 : x5_1 < (l1.length : Int) := od
          obtain ⟨ad481, e481, hx481_0, hx481_1⟩ := at_T49 HR1.out x5_1 p481 q481
          cases e481
          replace p481 := eq_true p481
          replace q481 := eq_true q481
          go_wp2
          repeat (go_quiet (fail); try go_wp2)
          go_roundg kj2
          case measure => have := HK1.out; have := HJ2.out; omega
          case rel => exact ⟨(wrap64 (x5_1 + 1)), rr, H', ⟨by have := HK1.out; have := HJ2.out; omega⟩, by repeat (first | exact Drawn0.refl _ | apply Drawn0.step)⟩
        ·
         rw [if_neg c8] at H
         exact absurd H (by simp)
       ·
        rw [if_neg c7] at H
        exact absurd H (by simp)
      ·
       rw [if_neg c6] at H
       exact absurd H (by simp)
     ·
      replace c5 := Bool.eq_false_iff.mpr c5
      subst c5
      have H1 : (some (decide ((l0.length : Int) < (l1.length : Int)))) = some r := by rw [if_neg (show ¬ (false = true) by decide)] at H; exact H
      clear H
      have H := H1
      clear H1
      obtain rfl := Option.some.inj H
      go_wp2
      repeat (go_quiet (fail); try go_wp2)
      go_ret
      exact ⟨rr, by repeat (first | exact Drawn0.refl _ | apply Drawn0.step)⟩

end Go.Proofs.YtnddijafdphbnaaDoor.All
end
section
-- Printed by wip/tools/wprint.py (a program of this session over the kit's printer). Not trusted: Lean checks it.
namespace Go.Proofs.YtnddijafdphbnaaDoor.All
open Go.RowKit Go.Proofs.YtnddijafdphbnaaDoorW.PrintWords Go.Proofs.YtnddijafdphbnaaDoorW.PrintLast Go.Proofs.YtnddijafdphbnaaDoorW.PrintMore
attribute [local go_sem] max2_int min2_int max_two min_two max_three min_three max_four min_four   -- for this text's walks alone
set_option linter.unusedVariables false
set_option linter.unusedSimpArgs false

/-! ### emendatelaw36_EditscriptAlignIsSmallest: function 9 -/
mutual
def emendatelaw36_EditscriptAlignIsSmallest.j0 : Nat → List (S49) → Bool → List (S33) → List Int → Int → Option (Bool)
 | 0, _, _, _, _, _ => none
 | k + 1, x1, x21, x489000, x489001, x489002 => if x21 = true then (some true) else ((emendateref36_Run.f k x489000 x489001 x489002 x1).bind fun bt491 => (if bt491.2.2 = true then ((emendateref36_Distance.f k x489000 x489001 x489002 bt491.1).bind fun t496 => (if bt491.2.1 = t496 then (emendatelaw36_EditscriptAlignIsSmallest.j1 k x1 bt491.1 (decide (bt491.2.1 ≥ 1099511627776)) x489000 x489001 x489002) else (emendatelaw36_EditscriptAlignIsSmallest.j1 k x1 bt491.1 true x489000 x489001 x489002))) else (emendatelaw36_EditscriptAlignIsSmallest.j1 k x1 bt491.1 true x489000 x489001 x489002)))
def emendatelaw36_EditscriptAlignIsSmallest.j1 : Nat → List (S49) → List Int → Bool → List (S33) → List Int → Int → Option (Bool)
 | 0, _, _, _, _, _, _ => none
 | k + 1, x1, x5, x41, x489000, x489001, x489002 => if x41 = true then (some true) else ((editscript_Align.f k x489000 x489001 x489002 x5).bind fun bt497 => ((emendateref36_Align.f k x489000 x489001 x489002 x5).bind fun bt501 => (if bt497.2 = 0 then (if bt501.2 = 0 then ((emendateref36_Same.f k bt497.1 bt501.1).bind fun t505 => (if t505 = true then ((emendateref36_Less.f k x1 bt497.1).bind fun t506 => (some (!t506))) else (some false))) else (some false)) else (some false))))
end
def emendatelaw36_EditscriptAlignIsSmallest.f (k : Nat) (l0_0 : List (S33)) (l0_1 : List Int) (a0_2 : Int) (l1 : List (S49)) : Option (Bool) := (emendatelaw36_awake.f k).bind fun t489 => (if t489 = true then ((emendatelaw36_fair.f k l0_0 l0_1 a0_2).bind fun t490 => (if t490 = true then (emendatelaw36_EditscriptAlignIsSmallest.j0 k l1 (decide ((l1.length : Int) > 20)) l0_0 l0_1 a0_2) else (emendatelaw36_EditscriptAlignIsSmallest.j0 k l1 true l0_0 l0_1 a0_2))) else (some false))
set_option maxHeartbeats 8000000 in
set_option maxRecDepth 100000 in
theorem emendatelaw36_EditscriptAlignIsSmallest.calls (k : Nat) (A0_0 : Option Addr) (c0_0 : Nat) (l0_0 : List (S33)) (A0_1 : Option Addr) (c0_1 : Nat) (l0_1 : List Int) (a0_2 : Int) (A1 : Option Addr) (c1 : Nat) (l1 : List (S49)) (r : Bool) (w : World) (hr0_0 : Kd.C k33 w A0_0 l0_0.length l0_0) (hc0_0 : l0_0.length ≤ c0_0) (hr0_1 : Kd.C (Kd.int .i64) w A0_1 l0_1.length l0_1) (hc0_1 : l0_1.length ≤ c0_1) (hr1 : Kd.C k49 w A1 l1.length l1) (hc1 : l1.length ≤ c1) (hv : VarOk w) (h : emendatelaw36_EditscriptAlignIsSmallest.f k l0_0 l0_1 a0_2 l1 = some r) :
  Calls Tryd.prog 9 #[.agg #[.slice A0_0 l0_0.length c0_0, .slice A0_1 l0_1.length c0_1, .int .i64 a0_2], .slice A1 l1.length c1] w fun e w' => e = .returned (.bool r) ∧ Below w.heap.size w w' := by
 have HV := Aside0.mk hv
 clear hv
 have hu25 := Tryd.underlying25
 have HR0_0 := Aside0.mk hr0_0
 have HC0_0 := Aside0.mk hc0_0
 clear hr0_0 hc0_0
 have HR0_1 := Aside0.mk hr0_1
 have HC0_1 := Aside0.mk hc0_1
 clear hr0_1 hc0_1
 have HR1 := Aside0.mk hr1
 have HC1 := Aside0.mk hc1
 clear hr1 hc1
 have HB := Aside0.mk (Below.refl w.heap.size w)
 have H : ((emendatelaw36_awake.f k).bind fun t489 => (if t489 = true then ((emendatelaw36_fair.f k l0_0 l0_1 a0_2).bind fun t490 => (if t490 = true then (emendatelaw36_EditscriptAlignIsSmallest.j0 k l1 (decide ((l1.length : Int) > 20)) l0_0 l0_1 a0_2) else (emendatelaw36_EditscriptAlignIsSmallest.j0 k l1 true l0_0 l0_1 a0_2))) else (some false))) = some r := h
 clear h
 replace H := Option.bind_eq_some_iff.mp H
 obtain ⟨t489, A30, H⟩ := H
 replace H : (if t489 = true then ((emendatelaw36_fair.f k l0_0 l0_1 a0_2).bind fun t490 => (if t490 = true then (emendatelaw36_EditscriptAlignIsSmallest.j0 k l1 (decide ((l1.length : Int) > 20)) l0_0 l0_1 a0_2) else (emendatelaw36_EditscriptAlignIsSmallest.j0 k l1 true l0_0 l0_1 a0_2))) else (some false)) = some r := H
 have A3 := Aside0.mk A30
 clear A30
 by_cases c4 : t489 = true
 ·
  subst c4
  have H1 : ((emendatelaw36_fair.f k l0_0 l0_1 a0_2).bind fun t490 => (if t490 = true then (emendatelaw36_EditscriptAlignIsSmallest.j0 k l1 (decide ((l1.length : Int) > 20)) l0_0 l0_1 a0_2) else (emendatelaw36_EditscriptAlignIsSmallest.j0 k l1 true l0_0 l0_1 a0_2))) = some r := by rw [if_pos rfl] at H; exact H
  clear H
  have H := H1
  clear H1
  have HC5 := Aside0.mk H
  clear H
  go_enter Tryd.func9, Tryd.ntmps9
  go_upto_region 3 with (first | ((with_reducible refine gate_dst (N := 2) rfl ?_); (try (refine gate_guard (by rfl) ?_; dsimp only)); refine box_event ?hg (N := 2) ?hd (cs := #[.slice A0_0 l0_0.length c0_0, .slice A0_1 l0_1.length c0_1, .int .i64 a0_2]) (t := 25) ?hr ?_; (case hd => rfl); (case hg => rfl); (case hr => first | (go_simp; done) | (go_simp; rfl)); intro gb488 hg w6 hbox hb; have n0_ := Aside0.mk (below_step (pB HB.out) hb); have n1_ := Aside0.mk (hbox); have n2_ := Aside0.mk ((by rw [hg]; exact (below_size (pB HB.out)) : w.heap.size ≤ gb488)); have n3_ := Aside0.mk ((by rw [hg]; exact (below_size (pB HB.out)) : w.heap.size ≤ gb488)); clear HB; have HB := n0_; have BK488 := n1_; have GW488 := n2_; have GE488 := n3_; clear n0_ n1_ n2_ n3_; clear hb hbox hg) | ((with_reducible refine gate_callee (f := 11) rfl ?_); refine gl (some 12) Tryd.func11 #[] ?_; (with_reducible refine (emendatelaw36_awake.calls k  true _ (HV.out.below (pb HB.out GE488.out) rfl) A3.out).mono ?_); rintro e w7 ⟨rfl, hb⟩; refine ⟨_, rfl, ?_⟩; replace BK488 := Aside0.mk (bb BK488.out hb); replace HB := Aside0.mk (below_step (pb HB.out GE488.out) hb); (try clear hb)))
  (try simp only [Act.put, List.setIfInBounds_toArray, List.set_cons_zero, List.set_cons_succ])
  go_cut [21] (fun v21 wc => ∃ (kq : Nat) (x21_4 : Bool), v21 = .bool x21_4 ∧ Aside0 (emendatelaw36_EditscriptAlignIsSmallest.j0 kq l1 x21_4 l0_0 l0_1 a0_2 = some r) ∧ Aside0 (kq ≤ k) ∧ Aside0 (wc.heap[gb488]? = some (.cells #[(.slice A0_0 l0_0.length c0_0), (.slice A0_1 l0_1.length c0_1), .int .i64 a0_2] 25 (0, 0))) ∧ Aside0 (Below w.heap.size w wc))
  case first =>
   have H := HC5.out
   clear HC5
   replace H := Option.bind_eq_some_iff.mp H
   obtain ⟨t490, A80, H⟩ := H
   replace H : (if t490 = true then (emendatelaw36_EditscriptAlignIsSmallest.j0 k l1 (decide ((l1.length : Int) > 20)) l0_0 l0_1 a0_2) else (emendatelaw36_EditscriptAlignIsSmallest.j0 k l1 true l0_0 l0_1 a0_2)) = some r := H
   have A8 := Aside0.mk A80
   clear A80
   by_cases c9 : t490 = true
   ·
    subst c9
    have H1 : (emendatelaw36_EditscriptAlignIsSmallest.j0 k l1 (decide ((l1.length : Int) > 20)) l0_0 l0_1 a0_2) = some r := by rw [if_pos rfl] at H; exact H
    clear H
    have H := H1
    clear H1
    have H' := Aside0.mk H
    clear H
    obtain ⟨hcz10_0, hcz10_1, hcz10_2, hfz10_0, hfz10_1, hfz10_2⟩ := cz3 BK488.out
    go_wp2_with (first | ((with_reducible refine gate_callee (f := 12) rfl ?_); refine gl (some 15) Tryd.func12 #[.agg #[.slice A0_0 l0_0.length c0_0, .slice A0_1 l0_1.length c0_1, .int .i64 a0_2]] ?_; (with_reducible refine (emendatelaw36_fair.calls k _ _ l0_0 _ _ l0_1 a0_2 true _ ?side1 ?side2 ?side3 ?side4 A8.out).mono ?_); (case side1 => exact sd (Kd.C_below HR0_0.out HB.out)); (case side2 => exact HC0_0.out); (case side3 => exact sd (Kd.C_below HR0_1.out HB.out)); (case side4 => exact HC0_1.out); rintro e w11 ⟨rfl, hb⟩; refine ⟨_, rfl, ?_⟩; replace BK488 := Aside0.mk (bb BK488.out hb); replace HB := Aside0.mk (below_step (pb HB.out GE488.out) hb); (try clear hb)))
    go_meet
    case rel => exact ⟨_, (decide ((l1.length : Int) > 20)), rr, H', ⟨by first | omega | exact Nat.le_refl _⟩, ⟨by (with_reducible repeat (first | refine blk_drewN ?_ _ | refine blk_drew ?_ | refine blk_alloc ?_ _)); exact BK488.out⟩, ⟨pb HB.out GE488.out⟩⟩
   ·
    replace c9 := Bool.eq_false_iff.mpr c9
    subst c9
    have H1 : (emendatelaw36_EditscriptAlignIsSmallest.j0 k l1 true l0_0 l0_1 a0_2) = some r := by rw [if_neg (show ¬ (false = true) by decide)] at H; exact H
    clear H
    have H := H1
    clear H1
    have H' := Aside0.mk H
    clear H
    obtain ⟨hcz12_0, hcz12_1, hcz12_2, hfz12_0, hfz12_1, hfz12_2⟩ := cz3 BK488.out
    go_wp2_with (first | ((with_reducible refine gate_callee (f := 12) rfl ?_); refine gl (some 15) Tryd.func12 #[.agg #[.slice A0_0 l0_0.length c0_0, .slice A0_1 l0_1.length c0_1, .int .i64 a0_2]] ?_; (with_reducible refine (emendatelaw36_fair.calls k _ _ l0_0 _ _ l0_1 a0_2 false _ ?side1 ?side2 ?side3 ?side4 A8.out).mono ?_); (case side1 => exact sd (Kd.C_below HR0_0.out HB.out)); (case side2 => exact HC0_0.out); (case side3 => exact sd (Kd.C_below HR0_1.out HB.out)); (case side4 => exact HC0_1.out); rintro e w13 ⟨rfl, hb⟩; refine ⟨_, rfl, ?_⟩; replace BK488 := Aside0.mk (bb BK488.out hb); replace HB := Aside0.mk (below_step (pb HB.out GE488.out) hb); (try clear hb)))
    go_meet
    case rel => exact ⟨_, (true), rr, H', ⟨by first | omega | exact Nat.le_refl _⟩, ⟨by (with_reducible repeat (first | refine blk_drewN ?_ _ | refine blk_drew ?_ | refine blk_alloc ?_ _)); exact BK488.out⟩, ⟨pb HB.out GE488.out⟩⟩
  case rest =>
   clear HC5
   try clear c1
   try clear c4
   obtain ⟨kq, x21_4, rfl, HA, HJ4, BK488, HB⟩ := hcut
   cases kq with
   | zero => exact absurd HA.out (by simp [emendatelaw36_EditscriptAlignIsSmallest.j0])
   | succ kj4 =>
    have H := HA.out
    clear HA
    simp only [emendatelaw36_EditscriptAlignIsSmallest.j0] at H
    by_cases c14 : x21_4 = true
    ·
     subst c14
     have H1 : (some true) = some r := by rw [if_pos rfl] at H; exact H
     clear H
     have H := H1
     clear H1
     obtain rfl := Option.some.inj H
     go_wp2
     go_ret
     exact ⟨er, pb HB.out GE488.out⟩
    ·
     replace c14 := Bool.eq_false_iff.mpr c14
     subst c14
     have H1 : ((emendateref36_Run.f kj4 l0_0 l0_1 a0_2 l1).bind fun bt491 => (if bt491.2.2 = true then ((emendateref36_Distance.f kj4 l0_0 l0_1 a0_2 bt491.1).bind fun t496 => (if bt491.2.1 = t496 then (emendatelaw36_EditscriptAlignIsSmallest.j1 kj4 l1 bt491.1 (decide (bt491.2.1 ≥ 1099511627776)) l0_0 l0_1 a0_2) else (emendatelaw36_EditscriptAlignIsSmallest.j1 kj4 l1 bt491.1 true l0_0 l0_1 a0_2))) else (emendatelaw36_EditscriptAlignIsSmallest.j1 kj4 l1 bt491.1 true l0_0 l0_1 a0_2))) = some r := by rw [if_neg (show ¬ (false = true) by decide)] at H; exact H
     clear H
     have H := H1
     clear H1
     replace H := Option.bind_eq_some_iff.mp H
     obtain ⟨⟨t491, t494, t495⟩, A150, H⟩ := H
     replace H : (if t495 = true then ((emendateref36_Distance.f kj4 l0_0 l0_1 a0_2 t491).bind fun t496 => (if t494 = t496 then (emendatelaw36_EditscriptAlignIsSmallest.j1 kj4 l1 t491 (decide (t494 ≥ 1099511627776)) l0_0 l0_1 a0_2) else (emendatelaw36_EditscriptAlignIsSmallest.j1 kj4 l1 t491 true l0_0 l0_1 a0_2))) else (emendatelaw36_EditscriptAlignIsSmallest.j1 kj4 l1 t491 true l0_0 l0_1 a0_2)) = some r := H
     have A15 := Aside0.mk A150
     clear A150
     have HC16 := Aside0.mk H
     clear H
     obtain ⟨hcz17_0, hcz17_1, hcz17_2, hfz17_0, hfz17_1, hfz17_2⟩ := cz3 BK488.out
     go_upto_region 6 with (first | ((with_reducible refine gate_callee (f := 20) rfl ?_); refine gl (some 25) Tryd.func20 #[.agg #[.slice A0_0 l0_0.length c0_0, .slice A0_1 l0_1.length c0_1, .int .i64 a0_2], .slice A1 l1.length c1] ?_; (with_reducible refine (emendateref36_Run.calls kj4 _ _ l0_0 _ _ l0_1 a0_2 _ _ l1 t491 t494 t495 _ ?side1 ?side2 ?side3 ?side4 ?side5 ?side6 A15.out).mono ?_); (case side1 => exact sd (Kd.C_below HR0_0.out HB.out)); (case side2 => exact HC0_0.out); (case side3 => exact sd (Kd.C_below HR0_1.out HB.out)); (case side4 => exact HC0_1.out); (case side5 => exact sd (Kd.C_below HR1.out HB.out)); (case side6 => exact HC1.out); rintro e w18 ⟨v492, rfl, ho0, hb⟩; refine ⟨_, rfl, ?_⟩; have HO493 := Aside0.mk (Kd.R_lower ho0 (below_size (pb HB.out GE488.out))); replace BK488 := Aside0.mk (bb BK488.out hb); replace HB := Aside0.mk (below_step (pb HB.out GE488.out) hb); (try clear hb); (try clear ho0)))
     (try simp only [Act.put, List.setIfInBounds_toArray, List.set_cons_zero, List.set_cons_succ])
     go_cut [41] (fun v41 wc => ∃ (kq : Nat) (x41_15 : Bool), v41 = .bool x41_15 ∧ Aside0 (emendatelaw36_EditscriptAlignIsSmallest.j1 kq l1 t491 x41_15 l0_0 l0_1 a0_2 = some r) ∧ Aside0 (kq ≤ kj4) ∧ Aside0 (Kd.R (Kd.int .i64) 3 wc w.heap.size (fun _ => True) v492 t491) ∧ Aside0 (wc.heap[gb488]? = some (.cells #[(.slice A0_0 l0_0.length c0_0), (.slice A0_1 l0_1.length c0_1), .int .i64 a0_2] 25 (0, 0))) ∧ Aside0 (Below w.heap.size w wc))
     case first =>
      have H := HC16.out
      clear HC16
      by_cases c19 : t495 = true
      ·
       subst c19
       have H1 : ((emendateref36_Distance.f kj4 l0_0 l0_1 a0_2 t491).bind fun t496 => (if t494 = t496 then (emendatelaw36_EditscriptAlignIsSmallest.j1 kj4 l1 t491 (decide (t494 ≥ 1099511627776)) l0_0 l0_1 a0_2) else (emendatelaw36_EditscriptAlignIsSmallest.j1 kj4 l1 t491 true l0_0 l0_1 a0_2))) = some r := by rw [if_pos rfl] at H; exact H
       clear H
       have H := H1
       clear H1
       replace H := Option.bind_eq_some_iff.mp H
       obtain ⟨t496, A200, H⟩ := H
       replace H : (if t494 = t496 then (emendatelaw36_EditscriptAlignIsSmallest.j1 kj4 l1 t491 (decide (t494 ≥ 1099511627776)) l0_0 l0_1 a0_2) else (emendatelaw36_EditscriptAlignIsSmallest.j1 kj4 l1 t491 true l0_0 l0_1 a0_2)) = some r := H
       have A20 := Aside0.mk A200
       clear A200
       by_cases c21 : t494 = t496
       ·
        rw [if_pos c21] at H
        have c21b0 : (t494 == t496) = true := beq_iff_eq.mpr c21
        have c21b1 : (t494 != t496) = false := bne_eq_false_iff_eq.mpr c21
        clear c21
        (first | rw [c21b0] | (simp only [i64_w, i32_w]; rw [c21b0]) | skip)
        have H' := Aside0.mk H
        clear H
        obtain ⟨hcz22_0, hcz22_1, hcz22_2, hfz22_0, hfz22_1, hfz22_2⟩ := cz3 BK488.out
        obtain ⟨Ao23, co23, eo23⟩ := Kd.R_slice HO493.out
        subst eo23
        go_wp2_with (first | (go_at_call 19; (with_reducible refine (emendateref36_Distance.calls kj4 _ _ l0_0 _ _ l0_1 a0_2 _ _ t491 t496 _ ?side1 ?side2 ?side3 ?side4 ?side5 ?side6 A20.out).mono ?_); (case side1 => exact sd (Kd.C_below HR0_0.out HB.out)); (case side2 => exact HC0_0.out); (case side3 => exact sd (Kd.C_below HR0_1.out HB.out)); (case side4 => exact HC0_1.out); (case side5 => exact sd (Kd.R_reads' HO493.out).2.2); (case side6 => exact (Kd.R_reads' HO493.out).2.1); rintro e w24 ⟨rfl, hb⟩; replace HO493 := Aside0.mk (Kd.R_below (pR HO493.out) hb); replace BK488 := Aside0.mk (bb BK488.out hb); replace HB := Aside0.mk (below_step (pb HB.out GE488.out) hb); (try clear hb)))
        go_meet
        case rel => exact ⟨_, (decide (t494 ≥ 1099511627776)), rr, H', ⟨by have := HJ4.out; first | omega | exact Nat.le_refl _⟩, ⟨by (with_reducible repeat (first | apply Kd.R_alloc | apply Kd.R_drewN | apply Kd.R_drew)); exact HO493.out⟩, ⟨by (with_reducible repeat (first | refine blk_drewN ?_ _ | refine blk_drew ?_ | refine blk_alloc ?_ _)); exact BK488.out⟩, ⟨pb HB.out GE488.out⟩⟩
       ·
        rw [if_neg c21] at H
        have c21b0 : (t494 == t496) = false := beq_eq_false_iff_ne.mpr c21
        have c21b1 : (t494 != t496) = true := bne_iff_ne.mpr c21
        (first | rw [c21b0] | (simp only [i64_w, i32_w]; rw [c21b0]) | skip)
        have H' := Aside0.mk H
        clear H
        obtain ⟨hcz25_0, hcz25_1, hcz25_2, hfz25_0, hfz25_1, hfz25_2⟩ := cz3 BK488.out
        obtain ⟨Ao26, co26, eo26⟩ := Kd.R_slice HO493.out
        subst eo26
        go_wp2_with (first | (go_at_call 19; (with_reducible refine (emendateref36_Distance.calls kj4 _ _ l0_0 _ _ l0_1 a0_2 _ _ t491 t496 _ ?side1 ?side2 ?side3 ?side4 ?side5 ?side6 A20.out).mono ?_); (case side1 => exact sd (Kd.C_below HR0_0.out HB.out)); (case side2 => exact HC0_0.out); (case side3 => exact sd (Kd.C_below HR0_1.out HB.out)); (case side4 => exact HC0_1.out); (case side5 => exact sd (Kd.R_reads' HO493.out).2.2); (case side6 => exact (Kd.R_reads' HO493.out).2.1); rintro e w27 ⟨rfl, hb⟩; replace HO493 := Aside0.mk (Kd.R_below (pR HO493.out) hb); replace BK488 := Aside0.mk (bb BK488.out hb); replace HB := Aside0.mk (below_step (pb HB.out GE488.out) hb); (try clear hb)))
        go_meet
        case rel => exact ⟨_, (true), rr, H', ⟨by have := HJ4.out; first | omega | exact Nat.le_refl _⟩, ⟨by (with_reducible repeat (first | apply Kd.R_alloc | apply Kd.R_drewN | apply Kd.R_drew)); exact HO493.out⟩, ⟨by (with_reducible repeat (first | refine blk_drewN ?_ _ | refine blk_drew ?_ | refine blk_alloc ?_ _)); exact BK488.out⟩, ⟨pb HB.out GE488.out⟩⟩
      ·
       replace c19 := Bool.eq_false_iff.mpr c19
       subst c19
       have H1 : (emendatelaw36_EditscriptAlignIsSmallest.j1 kj4 l1 t491 true l0_0 l0_1 a0_2) = some r := by rw [if_neg (show ¬ (false = true) by decide)] at H; exact H
       clear H
       have H := H1
       clear H1
       have H' := Aside0.mk H
       clear H
       go_wp2
       go_meet
       case rel => exact ⟨_, (true), rr, H', ⟨by have := HJ4.out; first | omega | exact Nat.le_refl _⟩, ⟨by (with_reducible repeat (first | apply Kd.R_alloc | apply Kd.R_drewN | apply Kd.R_drew)); exact HO493.out⟩, ⟨by (with_reducible repeat (first | refine blk_drewN ?_ _ | refine blk_drew ?_ | refine blk_alloc ?_ _)); exact BK488.out⟩, ⟨pb HB.out GE488.out⟩⟩
     case rest =>
      clear HC16
      try clear c1
      try clear c4
      try clear c14
      try clear hcz17_0
      try clear hcz17_1
      try clear hcz17_2
      try clear hfz17_0
      try clear hfz17_1
      try clear hfz17_2
      obtain ⟨kq, x41_15, rfl, HA, HJ15, HO_5, BK488, HB⟩ := hcut
      cases kq with
      | zero => exact absurd HA.out (by simp [emendatelaw36_EditscriptAlignIsSmallest.j1])
      | succ kj15 =>
       have H := HA.out
       clear HA
       simp only [emendatelaw36_EditscriptAlignIsSmallest.j1] at H
       by_cases c28 : x41_15 = true
       ·
        subst c28
        have H1 : (some true) = some r := by rw [if_pos rfl] at H; exact H
        clear H
        have H := H1
        clear H1
        obtain rfl := Option.some.inj H
        go_wp2
        go_ret
        exact ⟨er, pb HB.out GE488.out⟩
       ·
        replace c28 := Bool.eq_false_iff.mpr c28
        subst c28
        have H1 : ((editscript_Align.f kj15 l0_0 l0_1 a0_2 t491).bind fun bt497 => ((emendateref36_Align.f kj15 l0_0 l0_1 a0_2 t491).bind fun bt501 => (if bt497.2 = 0 then (if bt501.2 = 0 then ((emendateref36_Same.f kj15 bt497.1 bt501.1).bind fun t505 => (if t505 = true then ((emendateref36_Less.f kj15 l1 bt497.1).bind fun t506 => (some (!t506))) else (some false))) else (some false)) else (some false)))) = some r := by rw [if_neg (show ¬ (false = true) by decide)] at H; exact H
        clear H
        have H := H1
        clear H1
        replace H := Option.bind_eq_some_iff.mp H
        obtain ⟨⟨t497, t500⟩, A290, H⟩ := H
        replace H : ((emendateref36_Align.f kj15 l0_0 l0_1 a0_2 t491).bind fun bt501 => (if t500 = 0 then (if bt501.2 = 0 then ((emendateref36_Same.f kj15 t497 bt501.1).bind fun t505 => (if t505 = true then ((emendateref36_Less.f kj15 l1 t497).bind fun t506 => (some (!t506))) else (some false))) else (some false)) else (some false))) = some r := H
        have A29 := Aside0.mk A290
        clear A290
        replace H := Option.bind_eq_some_iff.mp H
        obtain ⟨⟨t501, t504⟩, A300, H⟩ := H
        replace H : (if t500 = 0 then (if t504 = 0 then ((emendateref36_Same.f kj15 t497 t501).bind fun t505 => (if t505 = true then ((emendateref36_Less.f kj15 l1 t497).bind fun t506 => (some (!t506))) else (some false))) else (some false)) else (some false)) = some r := H
        have A30 := Aside0.mk A300
        clear A300
        by_cases c31 : t500 = 0
        ·
         rw [if_pos c31] at H
         have c31b0 : (t500 == 0) = true := beq_iff_eq.mpr c31
         have c31b1 : (t500 != 0) = false := bne_eq_false_iff_eq.mpr c31
         clear c31
         by_cases c32 : t504 = 0
         ·
          rw [if_pos c32] at H
          have c32b0 : (t504 == 0) = true := beq_iff_eq.mpr c32
          have c32b1 : (t504 != 0) = false := bne_eq_false_iff_eq.mpr c32
          clear c32
          replace H := Option.bind_eq_some_iff.mp H
          obtain ⟨t505, A330, H⟩ := H
          replace H : (if t505 = true then ((emendateref36_Less.f kj15 l1 t497).bind fun t506 => (some (!t506))) else (some false)) = some r := H
          have A33 := Aside0.mk A330
          clear A330
          by_cases c34 : t505 = true
          ·
           subst c34
           have H1 : ((emendateref36_Less.f kj15 l1 t497).bind fun t506 => (some (!t506))) = some r := by rw [if_pos rfl] at H; exact H
           clear H
           have H := H1
           clear H1
           replace H := Option.bind_eq_some_iff.mp H
           obtain ⟨t506, A350, H⟩ := H
           replace H : (some (!t506)) = some r := H
           have A35 := Aside0.mk A350
           clear A350
           obtain rfl := Option.some.inj H
           obtain ⟨hcz36_0, hcz36_1, hcz36_2, hfz36_0, hfz36_1, hfz36_2⟩ := cz3 BK488.out
           obtain ⟨Ao37, co37, eo37⟩ := Kd.R_slice HO_5.out
           subst eo37
           go_wp2_with (first | ((with_reducible refine gate_callee (f := 21) rfl ?_); refine gl (some 45) Tryd.func21 #[.agg #[.slice A0_0 l0_0.length c0_0, .slice A0_1 l0_1.length c0_1, .int .i64 a0_2], .slice Ao37 t491.length co37] ?_; (with_reducible refine (editscript_Align.calls kj15 _ _ l0_0 _ _ l0_1 a0_2 _ _ t491 t497 t500 _ ?side1 ?side2 ?side3 ?side4 ?side5 ?side6 A29.out).mono ?_); (case side1 => exact sd (Kd.C_below HR0_0.out HB.out)); (case side2 => exact HC0_0.out); (case side3 => exact sd (Kd.C_below HR0_1.out HB.out)); (case side4 => exact HC0_1.out); (case side5 => exact sd (Kd.R_reads' HO_5.out).2.2); (case side6 => exact (Kd.R_reads' HO_5.out).2.1); rintro e w38 ⟨v498, rfl, ho0, hb⟩; refine ⟨_, rfl, ?_⟩; replace HO_5 := Aside0.mk (Kd.R_below (pR HO_5.out) hb); have HO499 := Aside0.mk (Kd.R_lower ho0 (below_size (pb HB.out GE488.out))); replace BK488 := Aside0.mk (bb BK488.out hb); replace HB := Aside0.mk (below_step (pb HB.out GE488.out) hb); (try clear hb); (try clear ho0); obtain ⟨hcz39_0, hcz39_1, hcz39_2, hfz39_0, hfz39_1, hfz39_2⟩ := cz3 BK488.out) | ((with_reducible refine gate_callee (f := 23) rfl ?_); refine gl (some 51) Tryd.func23 #[.agg #[.slice A0_0 l0_0.length c0_0, .slice A0_1 l0_1.length c0_1, .int .i64 a0_2], .slice Ao37 t491.length co37] ?_; (with_reducible refine (emendateref36_Align.calls kj15 _ _ l0_0 _ _ l0_1 a0_2 _ _ t491 t501 t504 _ ?side1 ?side2 ?side3 ?side4 ?side5 ?side6 A30.out).mono ?_); (case side1 => exact sd (Kd.C_below HR0_0.out HB.out)); (case side2 => exact HC0_0.out); (case side3 => exact sd (Kd.C_below HR0_1.out HB.out)); (case side4 => exact HC0_1.out); (case side5 => exact sd (Kd.R_reads' HO_5.out).2.2); (case side6 => exact (Kd.R_reads' HO_5.out).2.1); rintro e w40 ⟨v502, rfl, ho0, hb⟩; refine ⟨_, rfl, ?_⟩; have n0_ := Aside0.mk (Kd.R_below (pR HO_5.out) hb); have n1_ := Aside0.mk (Kd.R_elder' (pR HO499.out) (Kd.R_base ho0) hb); have n2_ := Aside0.mk (Kd.R_lower (Kd.R_new' ho0 (Kd.R_lt (pR HO499.out))) (below_size (pb HB.out GE488.out))); have n3_ := Aside0.mk (bb BK488.out hb); have n4_ := Aside0.mk (below_step (pb HB.out GE488.out) hb); clear HO_5; clear HO499; clear BK488; clear HB; have HO_5 := n0_; have HO499 := n1_; have HO503 := n2_; have BK488 := n3_; have HB := n4_; clear n0_ n1_ n2_ n3_ n4_; (try clear hb); (try clear ho0); obtain ⟨Ao41, co41, eo41⟩ := Kd.R_slice HO499.out; subst eo41; obtain ⟨Ao42, co42, eo42⟩ := Kd.R_slice HO503.out; subst eo42) | (go_at_call 24; (with_reducible refine (emendateref36_Same.calls kj15 _ _ t497 _ _ t501 true _ ?side1 ?side2 ?side3 ?side4 A33.out).mono ?_); (case side1 => exact sd (Kd.R_reads' HO499.out).2.2); (case side2 => exact (Kd.R_reads' HO499.out).2.1); (case side3 => exact sd (Kd.R_reads' HO503.out).2.2); (case side4 => exact (Kd.R_reads' HO503.out).2.1); rintro e w' ⟨rfl, ⟨nd, rfl⟩⟩) | (go_at_call 25; (with_reducible refine (emendateref36_Less.calls kj15 _ _ l1 _ _ t497 t506 _ ?side1 ?side2 ?side3 ?side4 A35.out).mono ?_); (case side1 => exact sd (Kd.C_below HR1.out (pb HB.out GE488.out))); (case side2 => exact HC1.out); (case side3 => exact sd (Kd.R_reads' HO499.out).2.2); (case side4 => exact (Kd.R_reads' HO499.out).2.1); rintro e w' ⟨rfl, ⟨nd, rfl⟩⟩))
           go_ret
           exact ⟨er, pb HB.out GE488.out⟩
          ·
           replace c34 := Bool.eq_false_iff.mpr c34
           subst c34
           have H1 : (some false) = some r := by rw [if_neg (show ¬ (false = true) by decide)] at H; exact H
           clear H
           have H := H1
           clear H1
           obtain rfl := Option.some.inj H
           obtain ⟨hcz43_0, hcz43_1, hcz43_2, hfz43_0, hfz43_1, hfz43_2⟩ := cz3 BK488.out
           obtain ⟨Ao44, co44, eo44⟩ := Kd.R_slice HO_5.out
           subst eo44
           go_wp2_with (first | ((with_reducible refine gate_callee (f := 21) rfl ?_); refine gl (some 45) Tryd.func21 #[.agg #[.slice A0_0 l0_0.length c0_0, .slice A0_1 l0_1.length c0_1, .int .i64 a0_2], .slice Ao44 t491.length co44] ?_; (with_reducible refine (editscript_Align.calls kj15 _ _ l0_0 _ _ l0_1 a0_2 _ _ t491 t497 t500 _ ?side1 ?side2 ?side3 ?side4 ?side5 ?side6 A29.out).mono ?_); (case side1 => exact sd (Kd.C_below HR0_0.out HB.out)); (case side2 => exact HC0_0.out); (case side3 => exact sd (Kd.C_below HR0_1.out HB.out)); (case side4 => exact HC0_1.out); (case side5 => exact sd (Kd.R_reads' HO_5.out).2.2); (case side6 => exact (Kd.R_reads' HO_5.out).2.1); rintro e w45 ⟨v498, rfl, ho0, hb⟩; refine ⟨_, rfl, ?_⟩; replace HO_5 := Aside0.mk (Kd.R_below (pR HO_5.out) hb); have HO499 := Aside0.mk (Kd.R_lower ho0 (below_size (pb HB.out GE488.out))); replace BK488 := Aside0.mk (bb BK488.out hb); replace HB := Aside0.mk (below_step (pb HB.out GE488.out) hb); (try clear hb); (try clear ho0); obtain ⟨hcz46_0, hcz46_1, hcz46_2, hfz46_0, hfz46_1, hfz46_2⟩ := cz3 BK488.out) | ((with_reducible refine gate_callee (f := 23) rfl ?_); refine gl (some 51) Tryd.func23 #[.agg #[.slice A0_0 l0_0.length c0_0, .slice A0_1 l0_1.length c0_1, .int .i64 a0_2], .slice Ao44 t491.length co44] ?_; (with_reducible refine (emendateref36_Align.calls kj15 _ _ l0_0 _ _ l0_1 a0_2 _ _ t491 t501 t504 _ ?side1 ?side2 ?side3 ?side4 ?side5 ?side6 A30.out).mono ?_); (case side1 => exact sd (Kd.C_below HR0_0.out HB.out)); (case side2 => exact HC0_0.out); (case side3 => exact sd (Kd.C_below HR0_1.out HB.out)); (case side4 => exact HC0_1.out); (case side5 => exact sd (Kd.R_reads' HO_5.out).2.2); (case side6 => exact (Kd.R_reads' HO_5.out).2.1); rintro e w47 ⟨v502, rfl, ho0, hb⟩; refine ⟨_, rfl, ?_⟩; have n0_ := Aside0.mk (Kd.R_below (pR HO_5.out) hb); have n1_ := Aside0.mk (Kd.R_elder' (pR HO499.out) (Kd.R_base ho0) hb); have n2_ := Aside0.mk (Kd.R_lower (Kd.R_new' ho0 (Kd.R_lt (pR HO499.out))) (below_size (pb HB.out GE488.out))); have n3_ := Aside0.mk (bb BK488.out hb); have n4_ := Aside0.mk (below_step (pb HB.out GE488.out) hb); clear HO_5; clear HO499; clear BK488; clear HB; have HO_5 := n0_; have HO499 := n1_; have HO503 := n2_; have BK488 := n3_; have HB := n4_; clear n0_ n1_ n2_ n3_ n4_; (try clear hb); (try clear ho0); obtain ⟨Ao48, co48, eo48⟩ := Kd.R_slice HO499.out; subst eo48; obtain ⟨Ao49, co49, eo49⟩ := Kd.R_slice HO503.out; subst eo49) | (go_at_call 24; (with_reducible refine (emendateref36_Same.calls kj15 _ _ t497 _ _ t501 false _ ?side1 ?side2 ?side3 ?side4 A33.out).mono ?_); (case side1 => exact sd (Kd.R_reads' HO499.out).2.2); (case side2 => exact (Kd.R_reads' HO499.out).2.1); (case side3 => exact sd (Kd.R_reads' HO503.out).2.2); (case side4 => exact (Kd.R_reads' HO503.out).2.1); rintro e w' ⟨rfl, ⟨nd, rfl⟩⟩))
           go_ret
           exact ⟨er, pb HB.out GE488.out⟩
         ·
          rw [if_neg c32] at H
          have c32b0 : (t504 == 0) = false := beq_eq_false_iff_ne.mpr c32
          have c32b1 : (t504 != 0) = true := bne_iff_ne.mpr c32
          obtain rfl := Option.some.inj H
          obtain ⟨hcz50_0, hcz50_1, hcz50_2, hfz50_0, hfz50_1, hfz50_2⟩ := cz3 BK488.out
          obtain ⟨Ao51, co51, eo51⟩ := Kd.R_slice HO_5.out
          subst eo51
          go_wp2_with (first | ((with_reducible refine gate_callee (f := 21) rfl ?_); refine gl (some 45) Tryd.func21 #[.agg #[.slice A0_0 l0_0.length c0_0, .slice A0_1 l0_1.length c0_1, .int .i64 a0_2], .slice Ao51 t491.length co51] ?_; (with_reducible refine (editscript_Align.calls kj15 _ _ l0_0 _ _ l0_1 a0_2 _ _ t491 t497 t500 _ ?side1 ?side2 ?side3 ?side4 ?side5 ?side6 A29.out).mono ?_); (case side1 => exact sd (Kd.C_below HR0_0.out HB.out)); (case side2 => exact HC0_0.out); (case side3 => exact sd (Kd.C_below HR0_1.out HB.out)); (case side4 => exact HC0_1.out); (case side5 => exact sd (Kd.R_reads' HO_5.out).2.2); (case side6 => exact (Kd.R_reads' HO_5.out).2.1); rintro e w52 ⟨v498, rfl, ho0, hb⟩; refine ⟨_, rfl, ?_⟩; replace HO_5 := Aside0.mk (Kd.R_below (pR HO_5.out) hb); have HO499 := Aside0.mk (Kd.R_lower ho0 (below_size (pb HB.out GE488.out))); replace BK488 := Aside0.mk (bb BK488.out hb); replace HB := Aside0.mk (below_step (pb HB.out GE488.out) hb); (try clear hb); (try clear ho0); obtain ⟨hcz53_0, hcz53_1, hcz53_2, hfz53_0, hfz53_1, hfz53_2⟩ := cz3 BK488.out) | ((with_reducible refine gate_callee (f := 23) rfl ?_); refine gl (some 51) Tryd.func23 #[.agg #[.slice A0_0 l0_0.length c0_0, .slice A0_1 l0_1.length c0_1, .int .i64 a0_2], .slice Ao51 t491.length co51] ?_; (with_reducible refine (emendateref36_Align.calls kj15 _ _ l0_0 _ _ l0_1 a0_2 _ _ t491 t501 t504 _ ?side1 ?side2 ?side3 ?side4 ?side5 ?side6 A30.out).mono ?_); (case side1 => exact sd (Kd.C_below HR0_0.out HB.out)); (case side2 => exact HC0_0.out); (case side3 => exact sd (Kd.C_below HR0_1.out HB.out)); (case side4 => exact HC0_1.out); (case side5 => exact sd (Kd.R_reads' HO_5.out).2.2); (case side6 => exact (Kd.R_reads' HO_5.out).2.1); rintro e w54 ⟨v502, rfl, ho0, hb⟩; refine ⟨_, rfl, ?_⟩; have n0_ := Aside0.mk (Kd.R_below (pR HO_5.out) hb); have n1_ := Aside0.mk (Kd.R_elder' (pR HO499.out) (Kd.R_base ho0) hb); have n2_ := Aside0.mk (Kd.R_lower (Kd.R_new' ho0 (Kd.R_lt (pR HO499.out))) (below_size (pb HB.out GE488.out))); have n3_ := Aside0.mk (bb BK488.out hb); have n4_ := Aside0.mk (below_step (pb HB.out GE488.out) hb); clear HO_5; clear HO499; clear BK488; clear HB; have HO_5 := n0_; have HO499 := n1_; have HO503 := n2_; have BK488 := n3_; have HB := n4_; clear n0_ n1_ n2_ n3_ n4_; (try clear hb); (try clear ho0)))
          go_ret
          exact ⟨er, pb HB.out GE488.out⟩
        ·
         rw [if_neg c31] at H
         have c31b0 : (t500 == 0) = false := beq_eq_false_iff_ne.mpr c31
         have c31b1 : (t500 != 0) = true := bne_iff_ne.mpr c31
         obtain rfl := Option.some.inj H
         obtain ⟨hcz55_0, hcz55_1, hcz55_2, hfz55_0, hfz55_1, hfz55_2⟩ := cz3 BK488.out
         obtain ⟨Ao56, co56, eo56⟩ := Kd.R_slice HO_5.out
         subst eo56
         go_wp2_with (first | ((with_reducible refine gate_callee (f := 21) rfl ?_); refine gl (some 45) Tryd.func21 #[.agg #[.slice A0_0 l0_0.length c0_0, .slice A0_1 l0_1.length c0_1, .int .i64 a0_2], .slice Ao56 t491.length co56] ?_; (with_reducible refine (editscript_Align.calls kj15 _ _ l0_0 _ _ l0_1 a0_2 _ _ t491 t497 t500 _ ?side1 ?side2 ?side3 ?side4 ?side5 ?side6 A29.out).mono ?_); (case side1 => exact sd (Kd.C_below HR0_0.out HB.out)); (case side2 => exact HC0_0.out); (case side3 => exact sd (Kd.C_below HR0_1.out HB.out)); (case side4 => exact HC0_1.out); (case side5 => exact sd (Kd.R_reads' HO_5.out).2.2); (case side6 => exact (Kd.R_reads' HO_5.out).2.1); rintro e w57 ⟨v498, rfl, ho0, hb⟩; refine ⟨_, rfl, ?_⟩; replace HO_5 := Aside0.mk (Kd.R_below (pR HO_5.out) hb); have HO499 := Aside0.mk (Kd.R_lower ho0 (below_size (pb HB.out GE488.out))); replace BK488 := Aside0.mk (bb BK488.out hb); replace HB := Aside0.mk (below_step (pb HB.out GE488.out) hb); (try clear hb); (try clear ho0); obtain ⟨hcz58_0, hcz58_1, hcz58_2, hfz58_0, hfz58_1, hfz58_2⟩ := cz3 BK488.out) | ((with_reducible refine gate_callee (f := 23) rfl ?_); refine gl (some 51) Tryd.func23 #[.agg #[.slice A0_0 l0_0.length c0_0, .slice A0_1 l0_1.length c0_1, .int .i64 a0_2], .slice Ao56 t491.length co56] ?_; (with_reducible refine (emendateref36_Align.calls kj15 _ _ l0_0 _ _ l0_1 a0_2 _ _ t491 t501 t504 _ ?side1 ?side2 ?side3 ?side4 ?side5 ?side6 A30.out).mono ?_); (case side1 => exact sd (Kd.C_below HR0_0.out HB.out)); (case side2 => exact HC0_0.out); (case side3 => exact sd (Kd.C_below HR0_1.out HB.out)); (case side4 => exact HC0_1.out); (case side5 => exact sd (Kd.R_reads' HO_5.out).2.2); (case side6 => exact (Kd.R_reads' HO_5.out).2.1); rintro e w59 ⟨v502, rfl, ho0, hb⟩; refine ⟨_, rfl, ?_⟩; have n0_ := Aside0.mk (Kd.R_below (pR HO_5.out) hb); have n1_ := Aside0.mk (Kd.R_elder' (pR HO499.out) (Kd.R_base ho0) hb); have n2_ := Aside0.mk (Kd.R_lower (Kd.R_new' ho0 (Kd.R_lt (pR HO499.out))) (below_size (pb HB.out GE488.out))); have n3_ := Aside0.mk (bb BK488.out hb); have n4_ := Aside0.mk (below_step (pb HB.out GE488.out) hb); clear HO_5; clear HO499; clear BK488; clear HB; have HO_5 := n0_; have HO499 := n1_; have HO503 := n2_; have BK488 := n3_; have HB := n4_; clear n0_ n1_ n2_ n3_ n4_; (try clear hb); (try clear ho0)))
         go_ret
         exact ⟨er, pb HB.out GE488.out⟩
 ·
  replace c4 := Bool.eq_false_iff.mpr c4
  subst c4
  have H1 : (some false) = some r := by rw [if_neg (show ¬ (false = true) by decide)] at H; exact H
  clear H
  have H := H1
  clear H1
  obtain rfl := Option.some.inj H
  go_enter Tryd.func9, Tryd.ntmps9
  go_wp2_with (first | ((with_reducible refine gate_dst (N := 2) rfl ?_); (try (refine gate_guard (by rfl) ?_; dsimp only)); refine box_event ?hg (N := 2) ?hd (cs := #[.slice A0_0 l0_0.length c0_0, .slice A0_1 l0_1.length c0_1, .int .i64 a0_2]) (t := 25) ?hr ?_; (case hd => rfl); (case hg => rfl); (case hr => first | (go_simp; done) | (go_simp; rfl)); intro gb488 hg w60 hbox hb; have n0_ := Aside0.mk (below_step (pB HB.out) hb); have n1_ := Aside0.mk (hbox); have n2_ := Aside0.mk ((by rw [hg]; exact (below_size (pB HB.out)) : w.heap.size ≤ gb488)); have n3_ := Aside0.mk ((by rw [hg]; exact (below_size (pB HB.out)) : w.heap.size ≤ gb488)); clear HB; have HB := n0_; have BK488 := n1_; have GW488 := n2_; have GE488 := n3_; clear n0_ n1_ n2_ n3_; clear hb hbox hg) | ((with_reducible refine gate_callee (f := 11) rfl ?_); refine gl (some 12) Tryd.func11 #[] ?_; (with_reducible refine (emendatelaw36_awake.calls k  false _ (HV.out.below (pb HB.out GE488.out) rfl) A3.out).mono ?_); rintro e w61 ⟨rfl, hb⟩; refine ⟨_, rfl, ?_⟩; replace BK488 := Aside0.mk (bb BK488.out hb); replace HB := Aside0.mk (below_step (pb HB.out GE488.out) hb); (try clear hb)))
  go_ret
  exact ⟨er, pb HB.out GE488.out⟩

end Go.Proofs.YtnddijafdphbnaaDoor.All
end
