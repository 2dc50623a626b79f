-- Printed by wip/tools/wprint.py (a program of this session over the kit's printer). Not trusted: Lean checks it.
import Derived.Test.YtnddijafdphbnaaDoorAllSt
import Derived.Test.YtnddijafdphbnaaDoorAllx13
namespace Go.Proofs.YtnddijafdphbnaaDoor.All
open Go.RowKit Go.Proofs.YtnddijafdphbnaaDoorW.PrintWords Go.Proofs.YtnddijafdphbnaaDoorW.PrintLast Go.Proofs.YtnddijafdphbnaaDoorW.PrintMore
attribute [local go_sem] max2_int min2_int max_two min_two max_three min_three max_four min_four   -- for this text's walks alone
set_option linter.unusedVariables false
set_option linter.unusedSimpArgs false

/-! ### emendateref36_step: function 37 -/
mutual
def emendateref36_step.j0 : Nat → List Int → List Int → Int → Int → Int → Int → Int → Bool → List (S33) → List Int → Int → Option (Int)
 | 0, _, _, _, _, _, _, _, _, _, _, _ => none
 | k + 1, x1, x2, x3, x4, x5, x6, x15, x19, x389000, x389001, x389002 => if x19 = true then (if 0 ≤ x4 then (if x4 < (x389000.length : Int) then (if 0 ≤ x5 then (if x5 < (x1.length : Int) then (if 0 ≤ (rd x1 x5) then (if (rd x1 x5) < (((rd_T33 x389000 x4).f1).length : Int) then (if 0 ≤ (wrap64 ((wrap64 ((wrap64 ((wrap64 (x4 + 1)) * x3)) + x5)) + 1)) then (if (wrap64 ((wrap64 ((wrap64 ((wrap64 (x4 + 1)) * x3)) + x5)) + 1)) < (x2.length : Int) then ((emendateref36_plus.f (rd ((rd_T33 x389000 x4).f1) (rd x1 x5)) (rd x2 (wrap64 ((wrap64 ((wrap64 ((wrap64 (x4 + 1)) * x3)) + x5)) + 1)))).bind fun t396 => (some t396)) else (none)) else (none)) else (none)) else (none)) else (none)) else (none)) else (none)) else (none)) else (if x6 = 2 then (emendateref36_step.j1 k x1 x2 x3 x4 x5 x6 (decide (x4 < x15)) x389000 x389001 x389002) else (emendateref36_step.j1 k x1 x2 x3 x4 x5 x6 false x389000 x389001 x389002))
def emendateref36_step.j1 : Nat → List Int → List Int → Int → Int → Int → Int → Bool → List (S33) → List Int → Int → Option (Int)
 | 0, _, _, _, _, _, _, _, _, _, _ => none
 | k + 1, x1, x2, x3, x4, x5, x6, x71, x389000, x389001, x389002 => if x71 = true then (if 0 ≤ x4 then (if x4 < (x389000.length : Int) then (if 0 ≤ (wrap64 ((wrap64 ((wrap64 (x4 + 1)) * x3)) + x5)) then (if (wrap64 ((wrap64 ((wrap64 (x4 + 1)) * x3)) + x5)) < (x2.length : Int) then ((emendateref36_plus.f ((rd_T33 x389000 x4).f2) (rd x2 (wrap64 ((wrap64 ((wrap64 (x4 + 1)) * x3)) + x5)))).bind fun t399 => (some t399)) else (none)) else (none)) else (none)) else (none)) else (if x6 = 3 then (emendateref36_step.j2 k x1 x2 x3 x4 x5 x6 (decide (x5 < (x1.length : Int))) x389000 x389001 x389002) else (emendateref36_step.j2 k x1 x2 x3 x4 x5 x6 false x389000 x389001 x389002))
def emendateref36_step.j2 : Nat → List Int → List Int → Int → Int → Int → Int → Bool → List (S33) → List Int → Int → Option (Int)
 | 0, _, _, _, _, _, _, _, _, _, _ => none
 | k + 1, x1, x2, x3, x4, x5, x6, x95, x389000, x389001, x389002 => if x95 = true then (if 0 ≤ x5 then (if x5 < (x1.length : Int) then (if 0 ≤ (rd x1 x5) then (if (rd x1 x5) < (x389001.length : Int) then (if 0 ≤ (wrap64 ((wrap64 ((wrap64 (x4 * x3)) + x5)) + 1)) then (if (wrap64 ((wrap64 ((wrap64 (x4 * x3)) + x5)) + 1)) < (x2.length : Int) then ((emendateref36_plus.f (rd x389001 (rd x1 x5)) (rd x2 (wrap64 ((wrap64 ((wrap64 (x4 * x3)) + x5)) + 1)))).bind fun t403 => (some t403)) else (none)) else (none)) else (none)) else (none)) else (none)) else (none)) else (if x6 = 4 then ((emendateref36_swappable.f x389000 x389001 x389002 x4).bind fun t404 => (if t404 = true then (if (wrap64 (x5 + 1)) < (x1.length : Int) then (if 0 ≤ x5 then (if x5 < (x1.length : Int) then (if 0 ≤ (wrap64 (x4 + 1)) then (if (wrap64 (x4 + 1)) < (x389000.length : Int) then (if (rd x1 x5) = ((rd_T33 x389000 (wrap64 (x4 + 1))).f0) then (if 0 ≤ (wrap64 (x5 + 1)) then (if 0 ≤ x4 then (if x4 < (x389000.length : Int) then (if (rd x1 (wrap64 (x5 + 1))) = ((rd_T33 x389000 x4).f0) then (if 0 ≤ (wrap64 ((wrap64 ((wrap64 ((wrap64 (x4 + 2)) * x3)) + x5)) + 2)) then (if (wrap64 ((wrap64 ((wrap64 ((wrap64 (x4 + 2)) * x3)) + x5)) + 2)) < (x2.length : Int) then ((emendateref36_plus.f x389002 (rd x2 (wrap64 ((wrap64 ((wrap64 ((wrap64 (x4 + 2)) * x3)) + x5)) + 2)))).bind fun t410 => (some t410)) else (none)) else (none)) else (some 1099511627776)) else (none)) else (none)) else (none)) else (some 1099511627776)) else (none)) else (none)) else (none)) else (none)) else (some 1099511627776)) else (some 1099511627776))) else (some 1099511627776))
end
def emendateref36_step.f (k : Nat) (l0_0 : List (S33)) (l0_1 : List Int) (a0_2 : Int) (l1 : List Int) (l2 : List Int) (a3 : Int) (a4 : Int) (a5 : Int) (a6 : Int) : Option (Int) := if a6 = 1 then (if a4 < (l0_0.length : Int) then (if a5 < (l1.length : Int) then (if 0 ≤ a4 then (if 0 ≤ a5 then (if 0 ≤ (rd l1 a5) then (if (rd l1 a5) < (((rd_T33 l0_0 a4).f1).length : Int) then (emendateref36_step.j0 k l1 l2 a3 a4 a5 a6 (l0_0.length : Int) (decide ((rd ((rd_T33 l0_0 a4).f1) (rd l1 a5)) ≥ 0)) l0_0 l0_1 a0_2) else (none)) else (none)) else (none)) else (none)) else (emendateref36_step.j0 k l1 l2 a3 a4 a5 a6 (l0_0.length : Int) false l0_0 l0_1 a0_2)) else (emendateref36_step.j0 k l1 l2 a3 a4 a5 a6 (l0_0.length : Int) false l0_0 l0_1 a0_2)) else (emendateref36_step.j0 k l1 l2 a3 a4 a5 a6 (l0_0.length : Int) false l0_0 l0_1 a0_2)
def emendateref36_step.T2 : Bool × List (List Nat × List Nat) := (true, [([], []), ([0], [0]), ([1], [1]), ([2], [2]), ([2], [2]), ([3, 4, 2], [2, 3, 4]), ([2, 5], [2, 5]), ([6, 2], [6]), ([7], [7]), ([7], [7]), ([9, 7], [7, 9]), ([8, 10, 7], [7, 8, 10]), ([7, 11], [7, 11]), ([12, 7], [12]), ([13], [13]), ([14, 13], [13, 14]), ([13], [13]), ([15, 16, 13], [13, 15, 16]), ([17, 13], [13, 17]), ([18, 13], [13, 18]), ([13], [13]), ([13], [13]), ([20, 21, 13], [13, 20, 21]), ([22, 13], [13, 22]), ([19, 23, 13], [13, 19, 23]), ([24, 13], [13, 24]), ([25, 13], [13, 25]), ([13, 26], [13, 26]), ([27, 13], [27])])
def emendateref36_step.B2 : List Nat := [0, 1, 3, 7, 7, 31, 63, 127, 255, 255, 767, 2047, 4095, 8191, 16383, 32767, 16383, 131071, 262143, 524287, 16383, 16383, 3162111, 7356415, 16777215, 33554431, 67108863, 134217727, 268435455]
theorem emendateref36_step.tab2 : rtab .any (opsOf Tryd.f37 2) = emendateref36_step.T2 := by kernel_rfl
theorem emendateref36_step.bits2 : waitsOk emendateref36_step.T2.2 emendateref36_step.B2 = true := by kernel_rfl
def emendateref36_step.T3 : Bool × List (List Nat × List Nat) := (true, [([], []), ([0], [0]), ([], []), ([1, 2], [1, 2]), ([3], [3]), ([4], [4]), ([], []), ([], []), ([6, 7], [6, 7]), ([8], [8]), ([5, 9], [5, 9]), ([10], [10]), ([], []), ([], []), ([13], [13]), ([], []), ([14, 15], [14, 15]), ([], []), ([16, 17], [16, 17]), ([18], [18]), ([12, 19], [12, 19]), ([20], [20]), ([11, 21], [11, 21]), ([22, 22, 0, 1, 2, 3, 4, 5, 6, 7, 8, 9, 10, 11, 12, 13, 14, 15, 16, 17, 18, 19, 20, 21, 22], [22])])
def emendateref36_step.B3 : List Nat := [0, 1, 0, 7, 15, 31, 0, 0, 192, 448, 1023, 2047, 0, 0, 8192, 0, 57344, 0, 253952, 516096, 1044480, 2093056, 4194303, 8388607]
theorem emendateref36_step.tab3 : rtab .any (opsOf Tryd.f37 3) = emendateref36_step.T3 := by kernel_rfl
theorem emendateref36_step.bits3 : waitsOk emendateref36_step.T3.2 emendateref36_step.B3 = true := by kernel_rfl
def emendateref36_step.T5 : Bool × List (List Nat × List Nat) := (true, [([], []), ([0], [0]), ([], []), ([1, 2], [1, 2]), ([3], [3]), ([4], [4]), ([], []), ([], []), ([7], [7]), ([], []), ([8, 9], [8, 9]), ([], []), ([10, 11], [10, 11]), ([6, 12], [6, 12]), ([13], [13]), ([5, 14], [5, 14]), ([15, 15, 0, 1, 2, 3, 4, 5, 6, 7, 8, 9, 10, 11, 12, 13, 14, 15], [15])])
def emendateref36_step.B5 : List Nat := [0, 1, 0, 7, 15, 31, 0, 0, 128, 0, 896, 0, 3968, 8128, 16320, 32767, 65535]
theorem emendateref36_step.tab5 : rtab .any (opsOf Tryd.f37 5) = emendateref36_step.T5 := by kernel_rfl
theorem emendateref36_step.bits5 : waitsOk emendateref36_step.T5.2 emendateref36_step.B5 = true := by kernel_rfl
def emendateref36_step.T7 : Bool × List (List Nat × List Nat) := (true, [([], []), ([0], [0]), ([], []), ([], []), ([2, 3], [2, 3]), ([4], [4]), ([1, 5], [1, 5]), ([6], [6]), ([], []), ([], []), ([], []), ([9, 10], [9, 10]), ([], []), ([11, 12], [11, 12]), ([13], [13]), ([8, 14], [8, 14]), ([15], [15]), ([7, 16], [7, 16]), ([17, 17, 0, 1, 2, 3, 4, 5, 6, 7, 8, 9, 10, 11, 12, 13, 14, 15, 16, 17], [17])])
def emendateref36_step.B7 : List Nat := [0, 1, 0, 0, 12, 28, 63, 127, 0, 0, 0, 1536, 0, 7680, 15872, 32512, 65280, 131071, 262143]
theorem emendateref36_step.tab7 : rtab .any (opsOf Tryd.f37 7) = emendateref36_step.T7 := by kernel_rfl
theorem emendateref36_step.bits7 : waitsOk emendateref36_step.T7.2 emendateref36_step.B7 = true := by kernel_rfl
def emendateref36_step.T8 : Bool × List (List Nat × List Nat) := (true, [([], []), ([0], [0]), ([1], [1]), ([2], [2]), ([2], [2]), ([3, 4, 2, 2], [2, 3, 4]), ([2, 5], [2, 5]), ([6, 5], [6]), ([7], [7]), ([8, 7], [7, 8]), ([7], [7]), ([10, 7], [7, 10]), ([9, 11, 7], [7, 9, 11]), ([7, 12], [7, 12]), ([13, 7], [13]), ([14], [14]), ([14], [14]), ([15, 16, 14], [14, 15, 16]), ([17, 14], [14, 17]), ([14], [14]), ([19, 14], [14, 19]), ([14], [14]), ([21, 14], [14, 21]), ([20, 22, 14], [14, 20, 22]), ([23, 14], [14, 23]), ([24, 14], [14, 24]), ([18, 25, 14], [14, 18, 25]), ([14, 26], [14, 26]), ([27, 14], [27]), ([28], [28]), ([28], [28]), ([30, 28], [28, 30]), ([29, 31, 28], [28, 29, 31]), ([32, 28], [28, 32]), ([28], [28]), ([34, 28], [28, 34]), ([28], [28]), ([35, 36, 28], [28, 35, 36]), ([37, 28], [28, 37]), ([38, 28], [28, 38]), ([33, 39, 28], [28, 33, 39]), ([28, 40], [28, 40]), ([41, 28], [41])])
def emendateref36_step.B8 : List Nat := [0, 1, 3, 7, 7, 31, 63, 127, 255, 511, 255, 1279, 4095, 8191, 16383, 32767, 32767, 131071, 262143, 32767, 557055, 32767, 2129919, 7897087, 16285695, 33062911, 67108863, 134217727, 268435455, 536870911, 536870911, 1610612735, 4294967295, 8589934591, 536870911, 17716740095, 536870911, 120795955199, 258234908671, 533112815615, 1099511627775, 2199023255551, 4398046511103]
theorem emendateref36_step.tab8 : rtab .any (opsOf Tryd.f37 8) = emendateref36_step.T8 := by kernel_rfl
theorem emendateref36_step.bits8 : waitsOk emendateref36_step.T8.2 emendateref36_step.B8 = true := by kernel_rfl
def emendateref36_step.T9 : Bool × List (List Nat × List Nat) := (true, [([], []), ([0], [0]), ([], []), ([], []), ([3], [3]), ([], []), ([4, 5], [4, 5]), ([], []), ([6, 7], [6, 7]), ([8], [8]), ([2, 9], [2, 9]), ([10], [10]), ([1, 11], [1, 11]), ([12, 12, 0, 1, 2, 3, 4, 5, 6, 7, 8, 9, 10, 11, 12], [12])])
def emendateref36_step.B9 : List Nat := [0, 1, 0, 0, 8, 0, 56, 0, 248, 504, 1020, 2044, 4095, 8191]
theorem emendateref36_step.tab9 : rtab .any (opsOf Tryd.f37 9) = emendateref36_step.T9 := by kernel_rfl
theorem emendateref36_step.bits9 : waitsOk emendateref36_step.T9.2 emendateref36_step.B9 = true := by kernel_rfl
set_option maxHeartbeats 8000000 in
set_option maxRecDepth 100000 in
theorem emendateref36_step.calls (k : Nat) (A0_0 : Option Addr) (c0_0 : Nat) (l0_0 : List (S33)) (A0_1 : Option Addr) (c0_1 : Nat) (l0_1 : List Int) (a0_2 : Int) (A1 : Option Addr) (c1 : Nat) (l1 : List Int) (A2 : Option Addr) (c2 : Nat) (l2 : List Int) (a3 : Int) (a4 : Int) (a5 : Int) (a6 : Int) (r : Int) (w : World) (hr0_0 : Kd.C k33 w A0_0 l0_0.length l0_0) (hc0_0 : l0_0.length ≤ c0_0) (hr0_1 : Kd.C (Kd.int .i64) w A0_1 l0_1.length l0_1) (hc0_1 : l0_1.length ≤ c0_1) (hr1 : Kd.C (Kd.int .i64) w A1 l1.length l1) (hc1 : l1.length ≤ c1) (hr2 : Kd.C (Kd.int .i64) w A2 l2.length l2) (hc2 : l2.length ≤ c2) (h : emendateref36_step.f k l0_0 l0_1 a0_2 l1 l2 a3 a4 a5 a6 = some r) :
  Calls Tryd.prog 37 #[.agg #[.slice A0_0 l0_0.length c0_0, .slice A0_1 l0_1.length c0_1, .int .i64 a0_2], .slice A1 l1.length c1, .slice A2 l2.length c2, .int .i64 a3, .int .i64 a4, .int .i64 a5, .int .i64 a6] w fun e w' => e = .returned (.int .i64 r) ∧ Below w.heap.size w w' := by
 have hu25 := Tryd.underlying25
 have HR0_0 := Aside0.mk hr0_0
 have HC0_0 := Aside0.mk hc0_0
 clear hr0_0 hc0_0
 have HR0_1 := Aside0.mk hr0_1
 have HC0_1 := Aside0.mk hc0_1
 clear hr0_1 hc0_1
 have HR1 := Aside0.mk hr1
 have HC1 := Aside0.mk hc1
 clear hr1 hc1
 have HR2 := Aside0.mk hr2
 have HC2 := Aside0.mk hc2
 clear hr2 hc2
 have HB := Aside0.mk (Below.refl w.heap.size w)
 have H : (if a6 = 1 then (if a4 < (l0_0.length : Int) then (if a5 < (l1.length : Int) then (if 0 ≤ a4 then (if 0 ≤ a5 then (if 0 ≤ (rd l1 a5) then (if (rd l1 a5) < (((rd_T33 l0_0 a4).f1).length : Int) then (emendateref36_step.j0 k l1 l2 a3 a4 a5 a6 (l0_0.length : Int) (decide ((rd ((rd_T33 l0_0 a4).f1) (rd l1 a5)) ≥ 0)) l0_0 l0_1 a0_2) else (none)) else (none)) else (none)) else (none)) else (emendateref36_step.j0 k l1 l2 a3 a4 a5 a6 (l0_0.length : Int) false l0_0 l0_1 a0_2)) else (emendateref36_step.j0 k l1 l2 a3 a4 a5 a6 (l0_0.length : Int) false l0_0 l0_1 a0_2)) else (emendateref36_step.j0 k l1 l2 a3 a4 a5 a6 (l0_0.length : Int) false l0_0 l0_1 a0_2)) = some r := h
 clear h
 have HC8 := Aside0.mk H
 clear H
 go_enter Tryd.func37, Tryd.ntmps37
 go_upto_region 2 with (first | ((with_reducible refine gate_dst (N := 7) rfl ?_); (try (refine gate_guard (by rfl) ?_; dsimp only)); refine box_event ?hg (N := 7) ?hd (cs := #[.slice A0_0 l0_0.length c0_0, .slice A0_1 l0_1.length c0_1, .int .i64 a0_2]) (t := 25) ?hr ?_; (case hd => rfl); (case hg => rfl); (case hr => first | (go_simp; done) | (go_simp; rfl)); intro gb388 hg w9 hbox hb; have n0_ := Aside0.mk (below_step (pB HB.out) hb); have n1_ := Aside0.mk (hbox); have n2_ := Aside0.mk ((by rw [hg]; exact (below_size (pB HB.out)) : w.heap.size ≤ gb388)); have n3_ := Aside0.mk ((by rw [hg]; exact (below_size (pB HB.out)) : w.heap.size ≤ gb388)); clear HB; have HB := n0_; have BK388 := n1_; have GW388 := n2_; have GE388 := n3_; clear n0_ n1_ n2_ n3_; clear hb hbox hg; obtain ⟨hcz10_0, hcz10_1, hcz10_2, hfz10_0, hfz10_1, hfz10_2⟩ := cz3 BK388.out))
 (try simp only [Act.put, List.setIfInBounds_toArray, List.set_cons_zero, List.set_cons_succ])
 go_cut [19] (fun v19 wc => ∃ (kq : Nat) (x19_7 : Bool), v19 = .bool x19_7 ∧ Aside0 (emendateref36_step.j0 kq l1 l2 a3 a4 a5 a6 (l0_0.length : Int) x19_7 l0_0 l0_1 a0_2 = some r) ∧ Aside0 (kq ≤ k) ∧ Aside0 (wc.heap[gb388]? = some (.cells #[(.slice A0_0 l0_0.length c0_0), (.slice A0_1 l0_1.length c0_1), .int .i64 a0_2] 25 (0, 0))) ∧ Aside0 (Below w.heap.size w wc))
 case first => as_aux_lemma =>
  have H := HC8.out
  clear HC8
  by_cases c11 : a6 = 1
  ·
   rw [if_pos c11] at H
   have c11b0 : (a6 == 1) = true := beq_iff_eq.mpr c11
   have c11b1 : (a6 != 1) = false := bne_eq_false_iff_eq.mpr c11
   clear c11
   (first | rw [c11b0] | (simp only [i64_w, i32_w]; rw [c11b0]) | skip)
   by_cases c12 : a4 < (l0_0.length : Int)
   ·
    rw [if_pos c12] at H
    have c12b0 : decide (a4 < (l0_0.length : Int)) = true := decide_eq_true c12
    clear c12
    by_cases c13 : a5 < (l1.length : Int)
    ·
     rw [if_pos c13] at H
     have c13b0 : decide (a5 < (l1.length : Int)) = true := decide_eq_true c13
     clear c13
     by_cases c14 : 0 ≤ a4
     ·
      rw [if_pos c14] at H
      have c14b0 : decide (0 ≤ a4) = true := decide_eq_true c14
      clear c14
      by_cases c15 : 0 ≤ a5
      ·
       rw [if_pos c15] at H
       have c15b0 : decide (0 ≤ a5) = true := decide_eq_true c15
       clear c15
       by_cases c16 : 0 ≤ (rd l1 a5)
       ·
        rw [if_pos c16] at H
        have c16b0 : decide (0 ≤ (rd l1 a5)) = true := decide_eq_true c16
        clear c16
        by_cases c17 : (rd l1 a5) < (((rd_T33 l0_0 a4).f1).length : Int)
        ·
         rw [if_pos c17] at H
         have c17b0 : decide ((rd l1 a5) < (((rd_T33 l0_0 a4).f1).length : Int)) = true := decide_eq_true c17
         clear c17
         have H' := Aside0.mk H
         clear H
         try go_wp2
         replace BK388 := Aside0.mk (blk_drew BK388.out)
         replace HB := Aside0.mk (below_drew1 HB.out)
         have p389 : 0 ≤ (a4 : Int) := od
         have q389 : a4 < (l0_0.length : Int) := od
         obtain ⟨ad389, A389_1, c389_1, e389, hx389_0, hx389_1, hx389_2, hl389_1, hi389_1⟩ := at_T33 HR0_0.out a4 p389 q389
         have hw389_2 := hx389_2
         have hw389_1 := hx389_1
         have hw389_0 := hx389_0
         cases e389
         replace hx389_0 := bc HB.out hx389_0
         replace hx389_1 := bc HB.out hx389_1
         replace hx389_2 := bc HB.out hx389_2
         have HR389_1 := Aside0.mk hi389_1
         have HC389_1 := Aside0.mk hl389_1
         clear hi389_1 hl389_1
         replace p389 := eq_true p389
         replace q389 := eq_true q389
         have p390 : 0 ≤ (a5 : Int) := od
         have q390 : a5 < (l1.length : Int) := od
         obtain ⟨ad390, e390, hx390_0⟩ := Kd.at_int HR1.out a5 p390 q390
         have hw390_0 := hx390_0
         cases e390
         replace hx390_0 := bc HB.out hx390_0
         replace p390 := eq_true p390
         replace q390 := eq_true q390
         have p391 : 0 ≤ ((rd l1 a5) : Int) := od
         have q391 : (rd l1 a5) < (((rd_T33 l0_0 a4).f1).length : Int) := od
         obtain ⟨ad391, e391, hx391_0⟩ := Kd.at_int HR389_1.out (rd l1 a5) p391 q391
         have hw391_0 := hx391_0
         cases e391
         replace hx391_0 := bc HB.out hx391_0
         replace p391 := eq_true p391
         replace q391 := eq_true q391
         refine start_ (n := 29) (S := fun w' => w'.cell? ⟨gb388, 0, none⟩ = some (.slice (some ad389) l0_0.length c0_0) ∧ w'.cell? ⟨gb388, 1, none⟩ = some (.slice A0_1 l0_1.length c0_1) ∧ w'.cell? ⟨gb388, 2, none⟩ = some (.int .i64 a0_2) ∧ w'.cell? (ad389.add ((a4).toNat * 3)) = some (.int .i64 ((rd_T33 l0_0 a4).f0)) ∧ w'.cell? ⟨(ad389.add ((a4).toNat * 3)).block, (ad389.add ((a4).toNat * 3)).off + 1, none⟩ = some (.slice (some ad391) ((rd_T33 l0_0 a4).f1).length c389_1) ∧ w'.cell? ⟨(ad389.add ((a4).toNat * 3)).block, (ad389.add ((a4).toNat * 3)).off + 2, none⟩ = some (.int .i64 ((rd_T33 l0_0 a4).f2)) ∧ w'.cell? (ad390.add (a5).toNat) = some (.int .i64 (rd l1 a5)) ∧ w'.cell? (ad391.add ((rd l1 a5)).toNat) = some (.int .i64 (rd ((rd_T33 l0_0 a4).f1) (rd l1 a5)))) (ds := []) #[ff,ff,ff,ff,ff,ff,ff,ff,ff,ff,ff,ff,ff,ff,ff,ff,ff,ff,ff,ff,ff,ff,ff,ff,ff,ff,ff,ff,ff] (by kernel_rfl) rfl rfl ⟨(blk_cell BK388.out 0).trans rfl, (blk_cell BK388.out 1).trans rfl, (blk_cell BK388.out 2).trans rfl, (bc HB.out hw389_0), (bc HB.out hw389_1), (bc HB.out hw389_2), (bc HB.out hw390_0), (bc HB.out hw391_0)⟩ (fun hHeld => ?_); refine with_tabW emendateref36_step.tab2 emendateref36_step.bits2 (fun HT_ HW_ => ?_)
         generalize w9.drew = w18 at BK388 HB HR389_1 hx389_0 hx389_1 hx389_2 hx390_0 hx391_0 hHeld ⊢
         refine pu 0 20 ?_
         refine pu 1 21 ?_
         refine pu 2 22 ?_
         refine pu 3 23 ?_
         refine pu 4 24 ?_
         refine pu 5 25 ?_
         refine pu 6 26 ?_
         refine pu 7 27 ?_
         refine pu 8 28 ?_
         refine pu 9 29 ?_
         refine pu 10 30 ?_
         refine pu 11 31 ?_
         refine pu 12 32 ?_
         refine pu 13 33 ?_
         refine pu 14 34 ?_
         refine pu 16 36 ?_
         refine pu 20 40 ?_
         refine pu 21 41 ?_
         refine pu 22 42 ?_
         refine tu 15 35 hHeld ?_
         refine pu 17 37 ?_
         refine pu 18 38 ?_
         refine tu 19 39 hHeld ?_
         refine tu 23 43 hHeld ?_
         refine pu 24 44 ?_
         refine tu 25 45 hHeld ?_
         refine pu 26 46 ?_
         refine pu 27 47 ?_
         refine pu 28 19 ?_
         refine done_ (done_of HT_.out (by kernel_rfl)) ?_
         try go_wp2
         go_meet
         case rel => exact ⟨_, (decide ((rd ((rd_T33 l0_0 a4).f1) (rd l1 a5)) ≥ 0)), rr, H', ⟨by first | omega | exact Nat.le_refl _⟩, ⟨by (with_reducible repeat (first | refine blk_drewN ?_ _ | refine blk_drew ?_ | refine blk_alloc ?_ _)); exact BK388.out⟩, ⟨pb HB.out GE388.out⟩⟩
        ·
         rw [if_neg c17] at H
         exact absurd H (by simp)
       ·
        rw [if_neg c16] at H
        exact absurd H (by simp)
      ·
       rw [if_neg c15] at H
       exact absurd H (by simp)
     ·
      rw [if_neg c14] at H
      exact absurd H (by simp)
    ·
     rw [if_neg c13] at H
     have c13b0 : decide (a5 < (l1.length : Int)) = false := decide_eq_false c13
     clear c13
     have H' := Aside0.mk H
     clear H
     try go_wp2
     replace BK388 := Aside0.mk (blk_drew BK388.out)
     replace HB := Aside0.mk (below_drew1 HB.out)
     refine start_ (n := 29) (S := fun w' => True) (ds := []) #[ff,ff,ff,ff,ff,ff,ff,ff,ff,ff,ff,ff,ff,ff,ff,ff,ff,ff,ff,ff,ff,ff,ff,ff,ff,ff,ff,ff,ff] (by kernel_rfl) rfl rfl trivial (fun hHeld => ?_); refine with_tabW emendateref36_step.tab2 emendateref36_step.bits2 (fun HT_ HW_ => ?_)
     generalize w9.drew = w19 at BK388 HB hHeld ⊢
     refine pu 0 20 ?_
     refine pu 1 21 ?_
     refine pu 2 22 ?_
     refine pu 3 23 ?_
     refine pu 4 24 ?_
     refine pu 5 25 ?_
     refine pu 6 26 ?_
     refine pu 7 27 ?_
     refine pu 8 28 ?_
     refine pu 9 29 ?_
     refine pu 10 30 ?_
     refine pu 11 31 ?_
     refine pu 12 32 ?_
     refine pu 13 33 ?_
     refine qu 14 34 ?_
     refine qu 15 35 ?_
     refine qu 16 36 ?_
     refine qu 17 37 ?_
     refine qu 18 38 ?_
     refine qu 19 39 ?_
     refine qu 20 40 ?_
     refine qu 21 41 ?_
     refine qu 22 42 ?_
     refine qu 23 43 ?_
     refine qu 24 44 ?_
     refine qu 25 45 ?_
     refine qu 26 46 ?_
     refine pu 27 47 ?_
     refine pu 28 19 ?_
     refine done_ (done_of HT_.out (by kernel_rfl)) ?_
     try go_wp2
     go_meet
     case rel => exact ⟨_, (false), rr, H', ⟨by first | omega | exact Nat.le_refl _⟩, ⟨by (with_reducible repeat (first | refine blk_drewN ?_ _ | refine blk_drew ?_ | refine blk_alloc ?_ _)); exact BK388.out⟩, ⟨pb HB.out GE388.out⟩⟩
   ·
    rw [if_neg c12] at H
    have c12b0 : decide (a4 < (l0_0.length : Int)) = false := decide_eq_false c12
    clear c12
    have H' := Aside0.mk H
    clear H
    try go_wp2
    replace BK388 := Aside0.mk (blk_drew BK388.out)
    replace HB := Aside0.mk (below_drew1 HB.out)
    refine start_ (n := 29) (S := fun w' => True) (ds := []) #[ff,ff,ff,ff,ff,ff,ff,ff,ff,ff,ff,ff,ff,ff,ff,ff,ff,ff,ff,ff,ff,ff,ff,ff,ff,ff,ff,ff,ff] (by kernel_rfl) rfl rfl trivial (fun hHeld => ?_); refine with_tabW emendateref36_step.tab2 emendateref36_step.bits2 (fun HT_ HW_ => ?_)
    generalize w9.drew = w20 at BK388 HB hHeld ⊢
    refine pu 0 20 ?_
    refine pu 1 21 ?_
    refine pu 2 22 ?_
    refine pu 3 23 ?_
    refine pu 4 24 ?_
    refine pu 5 25 ?_
    refine pu 6 26 ?_
    refine pu 7 27 ?_
    refine qu 8 28 ?_
    refine qu 9 29 ?_
    refine qu 10 30 ?_
    refine qu 11 31 ?_
    refine pu 12 32 ?_
    refine pu 13 33 ?_
    refine qu 14 34 ?_
    refine qu 15 35 ?_
    refine qu 16 36 ?_
    refine qu 17 37 ?_
    refine qu 18 38 ?_
    refine qu 19 39 ?_
    refine qu 20 40 ?_
    refine qu 21 41 ?_
    refine qu 22 42 ?_
    refine qu 23 43 ?_
    refine qu 24 44 ?_
    refine qu 25 45 ?_
    refine qu 26 46 ?_
    refine pu 27 47 ?_
    refine pu 28 19 ?_
    refine done_ (done_of HT_.out (by kernel_rfl)) ?_
    try go_wp2
    go_meet
    case rel => exact ⟨_, (false), rr, H', ⟨by first | omega | exact Nat.le_refl _⟩, ⟨by (with_reducible repeat (first | refine blk_drewN ?_ _ | refine blk_drew ?_ | refine blk_alloc ?_ _)); exact BK388.out⟩, ⟨pb HB.out GE388.out⟩⟩
  ·
   rw [if_neg c11] at H
   have c11b0 : (a6 == 1) = false := beq_eq_false_iff_ne.mpr c11
   have c11b1 : (a6 != 1) = true := bne_iff_ne.mpr c11
   (first | rw [c11b0] | (simp only [i64_w, i32_w]; rw [c11b0]) | skip)
   have H' := Aside0.mk H
   clear H
   try go_wp2
   replace BK388 := Aside0.mk (blk_drew BK388.out)
   replace HB := Aside0.mk (below_drew1 HB.out)
   refine start_ (n := 29) (S := fun w' => True) (ds := []) #[ff,ff,ff,ff,ff,ff,ff,ff,ff,ff,ff,ff,ff,ff,ff,ff,ff,ff,ff,ff,ff,ff,ff,ff,ff,ff,ff,ff,ff] (by kernel_rfl) rfl rfl trivial (fun hHeld => ?_); refine with_tabW emendateref36_step.tab2 emendateref36_step.bits2 (fun HT_ HW_ => ?_)
   generalize w9.drew = w21 at BK388 HB hHeld ⊢
   refine pu 0 20 ?_
   refine pu 1 21 ?_
   refine pu 2 22 ?_
   refine qu 3 23 ?_
   refine qu 4 24 ?_
   refine qu 5 25 ?_
   refine pu 6 26 ?_
   refine pu 7 27 ?_
   refine qu 8 28 ?_
   refine qu 9 29 ?_
   refine qu 10 30 ?_
   refine qu 11 31 ?_
   refine pu 12 32 ?_
   refine pu 13 33 ?_
   refine qu 14 34 ?_
   refine qu 15 35 ?_
   refine qu 16 36 ?_
   refine qu 17 37 ?_
   refine qu 18 38 ?_
   refine qu 19 39 ?_
   refine qu 20 40 ?_
   refine qu 21 41 ?_
   refine qu 22 42 ?_
   refine qu 23 43 ?_
   refine qu 24 44 ?_
   refine qu 25 45 ?_
   refine qu 26 46 ?_
   refine pu 27 47 ?_
   refine pu 28 19 ?_
   refine done_ (done_of HT_.out (by kernel_rfl)) ?_
   try go_wp2
   go_meet
   case rel => exact ⟨_, (false), rr, H', ⟨by first | omega | exact Nat.le_refl _⟩, ⟨by (with_reducible repeat (first | refine blk_drewN ?_ _ | refine blk_drew ?_ | refine blk_alloc ?_ _)); exact BK388.out⟩, ⟨pb HB.out GE388.out⟩⟩
 case rest => as_aux_lemma =>
  clear HC8
  try clear c1
  obtain ⟨kq, x19_7, rfl, HA, HJ7, BK388, HB⟩ := hcut
  cases kq with
  | zero => exact absurd HA.out (by simp [emendateref36_step.j0])
  | succ kj7 =>
   have H := HA.out
   clear HA
   simp only [emendateref36_step.j0] at H
   by_cases c22 : x19_7 = true
   ·
    subst c22
    have H1 : (if 0 ≤ a4 then (if a4 < (l0_0.length : Int) then (if 0 ≤ a5 then (if a5 < (l1.length : Int) then (if 0 ≤ (rd l1 a5) then (if (rd l1 a5) < (((rd_T33 l0_0 a4).f1).length : Int) then (if 0 ≤ (wrap64 ((wrap64 ((wrap64 ((wrap64 (a4 + 1)) * a3)) + a5)) + 1)) then (if (wrap64 ((wrap64 ((wrap64 ((wrap64 (a4 + 1)) * a3)) + a5)) + 1)) < (l2.length : Int) then ((emendateref36_plus.f (rd ((rd_T33 l0_0 a4).f1) (rd l1 a5)) (rd l2 (wrap64 ((wrap64 ((wrap64 ((wrap64 (a4 + 1)) * a3)) + a5)) + 1)))).bind fun t396 => (some t396)) else (none)) else (none)) else (none)) else (none)) else (none)) else (none)) else (none)) else (none)) = some r := by rw [if_pos rfl] at H; exact H
    clear H
    have H := H1
    clear H1
    by_cases c23 : 0 ≤ a4
    ·
     rw [if_pos c23] at H
     have c23b0 : decide (0 ≤ a4) = true := decide_eq_true c23
     clear c23
     by_cases c24 : a4 < (l0_0.length : Int)
     ·
      rw [if_pos c24] at H
      have c24b0 : decide (a4 < (l0_0.length : Int)) = true := decide_eq_true c24
      clear c24
      by_cases c25 : 0 ≤ a5
      ·
       rw [if_pos c25] at H
       have c25b0 : decide (0 ≤ a5) = true := decide_eq_true c25
       clear c25
       by_cases c26 : a5 < (l1.length : Int)
       ·
        rw [if_pos c26] at H
        have c26b0 : decide (a5 < (l1.length : Int)) = true := decide_eq_true c26
        clear c26
        by_cases c27 : 0 ≤ (rd l1 a5)
        ·
         rw [if_pos c27] at H
         have c27b0 : decide (0 ≤ (rd l1 a5)) = true := decide_eq_true c27
         clear c27
         by_cases c28 : (rd l1 a5) < (((rd_T33 l0_0 a4).f1).length : Int)
         ·
          rw [if_pos c28] at H
          have c28b0 : decide ((rd l1 a5) < (((rd_T33 l0_0 a4).f1).length : Int)) = true := decide_eq_true c28
          clear c28
          obtain ⟨ji29, hji29⟩ : ∃ j_ : Int, (wrap64 ((wrap64 ((wrap64 ((wrap64 (a4 + 1)) * a3)) + a5)) + 1)) = j_ := ⟨_, rfl⟩
          replace H : (if 0 ≤ (ji29) then (if (ji29) < (l2.length : Int) then ((emendateref36_plus.f (rd ((rd_T33 l0_0 a4).f1) (rd l1 a5)) (rd l2 (ji29))).bind fun t396 => (some t396)) else (none)) else (none)) = some r := by first | (rw [hji29] at H; exact H) | (simp only [hji29] at H ⊢; exact H)
          have hji29w : (IntKind.i64.wrap ((wrap64 ((wrap64 ((wrap64 (a4 + 1)) * a3)) + a5)) + 1)) = ji29 := (i64_w _).trans hji29
          by_cases c30 : 0 ≤ (ji29)
          ·
           rw [if_pos c30] at H
           have c30b0 : decide (0 ≤ (ji29)) = true := decide_eq_true c30
           clear c30
           by_cases c31 : (ji29) < (l2.length : Int)
           ·
            rw [if_pos c31] at H
            have c31b0 : decide ((ji29) < (l2.length : Int)) = true := decide_eq_true c31
            clear c31
            replace H := Option.bind_eq_some_iff.mp H
            obtain ⟨t396, A320, H⟩ := H
            replace H : (some t396) = some r := H
            have A32 := Aside0.mk A320
            clear A320
            obtain rfl := Option.some.inj H
            try go_wp2
            replace BK388 := Aside0.mk (blk_drew BK388.out)
            replace HB := Aside0.mk (below_drew1 HB.out)
            have p392 : 0 ≤ (a4 : Int) := od
            have q392 : a4 < (l0_0.length : Int) := od
            obtain ⟨ad392, A392_1, c392_1, e392, hx392_0, hx392_1, hx392_2, hl392_1, hi392_1⟩ := at_T33 HR0_0.out a4 p392 q392
            have hw392_2 := hx392_2
            have hw392_1 := hx392_1
            have hw392_0 := hx392_0
            cases e392
            replace hx392_0 := bc HB.out hx392_0
            replace hx392_1 := bc HB.out hx392_1
            replace hx392_2 := bc HB.out hx392_2
            have HR392_1 := Aside0.mk hi392_1
            have HC392_1 := Aside0.mk hl392_1
            clear hi392_1 hl392_1
            replace p392 := eq_true p392
            replace q392 := eq_true q392
            have p393 : 0 ≤ (a5 : Int) := od
            have q393 : a5 < (l1.length : Int) := od
            obtain ⟨ad393, e393, hx393_0⟩ := Kd.at_int HR1.out a5 p393 q393
            have hw393_0 := hx393_0
            cases e393
            replace hx393_0 := bc HB.out hx393_0
            replace p393 := eq_true p393
            replace q393 := eq_true q393
            have p394 : 0 ≤ ((rd l1 a5) : Int) := od
            have q394 : (rd l1 a5) < (((rd_T33 l0_0 a4).f1).length : Int) := od
            obtain ⟨ad394, e394, hx394_0⟩ := Kd.at_int HR392_1.out (rd l1 a5) p394 q394
            have hw394_0 := hx394_0
            cases e394
            replace hx394_0 := bc HB.out hx394_0
            replace p394 := eq_true p394
            replace q394 := eq_true q394
            have p395 : 0 ≤ ((ji29) : Int) := od
            have q395 : (ji29) < (l2.length : Int) := od
            obtain ⟨ad395, e395, hx395_0⟩ := Kd.at_int HR2.out (ji29) p395 q395
            have hw395_0 := hx395_0
            cases e395
            replace hx395_0 := bc HB.out hx395_0
            replace p395 := eq_true p395
            replace q395 := eq_true q395
            refine start_ (n := 24) (S := fun w' => w'.cell? ⟨gb388, 0, none⟩ = some (.slice (some ad392) l0_0.length c0_0) ∧ w'.cell? ⟨gb388, 1, none⟩ = some (.slice A0_1 l0_1.length c0_1) ∧ w'.cell? ⟨gb388, 2, none⟩ = some (.int .i64 a0_2) ∧ w'.cell? (ad392.add ((a4).toNat * 3)) = some (.int .i64 ((rd_T33 l0_0 a4).f0)) ∧ w'.cell? ⟨(ad392.add ((a4).toNat * 3)).block, (ad392.add ((a4).toNat * 3)).off + 1, none⟩ = some (.slice (some ad394) ((rd_T33 l0_0 a4).f1).length c392_1) ∧ w'.cell? ⟨(ad392.add ((a4).toNat * 3)).block, (ad392.add ((a4).toNat * 3)).off + 2, none⟩ = some (.int .i64 ((rd_T33 l0_0 a4).f2)) ∧ w'.cell? (ad393.add (a5).toNat) = some (.int .i64 (rd l1 a5)) ∧ w'.cell? (ad394.add ((rd l1 a5)).toNat) = some (.int .i64 (rd ((rd_T33 l0_0 a4).f1) (rd l1 a5))) ∧ w'.cell? (ad395.add ((ji29)).toNat) = some (.int .i64 (rd l2 (ji29)))) (ds := []) #[ff,ff,ff,ff,ff,ff,ff,ff,ff,ff,ff,ff,ff,ff,ff,ff,ff,ff,ff,ff,ff,ff,ff,ff] (by kernel_rfl) rfl rfl ⟨(blk_cell BK388.out 0).trans rfl, (blk_cell BK388.out 1).trans rfl, (blk_cell BK388.out 2).trans rfl, (bc HB.out hw392_0), (bc HB.out hw392_1), (bc HB.out hw392_2), (bc HB.out hw393_0), (bc HB.out hw394_0), (bc HB.out hw395_0)⟩ (fun hHeld => ?_); refine with_tabW emendateref36_step.tab3 emendateref36_step.bits3 (fun HT_ HW_ => ?_)
            generalize wc.drew = w33 at BK388 HB HR392_1 hx392_0 hx392_1 hx392_2 hx393_0 hx394_0 hx395_0 hHeld ⊢
            refine pu 0 48 ?_
            refine pu 2 50 ?_
            refine pu 6 54 ?_
            refine pu 7 55 ?_
            refine pu 8 56 ?_
            refine pu 12 60 ?_
            refine pu 13 61 ?_
            refine pu 14 62 ?_
            refine pu 15 63 ?_
            refine pu 16 64 ?_
            refine pu 17 65 ?_
            refine pu 18 66 ?_
            refine pu 19 67 ?_
            refine pu 20 68 ?_
            refine tu 1 49 hHeld ?_
            refine pu 3 51 ?_
            refine pu 4 52 ?_
            refine tu 5 53 hHeld ?_
            refine tu 9 57 hHeld ?_
            refine pu 10 58 ?_
            refine tu 11 59 hHeld ?_
            refine tu 21 69 hHeld ?_
            refine one_ (i := 22) (N := some 70) #[tt,tt,tt,tt,tt,tt,tt,tt,tt,tt,tt,tt,tt,tt,tt,tt,tt,tt,tt,tt,tt,tt,tt,ff] rfl rfl (one_of HT_.out (by kernel_rfl)) (by decide) (fun K hK => ?_)
            refine goes_ Tryd.func33 (by kernel_rfl) rfl #[.int .i64 (rd ((rd_T33 l0_0 a4).f1) (rd l1 a5)), .int .i64 (rd l2 (ji29))] (by rfl) rfl rfl (by (try simp only [List.map_toArray, List.map_cons, List.map_nil]); first | done | (simp only [hji29]; rfl) | rfl | (simp only [List.length_drop, List.length_take]; rfl)) ?_
            with_reducible refine (emendateref36_plus.calls (rd ((rd_T33 l0_0 a4).f1) (rd l1 a5)) (rd l2 (ji29)) t396 _ A32.out).mono ?_
            rintro e w34 ⟨rfl, hb⟩
            refine ⟨_, rfl, ?_⟩
            replace BK388 := Aside0.mk (bb BK388.out hb)
            replace HB := Aside0.mk (below_step (pb HB.out GE388.out) hb)
            (try clear hb)
            refine hK.out _ _ ⟨(blk_cell BK388.out 0).trans rfl, (blk_cell BK388.out 1).trans rfl, (blk_cell BK388.out 2).trans rfl, (bc HB.out hw392_0), (bc HB.out hw392_1), (bc HB.out hw392_2), (bc HB.out hw393_0), (bc HB.out hw394_0), (bc HB.out hw395_0)⟩ (fun hHeld => ?_)
            clear hK K
            refine norm_ (a' := ?_) ?_ ?_
            rotate_left
            ·
             show Act.put _ (some 70) _ = _
             simp only [nrm]
             rfl
            refine pu 23 14 ?_
            refine done_ (done_of HT_.out (by kernel_rfl)) ?_
            try go_wp2
            go_ret
            exact ⟨by first | rfl | (simp [errW_none, errW_some] <;> rfl) | (simp only [← hji29]; first | rfl | (simp [errW_none, errW_some] <;> rfl)) | (simp [*, errW_none, errW_some] <;> rfl), pb HB.out GE388.out⟩
           ·
            rw [if_neg c31] at H
            exact absurd H (by simp)
          ·
           rw [if_neg c30] at H
           exact absurd H (by simp)
         ·
          rw [if_neg c28] at H
          exact absurd H (by simp)
        ·
         rw [if_neg c27] at H
         exact absurd H (by simp)
       ·
        rw [if_neg c26] at H
        exact absurd H (by simp)
      ·
       rw [if_neg c25] at H
       exact absurd H (by simp)
     ·
      rw [if_neg c24] at H
      exact absurd H (by simp)
    ·
     rw [if_neg c23] at H
     exact absurd H (by simp)
   ·
    replace c22 := Bool.eq_false_iff.mpr c22
    subst c22
    have H1 : (if a6 = 2 then (emendateref36_step.j1 kj7 l1 l2 a3 a4 a5 a6 (decide (a4 < (l0_0.length : Int))) l0_0 l0_1 a0_2) else (emendateref36_step.j1 kj7 l1 l2 a3 a4 a5 a6 false l0_0 l0_1 a0_2)) = some r := by rw [if_neg (show ¬ (false = true) by decide)] at H; exact H
    clear H
    have H := H1
    clear H1
    have HC35 := Aside0.mk H
    clear H
    go_upto_region 4 with (fail)
    go_cut [71] (fun v71 wc => ∃ (kq : Nat) (x71_34 : Bool), v71 = .bool x71_34 ∧ Aside0 (emendateref36_step.j1 kq l1 l2 a3 a4 a5 a6 x71_34 l0_0 l0_1 a0_2 = some r) ∧ Aside0 (kq ≤ kj7) ∧ Aside0 (wc.heap[gb388]? = some (.cells #[(.slice A0_0 l0_0.length c0_0), (.slice A0_1 l0_1.length c0_1), .int .i64 a0_2] 25 (0, 0))) ∧ Aside0 (Below w.heap.size w wc))
    case first => as_aux_lemma =>
     have H := HC35.out
     clear HC35
     by_cases c36 : a6 = 2
     ·
      rw [if_pos c36] at H
      have c36b0 : (a6 == 2) = true := beq_iff_eq.mpr c36
      have c36b1 : (a6 != 2) = false := bne_eq_false_iff_eq.mpr c36
      clear c36
      (first | rw [c36b0] | (simp only [i64_w, i32_w]; rw [c36b0]) | skip)
      have H' := Aside0.mk H
      clear H
      go_wp2
      go_meet
      case rel => exact ⟨_, (decide (a4 < (l0_0.length : Int))), rr, H', ⟨by have := HJ7.out; first | omega | exact Nat.le_refl _⟩, ⟨by (with_reducible repeat (first | refine blk_drewN ?_ _ | refine blk_drew ?_ | refine blk_alloc ?_ _)); exact BK388.out⟩, ⟨pb HB.out GE388.out⟩⟩
     ·
      rw [if_neg c36] at H
      have c36b0 : (a6 == 2) = false := beq_eq_false_iff_ne.mpr c36
      have c36b1 : (a6 != 2) = true := bne_iff_ne.mpr c36
      (first | rw [c36b0] | (simp only [i64_w, i32_w]; rw [c36b0]) | skip)
      have H' := Aside0.mk H
      clear H
      go_wp2
      go_meet
      case rel => exact ⟨_, (false), rr, H', ⟨by have := HJ7.out; first | omega | exact Nat.le_refl _⟩, ⟨by (with_reducible repeat (first | refine blk_drewN ?_ _ | refine blk_drew ?_ | refine blk_alloc ?_ _)); exact BK388.out⟩, ⟨pb HB.out GE388.out⟩⟩
    case rest => as_aux_lemma =>
     clear HC35
     try clear c1
     try clear c2
     try clear c22
     obtain ⟨kq, x71_34, rfl, HA, HJ34, BK388, HB⟩ := hcut
     cases kq with
     | zero => exact absurd HA.out (by simp [emendateref36_step.j1])
     | succ kj34 =>
      have H := HA.out
      clear HA
      simp only [emendateref36_step.j1] at H
      by_cases c37 : x71_34 = true
      ·
       subst c37
       have H1 : (if 0 ≤ a4 then (if a4 < (l0_0.length : Int) then (if 0 ≤ (wrap64 ((wrap64 ((wrap64 (a4 + 1)) * a3)) + a5)) then (if (wrap64 ((wrap64 ((wrap64 (a4 + 1)) * a3)) + a5)) < (l2.length : Int) then ((emendateref36_plus.f ((rd_T33 l0_0 a4).f2) (rd l2 (wrap64 ((wrap64 ((wrap64 (a4 + 1)) * a3)) + a5)))).bind fun t399 => (some t399)) else (none)) else (none)) else (none)) else (none)) = some r := by rw [if_pos rfl] at H; exact H
       clear H
       have H := H1
       clear H1
       by_cases c38 : 0 ≤ a4
       ·
        rw [if_pos c38] at H
        have c38b0 : decide (0 ≤ a4) = true := decide_eq_true c38
        clear c38
        by_cases c39 : a4 < (l0_0.length : Int)
        ·
         rw [if_pos c39] at H
         have c39b0 : decide (a4 < (l0_0.length : Int)) = true := decide_eq_true c39
         clear c39
         obtain ⟨ji40, hji40⟩ : ∃ j_ : Int, (wrap64 ((wrap64 ((wrap64 (a4 + 1)) * a3)) + a5)) = j_ := ⟨_, rfl⟩
         replace H : (if 0 ≤ (ji40) then (if (ji40) < (l2.length : Int) then ((emendateref36_plus.f ((rd_T33 l0_0 a4).f2) (rd l2 (ji40))).bind fun t399 => (some t399)) else (none)) else (none)) = some r := by first | (rw [hji40] at H; exact H) | (simp only [hji40] at H ⊢; exact H)
         have hji40w : (IntKind.i64.wrap ((wrap64 ((wrap64 (a4 + 1)) * a3)) + a5)) = ji40 := (i64_w _).trans hji40
         by_cases c41 : 0 ≤ (ji40)
         ·
          rw [if_pos c41] at H
          have c41b0 : decide (0 ≤ (ji40)) = true := decide_eq_true c41
          clear c41
          by_cases c42 : (ji40) < (l2.length : Int)
          ·
           rw [if_pos c42] at H
           have c42b0 : decide ((ji40) < (l2.length : Int)) = true := decide_eq_true c42
           clear c42
           replace H := Option.bind_eq_some_iff.mp H
           obtain ⟨t399, A430, H⟩ := H
           replace H : (some t399) = some r := H
           have A43 := Aside0.mk A430
           clear A430
           obtain rfl := Option.some.inj H
           try go_wp2
           replace BK388 := Aside0.mk (blk_drew BK388.out)
           replace HB := Aside0.mk (below_drew1 HB.out)
           have p397 : 0 ≤ (a4 : Int) := od
           have q397 : a4 < (l0_0.length : Int) := od
           obtain ⟨ad397, A397_1, c397_1, e397, hx397_0, hx397_1, hx397_2, hl397_1, hi397_1⟩ := at_T33 HR0_0.out a4 p397 q397
           have hw397_2 := hx397_2
           have hw397_1 := hx397_1
           have hw397_0 := hx397_0
           cases e397
           replace hx397_0 := bc HB.out hx397_0
           replace hx397_1 := bc HB.out hx397_1
           replace hx397_2 := bc HB.out hx397_2
           have HR397_1 := Aside0.mk hi397_1
           have HC397_1 := Aside0.mk hl397_1
           clear hi397_1 hl397_1
           replace p397 := eq_true p397
           replace q397 := eq_true q397
           have p398 : 0 ≤ ((ji40) : Int) := od
           have q398 : (ji40) < (l2.length : Int) := od
           obtain ⟨ad398, e398, hx398_0⟩ := Kd.at_int HR2.out (ji40) p398 q398
           have hw398_0 := hx398_0
           cases e398
           replace hx398_0 := bc HB.out hx398_0
           replace p398 := eq_true p398
           replace q398 := eq_true q398
           refine start_ (n := 17) (S := fun w' => w'.cell? ⟨gb388, 0, none⟩ = some (.slice (some ad397) l0_0.length c0_0) ∧ w'.cell? ⟨gb388, 1, none⟩ = some (.slice A0_1 l0_1.length c0_1) ∧ w'.cell? ⟨gb388, 2, none⟩ = some (.int .i64 a0_2) ∧ w'.cell? (ad397.add ((a4).toNat * 3)) = some (.int .i64 ((rd_T33 l0_0 a4).f0)) ∧ w'.cell? ⟨(ad397.add ((a4).toNat * 3)).block, (ad397.add ((a4).toNat * 3)).off + 1, none⟩ = some (.slice A397_1 ((rd_T33 l0_0 a4).f1).length c397_1) ∧ w'.cell? ⟨(ad397.add ((a4).toNat * 3)).block, (ad397.add ((a4).toNat * 3)).off + 2, none⟩ = some (.int .i64 ((rd_T33 l0_0 a4).f2)) ∧ w'.cell? (ad398.add ((ji40)).toNat) = some (.int .i64 (rd l2 (ji40)))) (ds := []) #[ff,ff,ff,ff,ff,ff,ff,ff,ff,ff,ff,ff,ff,ff,ff,ff,ff] (by kernel_rfl) rfl rfl ⟨(blk_cell BK388.out 0).trans rfl, (blk_cell BK388.out 1).trans rfl, (blk_cell BK388.out 2).trans rfl, (bc HB.out hw397_0), (bc HB.out hw397_1), (bc HB.out hw397_2), (bc HB.out hw398_0)⟩ (fun hHeld => ?_); refine with_tabW emendateref36_step.tab5 emendateref36_step.bits5 (fun HT_ HW_ => ?_)
           generalize wc.drew = w44 at BK388 HB HR397_1 hx397_0 hx397_1 hx397_2 hx398_0 hHeld ⊢
           refine pu 0 79 ?_
           refine pu 2 81 ?_
           refine pu 6 85 ?_
           refine pu 7 86 ?_
           refine pu 8 87 ?_
           refine pu 9 88 ?_
           refine pu 10 89 ?_
           refine pu 11 90 ?_
           refine pu 12 91 ?_
           refine pu 13 92 ?_
           refine tu 1 80 hHeld ?_
           refine pu 3 82 ?_
           refine pu 4 83 ?_
           refine tu 5 84 hHeld ?_
           refine tu 14 93 hHeld ?_
           refine one_ (i := 15) (N := some 94) #[tt,tt,tt,tt,tt,tt,tt,tt,tt,tt,tt,tt,tt,tt,tt,tt,ff] rfl rfl (one_of HT_.out (by kernel_rfl)) (by decide) (fun K hK => ?_)
           refine goes_ Tryd.func33 (by kernel_rfl) rfl #[.int .i64 ((rd_T33 l0_0 a4).f2), .int .i64 (rd l2 (ji40))] (by rfl) rfl rfl (by (try simp only [List.map_toArray, List.map_cons, List.map_nil]); first | done | (simp only [hji40]; rfl) | rfl | (simp only [List.length_drop, List.length_take]; rfl)) ?_
           with_reducible refine (emendateref36_plus.calls ((rd_T33 l0_0 a4).f2) (rd l2 (ji40)) t399 _ A43.out).mono ?_
           rintro e w45 ⟨rfl, hb⟩
           refine ⟨_, rfl, ?_⟩
           replace BK388 := Aside0.mk (bb BK388.out hb)
           replace HB := Aside0.mk (below_step (pb HB.out GE388.out) hb)
           (try clear hb)
           refine hK.out _ _ ⟨(blk_cell BK388.out 0).trans rfl, (blk_cell BK388.out 1).trans rfl, (blk_cell BK388.out 2).trans rfl, (bc HB.out hw397_0), (bc HB.out hw397_1), (bc HB.out hw397_2), (bc HB.out hw398_0)⟩ (fun hHeld => ?_)
           clear hK K
           refine norm_ (a' := ?_) ?_ ?_
           rotate_left
           ·
            show Act.put _ (some 94) _ = _
            simp only [nrm]
            rfl
           refine pu 16 14 ?_
           refine done_ (done_of HT_.out (by kernel_rfl)) ?_
           try go_wp2
           go_ret
           exact ⟨by first | rfl | (simp [errW_none, errW_some] <;> rfl) | (simp only [← hji40]; first | rfl | (simp [errW_none, errW_some] <;> rfl)) | (simp [*, errW_none, errW_some] <;> rfl), pb HB.out GE388.out⟩
          ·
           rw [if_neg c42] at H
           exact absurd H (by simp)
         ·
          rw [if_neg c41] at H
          exact absurd H (by simp)
        ·
         rw [if_neg c39] at H
         exact absurd H (by simp)
       ·
        rw [if_neg c38] at H
        exact absurd H (by simp)
      ·
       replace c37 := Bool.eq_false_iff.mpr c37
       subst c37
       have H1 : (if a6 = 3 then (emendateref36_step.j2 kj34 l1 l2 a3 a4 a5 a6 (decide (a5 < (l1.length : Int))) l0_0 l0_1 a0_2) else (emendateref36_step.j2 kj34 l1 l2 a3 a4 a5 a6 false l0_0 l0_1 a0_2)) = some r := by rw [if_neg (show ¬ (false = true) by decide)] at H; exact H
       clear H
       have H := H1
       clear H1
       have HC46 := Aside0.mk H
       clear H
       go_upto_region 6 with (fail)
       go_cut [95] (fun v95 wc => ∃ (kq : Nat) (x95_45 : Bool), v95 = .bool x95_45 ∧ Aside0 (emendateref36_step.j2 kq l1 l2 a3 a4 a5 a6 x95_45 l0_0 l0_1 a0_2 = some r) ∧ Aside0 (kq ≤ kj34) ∧ Aside0 (wc.heap[gb388]? = some (.cells #[(.slice A0_0 l0_0.length c0_0), (.slice A0_1 l0_1.length c0_1), .int .i64 a0_2] 25 (0, 0))) ∧ Aside0 (Below w.heap.size w wc))
       case first => as_aux_lemma =>
        have H := HC46.out
        clear HC46
        by_cases c47 : a6 = 3
        ·
         rw [if_pos c47] at H
         have c47b0 : (a6 == 3) = true := beq_iff_eq.mpr c47
         have c47b1 : (a6 != 3) = false := bne_eq_false_iff_eq.mpr c47
         clear c47
         (first | rw [c47b0] | (simp only [i64_w, i32_w]; rw [c47b0]) | skip)
         have H' := Aside0.mk H
         clear H
         go_wp2
         go_meet
         case rel => exact ⟨_, (decide (a5 < (l1.length : Int))), rr, H', ⟨by have := HJ7.out; have := HJ34.out; first | omega | exact Nat.le_refl _⟩, ⟨by (with_reducible repeat (first | refine blk_drewN ?_ _ | refine blk_drew ?_ | refine blk_alloc ?_ _)); exact BK388.out⟩, ⟨pb HB.out GE388.out⟩⟩
        ·
         rw [if_neg c47] at H
         have c47b0 : (a6 == 3) = false := beq_eq_false_iff_ne.mpr c47
         have c47b1 : (a6 != 3) = true := bne_iff_ne.mpr c47
         (first | rw [c47b0] | (simp only [i64_w, i32_w]; rw [c47b0]) | skip)
         have H' := Aside0.mk H
         clear H
         go_wp2
         go_meet
         case rel => exact ⟨_, (false), rr, H', ⟨by have := HJ7.out; have := HJ34.out; first | omega | exact Nat.le_refl _⟩, ⟨by (with_reducible repeat (first | refine blk_drewN ?_ _ | refine blk_drew ?_ | refine blk_alloc ?_ _)); exact BK388.out⟩, ⟨pb HB.out GE388.out⟩⟩
       case rest => as_aux_lemma =>
        clear HC46
        try clear c1
        try clear c2
        try clear c22
        try clear c37
        obtain ⟨kq, x95_45, rfl, HA, HJ45, BK388, HB⟩ := hcut
        cases kq with
        | zero => exact absurd HA.out (by simp [emendateref36_step.j2])
        | succ kj45 =>
         have H := HA.out
         clear HA
         simp only [emendateref36_step.j2] at H
         by_cases c48 : x95_45 = true
         ·
          subst c48
          have H1 : (if 0 ≤ a5 then (if a5 < (l1.length : Int) then (if 0 ≤ (rd l1 a5) then (if (rd l1 a5) < (l0_1.length : Int) then (if 0 ≤ (wrap64 ((wrap64 ((wrap64 (a4 * a3)) + a5)) + 1)) then (if (wrap64 ((wrap64 ((wrap64 (a4 * a3)) + a5)) + 1)) < (l2.length : Int) then ((emendateref36_plus.f (rd l0_1 (rd l1 a5)) (rd l2 (wrap64 ((wrap64 ((wrap64 (a4 * a3)) + a5)) + 1)))).bind fun t403 => (some t403)) else (none)) else (none)) else (none)) else (none)) else (none)) else (none)) = some r := by rw [if_pos rfl] at H; exact H
          clear H
          have H := H1
          clear H1
          by_cases c49 : 0 ≤ a5
          ·
           rw [if_pos c49] at H
           have c49b0 : decide (0 ≤ a5) = true := decide_eq_true c49
           clear c49
           by_cases c50 : a5 < (l1.length : Int)
           ·
            rw [if_pos c50] at H
            have c50b0 : decide (a5 < (l1.length : Int)) = true := decide_eq_true c50
            clear c50
            by_cases c51 : 0 ≤ (rd l1 a5)
            ·
             rw [if_pos c51] at H
             have c51b0 : decide (0 ≤ (rd l1 a5)) = true := decide_eq_true c51
             clear c51
             by_cases c52 : (rd l1 a5) < (l0_1.length : Int)
             ·
              rw [if_pos c52] at H
              have c52b0 : decide ((rd l1 a5) < (l0_1.length : Int)) = true := decide_eq_true c52
              clear c52
              obtain ⟨ji53, hji53⟩ : ∃ j_ : Int, (wrap64 ((wrap64 ((wrap64 (a4 * a3)) + a5)) + 1)) = j_ := ⟨_, rfl⟩
              replace H : (if 0 ≤ (ji53) then (if (ji53) < (l2.length : Int) then ((emendateref36_plus.f (rd l0_1 (rd l1 a5)) (rd l2 (ji53))).bind fun t403 => (some t403)) else (none)) else (none)) = some r := by first | (rw [hji53] at H; exact H) | (simp only [hji53] at H ⊢; exact H)
              have hji53w : (IntKind.i64.wrap ((wrap64 ((wrap64 (a4 * a3)) + a5)) + 1)) = ji53 := (i64_w _).trans hji53
              by_cases c54 : 0 ≤ (ji53)
              ·
               rw [if_pos c54] at H
               have c54b0 : decide (0 ≤ (ji53)) = true := decide_eq_true c54
               clear c54
               by_cases c55 : (ji53) < (l2.length : Int)
               ·
                rw [if_pos c55] at H
                have c55b0 : decide ((ji53) < (l2.length : Int)) = true := decide_eq_true c55
                clear c55
                replace H := Option.bind_eq_some_iff.mp H
                obtain ⟨t403, A560, H⟩ := H
                replace H : (some t403) = some r := H
                have A56 := Aside0.mk A560
                clear A560
                obtain rfl := Option.some.inj H
                try go_wp2
                replace BK388 := Aside0.mk (blk_drew BK388.out)
                replace HB := Aside0.mk (below_drew1 HB.out)
                have p400 : 0 ≤ (a5 : Int) := od
                have q400 : a5 < (l1.length : Int) := od
                obtain ⟨ad400, e400, hx400_0⟩ := Kd.at_int HR1.out a5 p400 q400
                have hw400_0 := hx400_0
                cases e400
                replace hx400_0 := bc HB.out hx400_0
                replace p400 := eq_true p400
                replace q400 := eq_true q400
                have p401 : 0 ≤ ((rd l1 a5) : Int) := od
                have q401 : (rd l1 a5) < (l0_1.length : Int) := od
                obtain ⟨ad401, e401, hx401_0⟩ := Kd.at_int HR0_1.out (rd l1 a5) p401 q401
                have hw401_0 := hx401_0
                cases e401
                replace hx401_0 := bc HB.out hx401_0
                replace p401 := eq_true p401
                replace q401 := eq_true q401
                have p402 : 0 ≤ ((ji53) : Int) := od
                have q402 : (ji53) < (l2.length : Int) := od
                obtain ⟨ad402, e402, hx402_0⟩ := Kd.at_int HR2.out (ji53) p402 q402
                have hw402_0 := hx402_0
                cases e402
                replace hx402_0 := bc HB.out hx402_0
                replace p402 := eq_true p402
                replace q402 := eq_true q402
                refine start_ (n := 19) (S := fun w' => w'.cell? ⟨gb388, 0, none⟩ = some (.slice A0_0 l0_0.length c0_0) ∧ w'.cell? ⟨gb388, 1, none⟩ = some (.slice (some ad401) l0_1.length c0_1) ∧ w'.cell? ⟨gb388, 2, none⟩ = some (.int .i64 a0_2) ∧ w'.cell? (ad400.add (a5).toNat) = some (.int .i64 (rd l1 a5)) ∧ w'.cell? (ad401.add ((rd l1 a5)).toNat) = some (.int .i64 (rd l0_1 (rd l1 a5))) ∧ w'.cell? (ad402.add ((ji53)).toNat) = some (.int .i64 (rd l2 (ji53)))) (ds := []) #[ff,ff,ff,ff,ff,ff,ff,ff,ff,ff,ff,ff,ff,ff,ff,ff,ff,ff,ff] (by kernel_rfl) rfl rfl ⟨(blk_cell BK388.out 0).trans rfl, (blk_cell BK388.out 1).trans rfl, (blk_cell BK388.out 2).trans rfl, (bc HB.out hw400_0), (bc HB.out hw401_0), (bc HB.out hw402_0)⟩ (fun hHeld => ?_); refine with_tabW emendateref36_step.tab7 emendateref36_step.bits7 (fun HT_ HW_ => ?_)
                generalize wc.drew = w57 at BK388 HB hx400_0 hx401_0 hx402_0 hHeld ⊢
                refine pu 0 104 ?_
                refine pu 2 106 ?_
                refine pu 3 107 ?_
                refine pu 4 108 ?_
                refine pu 8 112 ?_
                refine pu 9 113 ?_
                refine pu 10 114 ?_
                refine pu 11 115 ?_
                refine pu 12 116 ?_
                refine pu 13 117 ?_
                refine pu 14 118 ?_
                refine pu 15 119 ?_
                refine tu 1 105 hHeld ?_
                refine tu 5 109 hHeld ?_
                refine pu 6 110 ?_
                refine tu 7 111 hHeld ?_
                refine tu 16 120 hHeld ?_
                refine one_ (i := 17) (N := some 121) #[tt,tt,tt,tt,tt,tt,tt,tt,tt,tt,tt,tt,tt,tt,tt,tt,tt,tt,ff] rfl rfl (one_of HT_.out (by kernel_rfl)) (by decide) (fun K hK => ?_)
                refine goes_ Tryd.func33 (by kernel_rfl) rfl #[.int .i64 (rd l0_1 (rd l1 a5)), .int .i64 (rd l2 (ji53))] (by rfl) rfl rfl (by (try simp only [List.map_toArray, List.map_cons, List.map_nil]); first | done | (simp only [hji53]; rfl) | rfl | (simp only [List.length_drop, List.length_take]; rfl)) ?_
                with_reducible refine (emendateref36_plus.calls (rd l0_1 (rd l1 a5)) (rd l2 (ji53)) t403 _ A56.out).mono ?_
                rintro e w58 ⟨rfl, hb⟩
                refine ⟨_, rfl, ?_⟩
                replace BK388 := Aside0.mk (bb BK388.out hb)
                replace HB := Aside0.mk (below_step (pb HB.out GE388.out) hb)
                (try clear hb)
                refine hK.out _ _ ⟨(blk_cell BK388.out 0).trans rfl, (blk_cell BK388.out 1).trans rfl, (blk_cell BK388.out 2).trans rfl, (bc HB.out hw400_0), (bc HB.out hw401_0), (bc HB.out hw402_0)⟩ (fun hHeld => ?_)
                clear hK K
                refine norm_ (a' := ?_) ?_ ?_
                rotate_left
                ·
                 show Act.put _ (some 121) _ = _
                 simp only [nrm]
                 rfl
                refine pu 18 14 ?_
                refine done_ (done_of HT_.out (by kernel_rfl)) ?_
                try go_wp2
                go_ret
                exact ⟨by first | rfl | (simp [errW_none, errW_some] <;> rfl) | (simp only [← hji53]; first | rfl | (simp [errW_none, errW_some] <;> rfl)) | (simp [*, errW_none, errW_some] <;> rfl), pb HB.out GE388.out⟩
               ·
                rw [if_neg c55] at H
                exact absurd H (by simp)
              ·
               rw [if_neg c54] at H
               exact absurd H (by simp)
             ·
              rw [if_neg c52] at H
              exact absurd H (by simp)
            ·
             rw [if_neg c51] at H
             exact absurd H (by simp)
           ·
            rw [if_neg c50] at H
            exact absurd H (by simp)
          ·
           rw [if_neg c49] at H
           exact absurd H (by simp)
         ·
          replace c48 := Bool.eq_false_iff.mpr c48
          subst c48
          have H1 : (if a6 = 4 then ((emendateref36_swappable.f l0_0 l0_1 a0_2 a4).bind fun t404 => (if t404 = true then (if (wrap64 (a5 + 1)) < (l1.length : Int) then (if 0 ≤ a5 then (if a5 < (l1.length : Int) then (if 0 ≤ (wrap64 (a4 + 1)) then (if (wrap64 (a4 + 1)) < (l0_0.length : Int) then (if (rd l1 a5) = ((rd_T33 l0_0 (wrap64 (a4 + 1))).f0) then (if 0 ≤ (wrap64 (a5 + 1)) then (if 0 ≤ a4 then (if a4 < (l0_0.length : Int) then (if (rd l1 (wrap64 (a5 + 1))) = ((rd_T33 l0_0 a4).f0) then (if 0 ≤ (wrap64 ((wrap64 ((wrap64 ((wrap64 (a4 + 2)) * a3)) + a5)) + 2)) then (if (wrap64 ((wrap64 ((wrap64 ((wrap64 (a4 + 2)) * a3)) + a5)) + 2)) < (l2.length : Int) then ((emendateref36_plus.f a0_2 (rd l2 (wrap64 ((wrap64 ((wrap64 ((wrap64 (a4 + 2)) * a3)) + a5)) + 2)))).bind fun t410 => (some t410)) else (none)) else (none)) else (some 1099511627776)) else (none)) else (none)) else (none)) else (some 1099511627776)) else (none)) else (none)) else (none)) else (none)) else (some 1099511627776)) else (some 1099511627776))) else (some 1099511627776)) = some r := by rw [if_neg (show ¬ (false = true) by decide)] at H; exact H
          clear H
          have H := H1
          clear H1
          by_cases c59 : a6 = 4
          ·
           rw [if_pos c59] at H
           have c59b0 : (a6 == 4) = true := beq_iff_eq.mpr c59
           have c59b1 : (a6 != 4) = false := bne_eq_false_iff_eq.mpr c59
           clear c59
           replace H := Option.bind_eq_some_iff.mp H
           obtain ⟨t404, A600, H⟩ := H
           replace H : (if t404 = true then (if (wrap64 (a5 + 1)) < (l1.length : Int) then (if 0 ≤ a5 then (if a5 < (l1.length : Int) then (if 0 ≤ (wrap64 (a4 + 1)) then (if (wrap64 (a4 + 1)) < (l0_0.length : Int) then (if (rd l1 a5) = ((rd_T33 l0_0 (wrap64 (a4 + 1))).f0) then (if 0 ≤ (wrap64 (a5 + 1)) then (if 0 ≤ a4 then (if a4 < (l0_0.length : Int) then (if (rd l1 (wrap64 (a5 + 1))) = ((rd_T33 l0_0 a4).f0) then (if 0 ≤ (wrap64 ((wrap64 ((wrap64 ((wrap64 (a4 + 2)) * a3)) + a5)) + 2)) then (if (wrap64 ((wrap64 ((wrap64 ((wrap64 (a4 + 2)) * a3)) + a5)) + 2)) < (l2.length : Int) then ((emendateref36_plus.f a0_2 (rd l2 (wrap64 ((wrap64 ((wrap64 ((wrap64 (a4 + 2)) * a3)) + a5)) + 2)))).bind fun t410 => (some t410)) else (none)) else (none)) else (some 1099511627776)) else (none)) else (none)) else (none)) else (some 1099511627776)) else (none)) else (none)) else (none)) else (none)) else (some 1099511627776)) else (some 1099511627776)) = some r := H
           have A60 := Aside0.mk A600
           clear A600
           by_cases c61 : t404 = true
           ·
            subst c61
            have H1 : (if (wrap64 (a5 + 1)) < (l1.length : Int) then (if 0 ≤ a5 then (if a5 < (l1.length : Int) then (if 0 ≤ (wrap64 (a4 + 1)) then (if (wrap64 (a4 + 1)) < (l0_0.length : Int) then (if (rd l1 a5) = ((rd_T33 l0_0 (wrap64 (a4 + 1))).f0) then (if 0 ≤ (wrap64 (a5 + 1)) then (if 0 ≤ a4 then (if a4 < (l0_0.length : Int) then (if (rd l1 (wrap64 (a5 + 1))) = ((rd_T33 l0_0 a4).f0) then (if 0 ≤ (wrap64 ((wrap64 ((wrap64 ((wrap64 (a4 + 2)) * a3)) + a5)) + 2)) then (if (wrap64 ((wrap64 ((wrap64 ((wrap64 (a4 + 2)) * a3)) + a5)) + 2)) < (l2.length : Int) then ((emendateref36_plus.f a0_2 (rd l2 (wrap64 ((wrap64 ((wrap64 ((wrap64 (a4 + 2)) * a3)) + a5)) + 2)))).bind fun t410 => (some t410)) else (none)) else (none)) else (some 1099511627776)) else (none)) else (none)) else (none)) else (some 1099511627776)) else (none)) else (none)) else (none)) else (none)) else (some 1099511627776)) = some r := by rw [if_pos rfl] at H; exact H
            clear H
            have H := H1
            clear H1
            by_cases c62 : (wrap64 (a5 + 1)) < (l1.length : Int)
            ·
             rw [if_pos c62] at H
             have c62b0 : decide ((wrap64 (a5 + 1)) < (l1.length : Int)) = true := decide_eq_true c62
             clear c62
             by_cases c63 : 0 ≤ a5
             ·
              rw [if_pos c63] at H
              have c63b0 : decide (0 ≤ a5) = true := decide_eq_true c63
              clear c63
              by_cases c64 : a5 < (l1.length : Int)
              ·
               rw [if_pos c64] at H
               have c64b0 : decide (a5 < (l1.length : Int)) = true := decide_eq_true c64
               clear c64
               obtain ⟨ji65, hji65⟩ : ∃ j_ : Int, (wrap64 (a4 + 1)) = j_ := ⟨_, rfl⟩
               replace H : (if 0 ≤ (ji65) then (if (ji65) < (l0_0.length : Int) then (if (rd l1 a5) = ((rd_T33 l0_0 (ji65)).f0) then (if 0 ≤ (wrap64 (a5 + 1)) then (if 0 ≤ a4 then (if a4 < (l0_0.length : Int) then (if (rd l1 (wrap64 (a5 + 1))) = ((rd_T33 l0_0 a4).f0) then (if 0 ≤ (wrap64 ((wrap64 ((wrap64 ((wrap64 (a4 + 2)) * a3)) + a5)) + 2)) then (if (wrap64 ((wrap64 ((wrap64 ((wrap64 (a4 + 2)) * a3)) + a5)) + 2)) < (l2.length : Int) then ((emendateref36_plus.f a0_2 (rd l2 (wrap64 ((wrap64 ((wrap64 ((wrap64 (a4 + 2)) * a3)) + a5)) + 2)))).bind fun t410 => (some t410)) else (none)) else (none)) else (some 1099511627776)) else (none)) else (none)) else (none)) else (some 1099511627776)) else (none)) else (none)) = some r := by first | (rw [hji65] at H; exact H) | (simp only [hji65] at H ⊢; exact H)
               (try rw [hji65] at A60)
               have hji65w : (IntKind.i64.wrap (a4 + 1)) = ji65 := (i64_w _).trans hji65
               by_cases c66 : 0 ≤ (ji65)
               ·
                rw [if_pos c66] at H
                have c66b0 : decide (0 ≤ (ji65)) = true := decide_eq_true c66
                clear c66
                by_cases c67 : (ji65) < (l0_0.length : Int)
                ·
                 rw [if_pos c67] at H
                 have c67b0 : decide ((ji65) < (l0_0.length : Int)) = true := decide_eq_true c67
                 clear c67
                 by_cases c68 : (rd l1 a5) = ((rd_T33 l0_0 (ji65)).f0)
                 ·
                  rw [if_pos c68] at H
                  have c68b0 : ((rd l1 a5) == ((rd_T33 l0_0 (ji65)).f0)) = true := beq_iff_eq.mpr c68
                  have c68b1 : ((rd l1 a5) != ((rd_T33 l0_0 (ji65)).f0)) = false := bne_eq_false_iff_eq.mpr c68
                  clear c68
                  obtain ⟨ji69, hji69⟩ : ∃ j_ : Int, (wrap64 (a5 + 1)) = j_ := ⟨_, rfl⟩
                  replace H : (if 0 ≤ (ji69) then (if 0 ≤ a4 then (if a4 < (l0_0.length : Int) then (if (rd l1 (ji69)) = ((rd_T33 l0_0 a4).f0) then (if 0 ≤ (wrap64 ((wrap64 ((wrap64 ((wrap64 (a4 + 2)) * a3)) + a5)) + 2)) then (if (wrap64 ((wrap64 ((wrap64 ((wrap64 (a4 + 2)) * a3)) + a5)) + 2)) < (l2.length : Int) then ((emendateref36_plus.f a0_2 (rd l2 (wrap64 ((wrap64 ((wrap64 ((wrap64 (a4 + 2)) * a3)) + a5)) + 2)))).bind fun t410 => (some t410)) else (none)) else (none)) else (some 1099511627776)) else (none)) else (none)) else (none)) = some r := by first | (rw [hji69] at H; exact H) | (simp only [hji69] at H ⊢; exact H)
                  (try rw [hji69] at c62b0)
                  (try rw [hji69] at A60)
                  have hji69w : (IntKind.i64.wrap (a5 + 1)) = ji69 := (i64_w _).trans hji69
                  by_cases c70 : 0 ≤ (ji69)
                  ·
                   rw [if_pos c70] at H
                   have c70b0 : decide (0 ≤ (ji69)) = true := decide_eq_true c70
                   clear c70
                   by_cases c71 : 0 ≤ a4
                   ·
                    rw [if_pos c71] at H
                    have c71b0 : decide (0 ≤ a4) = true := decide_eq_true c71
                    clear c71
                    by_cases c72 : a4 < (l0_0.length : Int)
                    ·
                     rw [if_pos c72] at H
                     have c72b0 : decide (a4 < (l0_0.length : Int)) = true := decide_eq_true c72
                     clear c72
                     by_cases c73 : (rd l1 (ji69)) = ((rd_T33 l0_0 a4).f0)
                     ·
                      rw [if_pos c73] at H
                      have c73b0 : ((rd l1 (ji69)) == ((rd_T33 l0_0 a4).f0)) = true := beq_iff_eq.mpr c73
                      have c73b1 : ((rd l1 (ji69)) != ((rd_T33 l0_0 a4).f0)) = false := bne_eq_false_iff_eq.mpr c73
                      clear c73
                      obtain ⟨ji74, hji74⟩ : ∃ j_ : Int, (wrap64 ((wrap64 ((wrap64 ((wrap64 (a4 + 2)) * a3)) + a5)) + 2)) = j_ := ⟨_, rfl⟩
                      replace H : (if 0 ≤ (ji74) then (if (ji74) < (l2.length : Int) then ((emendateref36_plus.f a0_2 (rd l2 (ji74))).bind fun t410 => (some t410)) else (none)) else (none)) = some r := by first | (rw [hji74] at H; exact H) | (simp only [hji74] at H ⊢; exact H)
                      (try rw [hji74] at A60)
                      have hji74w : (IntKind.i64.wrap ((wrap64 ((wrap64 ((wrap64 (a4 + 2)) * a3)) + a5)) + 2)) = ji74 := (i64_w _).trans hji74
                      by_cases c75 : 0 ≤ (ji74)
                      ·
                       rw [if_pos c75] at H
                       have c75b0 : decide (0 ≤ (ji74)) = true := decide_eq_true c75
                       clear c75
                       by_cases c76 : (ji74) < (l2.length : Int)
                       ·
                        rw [if_pos c76] at H
                        have c76b0 : decide ((ji74) < (l2.length : Int)) = true := decide_eq_true c76
                        clear c76
                        replace H := Option.bind_eq_some_iff.mp H
                        obtain ⟨t410, A770, H⟩ := H
                        replace H : (some t410) = some r := H
                        have A77 := Aside0.mk A770
                        clear A770
                        obtain rfl := Option.some.inj H
                        try go_wp2
                        replace BK388 := Aside0.mk (blk_drew BK388.out)
                        replace HB := Aside0.mk (below_drew1 HB.out)
                        have p405 : 0 ≤ (a5 : Int) := od
                        have q405 : a5 < (l1.length : Int) := od
                        obtain ⟨ad405, e405, hx405_0⟩ := Kd.at_int HR1.out a5 p405 q405
                        have hw405_0 := hx405_0
                        cases e405
                        replace hx405_0 := bc HB.out hx405_0
                        replace p405 := eq_true p405
                        replace q405 := eq_true q405
                        have p406 : 0 ≤ ((ji65) : Int) := od
                        have q406 : (ji65) < (l0_0.length : Int) := od
                        obtain ⟨ad406, A406_1, c406_1, e406, hx406_0, hx406_1, hx406_2, hl406_1, hi406_1⟩ := at_T33 HR0_0.out (ji65) p406 q406
                        have hw406_2 := hx406_2
                        have hw406_1 := hx406_1
                        have hw406_0 := hx406_0
                        cases e406
                        replace hx406_0 := bc HB.out hx406_0
                        replace hx406_1 := bc HB.out hx406_1
                        replace hx406_2 := bc HB.out hx406_2
                        have HR406_1 := Aside0.mk hi406_1
                        have HC406_1 := Aside0.mk hl406_1
                        clear hi406_1 hl406_1
                        replace p406 := eq_true p406
                        replace q406 := eq_true q406
                        have p407 : 0 ≤ ((ji69) : Int) := od
                        have q407 : (ji69) < (l1.length : Int) := od
                        obtain ⟨ad407, e407, hx407_0⟩ := Kd.at_int HR1.out (ji69) p407 q407
                        have hw407_0 := hx407_0
                        obtain rfl : ad405 = ad407 := (by injection e407)
                        replace hx407_0 := bc HB.out hx407_0
                        replace p407 := eq_true p407
                        replace q407 := eq_true q407
                        have p408 : 0 ≤ (a4 : Int) := od
                        have q408 : a4 < (l0_0.length : Int) := od
                        obtain ⟨ad408, A408_1, c408_1, e408, hx408_0, hx408_1, hx408_2, hl408_1, hi408_1⟩ := at_T33 HR0_0.out a4 p408 q408
                        have hw408_2 := hx408_2
                        have hw408_1 := hx408_1
                        have hw408_0 := hx408_0
                        obtain rfl : ad406 = ad408 := (by injection e408)
                        replace hx408_0 := bc HB.out hx408_0
                        replace hx408_1 := bc HB.out hx408_1
                        replace hx408_2 := bc HB.out hx408_2
                        have HR408_1 := Aside0.mk hi408_1
                        have HC408_1 := Aside0.mk hl408_1
                        clear hi408_1 hl408_1
                        replace p408 := eq_true p408
                        replace q408 := eq_true q408
                        refine start_ (n := 43) (S := fun w' => w'.cell? ⟨gb388, 0, none⟩ = some (.slice (some ad406) l0_0.length c0_0) ∧ w'.cell? ⟨gb388, 1, none⟩ = some (.slice A0_1 l0_1.length c0_1) ∧ w'.cell? ⟨gb388, 2, none⟩ = some (.int .i64 a0_2) ∧ w'.cell? (ad405.add (a5).toNat) = some (.int .i64 (rd l1 a5)) ∧ w'.cell? (ad406.add (((ji65)).toNat * 3)) = some (.int .i64 ((rd_T33 l0_0 (ji65)).f0)) ∧ w'.cell? ⟨(ad406.add (((ji65)).toNat * 3)).block, (ad406.add (((ji65)).toNat * 3)).off + 1, none⟩ = some (.slice A406_1 ((rd_T33 l0_0 (ji65)).f1).length c406_1) ∧ w'.cell? ⟨(ad406.add (((ji65)).toNat * 3)).block, (ad406.add (((ji65)).toNat * 3)).off + 2, none⟩ = some (.int .i64 ((rd_T33 l0_0 (ji65)).f2)) ∧ w'.cell? (ad405.add ((ji69)).toNat) = some (.int .i64 (rd l1 (ji69))) ∧ w'.cell? (ad406.add ((a4).toNat * 3)) = some (.int .i64 ((rd_T33 l0_0 a4).f0)) ∧ w'.cell? ⟨(ad406.add ((a4).toNat * 3)).block, (ad406.add ((a4).toNat * 3)).off + 1, none⟩ = some (.slice A408_1 ((rd_T33 l0_0 a4).f1).length c408_1) ∧ w'.cell? ⟨(ad406.add ((a4).toNat * 3)).block, (ad406.add ((a4).toNat * 3)).off + 2, none⟩ = some (.int .i64 ((rd_T33 l0_0 a4).f2))) (ds := []) #[ff,ff,ff,ff,ff,ff,ff,ff,ff,ff,ff,ff,ff,ff,ff,ff,ff,ff,ff,ff,ff,ff,ff,ff,ff,ff,ff,ff,ff,ff,ff,ff,ff,ff,ff,ff,ff,ff,ff,ff,ff,ff,ff] (by kernel_rfl) rfl rfl ⟨(blk_cell BK388.out 0).trans rfl, (blk_cell BK388.out 1).trans rfl, (blk_cell BK388.out 2).trans rfl, (bc HB.out hw405_0), (bc HB.out hw406_0), (bc HB.out hw406_1), (bc HB.out hw406_2), (bc HB.out hw407_0), (bc HB.out hw408_0), (bc HB.out hw408_1), (bc HB.out hw408_2)⟩ (fun hHeld => ?_); refine with_tabW emendateref36_step.tab8 emendateref36_step.bits8 (fun HT_ HW_ => ?_)
                        generalize wc.drew = w78 at BK388 HB HR406_1 HR408_1 hx405_0 hx406_0 hx406_1 hx406_2 hx407_0 hx408_0 hx408_1 hx408_2 hHeld ⊢
                        refine pu 0 123 ?_
                        refine pu 1 124 ?_
                        refine pu 2 125 ?_
                        refine pu 4 127 ?_
                        refine tu 3 126 hHeld ?_
                        refine one_ (i := 5) (N := some 128) #[tt,tt,tt,tt,tt,tt,ff,ff,ff,ff,ff,ff,ff,ff,ff,ff,ff,ff,ff,ff,ff,ff,ff,ff,ff,ff,ff,ff,ff,ff,ff,ff,ff,ff,ff,ff,ff,ff,ff,ff,ff,ff,ff] rfl rfl (one_of HT_.out (by kernel_rfl)) (by decide) (fun K hK => ?_)
                        refine goes_ Tryd.func34 (by kernel_rfl) rfl #[.agg #[.slice (some ad406) l0_0.length c0_0, .slice A0_1 l0_1.length c0_1, .int .i64 a0_2], .int .i64 a4] (by rfl) rfl rfl (by (try simp only [List.map_toArray, List.map_cons, List.map_nil]); first | done | rfl | (simp only [List.length_drop, List.length_take]; rfl)) ?_
                        with_reducible refine (emendateref36_swappable.calls _ _ l0_0 _ _ l0_1 a0_2 a4 true _ ?side1 ?side2 ?side3 ?side4 A60.out).mono ?_
                        (case side1 => exact sd (Kd.C_below HR0_0.out HB.out))
                        (case side2 => exact HC0_0.out)
                        (case side3 => exact sd (Kd.C_below HR0_1.out HB.out))
                        (case side4 => exact HC0_1.out)
                        rintro e w79 ⟨rfl, hb⟩
                        refine ⟨_, rfl, ?_⟩
                        replace BK388 := Aside0.mk (bb BK388.out hb)
                        replace HB := Aside0.mk (below_step (pb HB.out GE388.out) hb)
                        (try clear hb)
                        refine hK.out _ _ ⟨(blk_cell BK388.out 0).trans rfl, (blk_cell BK388.out 1).trans rfl, (blk_cell BK388.out 2).trans rfl, (bc HB.out hw405_0), (bc HB.out hw406_0), (bc HB.out hw406_1), (bc HB.out hw406_2), (bc HB.out hw407_0), (bc HB.out hw408_0), (bc HB.out hw408_1), (bc HB.out hw408_2)⟩ (fun hHeld => ?_)
                        clear hK K
                        refine norm_ (a' := ?_) ?_ ?_
                        rotate_left
                        ·
                         show Act.put _ (some 128) _ = _
                         simp only [nrm]
                         rfl
                        refine pu 6 129 ?_
                        refine pu 7 130 ?_
                        refine pu 8 131 ?_
                        refine pu 9 132 ?_
                        refine pu 10 133 ?_
                        refine pu 11 134 ?_
                        refine pu 12 135 ?_
                        refine pu 13 136 ?_
                        refine pu 14 137 ?_
                        refine pu 15 138 ?_
                        refine pu 16 139 ?_
                        refine pu 17 140 ?_
                        refine pu 19 142 ?_
                        refine pu 21 144 ?_
                        refine pu 22 145 ?_
                        refine tu 18 141 hHeld ?_
                        refine tu 20 143 hHeld ?_
                        refine pu 23 146 ?_
                        refine pu 24 147 ?_
                        refine tu 25 148 hHeld ?_
                        refine pu 26 149 ?_
                        refine pu 27 150 ?_
                        refine pu 28 151 ?_
                        refine pu 29 152 ?_
                        refine pu 30 153 ?_
                        refine pu 31 154 ?_
                        refine pu 32 155 ?_
                        refine pu 34 157 ?_
                        refine pu 36 159 ?_
                        refine tu 33 156 hHeld ?_
                        refine tu 35 158 hHeld ?_
                        refine pu 37 160 ?_
                        refine pu 38 161 ?_
                        refine tu 39 162 hHeld ?_
                        refine pu 40 163 ?_
                        refine pu 41 164 ?_
                        refine pu 42 122 ?_
                        refine done_ (done_of HT_.out (by kernel_rfl)) ?_
                        try go_wp2
                        replace BK388 := Aside0.mk (blk_drew BK388.out)
                        replace HB := Aside0.mk (below_drew1 HB.out)
                        have p409 : 0 ≤ ((ji74) : Int) := od
                        have q409 : (ji74) < (l2.length : Int) := od
                        obtain ⟨ad409, e409, hx409_0⟩ := Kd.at_int HR2.out (ji74) p409 q409
                        have hw409_0 := hx409_0
                        cases e409
                        replace hx409_0 := bc HB.out hx409_0
                        replace p409 := eq_true p409
                        replace q409 := eq_true q409
                        refine start_ (n := 14) (S := fun w' => w'.cell? ⟨gb388, 0, none⟩ = some (.slice (some ad406) l0_0.length c0_0) ∧ w'.cell? ⟨gb388, 1, none⟩ = some (.slice A0_1 l0_1.length c0_1) ∧ w'.cell? ⟨gb388, 2, none⟩ = some (.int .i64 a0_2) ∧ w'.cell? (ad409.add ((ji74)).toNat) = some (.int .i64 (rd l2 (ji74)))) (ds := []) #[ff,ff,ff,ff,ff,ff,ff,ff,ff,ff,ff,ff,ff,ff] (by kernel_rfl) rfl rfl ⟨(blk_cell BK388.out 0).trans rfl, (blk_cell BK388.out 1).trans rfl, (blk_cell BK388.out 2).trans rfl, (bc HB.out hw409_0)⟩ (fun hHeld => ?_); refine with_tabW emendateref36_step.tab9 emendateref36_step.bits9 (fun HT_ HW_ => ?_)
                        generalize w79.drew = w80 at BK388 HB hx409_0 hHeld ⊢
                        refine pu 0 165 ?_
                        refine pu 2 167 ?_
                        refine pu 3 168 ?_
                        refine pu 4 169 ?_
                        refine pu 5 170 ?_
                        refine pu 6 171 ?_
                        refine pu 7 172 ?_
                        refine pu 8 173 ?_
                        refine pu 9 174 ?_
                        refine pu 10 175 ?_
                        refine tu 1 166 hHeld ?_
                        refine tu 11 176 hHeld ?_
                        refine one_ (i := 12) (N := some 177) #[tt,tt,tt,tt,tt,tt,tt,tt,tt,tt,tt,tt,tt,ff] rfl rfl (one_of HT_.out (by kernel_rfl)) (by decide) (fun K hK => ?_)
                        refine goes_ Tryd.func33 (by kernel_rfl) rfl #[.int .i64 a0_2, .int .i64 (rd l2 (ji74))] (by rfl) rfl rfl (by (try simp only [List.map_toArray, List.map_cons, List.map_nil]); first | done | (simp only [hji74]; rfl) | rfl | (simp only [List.length_drop, List.length_take]; rfl)) ?_
                        with_reducible refine (emendateref36_plus.calls a0_2 (rd l2 (ji74)) t410 _ A77.out).mono ?_
                        rintro e w81 ⟨rfl, hb⟩
                        refine ⟨_, rfl, ?_⟩
                        replace BK388 := Aside0.mk (bb BK388.out hb)
                        replace HB := Aside0.mk (below_step (pb HB.out GE388.out) hb)
                        (try clear hb)
                        refine hK.out _ _ ⟨(blk_cell BK388.out 0).trans rfl, (blk_cell BK388.out 1).trans rfl, (blk_cell BK388.out 2).trans rfl, (bc HB.out hw409_0)⟩ (fun hHeld => ?_)
                        clear hK K
                        refine norm_ (a' := ?_) ?_ ?_
                        rotate_left
                        ·
                         show Act.put _ (some 177) _ = _
                         simp only [nrm]
                         rfl
                        refine pu 13 14 ?_
                        refine done_ (done_of HT_.out (by kernel_rfl)) ?_
                        try go_wp2
                        go_ret
                        exact ⟨by first | rfl | (simp [errW_none, errW_some] <;> rfl) | (simp only [← hji65, ← hji69, ← hji74]; first | rfl | (simp [errW_none, errW_some] <;> rfl)) | (simp [*, errW_none, errW_some] <;> rfl), pb HB.out GE388.out⟩
                       ·
                        rw [if_neg c76] at H
                        exact absurd H (by simp)
                      ·
                       rw [if_neg c75] at H
                       exact absurd H (by simp)
                     ·
                      rw [if_neg c73] at H
                      have c73b0 : ((rd l1 (ji69)) == ((rd_T33 l0_0 a4).f0)) = false := beq_eq_false_iff_ne.mpr c73
                      have c73b1 : ((rd l1 (ji69)) != ((rd_T33 l0_0 a4).f0)) = true := bne_iff_ne.mpr c73
                      obtain rfl := Option.some.inj H
                      try go_wp2
                      replace BK388 := Aside0.mk (blk_drew BK388.out)
                      replace HB := Aside0.mk (below_drew1 HB.out)
                      have p405 : 0 ≤ (a5 : Int) := od
                      have q405 : a5 < (l1.length : Int) := od
                      obtain ⟨ad405, e405, hx405_0⟩ := Kd.at_int HR1.out a5 p405 q405
                      have hw405_0 := hx405_0
                      cases e405
                      replace hx405_0 := bc HB.out hx405_0
                      replace p405 := eq_true p405
                      replace q405 := eq_true q405
                      have p406 : 0 ≤ ((ji65) : Int) := od
                      have q406 : (ji65) < (l0_0.length : Int) := od
                      obtain ⟨ad406, A406_1, c406_1, e406, hx406_0, hx406_1, hx406_2, hl406_1, hi406_1⟩ := at_T33 HR0_0.out (ji65) p406 q406
                      have hw406_2 := hx406_2
                      have hw406_1 := hx406_1
                      have hw406_0 := hx406_0
                      cases e406
                      replace hx406_0 := bc HB.out hx406_0
                      replace hx406_1 := bc HB.out hx406_1
                      replace hx406_2 := bc HB.out hx406_2
                      have HR406_1 := Aside0.mk hi406_1
                      have HC406_1 := Aside0.mk hl406_1
                      clear hi406_1 hl406_1
                      replace p406 := eq_true p406
                      replace q406 := eq_true q406
                      have p407 : 0 ≤ ((ji69) : Int) := od
                      have q407 : (ji69) < (l1.length : Int) := od
                      obtain ⟨ad407, e407, hx407_0⟩ := Kd.at_int HR1.out (ji69) p407 q407
                      have hw407_0 := hx407_0
                      obtain rfl : ad405 = ad407 := (by injection e407)
                      replace hx407_0 := bc HB.out hx407_0
                      replace p407 := eq_true p407
                      replace q407 := eq_true q407
                      have p408 : 0 ≤ (a4 : Int) := od
                      have q408 : a4 < (l0_0.length : Int) := od
                      obtain ⟨ad408, A408_1, c408_1, e408, hx408_0, hx408_1, hx408_2, hl408_1, hi408_1⟩ := at_T33 HR0_0.out a4 p408 q408
                      have hw408_2 := hx408_2
                      have hw408_1 := hx408_1
                      have hw408_0 := hx408_0
                      obtain rfl : ad406 = ad408 := (by injection e408)
                      replace hx408_0 := bc HB.out hx408_0
                      replace hx408_1 := bc HB.out hx408_1
                      replace hx408_2 := bc HB.out hx408_2
                      have HR408_1 := Aside0.mk hi408_1
                      have HC408_1 := Aside0.mk hl408_1
                      clear hi408_1 hl408_1
                      replace p408 := eq_true p408
                      replace q408 := eq_true q408
                      refine start_ (n := 43) (S := fun w' => w'.cell? ⟨gb388, 0, none⟩ = some (.slice (some ad406) l0_0.length c0_0) ∧ w'.cell? ⟨gb388, 1, none⟩ = some (.slice A0_1 l0_1.length c0_1) ∧ w'.cell? ⟨gb388, 2, none⟩ = some (.int .i64 a0_2) ∧ w'.cell? (ad405.add (a5).toNat) = some (.int .i64 (rd l1 a5)) ∧ w'.cell? (ad406.add (((ji65)).toNat * 3)) = some (.int .i64 ((rd_T33 l0_0 (ji65)).f0)) ∧ w'.cell? ⟨(ad406.add (((ji65)).toNat * 3)).block, (ad406.add (((ji65)).toNat * 3)).off + 1, none⟩ = some (.slice A406_1 ((rd_T33 l0_0 (ji65)).f1).length c406_1) ∧ w'.cell? ⟨(ad406.add (((ji65)).toNat * 3)).block, (ad406.add (((ji65)).toNat * 3)).off + 2, none⟩ = some (.int .i64 ((rd_T33 l0_0 (ji65)).f2)) ∧ w'.cell? (ad405.add ((ji69)).toNat) = some (.int .i64 (rd l1 (ji69))) ∧ w'.cell? (ad406.add ((a4).toNat * 3)) = some (.int .i64 ((rd_T33 l0_0 a4).f0)) ∧ w'.cell? ⟨(ad406.add ((a4).toNat * 3)).block, (ad406.add ((a4).toNat * 3)).off + 1, none⟩ = some (.slice A408_1 ((rd_T33 l0_0 a4).f1).length c408_1) ∧ w'.cell? ⟨(ad406.add ((a4).toNat * 3)).block, (ad406.add ((a4).toNat * 3)).off + 2, none⟩ = some (.int .i64 ((rd_T33 l0_0 a4).f2))) (ds := []) #[ff,ff,ff,ff,ff,ff,ff,ff,ff,ff,ff,ff,ff,ff,ff,ff,ff,ff,ff,ff,ff,ff,ff,ff,ff,ff,ff,ff,ff,ff,ff,ff,ff,ff,ff,ff,ff,ff,ff,ff,ff,ff,ff] (by kernel_rfl) rfl rfl ⟨(blk_cell BK388.out 0).trans rfl, (blk_cell BK388.out 1).trans rfl, (blk_cell BK388.out 2).trans rfl, (bc HB.out hw405_0), (bc HB.out hw406_0), (bc HB.out hw406_1), (bc HB.out hw406_2), (bc HB.out hw407_0), (bc HB.out hw408_0), (bc HB.out hw408_1), (bc HB.out hw408_2)⟩ (fun hHeld => ?_); refine with_tabW emendateref36_step.tab8 emendateref36_step.bits8 (fun HT_ HW_ => ?_)
                      generalize wc.drew = w82 at BK388 HB HR406_1 HR408_1 hx405_0 hx406_0 hx406_1 hx406_2 hx407_0 hx408_0 hx408_1 hx408_2 hHeld ⊢
                      refine pu 0 123 ?_
                      refine pu 1 124 ?_
                      refine pu 2 125 ?_
                      refine pu 4 127 ?_
                      refine tu 3 126 hHeld ?_
                      refine one_ (i := 5) (N := some 128) #[tt,tt,tt,tt,tt,tt,ff,ff,ff,ff,ff,ff,ff,ff,ff,ff,ff,ff,ff,ff,ff,ff,ff,ff,ff,ff,ff,ff,ff,ff,ff,ff,ff,ff,ff,ff,ff,ff,ff,ff,ff,ff,ff] rfl rfl (one_of HT_.out (by kernel_rfl)) (by decide) (fun K hK => ?_)
                      refine goes_ Tryd.func34 (by kernel_rfl) rfl #[.agg #[.slice (some ad406) l0_0.length c0_0, .slice A0_1 l0_1.length c0_1, .int .i64 a0_2], .int .i64 a4] (by rfl) rfl rfl (by (try simp only [List.map_toArray, List.map_cons, List.map_nil]); first | done | rfl | (simp only [List.length_drop, List.length_take]; rfl)) ?_
                      with_reducible refine (emendateref36_swappable.calls _ _ l0_0 _ _ l0_1 a0_2 a4 true _ ?side1 ?side2 ?side3 ?side4 A60.out).mono ?_
                      (case side1 => exact sd (Kd.C_below HR0_0.out HB.out))
                      (case side2 => exact HC0_0.out)
                      (case side3 => exact sd (Kd.C_below HR0_1.out HB.out))
                      (case side4 => exact HC0_1.out)
                      rintro e w83 ⟨rfl, hb⟩
                      refine ⟨_, rfl, ?_⟩
                      replace BK388 := Aside0.mk (bb BK388.out hb)
                      replace HB := Aside0.mk (below_step (pb HB.out GE388.out) hb)
                      (try clear hb)
                      refine hK.out _ _ ⟨(blk_cell BK388.out 0).trans rfl, (blk_cell BK388.out 1).trans rfl, (blk_cell BK388.out 2).trans rfl, (bc HB.out hw405_0), (bc HB.out hw406_0), (bc HB.out hw406_1), (bc HB.out hw406_2), (bc HB.out hw407_0), (bc HB.out hw408_0), (bc HB.out hw408_1), (bc HB.out hw408_2)⟩ (fun hHeld => ?_)
                      clear hK K
                      refine norm_ (a' := ?_) ?_ ?_
                      rotate_left
                      ·
                       show Act.put _ (some 128) _ = _
                       simp only [nrm]
                       rfl
                      refine pu 6 129 ?_
                      refine pu 7 130 ?_
                      refine pu 8 131 ?_
                      refine pu 9 132 ?_
                      refine pu 10 133 ?_
                      refine pu 11 134 ?_
                      refine pu 12 135 ?_
                      refine pu 13 136 ?_
                      refine pu 14 137 ?_
                      refine pu 15 138 ?_
                      refine pu 16 139 ?_
                      refine pu 17 140 ?_
                      refine pu 19 142 ?_
                      refine pu 21 144 ?_
                      refine pu 22 145 ?_
                      refine tu 18 141 hHeld ?_
                      refine tu 20 143 hHeld ?_
                      refine pu 23 146 ?_
                      refine pu 24 147 ?_
                      refine tu 25 148 hHeld ?_
                      refine pu 26 149 ?_
                      refine pu 27 150 ?_
                      refine pu 28 151 ?_
                      refine pu 29 152 ?_
                      refine pu 30 153 ?_
                      refine pu 31 154 ?_
                      refine pu 32 155 ?_
                      refine pu 34 157 ?_
                      refine pu 36 159 ?_
                      refine tu 33 156 hHeld ?_
                      refine tu 35 158 hHeld ?_
                      refine pu 37 160 ?_
                      refine pu 38 161 ?_
                      refine tu 39 162 hHeld ?_
                      refine pu 40 163 ?_
                      refine pu 41 164 ?_
                      refine pu 42 122 ?_
                      refine done_ (done_of HT_.out (by kernel_rfl)) ?_
                      try go_wp2
                      go_ret
                      exact ⟨by first | rfl | (simp [errW_none, errW_some] <;> rfl) | (simp only [← hji65, ← hji69]; first | rfl | (simp [errW_none, errW_some] <;> rfl)) | (simp [*, errW_none, errW_some] <;> rfl), pb HB.out GE388.out⟩
                    ·
                     rw [if_neg c72] at H
                     exact absurd H (by simp)
                   ·
                    rw [if_neg c71] at H
                    exact absurd H (by simp)
                  ·
                   rw [if_neg c70] at H
                   exact absurd H (by simp)
                 ·
                  rw [if_neg c68] at H
                  have c68b0 : ((rd l1 a5) == ((rd_T33 l0_0 (ji65)).f0)) = false := beq_eq_false_iff_ne.mpr c68
                  have c68b1 : ((rd l1 a5) != ((rd_T33 l0_0 (ji65)).f0)) = true := bne_iff_ne.mpr c68
                  obtain rfl := Option.some.inj H
                  try go_wp2
                  replace BK388 := Aside0.mk (blk_drew BK388.out)
                  replace HB := Aside0.mk (below_drew1 HB.out)
                  have p405 : 0 ≤ (a5 : Int) := od
                  have q405 : a5 < (l1.length : Int) := od
                  obtain ⟨ad405, e405, hx405_0⟩ := Kd.at_int HR1.out a5 p405 q405
                  have hw405_0 := hx405_0
                  cases e405
                  replace hx405_0 := bc HB.out hx405_0
                  replace p405 := eq_true p405
                  replace q405 := eq_true q405
                  have p406 : 0 ≤ ((ji65) : Int) := od
                  have q406 : (ji65) < (l0_0.length : Int) := od
                  obtain ⟨ad406, A406_1, c406_1, e406, hx406_0, hx406_1, hx406_2, hl406_1, hi406_1⟩ := at_T33 HR0_0.out (ji65) p406 q406
                  have hw406_2 := hx406_2
                  have hw406_1 := hx406_1
                  have hw406_0 := hx406_0
                  cases e406
                  replace hx406_0 := bc HB.out hx406_0
                  replace hx406_1 := bc HB.out hx406_1
                  replace hx406_2 := bc HB.out hx406_2
                  have HR406_1 := Aside0.mk hi406_1
                  have HC406_1 := Aside0.mk hl406_1
                  clear hi406_1 hl406_1
                  replace p406 := eq_true p406
                  replace q406 := eq_true q406
                  refine start_ (n := 43) (S := fun w' => w'.cell? ⟨gb388, 0, none⟩ = some (.slice (some ad406) l0_0.length c0_0) ∧ w'.cell? ⟨gb388, 1, none⟩ = some (.slice A0_1 l0_1.length c0_1) ∧ w'.cell? ⟨gb388, 2, none⟩ = some (.int .i64 a0_2) ∧ w'.cell? (ad405.add (a5).toNat) = some (.int .i64 (rd l1 a5)) ∧ w'.cell? (ad406.add (((ji65)).toNat * 3)) = some (.int .i64 ((rd_T33 l0_0 (ji65)).f0)) ∧ w'.cell? ⟨(ad406.add (((ji65)).toNat * 3)).block, (ad406.add (((ji65)).toNat * 3)).off + 1, none⟩ = some (.slice A406_1 ((rd_T33 l0_0 (ji65)).f1).length c406_1) ∧ w'.cell? ⟨(ad406.add (((ji65)).toNat * 3)).block, (ad406.add (((ji65)).toNat * 3)).off + 2, none⟩ = some (.int .i64 ((rd_T33 l0_0 (ji65)).f2))) (ds := []) #[ff,ff,ff,ff,ff,ff,ff,ff,ff,ff,ff,ff,ff,ff,ff,ff,ff,ff,ff,ff,ff,ff,ff,ff,ff,ff,ff,ff,ff,ff,ff,ff,ff,ff,ff,ff,ff,ff,ff,ff,ff,ff,ff] (by kernel_rfl) rfl rfl ⟨(blk_cell BK388.out 0).trans rfl, (blk_cell BK388.out 1).trans rfl, (blk_cell BK388.out 2).trans rfl, (bc HB.out hw405_0), (bc HB.out hw406_0), (bc HB.out hw406_1), (bc HB.out hw406_2)⟩ (fun hHeld => ?_); refine with_tabW emendateref36_step.tab8 emendateref36_step.bits8 (fun HT_ HW_ => ?_)
                  generalize wc.drew = w84 at BK388 HB HR406_1 hx405_0 hx406_0 hx406_1 hx406_2 hHeld ⊢
                  refine pu 0 123 ?_
                  refine pu 1 124 ?_
                  refine pu 2 125 ?_
                  refine pu 4 127 ?_
                  refine tu 3 126 hHeld ?_
                  refine one_ (i := 5) (N := some 128) #[tt,tt,tt,tt,tt,tt,ff,ff,ff,ff,ff,ff,ff,ff,ff,ff,ff,ff,ff,ff,ff,ff,ff,ff,ff,ff,ff,ff,ff,ff,ff,ff,ff,ff,ff,ff,ff,ff,ff,ff,ff,ff,ff] rfl rfl (one_of HT_.out (by kernel_rfl)) (by decide) (fun K hK => ?_)
                  refine goes_ Tryd.func34 (by kernel_rfl) rfl #[.agg #[.slice (some ad406) l0_0.length c0_0, .slice A0_1 l0_1.length c0_1, .int .i64 a0_2], .int .i64 a4] (by rfl) rfl rfl (by (try simp only [List.map_toArray, List.map_cons, List.map_nil]); first | done | rfl | (simp only [List.length_drop, List.length_take]; rfl)) ?_
                  with_reducible refine (emendateref36_swappable.calls _ _ l0_0 _ _ l0_1 a0_2 a4 true _ ?side1 ?side2 ?side3 ?side4 A60.out).mono ?_
                  (case side1 => exact sd (Kd.C_below HR0_0.out HB.out))
                  (case side2 => exact HC0_0.out)
                  (case side3 => exact sd (Kd.C_below HR0_1.out HB.out))
                  (case side4 => exact HC0_1.out)
                  rintro e w85 ⟨rfl, hb⟩
                  refine ⟨_, rfl, ?_⟩
                  replace BK388 := Aside0.mk (bb BK388.out hb)
                  replace HB := Aside0.mk (below_step (pb HB.out GE388.out) hb)
                  (try clear hb)
                  refine hK.out _ _ ⟨(blk_cell BK388.out 0).trans rfl, (blk_cell BK388.out 1).trans rfl, (blk_cell BK388.out 2).trans rfl, (bc HB.out hw405_0), (bc HB.out hw406_0), (bc HB.out hw406_1), (bc HB.out hw406_2)⟩ (fun hHeld => ?_)
                  clear hK K
                  refine norm_ (a' := ?_) ?_ ?_
                  rotate_left
                  ·
                   show Act.put _ (some 128) _ = _
                   simp only [nrm]
                   rfl
                  refine pu 6 129 ?_
                  refine pu 7 130 ?_
                  refine pu 8 131 ?_
                  refine pu 9 132 ?_
                  refine pu 10 133 ?_
                  refine pu 11 134 ?_
                  refine pu 12 135 ?_
                  refine pu 13 136 ?_
                  refine pu 14 137 ?_
                  refine pu 15 138 ?_
                  refine pu 16 139 ?_
                  refine pu 17 140 ?_
                  refine pu 19 142 ?_
                  refine pu 21 144 ?_
                  refine pu 22 145 ?_
                  refine tu 18 141 hHeld ?_
                  refine tu 20 143 hHeld ?_
                  refine pu 23 146 ?_
                  refine pu 24 147 ?_
                  refine tu 25 148 hHeld ?_
                  refine pu 26 149 ?_
                  refine pu 27 150 ?_
                  refine pu 28 151 ?_
                  refine qu 29 152 ?_
                  refine qu 30 153 ?_
                  refine qu 31 154 ?_
                  refine qu 32 155 ?_
                  refine qu 33 156 ?_
                  refine qu 34 157 ?_
                  refine qu 35 158 ?_
                  refine qu 36 159 ?_
                  refine qu 37 160 ?_
                  refine qu 38 161 ?_
                  refine qu 39 162 ?_
                  refine qu 40 163 ?_
                  refine pu 41 164 ?_
                  refine pu 42 122 ?_
                  refine done_ (done_of HT_.out (by kernel_rfl)) ?_
                  try go_wp2
                  go_ret
                  exact ⟨by first | rfl | (simp [errW_none, errW_some] <;> rfl) | (simp only [← hji65]; first | rfl | (simp [errW_none, errW_some] <;> rfl)) | (simp [*, errW_none, errW_some] <;> rfl), pb HB.out GE388.out⟩
                ·
                 rw [if_neg c67] at H
                 exact absurd H (by simp)
               ·
                rw [if_neg c66] at H
                exact absurd H (by simp)
              ·
               rw [if_neg c64] at H
               exact absurd H (by simp)
             ·
              rw [if_neg c63] at H
              exact absurd H (by simp)
            ·
             rw [if_neg c62] at H
             have c62b0 : decide ((wrap64 (a5 + 1)) < (l1.length : Int)) = false := decide_eq_false c62
             clear c62
             obtain rfl := Option.some.inj H
             try go_wp2
             replace BK388 := Aside0.mk (blk_drew BK388.out)
             replace HB := Aside0.mk (below_drew1 HB.out)
             refine start_ (n := 43) (S := fun w' => w'.cell? ⟨gb388, 0, none⟩ = some (.slice A0_0 l0_0.length c0_0) ∧ w'.cell? ⟨gb388, 1, none⟩ = some (.slice A0_1 l0_1.length c0_1) ∧ w'.cell? ⟨gb388, 2, none⟩ = some (.int .i64 a0_2)) (ds := []) #[ff,ff,ff,ff,ff,ff,ff,ff,ff,ff,ff,ff,ff,ff,ff,ff,ff,ff,ff,ff,ff,ff,ff,ff,ff,ff,ff,ff,ff,ff,ff,ff,ff,ff,ff,ff,ff,ff,ff,ff,ff,ff,ff] (by kernel_rfl) rfl rfl ⟨(blk_cell BK388.out 0).trans rfl, (blk_cell BK388.out 1).trans rfl, (blk_cell BK388.out 2).trans rfl⟩ (fun hHeld => ?_); refine with_tabW emendateref36_step.tab8 emendateref36_step.bits8 (fun HT_ HW_ => ?_)
             generalize wc.drew = w86 at BK388 HB hHeld ⊢
             refine pu 0 123 ?_
             refine pu 1 124 ?_
             refine pu 2 125 ?_
             refine pu 4 127 ?_
             refine tu 3 126 hHeld ?_
             refine one_ (i := 5) (N := some 128) #[tt,tt,tt,tt,tt,tt,ff,ff,ff,ff,ff,ff,ff,ff,ff,ff,ff,ff,ff,ff,ff,ff,ff,ff,ff,ff,ff,ff,ff,ff,ff,ff,ff,ff,ff,ff,ff,ff,ff,ff,ff,ff,ff] rfl rfl (one_of HT_.out (by kernel_rfl)) (by decide) (fun K hK => ?_)
             refine goes_ Tryd.func34 (by kernel_rfl) rfl #[.agg #[.slice A0_0 l0_0.length c0_0, .slice A0_1 l0_1.length c0_1, .int .i64 a0_2], .int .i64 a4] (by rfl) rfl rfl (by (try simp only [List.map_toArray, List.map_cons, List.map_nil]); first | done | rfl | (simp only [List.length_drop, List.length_take]; rfl)) ?_
             with_reducible refine (emendateref36_swappable.calls _ _ l0_0 _ _ l0_1 a0_2 a4 true _ ?side1 ?side2 ?side3 ?side4 A60.out).mono ?_
             (case side1 => exact sd (Kd.C_below HR0_0.out HB.out))
             (case side2 => exact HC0_0.out)
             (case side3 => exact sd (Kd.C_below HR0_1.out HB.out))
             (case side4 => exact HC0_1.out)
             rintro e w87 ⟨rfl, hb⟩
             refine ⟨_, rfl, ?_⟩
             replace BK388 := Aside0.mk (bb BK388.out hb)
             replace HB := Aside0.mk (below_step (pb HB.out GE388.out) hb)
             (try clear hb)
             refine hK.out _ _ ⟨(blk_cell BK388.out 0).trans rfl, (blk_cell BK388.out 1).trans rfl, (blk_cell BK388.out 2).trans rfl⟩ (fun hHeld => ?_)
             clear hK K
             refine norm_ (a' := ?_) ?_ ?_
             rotate_left
             ·
              show Act.put _ (some 128) _ = _
              simp only [nrm]
              rfl
             refine pu 6 129 ?_
             refine pu 7 130 ?_
             refine pu 8 131 ?_
             refine pu 9 132 ?_
             refine pu 10 133 ?_
             refine pu 11 134 ?_
             refine pu 12 135 ?_
             refine pu 13 136 ?_
             refine pu 14 137 ?_
             refine qu 15 138 ?_
             refine qu 16 139 ?_
             refine qu 17 140 ?_
             refine qu 18 141 ?_
             refine qu 19 142 ?_
             refine qu 20 143 ?_
             refine qu 21 144 ?_
             refine qu 22 145 ?_
             refine qu 23 146 ?_
             refine qu 24 147 ?_
             refine qu 25 148 ?_
             refine qu 26 149 ?_
             refine pu 27 150 ?_
             refine pu 28 151 ?_
             refine qu 29 152 ?_
             refine qu 30 153 ?_
             refine qu 31 154 ?_
             refine qu 32 155 ?_
             refine qu 33 156 ?_
             refine qu 34 157 ?_
             refine qu 35 158 ?_
             refine qu 36 159 ?_
             refine qu 37 160 ?_
             refine qu 38 161 ?_
             refine qu 39 162 ?_
             refine qu 40 163 ?_
             refine pu 41 164 ?_
             refine pu 42 122 ?_
             refine done_ (done_of HT_.out (by kernel_rfl)) ?_
             try go_wp2
             go_ret
             exact ⟨er, pb HB.out GE388.out⟩
           ·
            replace c61 := Bool.eq_false_iff.mpr c61
            subst c61
            have H1 : (some 1099511627776) = some r := by rw [if_neg (show ¬ (false = true) by decide)] at H; exact H
            clear H
            have H := H1
            clear H1
            obtain rfl := Option.some.inj H
            try go_wp2
            replace BK388 := Aside0.mk (blk_drew BK388.out)
            replace HB := Aside0.mk (below_drew1 HB.out)
            refine start_ (n := 43) (S := fun w' => w'.cell? ⟨gb388, 0, none⟩ = some (.slice A0_0 l0_0.length c0_0) ∧ w'.cell? ⟨gb388, 1, none⟩ = some (.slice A0_1 l0_1.length c0_1) ∧ w'.cell? ⟨gb388, 2, none⟩ = some (.int .i64 a0_2)) (ds := []) #[ff,ff,ff,ff,ff,ff,ff,ff,ff,ff,ff,ff,ff,ff,ff,ff,ff,ff,ff,ff,ff,ff,ff,ff,ff,ff,ff,ff,ff,ff,ff,ff,ff,ff,ff,ff,ff,ff,ff,ff,ff,ff,ff] (by kernel_rfl) rfl rfl ⟨(blk_cell BK388.out 0).trans rfl, (blk_cell BK388.out 1).trans rfl, (blk_cell BK388.out 2).trans rfl⟩ (fun hHeld => ?_); refine with_tabW emendateref36_step.tab8 emendateref36_step.bits8 (fun HT_ HW_ => ?_)
            generalize wc.drew = w88 at BK388 HB hHeld ⊢
            refine pu 0 123 ?_
            refine pu 1 124 ?_
            refine pu 2 125 ?_
            refine pu 4 127 ?_
            refine tu 3 126 hHeld ?_
            refine one_ (i := 5) (N := some 128) #[tt,tt,tt,tt,tt,tt,ff,ff,ff,ff,ff,ff,ff,ff,ff,ff,ff,ff,ff,ff,ff,ff,ff,ff,ff,ff,ff,ff,ff,ff,ff,ff,ff,ff,ff,ff,ff,ff,ff,ff,ff,ff,ff] rfl rfl (one_of HT_.out (by kernel_rfl)) (by decide) (fun K hK => ?_)
            refine goes_ Tryd.func34 (by kernel_rfl) rfl #[.agg #[.slice A0_0 l0_0.length c0_0, .slice A0_1 l0_1.length c0_1, .int .i64 a0_2], .int .i64 a4] (by rfl) rfl rfl (by (try simp only [List.map_toArray, List.map_cons, List.map_nil]); first | done | rfl | (simp only [List.length_drop, List.length_take]; rfl)) ?_
            with_reducible refine (emendateref36_swappable.calls _ _ l0_0 _ _ l0_1 a0_2 a4 false _ ?side1 ?side2 ?side3 ?side4 A60.out).mono ?_
            (case side1 => exact sd (Kd.C_below HR0_0.out HB.out))
            (case side2 => exact HC0_0.out)
            (case side3 => exact sd (Kd.C_below HR0_1.out HB.out))
            (case side4 => exact HC0_1.out)
            rintro e w89 ⟨rfl, hb⟩
            refine ⟨_, rfl, ?_⟩
            replace BK388 := Aside0.mk (bb BK388.out hb)
            replace HB := Aside0.mk (below_step (pb HB.out GE388.out) hb)
            (try clear hb)
            refine hK.out _ _ ⟨(blk_cell BK388.out 0).trans rfl, (blk_cell BK388.out 1).trans rfl, (blk_cell BK388.out 2).trans rfl⟩ (fun hHeld => ?_)
            clear hK K
            refine norm_ (a' := ?_) ?_ ?_
            rotate_left
            ·
             show Act.put _ (some 128) _ = _
             simp only [nrm]
             rfl
            refine pu 6 129 ?_
            refine pu 7 130 ?_
            refine qu 8 131 ?_
            refine qu 9 132 ?_
            refine qu 10 133 ?_
            refine qu 11 134 ?_
            refine qu 12 135 ?_
            refine pu 13 136 ?_
            refine pu 14 137 ?_
            refine qu 15 138 ?_
            refine qu 16 139 ?_
            refine qu 17 140 ?_
            refine qu 18 141 ?_
            refine qu 19 142 ?_
            refine qu 20 143 ?_
            refine qu 21 144 ?_
            refine qu 22 145 ?_
            refine qu 23 146 ?_
            refine qu 24 147 ?_
            refine qu 25 148 ?_
            refine qu 26 149 ?_
            refine pu 27 150 ?_
            refine pu 28 151 ?_
            refine qu 29 152 ?_
            refine qu 30 153 ?_
            refine qu 31 154 ?_
            refine qu 32 155 ?_
            refine qu 33 156 ?_
            refine qu 34 157 ?_
            refine qu 35 158 ?_
            refine qu 36 159 ?_
            refine qu 37 160 ?_
            refine qu 38 161 ?_
            refine qu 39 162 ?_
            refine qu 40 163 ?_
            refine pu 41 164 ?_
            refine pu 42 122 ?_
            refine done_ (done_of HT_.out (by kernel_rfl)) ?_
            try go_wp2
            go_ret
            exact ⟨er, pb HB.out GE388.out⟩
          ·
           rw [if_neg c59] at H
           have c59b0 : (a6 == 4) = false := beq_eq_false_iff_ne.mpr c59
           have c59b1 : (a6 != 4) = true := bne_iff_ne.mpr c59
           obtain rfl := Option.some.inj H
           try go_wp2
           replace BK388 := Aside0.mk (blk_drew BK388.out)
           replace HB := Aside0.mk (below_drew1 HB.out)
           refine start_ (n := 43) (S := fun w' => True) (ds := []) #[ff,ff,ff,ff,ff,ff,ff,ff,ff,ff,ff,ff,ff,ff,ff,ff,ff,ff,ff,ff,ff,ff,ff,ff,ff,ff,ff,ff,ff,ff,ff,ff,ff,ff,ff,ff,ff,ff,ff,ff,ff,ff,ff] (by kernel_rfl) rfl rfl trivial (fun hHeld => ?_); refine with_tabW emendateref36_step.tab8 emendateref36_step.bits8 (fun HT_ HW_ => ?_)
           generalize wc.drew = w90 at BK388 HB hHeld ⊢
           refine pu 0 123 ?_
           refine pu 1 124 ?_
           refine pu 2 125 ?_
           refine qu 3 126 ?_
           refine qu 4 127 ?_
           refine qu 5 128 ?_
           refine pu 6 129 ?_
           refine pu 7 130 ?_
           refine qu 8 131 ?_
           refine qu 9 132 ?_
           refine qu 10 133 ?_
           refine qu 11 134 ?_
           refine qu 12 135 ?_
           refine pu 13 136 ?_
           refine pu 14 137 ?_
           refine qu 15 138 ?_
           refine qu 16 139 ?_
           refine qu 17 140 ?_
           refine qu 18 141 ?_
           refine qu 19 142 ?_
           refine qu 20 143 ?_
           refine qu 21 144 ?_
           refine qu 22 145 ?_
           refine qu 23 146 ?_
           refine qu 24 147 ?_
           refine qu 25 148 ?_
           refine qu 26 149 ?_
           refine pu 27 150 ?_
           refine pu 28 151 ?_
           refine qu 29 152 ?_
           refine qu 30 153 ?_
           refine qu 31 154 ?_
           refine qu 32 155 ?_
           refine qu 33 156 ?_
           refine qu 34 157 ?_
           refine qu 35 158 ?_
           refine qu 36 159 ?_
           refine qu 37 160 ?_
           refine qu 38 161 ?_
           refine qu 39 162 ?_
           refine qu 40 163 ?_
           refine pu 41 164 ?_
           refine pu 42 122 ?_
           refine done_ (done_of HT_.out (by kernel_rfl)) ?_
           try go_wp2
           go_ret
           exact ⟨er, pb HB.out GE388.out⟩

end Go.Proofs.YtnddijafdphbnaaDoor.All
