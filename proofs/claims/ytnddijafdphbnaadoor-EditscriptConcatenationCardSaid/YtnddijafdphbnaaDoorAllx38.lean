-- Printed by wip/tools/wprint.py (a program of this session over the kit's printer). Not trusted: Lean checks it.
import Derived.Test.YtnddijafdphbnaaDoorAllSt
import Derived.Test.YtnddijafdphbnaaDoorAllx16
import Derived.Test.YtnddijafdphbnaaDoorAllx19
import Derived.Test.YtnddijafdphbnaaDoorAllx24
namespace Go.Proofs.YtnddijafdphbnaaDoor.All
open Go.RowKit Go.Proofs.YtnddijafdphbnaaDoorW.PrintWords Go.Proofs.YtnddijafdphbnaaDoorW.PrintLast Go.Proofs.YtnddijafdphbnaaDoorW.PrintMore
attribute [local go_sem] max2_int min2_int max_two min_two max_three min_three max_four min_four   -- for this text's walks alone
set_option linter.unusedVariables false
set_option linter.unusedSimpArgs false

theorem heap33 : Kd.Heap k33 := Kd.heap_iso _ (Kd.heap_pair (Kd.heap_int .i64) (Kd.heap_pair (Kd.heap_slice 3 (Kd.heap_int .i64)) (Kd.heap_int .i64)))
/-! ### emendatelaw36_EditscriptConcatenation: function 3 -/
def emendatelaw36_EditscriptConcatenation.j0 : Nat → Bool → List (S33) → List Int → Int → List (S33) → List Int → Int → List Int → List Int → Option (Bool)
 | 0, _, _, _, _, _, _, _, _, _ => none
 | k + 1, x55, x524000, x524001, x524002, x525000, x525001, x525002, x526000, x526001 => if x55 = true then (some true) else ((some (([] : List (S33)) : List (S33))).bind fun y530 => (if y530.length + x524000.length < 3518437208883 then ((some (y530 ++ x524000 : List (S33))).bind fun y533 => (if y533.length + x525000.length < 3518437208883 then ((some (([] : List Int) : List Int)).bind fun y540 => (if y540.length + x526000.length < 17592186044416 then ((some (y540 ++ x526000 : List Int)).bind fun y543 => (if y543.length + x526001.length < 17592186044416 then ((editscript_Distance.f k (y533 ++ x525000) x524001 x524002 (y543 ++ x526001)).bind fun t549 => ((editscript_Distance.f k x524000 x524001 x524002 x526000).bind fun t550 => ((editscript_Distance.f k x525000 x525001 x525002 x526001).bind fun t551 => (some (decide (t549 ≤ (wrap64 (t550 + t551)))))))) else (none))) else (none))) else (none))) else (none)))
def emendatelaw36_EditscriptConcatenation.f (k : Nat) (l0_0 : List (S33)) (l0_1 : List Int) (a0_2 : Int) (l1_0 : List (S33)) (l1_1 : List Int) (a1_2 : Int) (l2_0 : List Int) (l2_1 : List Int) : Option (Bool) := (emendatelaw36_awake.f k).bind fun t526 => (if t526 = true then ((emendatelaw36_fair.f k l0_0 l0_1 a0_2).bind fun t527 => (if t527 = true then ((emendatelaw36_fair.f k l1_0 l1_1 a1_2).bind fun t528 => (if t528 = true then (if (l2_0.length : Int) > 6 then (emendatelaw36_EditscriptConcatenation.j0 k true l0_0 l0_1 a0_2 l1_0 l1_1 a1_2 l2_0 l2_1) else (if (l2_1.length : Int) > 6 then (emendatelaw36_EditscriptConcatenation.j0 k true l0_0 l0_1 a0_2 l1_0 l1_1 a1_2 l2_0 l2_1) else ((emendateref27_SameInts.f k l0_1 l1_1).bind fun t529 => (if t529 = true then (if a0_2 = a1_2 then (emendatelaw36_EditscriptConcatenation.j0 k (decide ((wrap64 ((l0_0.length : Int) + (l1_0.length : Int))) > 8)) l0_0 l0_1 a0_2 l1_0 l1_1 a1_2 l2_0 l2_1) else (emendatelaw36_EditscriptConcatenation.j0 k true l0_0 l0_1 a0_2 l1_0 l1_1 a1_2 l2_0 l2_1)) else (emendatelaw36_EditscriptConcatenation.j0 k true l0_0 l0_1 a0_2 l1_0 l1_1 a1_2 l2_0 l2_1))))) else (emendatelaw36_EditscriptConcatenation.j0 k true l0_0 l0_1 a0_2 l1_0 l1_1 a1_2 l2_0 l2_1))) else (emendatelaw36_EditscriptConcatenation.j0 k true l0_0 l0_1 a0_2 l1_0 l1_1 a1_2 l2_0 l2_1))) else (some false))
def emendatelaw36_EditscriptConcatenation.T5 : Bool × List (List Nat × List Nat) := (true, [([], []), ([], []), ([1], [1]), ([0, 2], [0, 2]), ([], []), ([4], [4]), ([3, 5, 3], [3, 5]), ([], []), ([7], [7]), ([], []), ([9], [9]), ([6, 8, 10], [6, 8, 10]), ([], []), ([12, 11, 6, 0, 1, 2, 3, 4, 5, 6, 7, 8, 9, 10, 11, 12], [11, 12])])
def emendatelaw36_EditscriptConcatenation.B5 : List Nat := [0, 0, 2, 7, 0, 16, 63, 0, 128, 0, 512, 2047, 0, 8191]
theorem emendatelaw36_EditscriptConcatenation.tab5 : rtab .any (opsOf Tryd.f3 5) = emendatelaw36_EditscriptConcatenation.T5 := by kernel_rfl
theorem emendatelaw36_EditscriptConcatenation.bits5 : waitsOk emendatelaw36_EditscriptConcatenation.T5.2 emendatelaw36_EditscriptConcatenation.B5 = true := by kernel_rfl
def emendatelaw36_EditscriptConcatenation.T6 : Bool × List (List Nat × List Nat) := (true, [([], []), ([], []), ([1], [1]), ([0, 2], [0, 2]), ([], []), ([4], [4]), ([3, 5, 3], [3, 5]), ([6, 6, 0, 1, 2, 3, 4, 5, 6], [6])])
def emendatelaw36_EditscriptConcatenation.B6 : List Nat := [0, 0, 2, 7, 0, 16, 63, 127]
theorem emendatelaw36_EditscriptConcatenation.tab6 : rtab .any (opsOf Tryd.f3 6) = emendatelaw36_EditscriptConcatenation.T6 := by kernel_rfl
theorem emendatelaw36_EditscriptConcatenation.bits6 : waitsOk emendatelaw36_EditscriptConcatenation.T6.2 emendatelaw36_EditscriptConcatenation.B6 = true := by kernel_rfl
def emendatelaw36_EditscriptConcatenation.T7 : Bool × List (List Nat × List Nat) := (true, [([], []), ([], []), ([0, 1], [0, 1]), ([], []), ([], []), ([4], [4]), ([3, 5, 2], [3, 5]), ([], []), ([], []), ([8], [8]), ([7, 9, 6], [7, 9]), ([6, 10], [6, 10]), ([2, 11], [2, 11]), ([12, 10, 0, 1, 2, 3, 4, 5, 6, 7, 8, 9, 10, 11, 12], [12])])
def emendatelaw36_EditscriptConcatenation.B7 : List Nat := [0, 0, 3, 0, 0, 16, 63, 0, 0, 256, 1023, 2047, 4095, 8191]
theorem emendatelaw36_EditscriptConcatenation.tab7 : rtab .any (opsOf Tryd.f3 7) = emendatelaw36_EditscriptConcatenation.T7 := by kernel_rfl
theorem emendatelaw36_EditscriptConcatenation.bits7 : waitsOk emendatelaw36_EditscriptConcatenation.T7.2 emendatelaw36_EditscriptConcatenation.B7 = true := by kernel_rfl
set_option maxHeartbeats 8000000 in
set_option maxRecDepth 100000 in
theorem emendatelaw36_EditscriptConcatenation.calls (k : Nat) (A0_0 : Option Addr) (c0_0 : Nat) (l0_0 : List (S33)) (A0_1 : Option Addr) (c0_1 : Nat) (l0_1 : List Int) (a0_2 : Int) (A1_0 : Option Addr) (c1_0 : Nat) (l1_0 : List (S33)) (A1_1 : Option Addr) (c1_1 : Nat) (l1_1 : List Int) (a1_2 : Int) (A2_0 : Option Addr) (c2_0 : Nat) (l2_0 : List Int) (A2_1 : Option Addr) (c2_1 : Nat) (l2_1 : List Int) (r : Bool) (w : World) (hr0_0 : Kd.C k33 w A0_0 l0_0.length l0_0) (hc0_0 : l0_0.length ≤ c0_0) (hr0_1 : Kd.C (Kd.int .i64) w A0_1 l0_1.length l0_1) (hc0_1 : l0_1.length ≤ c0_1) (hr1_0 : Kd.C k33 w A1_0 l1_0.length l1_0) (hc1_0 : l1_0.length ≤ c1_0) (hr1_1 : Kd.C (Kd.int .i64) w A1_1 l1_1.length l1_1) (hc1_1 : l1_1.length ≤ c1_1) (hr2_0 : Kd.C (Kd.int .i64) w A2_0 l2_0.length l2_0) (hc2_0 : l2_0.length ≤ c2_0) (hr2_1 : Kd.C (Kd.int .i64) w A2_1 l2_1.length l2_1) (hc2_1 : l2_1.length ≤ c2_1) (hv : VarOk w) (h : emendatelaw36_EditscriptConcatenation.f k l0_0 l0_1 a0_2 l1_0 l1_1 a1_2 l2_0 l2_1 = some r) :
  Calls Tryd.prog 3 #[.agg #[.slice A0_0 l0_0.length c0_0, .slice A0_1 l0_1.length c0_1, .int .i64 a0_2], .agg #[.slice A1_0 l1_0.length c1_0, .slice A1_1 l1_1.length c1_1, .int .i64 a1_2], .agg #[.slice A2_0 l2_0.length c2_0, .slice A2_1 l2_1.length c2_1]] w fun e w' => e = .returned (.bool r) ∧ Below w.heap.size w w' := by
 have HV := Aside0.mk hv
 clear hv
 have hu25 := Tryd.underlying25
 have hu26 := Tryd.underlying26
 have HR0_0 := Aside0.mk hr0_0
 have HC0_0 := Aside0.mk hc0_0
 clear hr0_0 hc0_0
 have HR0_1 := Aside0.mk hr0_1
 have HC0_1 := Aside0.mk hc0_1
 clear hr0_1 hc0_1
 have HR1_0 := Aside0.mk hr1_0
 have HC1_0 := Aside0.mk hc1_0
 clear hr1_0 hc1_0
 have HR1_1 := Aside0.mk hr1_1
 have HC1_1 := Aside0.mk hc1_1
 clear hr1_1 hc1_1
 have HR2_0 := Aside0.mk hr2_0
 have HC2_0 := Aside0.mk hc2_0
 clear hr2_0 hc2_0
 have HR2_1 := Aside0.mk hr2_1
 have HC2_1 := Aside0.mk hc2_1
 clear hr2_1 hc2_1
 have HB := Aside0.mk (Below.refl w.heap.size w)
 have H : ((emendatelaw36_awake.f k).bind fun t526 => (if t526 = true then ((emendatelaw36_fair.f k l0_0 l0_1 a0_2).bind fun t527 => (if t527 = true then ((emendatelaw36_fair.f k l1_0 l1_1 a1_2).bind fun t528 => (if t528 = true then (if (l2_0.length : Int) > 6 then (emendatelaw36_EditscriptConcatenation.j0 k true l0_0 l0_1 a0_2 l1_0 l1_1 a1_2 l2_0 l2_1) else (if (l2_1.length : Int) > 6 then (emendatelaw36_EditscriptConcatenation.j0 k true l0_0 l0_1 a0_2 l1_0 l1_1 a1_2 l2_0 l2_1) else ((emendateref27_SameInts.f k l0_1 l1_1).bind fun t529 => (if t529 = true then (if a0_2 = a1_2 then (emendatelaw36_EditscriptConcatenation.j0 k (decide ((wrap64 ((l0_0.length : Int) + (l1_0.length : Int))) > 8)) l0_0 l0_1 a0_2 l1_0 l1_1 a1_2 l2_0 l2_1) else (emendatelaw36_EditscriptConcatenation.j0 k true l0_0 l0_1 a0_2 l1_0 l1_1 a1_2 l2_0 l2_1)) else (emendatelaw36_EditscriptConcatenation.j0 k true l0_0 l0_1 a0_2 l1_0 l1_1 a1_2 l2_0 l2_1))))) else (emendatelaw36_EditscriptConcatenation.j0 k true l0_0 l0_1 a0_2 l1_0 l1_1 a1_2 l2_0 l2_1))) else (emendatelaw36_EditscriptConcatenation.j0 k true l0_0 l0_1 a0_2 l1_0 l1_1 a1_2 l2_0 l2_1))) else (some false))) = some r := h
 clear h
 replace H := Option.bind_eq_some_iff.mp H
 obtain ⟨t526, A40, H⟩ := H
 replace H : (if t526 = true then ((emendatelaw36_fair.f k l0_0 l0_1 a0_2).bind fun t527 => (if t527 = true then ((emendatelaw36_fair.f k l1_0 l1_1 a1_2).bind fun t528 => (if t528 = true then (if (l2_0.length : Int) > 6 then (emendatelaw36_EditscriptConcatenation.j0 k true l0_0 l0_1 a0_2 l1_0 l1_1 a1_2 l2_0 l2_1) else (if (l2_1.length : Int) > 6 then (emendatelaw36_EditscriptConcatenation.j0 k true l0_0 l0_1 a0_2 l1_0 l1_1 a1_2 l2_0 l2_1) else ((emendateref27_SameInts.f k l0_1 l1_1).bind fun t529 => (if t529 = true then (if a0_2 = a1_2 then (emendatelaw36_EditscriptConcatenation.j0 k (decide ((wrap64 ((l0_0.length : Int) + (l1_0.length : Int))) > 8)) l0_0 l0_1 a0_2 l1_0 l1_1 a1_2 l2_0 l2_1) else (emendatelaw36_EditscriptConcatenation.j0 k true l0_0 l0_1 a0_2 l1_0 l1_1 a1_2 l2_0 l2_1)) else (emendatelaw36_EditscriptConcatenation.j0 k true l0_0 l0_1 a0_2 l1_0 l1_1 a1_2 l2_0 l2_1))))) else (emendatelaw36_EditscriptConcatenation.j0 k true l0_0 l0_1 a0_2 l1_0 l1_1 a1_2 l2_0 l2_1))) else (emendatelaw36_EditscriptConcatenation.j0 k true l0_0 l0_1 a0_2 l1_0 l1_1 a1_2 l2_0 l2_1))) else (some false)) = some r := H
 have A4 := Aside0.mk A40
 clear A40
 by_cases c5 : t526 = true
 ·
  subst c5
  have H1 : ((emendatelaw36_fair.f k l0_0 l0_1 a0_2).bind fun t527 => (if t527 = true then ((emendatelaw36_fair.f k l1_0 l1_1 a1_2).bind fun t528 => (if t528 = true then (if (l2_0.length : Int) > 6 then (emendatelaw36_EditscriptConcatenation.j0 k true l0_0 l0_1 a0_2 l1_0 l1_1 a1_2 l2_0 l2_1) else (if (l2_1.length : Int) > 6 then (emendatelaw36_EditscriptConcatenation.j0 k true l0_0 l0_1 a0_2 l1_0 l1_1 a1_2 l2_0 l2_1) else ((emendateref27_SameInts.f k l0_1 l1_1).bind fun t529 => (if t529 = true then (if a0_2 = a1_2 then (emendatelaw36_EditscriptConcatenation.j0 k (decide ((wrap64 ((l0_0.length : Int) + (l1_0.length : Int))) > 8)) l0_0 l0_1 a0_2 l1_0 l1_1 a1_2 l2_0 l2_1) else (emendatelaw36_EditscriptConcatenation.j0 k true l0_0 l0_1 a0_2 l1_0 l1_1 a1_2 l2_0 l2_1)) else (emendatelaw36_EditscriptConcatenation.j0 k true l0_0 l0_1 a0_2 l1_0 l1_1 a1_2 l2_0 l2_1))))) else (emendatelaw36_EditscriptConcatenation.j0 k true l0_0 l0_1 a0_2 l1_0 l1_1 a1_2 l2_0 l2_1))) else (emendatelaw36_EditscriptConcatenation.j0 k true l0_0 l0_1 a0_2 l1_0 l1_1 a1_2 l2_0 l2_1))) = some r := by rw [if_pos rfl] at H; exact H
  clear H
  have H := H1
  clear H1
  have HC6 := Aside0.mk H
  clear H
  go_enter Tryd.func3, Tryd.ntmps3
  go_upto_region 3 with (first | ((with_reducible refine gate_dst (N := 3) rfl ?_); (try (refine gate_guard (by rfl) ?_; dsimp only)); refine box_event ?hg (N := 3) ?hd (cs := #[.slice A0_0 l0_0.length c0_0, .slice A0_1 l0_1.length c0_1, .int .i64 a0_2]) (t := 25) ?hr ?_; (case hd => rfl); (case hg => rfl); (case hr => first | (go_simp; done) | (go_simp; rfl)); intro gb523 hg w7 hbox hb; have n0_ := Aside0.mk (below_step (pB HB.out) hb); have n1_ := Aside0.mk (hbox); have n2_ := Aside0.mk ((by rw [hg]; exact (below_size (pB HB.out)) : w.heap.size ≤ gb523)); have n3_ := Aside0.mk ((by rw [hg]; exact (below_size (pB HB.out)) : w.heap.size ≤ gb523)); clear HB; have HB := n0_; have BK523 := n1_; have GW523 := n2_; have GE523 := n3_; clear n0_ n1_ n2_ n3_; clear hb hbox hg) | ((with_reducible refine gate_dst (N := 4) rfl ?_); (try (refine gate_guard (by rfl) ?_; dsimp only)); refine box_event ?hg (N := 4) ?hd (cs := #[.slice A1_0 l1_0.length c1_0, .slice A1_1 l1_1.length c1_1, .int .i64 a1_2]) (t := 25) ?hr ?_; (case hd => rfl); (case hg => rfl); (case hr => first | (go_simp; done) | (go_simp; rfl)); intro gb524 hg w8 hbox hb; have n0_ := Aside0.mk (bb BK523.out hb); have n1_ := Aside0.mk (below_step (pb HB.out GE523.out) hb); have n2_ := Aside0.mk (hbox); have n3_ := Aside0.mk ((by rw [hg]; exact (below_size (pb HB.out GE523.out)) : w.heap.size ≤ gb524)); have n4_ := Aside0.mk ((by rw [hg]; exact (below_size (pb HB.out GE523.out)) : w.heap.size ≤ gb524)); have n5_ := Aside0.mk ((by rw [hg]; exact Nat.ne_of_lt (blk_lt (g := gb523) (o := .cells #[.slice A0_0 l0_0.length c0_0, .slice A0_1 l0_1.length c0_1, .int .i64 a0_2] 25 (0, 0)) (pk BK523.out)) : gb523 ≠ gb524)); have n6_ := Aside0.mk ((by rw [hg]; exact Nat.ne_of_gt (blk_lt (g := gb523) (o := .cells #[.slice A0_0 l0_0.length c0_0, .slice A0_1 l0_1.length c0_1, .int .i64 a0_2] 25 (0, 0)) (pk BK523.out)) : gb524 ≠ gb523)); clear BK523; clear HB; have BK523 := n0_; have HB := n1_; have BK524 := n2_; have GW524 := n3_; have GE524 := n4_; have NB523_524 := n5_; have NB524_523 := n6_; clear n0_ n1_ n2_ n3_ n4_ n5_ n6_; clear hb hbox hg) | ((with_reducible refine gate_dst (N := 5) rfl ?_); (try (refine gate_guard (by rfl) ?_; dsimp only)); refine box_event ?hg (N := 5) ?hd (cs := #[.slice A2_0 l2_0.length c2_0, .slice A2_1 l2_1.length c2_1]) (t := 26) ?hr ?_; (case hd => rfl); (case hg => rfl); (case hr => first | (go_simp; done) | (go_simp; rfl)); intro gb525 hg w9 hbox hb; have n0_ := Aside0.mk (bb BK523.out hb); have n1_ := Aside0.mk (bb BK524.out hb); have n2_ := Aside0.mk (below_step (pc HB.out GE523.out GE524.out) hb); have n3_ := Aside0.mk (hbox); have n4_ := Aside0.mk ((by rw [hg]; exact (below_size (pc HB.out GE523.out GE524.out)) : w.heap.size ≤ gb525)); have n5_ := Aside0.mk ((by rw [hg]; exact (below_size (pc HB.out GE523.out GE524.out)) : w.heap.size ≤ gb525)); have n6_ := Aside0.mk ((by rw [hg]; exact Nat.ne_of_lt (blk_lt (g := gb523) (o := .cells #[.slice A0_0 l0_0.length c0_0, .slice A0_1 l0_1.length c0_1, .int .i64 a0_2] 25 (0, 0)) (pk BK523.out)) : gb523 ≠ gb525)); have n7_ := Aside0.mk ((by rw [hg]; exact Nat.ne_of_gt (blk_lt (g := gb523) (o := .cells #[.slice A0_0 l0_0.length c0_0, .slice A0_1 l0_1.length c0_1, .int .i64 a0_2] 25 (0, 0)) (pk BK523.out)) : gb525 ≠ gb523)); have n8_ := Aside0.mk ((by rw [hg]; exact Nat.ne_of_lt (blk_lt (g := gb524) (o := .cells #[.slice A1_0 l1_0.length c1_0, .slice A1_1 l1_1.length c1_1, .int .i64 a1_2] 25 (0, 0)) (pk BK524.out)) : gb524 ≠ gb525)); have n9_ := Aside0.mk ((by rw [hg]; exact Nat.ne_of_gt (blk_lt (g := gb524) (o := .cells #[.slice A1_0 l1_0.length c1_0, .slice A1_1 l1_1.length c1_1, .int .i64 a1_2] 25 (0, 0)) (pk BK524.out)) : gb525 ≠ gb524)); clear BK523; clear BK524; clear HB; have BK523 := n0_; have BK524 := n1_; have HB := n2_; have BK525 := n3_; have GW525 := n4_; have GE525 := n5_; have NB523_525 := n6_; have NB525_523 := n7_; have NB524_525 := n8_; have NB525_524 := n9_; clear n0_ n1_ n2_ n3_ n4_ n5_ n6_ n7_ n8_ n9_; clear hb hbox hg) | ((with_reducible refine gate_callee (f := 11) rfl ?_); refine gl (some 9) Tryd.func11 #[] ?_; (with_reducible refine (emendatelaw36_awake.calls k  true _ (HV.out.below (by repeat (first | (with_reducible first | exact HB.out | apply below_alloc | apply pw_below_drewN | apply below_drew1 | refine below_set ?_ GE523.out | refine below_set ?_ GE524.out | refine below_set ?_ GE525.out) | exact HB.out)) rfl) A4.out).mono ?_); rintro e w10 ⟨rfl, hb⟩; refine ⟨_, rfl, ?_⟩; replace BK523 := Aside0.mk (bb BK523.out hb); replace BK524 := Aside0.mk (bb BK524.out hb); replace BK525 := Aside0.mk (bb BK525.out hb); replace HB := Aside0.mk (below_step (by repeat (first | (with_reducible first | exact HB.out | apply below_alloc | apply pw_below_drewN | apply below_drew1 | refine below_set ?_ GE523.out | refine below_set ?_ GE524.out | refine below_set ?_ GE525.out) | exact HB.out)) hb); (try clear hb)))
  (try simp only [Act.put, List.setIfInBounds_toArray, List.set_cons_zero, List.set_cons_succ])
  go_cut [55] (fun v55 wc => ∃ (kq : Nat) (x55_5 : Bool), v55 = .bool x55_5 ∧ Aside0 (emendatelaw36_EditscriptConcatenation.j0 kq x55_5 l0_0 l0_1 a0_2 l1_0 l1_1 a1_2 l2_0 l2_1 = some r) ∧ Aside0 (kq ≤ k) ∧ Aside0 (wc.heap[gb523]? = some (.cells #[(.slice A0_0 l0_0.length c0_0), (.slice A0_1 l0_1.length c0_1), .int .i64 a0_2] 25 (0, 0))) ∧ Aside0 (wc.heap[gb524]? = some (.cells #[(.slice A1_0 l1_0.length c1_0), (.slice A1_1 l1_1.length c1_1), .int .i64 a1_2] 25 (0, 0))) ∧ Aside0 (wc.heap[gb525]? = some (.cells #[(.slice A2_0 l2_0.length c2_0), (.slice A2_1 l2_1.length c2_1)] 26 (0, 0))) ∧ Aside0 (Below w.heap.size w wc))
  case first => as_aux_lemma =>
   have H := HC6.out
   clear HC6
   replace H := Option.bind_eq_some_iff.mp H
   obtain ⟨t527, A110, H⟩ := H
   replace H : (if t527 = true then ((emendatelaw36_fair.f k l1_0 l1_1 a1_2).bind fun t528 => (if t528 = true then (if (l2_0.length : Int) > 6 then (emendatelaw36_EditscriptConcatenation.j0 k true l0_0 l0_1 a0_2 l1_0 l1_1 a1_2 l2_0 l2_1) else (if (l2_1.length : Int) > 6 then (emendatelaw36_EditscriptConcatenation.j0 k true l0_0 l0_1 a0_2 l1_0 l1_1 a1_2 l2_0 l2_1) else ((emendateref27_SameInts.f k l0_1 l1_1).bind fun t529 => (if t529 = true then (if a0_2 = a1_2 then (emendatelaw36_EditscriptConcatenation.j0 k (decide ((wrap64 ((l0_0.length : Int) + (l1_0.length : Int))) > 8)) l0_0 l0_1 a0_2 l1_0 l1_1 a1_2 l2_0 l2_1) else (emendatelaw36_EditscriptConcatenation.j0 k true l0_0 l0_1 a0_2 l1_0 l1_1 a1_2 l2_0 l2_1)) else (emendatelaw36_EditscriptConcatenation.j0 k true l0_0 l0_1 a0_2 l1_0 l1_1 a1_2 l2_0 l2_1))))) else (emendatelaw36_EditscriptConcatenation.j0 k true l0_0 l0_1 a0_2 l1_0 l1_1 a1_2 l2_0 l2_1))) else (emendatelaw36_EditscriptConcatenation.j0 k true l0_0 l0_1 a0_2 l1_0 l1_1 a1_2 l2_0 l2_1)) = some r := H
   have A11 := Aside0.mk A110
   clear A110
   by_cases c12 : t527 = true
   ·
    subst c12
    have H1 : ((emendatelaw36_fair.f k l1_0 l1_1 a1_2).bind fun t528 => (if t528 = true then (if (l2_0.length : Int) > 6 then (emendatelaw36_EditscriptConcatenation.j0 k true l0_0 l0_1 a0_2 l1_0 l1_1 a1_2 l2_0 l2_1) else (if (l2_1.length : Int) > 6 then (emendatelaw36_EditscriptConcatenation.j0 k true l0_0 l0_1 a0_2 l1_0 l1_1 a1_2 l2_0 l2_1) else ((emendateref27_SameInts.f k l0_1 l1_1).bind fun t529 => (if t529 = true then (if a0_2 = a1_2 then (emendatelaw36_EditscriptConcatenation.j0 k (decide ((wrap64 ((l0_0.length : Int) + (l1_0.length : Int))) > 8)) l0_0 l0_1 a0_2 l1_0 l1_1 a1_2 l2_0 l2_1) else (emendatelaw36_EditscriptConcatenation.j0 k true l0_0 l0_1 a0_2 l1_0 l1_1 a1_2 l2_0 l2_1)) else (emendatelaw36_EditscriptConcatenation.j0 k true l0_0 l0_1 a0_2 l1_0 l1_1 a1_2 l2_0 l2_1))))) else (emendatelaw36_EditscriptConcatenation.j0 k true l0_0 l0_1 a0_2 l1_0 l1_1 a1_2 l2_0 l2_1))) = some r := by rw [if_pos rfl] at H; exact H
    clear H
    have H := H1
    clear H1
    replace H := Option.bind_eq_some_iff.mp H
    obtain ⟨t528, A130, H⟩ := H
    replace H : (if t528 = true then (if (l2_0.length : Int) > 6 then (emendatelaw36_EditscriptConcatenation.j0 k true l0_0 l0_1 a0_2 l1_0 l1_1 a1_2 l2_0 l2_1) else (if (l2_1.length : Int) > 6 then (emendatelaw36_EditscriptConcatenation.j0 k true l0_0 l0_1 a0_2 l1_0 l1_1 a1_2 l2_0 l2_1) else ((emendateref27_SameInts.f k l0_1 l1_1).bind fun t529 => (if t529 = true then (if a0_2 = a1_2 then (emendatelaw36_EditscriptConcatenation.j0 k (decide ((wrap64 ((l0_0.length : Int) + (l1_0.length : Int))) > 8)) l0_0 l0_1 a0_2 l1_0 l1_1 a1_2 l2_0 l2_1) else (emendatelaw36_EditscriptConcatenation.j0 k true l0_0 l0_1 a0_2 l1_0 l1_1 a1_2 l2_0 l2_1)) else (emendatelaw36_EditscriptConcatenation.j0 k true l0_0 l0_1 a0_2 l1_0 l1_1 a1_2 l2_0 l2_1))))) else (emendatelaw36_EditscriptConcatenation.j0 k true l0_0 l0_1 a0_2 l1_0 l1_1 a1_2 l2_0 l2_1)) = some r := H
    have A13 := Aside0.mk A130
    clear A130
    by_cases c14 : t528 = true
    ·
     subst c14
     have H1 : (if (l2_0.length : Int) > 6 then (emendatelaw36_EditscriptConcatenation.j0 k true l0_0 l0_1 a0_2 l1_0 l1_1 a1_2 l2_0 l2_1) else (if (l2_1.length : Int) > 6 then (emendatelaw36_EditscriptConcatenation.j0 k true l0_0 l0_1 a0_2 l1_0 l1_1 a1_2 l2_0 l2_1) else ((emendateref27_SameInts.f k l0_1 l1_1).bind fun t529 => (if t529 = true then (if a0_2 = a1_2 then (emendatelaw36_EditscriptConcatenation.j0 k (decide ((wrap64 ((l0_0.length : Int) + (l1_0.length : Int))) > 8)) l0_0 l0_1 a0_2 l1_0 l1_1 a1_2 l2_0 l2_1) else (emendatelaw36_EditscriptConcatenation.j0 k true l0_0 l0_1 a0_2 l1_0 l1_1 a1_2 l2_0 l2_1)) else (emendatelaw36_EditscriptConcatenation.j0 k true l0_0 l0_1 a0_2 l1_0 l1_1 a1_2 l2_0 l2_1))))) = some r := by rw [if_pos rfl] at H; exact H
     clear H
     have H := H1
     clear H1
     by_cases c15 : (l2_0.length : Int) > 6
     ·
      rw [if_pos c15] at H
      have c15b0 : decide (6 < (l2_0.length : Int)) = true := decide_eq_true c15
      have c15b1 : decide (6 < l2_0.length) = true := decide_eq_true (by omega)
      clear c15
      (first | rw [c15b0] | (simp only [i64_w, i32_w]; rw [c15b0]) | skip)
      have H' := Aside0.mk H
      clear H
      have hnb16 := NB523_524.out
      have hnc16 := NB524_523.out
      have hnb17 := NB523_525.out
      have hnc17 := NB525_523.out
      obtain ⟨hcz18_0, hcz18_1, hcz18_2, hfz18_0, hfz18_1, hfz18_2⟩ := cz3 BK523.out
      go_wp2_with (first | ((with_reducible refine gate_callee (f := 12) rfl ?_); refine gl (some 12) Tryd.func12 #[.agg #[.slice A0_0 l0_0.length c0_0, .slice A0_1 l0_1.length c0_1, .int .i64 a0_2]] ?_; (with_reducible refine (emendatelaw36_fair.calls k _ _ l0_0 _ _ l0_1 a0_2 true _ ?side1 ?side2 ?side3 ?side4 A11.out).mono ?_); (case side1 => exact sd (Kd.C_below HR0_0.out HB.out)); (case side2 => exact HC0_0.out); (case side3 => exact sd (Kd.C_below HR0_1.out HB.out)); (case side4 => exact HC0_1.out); rintro e w19 ⟨rfl, hb⟩; refine ⟨_, rfl, ?_⟩; replace BK523 := Aside0.mk (bb BK523.out hb); replace BK524 := Aside0.mk (bb BK524.out hb); replace BK525 := Aside0.mk (bb BK525.out hb); replace HB := Aside0.mk (below_step (by repeat (first | (with_reducible first | exact HB.out | apply below_alloc | apply pw_below_drewN | apply below_drew1 | refine below_set ?_ GE523.out | refine below_set ?_ GE524.out | refine below_set ?_ GE525.out) | exact HB.out)) hb); (try clear hb); have hnb20 := NB524_525.out; have hnc20 := NB525_524.out; obtain ⟨hcz21_0, hcz21_1, hcz21_2, hfz21_0, hfz21_1, hfz21_2⟩ := cz3 BK524.out) | (go_at_call 12; (with_reducible refine (emendatelaw36_fair.calls k _ _ l1_0 _ _ l1_1 a1_2 true _ ?side1 ?side2 ?side3 ?side4 A13.out).mono ?_); (case side1 => exact sd (Kd.C_below HR1_0.out HB.out)); (case side2 => exact HC1_0.out); (case side3 => exact sd (Kd.C_below HR1_1.out HB.out)); (case side4 => exact HC1_1.out); rintro e w22 ⟨rfl, hb⟩; replace BK523 := Aside0.mk (bb BK523.out hb); replace BK524 := Aside0.mk (bb BK524.out hb); replace BK525 := Aside0.mk (bb BK525.out hb); replace HB := Aside0.mk (below_step (by repeat (first | (with_reducible first | exact HB.out | apply below_alloc | apply pw_below_drewN | apply below_drew1 | refine below_set ?_ GE523.out | refine below_set ?_ GE524.out | refine below_set ?_ GE525.out) | exact HB.out)) hb); (try clear hb); obtain ⟨hcz23_0, hcz23_1, hfz23_0, hfz23_1⟩ := cz2 BK525.out))
      go_meet
      case rel => exact ⟨_, (true), rr, H', ⟨by first | omega | exact Nat.le_refl _⟩, ⟨by (with_reducible repeat (first | refine blk_drewN ?_ _ | refine blk_drew ?_ | refine blk_alloc ?_ _)); exact BK523.out⟩, ⟨by (with_reducible repeat (first | refine blk_drewN ?_ _ | refine blk_drew ?_ | refine blk_alloc ?_ _)); exact BK524.out⟩, ⟨by (with_reducible repeat (first | refine blk_drewN ?_ _ | refine blk_drew ?_ | refine blk_alloc ?_ _)); exact BK525.out⟩, ⟨by repeat (first | (with_reducible first | exact HB.out | apply below_alloc | apply pw_below_drewN | apply below_drew1 | refine below_set ?_ GE523.out | refine below_set ?_ GE524.out | refine below_set ?_ GE525.out) | exact HB.out)⟩⟩
     ·
      rw [if_neg c15] at H
      have c15b0 : decide (6 < (l2_0.length : Int)) = false := decide_eq_false c15
      have c15b1 : decide (6 < l2_0.length) = false := decide_eq_false (by omega)
      clear c15
      (first | rw [c15b0] | (simp only [i64_w, i32_w]; rw [c15b0]) | skip)
      by_cases c24 : (l2_1.length : Int) > 6
      ·
       rw [if_pos c24] at H
       have c24b0 : decide (6 < (l2_1.length : Int)) = true := decide_eq_true c24
       have c24b1 : decide (6 < l2_1.length) = true := decide_eq_true (by omega)
       clear c24
       have H' := Aside0.mk H
       clear H
       have hnb25 := NB523_524.out
       have hnc25 := NB524_523.out
       have hnb26 := NB523_525.out
       have hnc26 := NB525_523.out
       obtain ⟨hcz27_0, hcz27_1, hcz27_2, hfz27_0, hfz27_1, hfz27_2⟩ := cz3 BK523.out
       go_wp2_with (first | ((with_reducible refine gate_callee (f := 12) rfl ?_); refine gl (some 12) Tryd.func12 #[.agg #[.slice A0_0 l0_0.length c0_0, .slice A0_1 l0_1.length c0_1, .int .i64 a0_2]] ?_; (with_reducible refine (emendatelaw36_fair.calls k _ _ l0_0 _ _ l0_1 a0_2 true _ ?side1 ?side2 ?side3 ?side4 A11.out).mono ?_); (case side1 => exact sd (Kd.C_below HR0_0.out HB.out)); (case side2 => exact HC0_0.out); (case side3 => exact sd (Kd.C_below HR0_1.out HB.out)); (case side4 => exact HC0_1.out); rintro e w28 ⟨rfl, hb⟩; refine ⟨_, rfl, ?_⟩; replace BK523 := Aside0.mk (bb BK523.out hb); replace BK524 := Aside0.mk (bb BK524.out hb); replace BK525 := Aside0.mk (bb BK525.out hb); replace HB := Aside0.mk (below_step (by repeat (first | (with_reducible first | exact HB.out | apply below_alloc | apply pw_below_drewN | apply below_drew1 | refine below_set ?_ GE523.out | refine below_set ?_ GE524.out | refine below_set ?_ GE525.out) | exact HB.out)) hb); (try clear hb); have hnb29 := NB524_525.out; have hnc29 := NB525_524.out; obtain ⟨hcz30_0, hcz30_1, hcz30_2, hfz30_0, hfz30_1, hfz30_2⟩ := cz3 BK524.out) | (go_at_call 12; (with_reducible refine (emendatelaw36_fair.calls k _ _ l1_0 _ _ l1_1 a1_2 true _ ?side1 ?side2 ?side3 ?side4 A13.out).mono ?_); (case side1 => exact sd (Kd.C_below HR1_0.out HB.out)); (case side2 => exact HC1_0.out); (case side3 => exact sd (Kd.C_below HR1_1.out HB.out)); (case side4 => exact HC1_1.out); rintro e w31 ⟨rfl, hb⟩; replace BK523 := Aside0.mk (bb BK523.out hb); replace BK524 := Aside0.mk (bb BK524.out hb); replace BK525 := Aside0.mk (bb BK525.out hb); replace HB := Aside0.mk (below_step (by repeat (first | (with_reducible first | exact HB.out | apply below_alloc | apply pw_below_drewN | apply below_drew1 | refine below_set ?_ GE523.out | refine below_set ?_ GE524.out | refine below_set ?_ GE525.out) | exact HB.out)) hb); (try clear hb); obtain ⟨hcz32_0, hcz32_1, hfz32_0, hfz32_1⟩ := cz2 BK525.out))
       go_meet
       case rel => exact ⟨_, (true), rr, H', ⟨by first | omega | exact Nat.le_refl _⟩, ⟨by (with_reducible repeat (first | refine blk_drewN ?_ _ | refine blk_drew ?_ | refine blk_alloc ?_ _)); exact BK523.out⟩, ⟨by (with_reducible repeat (first | refine blk_drewN ?_ _ | refine blk_drew ?_ | refine blk_alloc ?_ _)); exact BK524.out⟩, ⟨by (with_reducible repeat (first | refine blk_drewN ?_ _ | refine blk_drew ?_ | refine blk_alloc ?_ _)); exact BK525.out⟩, ⟨by repeat (first | (with_reducible first | exact HB.out | apply below_alloc | apply pw_below_drewN | apply below_drew1 | refine below_set ?_ GE523.out | refine below_set ?_ GE524.out | refine below_set ?_ GE525.out) | exact HB.out)⟩⟩
      ·
       rw [if_neg c24] at H
       have c24b0 : decide (6 < (l2_1.length : Int)) = false := decide_eq_false c24
       have c24b1 : decide (6 < l2_1.length) = false := decide_eq_false (by omega)
       clear c24
       replace H := Option.bind_eq_some_iff.mp H
       obtain ⟨t529, A330, H⟩ := H
       replace H : (if t529 = true then (if a0_2 = a1_2 then (emendatelaw36_EditscriptConcatenation.j0 k (decide ((wrap64 ((l0_0.length : Int) + (l1_0.length : Int))) > 8)) l0_0 l0_1 a0_2 l1_0 l1_1 a1_2 l2_0 l2_1) else (emendatelaw36_EditscriptConcatenation.j0 k true l0_0 l0_1 a0_2 l1_0 l1_1 a1_2 l2_0 l2_1)) else (emendatelaw36_EditscriptConcatenation.j0 k true l0_0 l0_1 a0_2 l1_0 l1_1 a1_2 l2_0 l2_1)) = some r := H
       have A33 := Aside0.mk A330
       clear A330
       by_cases c34 : t529 = true
       ·
        subst c34
        have H1 : (if a0_2 = a1_2 then (emendatelaw36_EditscriptConcatenation.j0 k (decide ((wrap64 ((l0_0.length : Int) + (l1_0.length : Int))) > 8)) l0_0 l0_1 a0_2 l1_0 l1_1 a1_2 l2_0 l2_1) else (emendatelaw36_EditscriptConcatenation.j0 k true l0_0 l0_1 a0_2 l1_0 l1_1 a1_2 l2_0 l2_1)) = some r := by rw [if_pos rfl] at H; exact H
        clear H
        have H := H1
        clear H1
        by_cases c35 : a0_2 = a1_2
        ·
         rw [if_pos c35] at H
         have c35b0 : (a0_2 == a1_2) = true := beq_iff_eq.mpr c35
         have c35b1 : (a0_2 != a1_2) = false := bne_eq_false_iff_eq.mpr c35
         clear c35
         have H' := Aside0.mk H
         clear H
         have hnb36 := NB523_524.out
         have hnc36 := NB524_523.out
         have hnb37 := NB523_525.out
         have hnc37 := NB525_523.out
         obtain ⟨hcz38_0, hcz38_1, hcz38_2, hfz38_0, hfz38_1, hfz38_2⟩ := cz3 BK523.out
         go_wp2_with (first | ((with_reducible refine gate_callee (f := 12) rfl ?_); refine gl (some 12) Tryd.func12 #[.agg #[.slice A0_0 l0_0.length c0_0, .slice A0_1 l0_1.length c0_1, .int .i64 a0_2]] ?_; (with_reducible refine (emendatelaw36_fair.calls k _ _ l0_0 _ _ l0_1 a0_2 true _ ?side1 ?side2 ?side3 ?side4 A11.out).mono ?_); (case side1 => exact sd (Kd.C_below HR0_0.out HB.out)); (case side2 => exact HC0_0.out); (case side3 => exact sd (Kd.C_below HR0_1.out HB.out)); (case side4 => exact HC0_1.out); rintro e w39 ⟨rfl, hb⟩; refine ⟨_, rfl, ?_⟩; replace BK523 := Aside0.mk (bb BK523.out hb); replace BK524 := Aside0.mk (bb BK524.out hb); replace BK525 := Aside0.mk (bb BK525.out hb); replace HB := Aside0.mk (below_step (by repeat (first | (with_reducible first | exact HB.out | apply below_alloc | apply pw_below_drewN | apply below_drew1 | refine below_set ?_ GE523.out | refine below_set ?_ GE524.out | refine below_set ?_ GE525.out) | exact HB.out)) hb); (try clear hb); have hnb40 := NB524_525.out; have hnc40 := NB525_524.out; obtain ⟨hcz41_0, hcz41_1, hcz41_2, hfz41_0, hfz41_1, hfz41_2⟩ := cz3 BK524.out) | (go_at_call 12; (with_reducible refine (emendatelaw36_fair.calls k _ _ l1_0 _ _ l1_1 a1_2 true _ ?side1 ?side2 ?side3 ?side4 A13.out).mono ?_); (case side1 => exact sd (Kd.C_below HR1_0.out HB.out)); (case side2 => exact HC1_0.out); (case side3 => exact sd (Kd.C_below HR1_1.out HB.out)); (case side4 => exact HC1_1.out); rintro e w42 ⟨rfl, hb⟩; replace BK523 := Aside0.mk (bb BK523.out hb); replace BK524 := Aside0.mk (bb BK524.out hb); replace BK525 := Aside0.mk (bb BK525.out hb); replace HB := Aside0.mk (below_step (by repeat (first | (with_reducible first | exact HB.out | apply below_alloc | apply pw_below_drewN | apply below_drew1 | refine below_set ?_ GE523.out | refine below_set ?_ GE524.out | refine below_set ?_ GE525.out) | exact HB.out)) hb); (try clear hb); obtain ⟨hcz43_0, hcz43_1, hfz43_0, hfz43_1⟩ := cz2 BK525.out; obtain ⟨hcz44_0, hcz44_1, hcz44_2, hfz44_0, hfz44_1, hfz44_2⟩ := cz3 BK523.out; obtain ⟨hcz45_0, hcz45_1, hcz45_2, hfz45_0, hfz45_1, hfz45_2⟩ := cz3 BK524.out) | (go_at_call 13; (with_reducible refine (emendateref27_SameInts.calls k _ _ l0_1 _ _ l1_1 true _ ?side1 ?side2 ?side3 ?side4 A33.out).mono ?_); (case side1 => exact sd (Kd.C_below HR0_1.out HB.out)); (case side2 => exact HC0_1.out); (case side3 => exact sd (Kd.C_below HR1_1.out HB.out)); (case side4 => exact HC1_1.out); rintro e w' ⟨rfl, ⟨nd, rfl⟩⟩))
         go_meet
         case rel => exact ⟨_, (decide ((wrap64 ((l0_0.length : Int) + (l1_0.length : Int))) > 8)), rr, H', ⟨by first | omega | exact Nat.le_refl _⟩, ⟨by (with_reducible repeat (first | refine blk_drewN ?_ _ | refine blk_drew ?_ | refine blk_alloc ?_ _)); exact BK523.out⟩, ⟨by (with_reducible repeat (first | refine blk_drewN ?_ _ | refine blk_drew ?_ | refine blk_alloc ?_ _)); exact BK524.out⟩, ⟨by (with_reducible repeat (first | refine blk_drewN ?_ _ | refine blk_drew ?_ | refine blk_alloc ?_ _)); exact BK525.out⟩, ⟨by repeat (first | (with_reducible first | exact HB.out | apply below_alloc | apply pw_below_drewN | apply below_drew1 | refine below_set ?_ GE523.out | refine below_set ?_ GE524.out | refine below_set ?_ GE525.out) | exact HB.out)⟩⟩
        ·
         rw [if_neg c35] at H
         have c35b0 : (a0_2 == a1_2) = false := beq_eq_false_iff_ne.mpr c35
         have c35b1 : (a0_2 != a1_2) = true := bne_iff_ne.mpr c35
         have H' := Aside0.mk H
         clear H
         have hnb46 := NB523_524.out
         have hnc46 := NB524_523.out
         have hnb47 := NB523_525.out
         have hnc47 := NB525_523.out
         obtain ⟨hcz48_0, hcz48_1, hcz48_2, hfz48_0, hfz48_1, hfz48_2⟩ := cz3 BK523.out
         go_wp2_with (first | ((with_reducible refine gate_callee (f := 12) rfl ?_); refine gl (some 12) Tryd.func12 #[.agg #[.slice A0_0 l0_0.length c0_0, .slice A0_1 l0_1.length c0_1, .int .i64 a0_2]] ?_; (with_reducible refine (emendatelaw36_fair.calls k _ _ l0_0 _ _ l0_1 a0_2 true _ ?side1 ?side2 ?side3 ?side4 A11.out).mono ?_); (case side1 => exact sd (Kd.C_below HR0_0.out HB.out)); (case side2 => exact HC0_0.out); (case side3 => exact sd (Kd.C_below HR0_1.out HB.out)); (case side4 => exact HC0_1.out); rintro e w49 ⟨rfl, hb⟩; refine ⟨_, rfl, ?_⟩; replace BK523 := Aside0.mk (bb BK523.out hb); replace BK524 := Aside0.mk (bb BK524.out hb); replace BK525 := Aside0.mk (bb BK525.out hb); replace HB := Aside0.mk (below_step (by repeat (first | (with_reducible first | exact HB.out | apply below_alloc | apply pw_below_drewN | apply below_drew1 | refine below_set ?_ GE523.out | refine below_set ?_ GE524.out | refine below_set ?_ GE525.out) | exact HB.out)) hb); (try clear hb); have hnb50 := NB524_525.out; have hnc50 := NB525_524.out; obtain ⟨hcz51_0, hcz51_1, hcz51_2, hfz51_0, hfz51_1, hfz51_2⟩ := cz3 BK524.out) | (go_at_call 12; (with_reducible refine (emendatelaw36_fair.calls k _ _ l1_0 _ _ l1_1 a1_2 true _ ?side1 ?side2 ?side3 ?side4 A13.out).mono ?_); (case side1 => exact sd (Kd.C_below HR1_0.out HB.out)); (case side2 => exact HC1_0.out); (case side3 => exact sd (Kd.C_below HR1_1.out HB.out)); (case side4 => exact HC1_1.out); rintro e w52 ⟨rfl, hb⟩; replace BK523 := Aside0.mk (bb BK523.out hb); replace BK524 := Aside0.mk (bb BK524.out hb); replace BK525 := Aside0.mk (bb BK525.out hb); replace HB := Aside0.mk (below_step (by repeat (first | (with_reducible first | exact HB.out | apply below_alloc | apply pw_below_drewN | apply below_drew1 | refine below_set ?_ GE523.out | refine below_set ?_ GE524.out | refine below_set ?_ GE525.out) | exact HB.out)) hb); (try clear hb); obtain ⟨hcz53_0, hcz53_1, hfz53_0, hfz53_1⟩ := cz2 BK525.out; obtain ⟨hcz54_0, hcz54_1, hcz54_2, hfz54_0, hfz54_1, hfz54_2⟩ := cz3 BK523.out; obtain ⟨hcz55_0, hcz55_1, hcz55_2, hfz55_0, hfz55_1, hfz55_2⟩ := cz3 BK524.out) | (go_at_call 13; (with_reducible refine (emendateref27_SameInts.calls k _ _ l0_1 _ _ l1_1 true _ ?side1 ?side2 ?side3 ?side4 A33.out).mono ?_); (case side1 => exact sd (Kd.C_below HR0_1.out HB.out)); (case side2 => exact HC0_1.out); (case side3 => exact sd (Kd.C_below HR1_1.out HB.out)); (case side4 => exact HC1_1.out); rintro e w' ⟨rfl, ⟨nd, rfl⟩⟩))
         go_meet
         case rel => exact ⟨_, (true), rr, H', ⟨by first | omega | exact Nat.le_refl _⟩, ⟨by (with_reducible repeat (first | refine blk_drewN ?_ _ | refine blk_drew ?_ | refine blk_alloc ?_ _)); exact BK523.out⟩, ⟨by (with_reducible repeat (first | refine blk_drewN ?_ _ | refine blk_drew ?_ | refine blk_alloc ?_ _)); exact BK524.out⟩, ⟨by (with_reducible repeat (first | refine blk_drewN ?_ _ | refine blk_drew ?_ | refine blk_alloc ?_ _)); exact BK525.out⟩, ⟨by repeat (first | (with_reducible first | exact HB.out | apply below_alloc | apply pw_below_drewN | apply below_drew1 | refine below_set ?_ GE523.out | refine below_set ?_ GE524.out | refine below_set ?_ GE525.out) | exact HB.out)⟩⟩
       ·
        replace c34 := Bool.eq_false_iff.mpr c34
        subst c34
        have H1 : (emendatelaw36_EditscriptConcatenation.j0 k true l0_0 l0_1 a0_2 l1_0 l1_1 a1_2 l2_0 l2_1) = some r := by rw [if_neg (show ¬ (false = true) by decide)] at H; exact H
        clear H
        have H := H1
        clear H1
        have H' := Aside0.mk H
        clear H
        have hnb56 := NB523_524.out
        have hnc56 := NB524_523.out
        have hnb57 := NB523_525.out
        have hnc57 := NB525_523.out
        obtain ⟨hcz58_0, hcz58_1, hcz58_2, hfz58_0, hfz58_1, hfz58_2⟩ := cz3 BK523.out
        go_wp2_with (first | ((with_reducible refine gate_callee (f := 12) rfl ?_); refine gl (some 12) Tryd.func12 #[.agg #[.slice A0_0 l0_0.length c0_0, .slice A0_1 l0_1.length c0_1, .int .i64 a0_2]] ?_; (with_reducible refine (emendatelaw36_fair.calls k _ _ l0_0 _ _ l0_1 a0_2 true _ ?side1 ?side2 ?side3 ?side4 A11.out).mono ?_); (case side1 => exact sd (Kd.C_below HR0_0.out HB.out)); (case side2 => exact HC0_0.out); (case side3 => exact sd (Kd.C_below HR0_1.out HB.out)); (case side4 => exact HC0_1.out); rintro e w59 ⟨rfl, hb⟩; refine ⟨_, rfl, ?_⟩; replace BK523 := Aside0.mk (bb BK523.out hb); replace BK524 := Aside0.mk (bb BK524.out hb); replace BK525 := Aside0.mk (bb BK525.out hb); replace HB := Aside0.mk (below_step (by repeat (first | (with_reducible first | exact HB.out | apply below_alloc | apply pw_below_drewN | apply below_drew1 | refine below_set ?_ GE523.out | refine below_set ?_ GE524.out | refine below_set ?_ GE525.out) | exact HB.out)) hb); (try clear hb); have hnb60 := NB524_525.out; have hnc60 := NB525_524.out; obtain ⟨hcz61_0, hcz61_1, hcz61_2, hfz61_0, hfz61_1, hfz61_2⟩ := cz3 BK524.out) | (go_at_call 12; (with_reducible refine (emendatelaw36_fair.calls k _ _ l1_0 _ _ l1_1 a1_2 true _ ?side1 ?side2 ?side3 ?side4 A13.out).mono ?_); (case side1 => exact sd (Kd.C_below HR1_0.out HB.out)); (case side2 => exact HC1_0.out); (case side3 => exact sd (Kd.C_below HR1_1.out HB.out)); (case side4 => exact HC1_1.out); rintro e w62 ⟨rfl, hb⟩; replace BK523 := Aside0.mk (bb BK523.out hb); replace BK524 := Aside0.mk (bb BK524.out hb); replace BK525 := Aside0.mk (bb BK525.out hb); replace HB := Aside0.mk (below_step (by repeat (first | (with_reducible first | exact HB.out | apply below_alloc | apply pw_below_drewN | apply below_drew1 | refine below_set ?_ GE523.out | refine below_set ?_ GE524.out | refine below_set ?_ GE525.out) | exact HB.out)) hb); (try clear hb); obtain ⟨hcz63_0, hcz63_1, hfz63_0, hfz63_1⟩ := cz2 BK525.out; obtain ⟨hcz64_0, hcz64_1, hcz64_2, hfz64_0, hfz64_1, hfz64_2⟩ := cz3 BK523.out; obtain ⟨hcz65_0, hcz65_1, hcz65_2, hfz65_0, hfz65_1, hfz65_2⟩ := cz3 BK524.out) | (go_at_call 13; (with_reducible refine (emendateref27_SameInts.calls k _ _ l0_1 _ _ l1_1 false _ ?side1 ?side2 ?side3 ?side4 A33.out).mono ?_); (case side1 => exact sd (Kd.C_below HR0_1.out HB.out)); (case side2 => exact HC0_1.out); (case side3 => exact sd (Kd.C_below HR1_1.out HB.out)); (case side4 => exact HC1_1.out); rintro e w' ⟨rfl, ⟨nd, rfl⟩⟩))
        go_meet
        case rel => exact ⟨_, (true), rr, H', ⟨by first | omega | exact Nat.le_refl _⟩, ⟨by (with_reducible repeat (first | refine blk_drewN ?_ _ | refine blk_drew ?_ | refine blk_alloc ?_ _)); exact BK523.out⟩, ⟨by (with_reducible repeat (first | refine blk_drewN ?_ _ | refine blk_drew ?_ | refine blk_alloc ?_ _)); exact BK524.out⟩, ⟨by (with_reducible repeat (first | refine blk_drewN ?_ _ | refine blk_drew ?_ | refine blk_alloc ?_ _)); exact BK525.out⟩, ⟨by repeat (first | (with_reducible first | exact HB.out | apply below_alloc | apply pw_below_drewN | apply below_drew1 | refine below_set ?_ GE523.out | refine below_set ?_ GE524.out | refine below_set ?_ GE525.out) | exact HB.out)⟩⟩
    ·
     replace c14 := Bool.eq_false_iff.mpr c14
     subst c14
     have H1 : (emendatelaw36_EditscriptConcatenation.j0 k true l0_0 l0_1 a0_2 l1_0 l1_1 a1_2 l2_0 l2_1) = some r := by rw [if_neg (show ¬ (false = true) by decide)] at H; exact H
     clear H
     have H := H1
     clear H1
     have H' := Aside0.mk H
     clear H
     have hnb66 := NB523_524.out
     have hnc66 := NB524_523.out
     have hnb67 := NB523_525.out
     have hnc67 := NB525_523.out
     obtain ⟨hcz68_0, hcz68_1, hcz68_2, hfz68_0, hfz68_1, hfz68_2⟩ := cz3 BK523.out
     go_wp2_with (first | ((with_reducible refine gate_callee (f := 12) rfl ?_); refine gl (some 12) Tryd.func12 #[.agg #[.slice A0_0 l0_0.length c0_0, .slice A0_1 l0_1.length c0_1, .int .i64 a0_2]] ?_; (with_reducible refine (emendatelaw36_fair.calls k _ _ l0_0 _ _ l0_1 a0_2 true _ ?side1 ?side2 ?side3 ?side4 A11.out).mono ?_); (case side1 => exact sd (Kd.C_below HR0_0.out HB.out)); (case side2 => exact HC0_0.out); (case side3 => exact sd (Kd.C_below HR0_1.out HB.out)); (case side4 => exact HC0_1.out); rintro e w69 ⟨rfl, hb⟩; refine ⟨_, rfl, ?_⟩; replace BK523 := Aside0.mk (bb BK523.out hb); replace BK524 := Aside0.mk (bb BK524.out hb); replace BK525 := Aside0.mk (bb BK525.out hb); replace HB := Aside0.mk (below_step (by repeat (first | (with_reducible first | exact HB.out | apply below_alloc | apply pw_below_drewN | apply below_drew1 | refine below_set ?_ GE523.out | refine below_set ?_ GE524.out | refine below_set ?_ GE525.out) | exact HB.out)) hb); (try clear hb); have hnb70 := NB524_525.out; have hnc70 := NB525_524.out; obtain ⟨hcz71_0, hcz71_1, hcz71_2, hfz71_0, hfz71_1, hfz71_2⟩ := cz3 BK524.out) | (go_at_call 12; (with_reducible refine (emendatelaw36_fair.calls k _ _ l1_0 _ _ l1_1 a1_2 false _ ?side1 ?side2 ?side3 ?side4 A13.out).mono ?_); (case side1 => exact sd (Kd.C_below HR1_0.out HB.out)); (case side2 => exact HC1_0.out); (case side3 => exact sd (Kd.C_below HR1_1.out HB.out)); (case side4 => exact HC1_1.out); rintro e w72 ⟨rfl, hb⟩; replace BK523 := Aside0.mk (bb BK523.out hb); replace BK524 := Aside0.mk (bb BK524.out hb); replace BK525 := Aside0.mk (bb BK525.out hb); replace HB := Aside0.mk (below_step (by repeat (first | (with_reducible first | exact HB.out | apply below_alloc | apply pw_below_drewN | apply below_drew1 | refine below_set ?_ GE523.out | refine below_set ?_ GE524.out | refine below_set ?_ GE525.out) | exact HB.out)) hb); (try clear hb)))
     go_meet
     case rel => exact ⟨_, (true), rr, H', ⟨by first | omega | exact Nat.le_refl _⟩, ⟨by (with_reducible repeat (first | refine blk_drewN ?_ _ | refine blk_drew ?_ | refine blk_alloc ?_ _)); exact BK523.out⟩, ⟨by (with_reducible repeat (first | refine blk_drewN ?_ _ | refine blk_drew ?_ | refine blk_alloc ?_ _)); exact BK524.out⟩, ⟨by (with_reducible repeat (first | refine blk_drewN ?_ _ | refine blk_drew ?_ | refine blk_alloc ?_ _)); exact BK525.out⟩, ⟨by repeat (first | (with_reducible first | exact HB.out | apply below_alloc | apply pw_below_drewN | apply below_drew1 | refine below_set ?_ GE523.out | refine below_set ?_ GE524.out | refine below_set ?_ GE525.out) | exact HB.out)⟩⟩
   ·
    replace c12 := Bool.eq_false_iff.mpr c12
    subst c12
    have H1 : (emendatelaw36_EditscriptConcatenation.j0 k true l0_0 l0_1 a0_2 l1_0 l1_1 a1_2 l2_0 l2_1) = some r := by rw [if_neg (show ¬ (false = true) by decide)] at H; exact H
    clear H
    have H := H1
    clear H1
    have H' := Aside0.mk H
    clear H
    have hnb73 := NB523_524.out
    have hnc73 := NB524_523.out
    have hnb74 := NB523_525.out
    have hnc74 := NB525_523.out
    obtain ⟨hcz75_0, hcz75_1, hcz75_2, hfz75_0, hfz75_1, hfz75_2⟩ := cz3 BK523.out
    go_wp2_with (first | ((with_reducible refine gate_callee (f := 12) rfl ?_); refine gl (some 12) Tryd.func12 #[.agg #[.slice A0_0 l0_0.length c0_0, .slice A0_1 l0_1.length c0_1, .int .i64 a0_2]] ?_; (with_reducible refine (emendatelaw36_fair.calls k _ _ l0_0 _ _ l0_1 a0_2 false _ ?side1 ?side2 ?side3 ?side4 A11.out).mono ?_); (case side1 => exact sd (Kd.C_below HR0_0.out HB.out)); (case side2 => exact HC0_0.out); (case side3 => exact sd (Kd.C_below HR0_1.out HB.out)); (case side4 => exact HC0_1.out); rintro e w76 ⟨rfl, hb⟩; refine ⟨_, rfl, ?_⟩; replace BK523 := Aside0.mk (bb BK523.out hb); replace BK524 := Aside0.mk (bb BK524.out hb); replace BK525 := Aside0.mk (bb BK525.out hb); replace HB := Aside0.mk (below_step (by repeat (first | (with_reducible first | exact HB.out | apply below_alloc | apply pw_below_drewN | apply below_drew1 | refine below_set ?_ GE523.out | refine below_set ?_ GE524.out | refine below_set ?_ GE525.out) | exact HB.out)) hb); (try clear hb)))
    go_meet
    case rel => exact ⟨_, (true), rr, H', ⟨by first | omega | exact Nat.le_refl _⟩, ⟨by (with_reducible repeat (first | refine blk_drewN ?_ _ | refine blk_drew ?_ | refine blk_alloc ?_ _)); exact BK523.out⟩, ⟨by (with_reducible repeat (first | refine blk_drewN ?_ _ | refine blk_drew ?_ | refine blk_alloc ?_ _)); exact BK524.out⟩, ⟨by (with_reducible repeat (first | refine blk_drewN ?_ _ | refine blk_drew ?_ | refine blk_alloc ?_ _)); exact BK525.out⟩, ⟨by repeat (first | (with_reducible first | exact HB.out | apply below_alloc | apply pw_below_drewN | apply below_drew1 | refine below_set ?_ GE523.out | refine below_set ?_ GE524.out | refine below_set ?_ GE525.out) | exact HB.out)⟩⟩
  case rest => as_aux_lemma =>
   clear HC6
   try clear c5
   obtain ⟨kq, x55_5, rfl, HA, HJ5, BK523, BK524, BK525, HB⟩ := hcut
   cases kq with
   | zero => exact absurd HA.out (by simp [emendatelaw36_EditscriptConcatenation.j0])
   | succ kj5 =>
    have H := HA.out
    clear HA
    simp only [emendatelaw36_EditscriptConcatenation.j0] at H
    by_cases c77 : x55_5 = true
    ·
     subst c77
     have H1 : (some true) = some r := by rw [if_pos rfl] at H; exact H
     clear H
     have H := H1
     clear H1
     obtain rfl := Option.some.inj H
     go_wp2
     go_ret
     exact ⟨er, by repeat (first | (with_reducible first | exact HB.out | apply below_alloc | apply pw_below_drewN | apply below_drew1 | refine below_set ?_ GE523.out | refine below_set ?_ GE524.out | refine below_set ?_ GE525.out) | exact HB.out)⟩
    ·
     replace c77 := Bool.eq_false_iff.mpr c77
     subst c77
     have H1 : ((some (([] : List (S33)) : List (S33))).bind fun y530 => (if y530.length + l0_0.length < 3518437208883 then ((some (y530 ++ l0_0 : List (S33))).bind fun y533 => (if y533.length + l1_0.length < 3518437208883 then ((some (([] : List Int) : List Int)).bind fun y540 => (if y540.length + l2_0.length < 17592186044416 then ((some (y540 ++ l2_0 : List Int)).bind fun y543 => (if y543.length + l2_1.length < 17592186044416 then ((editscript_Distance.f kj5 (y533 ++ l1_0) l0_1 a0_2 (y543 ++ l2_1)).bind fun t549 => ((editscript_Distance.f kj5 l0_0 l0_1 a0_2 l2_0).bind fun t550 => ((editscript_Distance.f kj5 l1_0 l1_1 a1_2 l2_1).bind fun t551 => (some (decide (t549 ≤ (wrap64 (t550 + t551)))))))) else (none))) else (none))) else (none))) else (none))) = some r := by rw [if_neg (show ¬ (false = true) by decide)] at H; exact H
     clear H
     have H := H1
     clear H1
     obtain ⟨y530, hy530⟩ : ∃ y_ : List (S33), y_ = (([] : List (S33))) := ⟨_, rfl⟩
     replace H : (if y530.length + l0_0.length < 3518437208883 then ((some (y530 ++ l0_0 : List (S33))).bind fun y533 => (if y533.length + l1_0.length < 3518437208883 then ((some (([] : List Int) : List Int)).bind fun y540 => (if y540.length + l2_0.length < 17592186044416 then ((some (y540 ++ l2_0 : List Int)).bind fun y543 => (if y543.length + l2_1.length < 17592186044416 then ((editscript_Distance.f kj5 (y533 ++ l1_0) l0_1 a0_2 (y543 ++ l2_1)).bind fun t549 => ((editscript_Distance.f kj5 l0_0 l0_1 a0_2 l2_0).bind fun t550 => ((editscript_Distance.f kj5 l1_0 l1_1 a1_2 l2_1).bind fun t551 => (some (decide (t549 ≤ (wrap64 (t550 + t551)))))))) else (none))) else (none))) else (none))) else (none)) = some r := by first | (rw [hy530]; with_reducible exact H) | (have H2_ := (Option.bind_some _ _).symm.trans H; rw [hy530]; with_reducible exact H2_) | (have H2_ := (Option.bind_some _ _).symm.trans H; with_reducible exact H2_) | with_reducible exact H | (rw [hy530]; exact H) | exact H
     have Ny530 := Aside0.mk hy530
     clear hy530
     by_cases c78 : y530.length + l0_0.length < 3518437208883
     ·
      rw [if_pos c78] at H
      have LMc78 := Aside0.mk c78
      clear c78
      obtain ⟨y533, hy533⟩ : ∃ y_ : List (S33), y_ = (y530 ++ l0_0) := ⟨_, rfl⟩
      replace H : (if y533.length + l1_0.length < 3518437208883 then ((some (([] : List Int) : List Int)).bind fun y540 => (if y540.length + l2_0.length < 17592186044416 then ((some (y540 ++ l2_0 : List Int)).bind fun y543 => (if y543.length + l2_1.length < 17592186044416 then ((editscript_Distance.f kj5 (y533 ++ l1_0) l0_1 a0_2 (y543 ++ l2_1)).bind fun t549 => ((editscript_Distance.f kj5 l0_0 l0_1 a0_2 l2_0).bind fun t550 => ((editscript_Distance.f kj5 l1_0 l1_1 a1_2 l2_1).bind fun t551 => (some (decide (t549 ≤ (wrap64 (t550 + t551)))))))) else (none))) else (none))) else (none)) = some r := by first | (rw [hy533]; with_reducible exact H) | (have H2_ := (Option.bind_some _ _).symm.trans H; rw [hy533]; with_reducible exact H2_) | (have H2_ := (Option.bind_some _ _).symm.trans H; with_reducible exact H2_) | with_reducible exact H | (rw [hy533]; exact H) | exact H
      have Ny533 := Aside0.mk hy533
      clear hy533
      by_cases c79 : y533.length + l1_0.length < 3518437208883
      ·
       rw [if_pos c79] at H
       have LMc79 := Aside0.mk c79
       clear c79
       obtain ⟨y536, hy536⟩ : ∃ y_ : List (S33), y_ = (y533 ++ l1_0) := ⟨_, rfl⟩
       replace H : ((some (([] : List Int) : List Int)).bind fun y540 => (if y540.length + l2_0.length < 17592186044416 then ((some (y540 ++ l2_0 : List Int)).bind fun y543 => (if y543.length + l2_1.length < 17592186044416 then ((editscript_Distance.f kj5 y536 l0_1 a0_2 (y543 ++ l2_1)).bind fun t549 => ((editscript_Distance.f kj5 l0_0 l0_1 a0_2 l2_0).bind fun t550 => ((editscript_Distance.f kj5 l1_0 l1_1 a1_2 l2_1).bind fun t551 => (some (decide (t549 ≤ (wrap64 (t550 + t551)))))))) else (none))) else (none))) = some r := by first | (rw [hy536]; with_reducible exact H) | (have H2_ := (Option.bind_some _ _).symm.trans H; rw [hy536]; with_reducible exact H2_) | (have H2_ := (Option.bind_some _ _).symm.trans H; with_reducible exact H2_) | with_reducible exact H | (rw [hy536]; exact H) | exact H
       have Ny536 := Aside0.mk hy536
       clear hy536
       obtain ⟨y540, hy540⟩ : ∃ y_ : List Int, y_ = (([] : List Int)) := ⟨_, rfl⟩
       replace H : (if y540.length + l2_0.length < 17592186044416 then ((some (y540 ++ l2_0 : List Int)).bind fun y543 => (if y543.length + l2_1.length < 17592186044416 then ((editscript_Distance.f kj5 y536 l0_1 a0_2 (y543 ++ l2_1)).bind fun t549 => ((editscript_Distance.f kj5 l0_0 l0_1 a0_2 l2_0).bind fun t550 => ((editscript_Distance.f kj5 l1_0 l1_1 a1_2 l2_1).bind fun t551 => (some (decide (t549 ≤ (wrap64 (t550 + t551)))))))) else (none))) else (none)) = some r := by first | (rw [hy540]; with_reducible exact H) | (have H2_ := (Option.bind_some _ _).symm.trans H; rw [hy540]; with_reducible exact H2_) | (have H2_ := (Option.bind_some _ _).symm.trans H; with_reducible exact H2_) | with_reducible exact H | (rw [hy540]; exact H) | exact H
       have Ny540 := Aside0.mk hy540
       clear hy540
       by_cases c80 : y540.length + l2_0.length < 17592186044416
       ·
        rw [if_pos c80] at H
        have LMc80 := Aside0.mk c80
        clear c80
        obtain ⟨y543, hy543⟩ : ∃ y_ : List Int, y_ = (y540 ++ l2_0) := ⟨_, rfl⟩
        replace H : (if y543.length + l2_1.length < 17592186044416 then ((editscript_Distance.f kj5 y536 l0_1 a0_2 (y543 ++ l2_1)).bind fun t549 => ((editscript_Distance.f kj5 l0_0 l0_1 a0_2 l2_0).bind fun t550 => ((editscript_Distance.f kj5 l1_0 l1_1 a1_2 l2_1).bind fun t551 => (some (decide (t549 ≤ (wrap64 (t550 + t551)))))))) else (none)) = some r := by first | (rw [hy543]; with_reducible exact H) | (have H2_ := (Option.bind_some _ _).symm.trans H; rw [hy543]; with_reducible exact H2_) | (have H2_ := (Option.bind_some _ _).symm.trans H; with_reducible exact H2_) | with_reducible exact H | (rw [hy543]; exact H) | exact H
        have Ny543 := Aside0.mk hy543
        clear hy543
        by_cases c81 : y543.length + l2_1.length < 17592186044416
        ·
         rw [if_pos c81] at H
         have LMc81 := Aside0.mk c81
         clear c81
         obtain ⟨y546, hy546⟩ : ∃ y_ : List Int, y_ = (y543 ++ l2_1) := ⟨_, rfl⟩
         replace H : ((editscript_Distance.f kj5 y536 l0_1 a0_2 y546).bind fun t549 => ((editscript_Distance.f kj5 l0_0 l0_1 a0_2 l2_0).bind fun t550 => ((editscript_Distance.f kj5 l1_0 l1_1 a1_2 l2_1).bind fun t551 => (some (decide (t549 ≤ (wrap64 (t550 + t551)))))))) = some r := by first | (rw [hy546]; with_reducible exact H) | (have H2_ := (Option.bind_some _ _).symm.trans H; rw [hy546]; with_reducible exact H2_) | (have H2_ := (Option.bind_some _ _).symm.trans H; with_reducible exact H2_) | with_reducible exact H | (rw [hy546]; exact H) | exact H
         have Ny546 := Aside0.mk hy546
         clear hy546
         replace H := Option.bind_eq_some_iff.mp H
         obtain ⟨t549, A820, H⟩ := H
         replace H : ((editscript_Distance.f kj5 l0_0 l0_1 a0_2 l2_0).bind fun t550 => ((editscript_Distance.f kj5 l1_0 l1_1 a1_2 l2_1).bind fun t551 => (some (decide (t549 ≤ (wrap64 (t550 + t551))))))) = some r := H
         have A82 := Aside0.mk A820
         clear A820
         replace H := Option.bind_eq_some_iff.mp H
         obtain ⟨t550, A830, H⟩ := H
         replace H : ((editscript_Distance.f kj5 l1_0 l1_1 a1_2 l2_1).bind fun t551 => (some (decide (t549 ≤ (wrap64 (t550 + t551)))))) = some r := H
         have A83 := Aside0.mk A830
         clear A830
         replace H := Option.bind_eq_some_iff.mp H
         obtain ⟨t551, A840, H⟩ := H
         replace H : (some (decide (t549 ≤ (wrap64 (t550 + t551))))) = some r := H
         have A84 := Aside0.mk A840
         clear A840
         obtain rfl := Option.some.inj H
         try go_wp2
         replace BK523 := Aside0.mk (blk_drew BK523.out)
         replace BK524 := Aside0.mk (blk_drew BK524.out)
         replace BK525 := Aside0.mk (blk_drew BK525.out)
         replace HB := Aside0.mk (below_drew1 HB.out)
         refine start_ (n := 14) (S := fun w' => w'.cell? ⟨gb523, 0, none⟩ = some (.slice A0_0 l0_0.length c0_0) ∧ w'.cell? ⟨gb523, 1, none⟩ = some (.slice A0_1 l0_1.length c0_1) ∧ w'.cell? ⟨gb523, 2, none⟩ = some (.int .i64 a0_2) ∧ w'.cell? ⟨gb524, 0, none⟩ = some (.slice A1_0 l1_0.length c1_0) ∧ w'.cell? ⟨gb524, 1, none⟩ = some (.slice A1_1 l1_1.length c1_1) ∧ w'.cell? ⟨gb524, 2, none⟩ = some (.int .i64 a1_2)) (ds := []) #[ff,ff,ff,ff,ff,ff,ff,ff,ff,ff,ff,ff,ff,ff] (by kernel_rfl) rfl rfl ⟨(blk_cell BK523.out 0).trans rfl, (blk_cell BK523.out 1).trans rfl, (blk_cell BK523.out 2).trans rfl, (blk_cell BK524.out 0).trans rfl, (blk_cell BK524.out 1).trans rfl, (blk_cell BK524.out 2).trans rfl⟩ (fun hHeld => ?_); refine with_tabW emendatelaw36_EditscriptConcatenation.tab5 emendatelaw36_EditscriptConcatenation.bits5 (fun HT_ HW_ => ?_)
         generalize wc.drew = w85 at BK523 BK524 BK525 HB hHeld ⊢
         refine pu 1 57 ?_
         refine pu 4 60 ?_
         refine pu 7 63 ?_
         refine pu 9 65 ?_
         refine tu 2 58 hHeld ?_
         refine tu 5 61 hHeld ?_
         refine tu 8 64 hHeld ?_
         refine tu 10 66 hHeld ?_
         refine join_ (σ := Value × Value × Value × Nat) 1 #[tt,tt,tt,tt,tt,tt,tt,tt,tt,tt,tt,tt,tt,ff] (fun s_ => [(56, s_.1), (59, s_.2.1), (62, s_.2.2.1), (7, .pointer (some ⟨s_.2.2.2, 0, none⟩)), (67, .agg #[s_.2.2.1, .slice A0_1 l0_1.length c0_1, .int .i64 a0_2])]) (fun s_ w' => (w'.cell? ⟨gb523, 0, none⟩ = some (.slice A0_0 l0_0.length c0_0) ∧ w'.cell? ⟨gb523, 1, none⟩ = some (.slice A0_1 l0_1.length c0_1) ∧ w'.cell? ⟨gb523, 2, none⟩ = some (.int .i64 a0_2) ∧ w'.cell? ⟨gb524, 0, none⟩ = some (.slice A1_0 l1_0.length c1_0) ∧ w'.cell? ⟨gb524, 1, none⟩ = some (.slice A1_1 l1_1.length c1_1) ∧ w'.cell? ⟨gb524, 2, none⟩ = some (.int .i64 a1_2)) ∧ (Kd.N k33 33 w' w.heap.size (fun k_ => k_ ≠ gb523 ∧ k_ ≠ gb524 ∧ k_ ≠ gb525 ∧ k_ ≠ s_.2.2.2) s_.2.2.1 y536) ∧ (w'.heap[gb523]? = some (.cells #[.slice A0_0 l0_0.length c0_0, .slice A0_1 l0_1.length c0_1, .int .i64 a0_2] 25 (0, 0))) ∧ (w'.heap[gb524]? = some (.cells #[.slice A1_0 l1_0.length c1_0, .slice A1_1 l1_1.length c1_1, .int .i64 a1_2] 25 (0, 0))) ∧ (w'.heap[gb525]? = some (.cells #[.slice A2_0 l2_0.length c2_0, .slice A2_1 l2_1.length c2_1] 26 (0, 0))) ∧ (w'.heap[s_.2.2.2]? = some (.cells #[.slice none 0 0, .slice none 0 0, .int .i64 0] 25 (0, 0))) ∧ (w.heap.size ≤ s_.2.2.2) ∧ (w.heap.size ≤ s_.2.2.2) ∧ (gb523 ≠ s_.2.2.2) ∧ (s_.2.2.2 ≠ gb523) ∧ (gb524 ≠ s_.2.2.2) ∧ (s_.2.2.2 ≠ gb524) ∧ (gb525 ≠ s_.2.2.2) ∧ (s_.2.2.2 ≠ gb525) ∧ (Below w.heap.size w w')) ?_ ?_
         rotate_left
         ·
          intro hCont
          refine two_ (i := 0) (j := 12) (Ni := some 56) (Nj := some 7) #[tt,tt,tt,ff,tt,tt,ff,tt,tt,tt,tt,ff,ff,ff] #[ff,tt,tt,ff,tt,tt,ff,tt,tt,tt,tt,ff,tt,ff] rfl rfl rfl rfl (two_of HT_.out (by kernel_rfl)) (by decide) (by decide) (fun K hK => ?_) (fun K hK => ?_)
          ·
           skip
           refine Kd.N_lit_step k33 _ 33 ?hg (N' := 56) ?hd (xs := ([] : List (S33))) (inner := []) (ok := (fun k_ => k_ ≠ gb523 ∧ k_ ≠ gb524 ∧ k_ ≠ gb525)) (okp := (fun k_ => k_ ≠ gb523 ∧ k_ ≠ gb524 ∧ k_ ≠ gb525)) ?hr ?hp (fun _ hk => hk) ((show ∀ k_, w85.heap.size ≤ k_ → (fun k_ => k_ ≠ gb523 ∧ k_ ≠ gb524 ∧ k_ ≠ gb525) k_ from fun k_ hk => ⟨Kd.freshB (g := gb523) (o := .cells #[.slice A0_0 l0_0.length c0_0, .slice A0_1 l0_1.length c0_1, .int .i64 a0_2] 25 (0, 0)) (pk BK523.out) k_ hk, Kd.freshB (g := gb524) (o := .cells #[.slice A1_0 l1_0.length c1_0, .slice A1_1 l1_1.length c1_1, .int .i64 a1_2] 25 (0, 0)) (pk BK524.out) k_ hk, Kd.freshB (g := gb525) (o := .cells #[.slice A2_0 l2_0.length c2_0, .slice A2_1 l2_1.length c2_1] 26 (0, 0)) (pk BK525.out) k_ hk⟩) _ (Nat.le_refl _)) (Below.refl _ _) (Nat.le_refl _) (by simp) ?_; (case hd => rfl); (case hg => rfl); (case hr => first | (go_simp; done) | (go_simp; rfl)); (case hp => exact (Reps.none _ _))
           intro v531 w86 ho87 hb hg_ hnew_
           clear hg_ hnew_
           (first | rw [← Ny530.out] at ho87 | (simp only [Int.reduceToNat] at ho87; rw [← Ny530.out] at ho87))
           have HO532 := Aside0.mk (Kd.N_lower ho87 (below_size (by repeat (first | (with_reducible first | exact HB.out | apply below_alloc | apply pw_below_drewN | apply below_drew1 | refine below_set ?_ GE523.out | refine below_set ?_ GE524.out | refine below_set ?_ GE525.out) | exact HB.out))))
           replace BK523 := Aside0.mk (bb BK523.out hb)
           replace BK524 := Aside0.mk (bb BK524.out hb)
           replace BK525 := Aside0.mk (bb BK525.out hb)
           replace HB := Aside0.mk (below_step (by repeat (first | (with_reducible first | exact HB.out | apply below_alloc | apply pw_below_drewN | apply below_drew1 | refine below_set ?_ GE523.out | refine below_set ?_ GE524.out | refine below_set ?_ GE525.out) | exact HB.out)) hb)
           clear hb ho87
           refine hK.out _ _ ⟨(blk_cell BK523.out 0).trans rfl, (blk_cell BK523.out 1).trans rfl, (blk_cell BK523.out 2).trans rfl, (blk_cell BK524.out 0).trans rfl, (blk_cell BK524.out 1).trans rfl, (blk_cell BK524.out 2).trans rfl⟩ (fun hHeld => ?_)
           clear hK K
           refine norm_ (a' := ?_) ?_ ?_
           rotate_left
           ·
            show Act.put _ (some 56) _ = _
            simp only [nrm]
            rfl
           refine two_ (i := 3) (j := 12) (Ni := some 59) (Nj := some 7) #[tt,tt,tt,tt,tt,tt,ff,tt,tt,tt,tt,ff,ff,ff] #[tt,tt,tt,ff,tt,tt,ff,tt,tt,tt,tt,ff,tt,ff] rfl rfl rfl rfl (two_of HT_.out (by kernel_rfl)) (by decide) (by decide) (fun K hK => ?_) (fun K hK => ?_)
           ·
            skip
            refine Kd.N_append_rows_step k33 (w0 := w) w.heap.size (by rfl) (.tmp 56) (.tmp 58) 22 33 (.agg #[(.int .i64 0), (.slice none 0 0), (.int .i64 0)]) 40 rfl Tryd.underlying22 info33 rfl (by decide) (by omega) v531 y530 l0_0 _ _ _ (fun k_ => k_ ≠ gb523 ∧ k_ ≠ gb524 ∧ k_ ≠ gb525) (fun k_ => k_ < w.heap.size) rfl rfl ?aO ?aR (fun k_ hk => ⟨⟨Nat.ne_of_lt (Nat.lt_of_lt_of_le hk GE523.out), Nat.ne_of_lt (Nat.lt_of_lt_of_le hk GE524.out), Nat.ne_of_lt (Nat.lt_of_lt_of_le hk GE525.out)⟩, fun e_ => Nat.lt_irrefl _ (Nat.lt_of_lt_of_le hk (Kd.N_base (HO532.out) k_ e_.symm))⟩) ?aF ?aB ?aS ?aL ?_
            (case aR => exact (Kd.F_below (Kd.C_F heap33 HR0_0.out) (by repeat (first | (with_reducible first | exact HB.out | apply below_alloc | apply pw_below_drewN | apply below_drew1 | refine below_set ?_ GE523.out | refine below_set ?_ GE524.out | refine below_set ?_ GE525.out) | exact HB.out))))
            (case aB => exact (by repeat (first | (with_reducible first | exact HB.out | apply below_alloc | apply pw_below_drewN | apply below_drew1 | refine below_set ?_ GE523.out | refine below_set ?_ GE524.out | refine below_set ?_ GE525.out) | exact HB.out)))
            (case aF => exact (fun k_ hk => ⟨Kd.freshB (g := gb523) (o := .cells #[.slice A0_0 l0_0.length c0_0, .slice A0_1 l0_1.length c0_1, .int .i64 a0_2] 25 (0, 0)) (pk BK523.out) k_ hk, Kd.freshB (g := gb524) (o := .cells #[.slice A1_0 l1_0.length c1_0, .slice A1_1 l1_1.length c1_1, .int .i64 a1_2] 25 (0, 0)) (pk BK524.out) k_ hk, Kd.freshB (g := gb525) (o := .cells #[.slice A2_0 l2_0.length c2_0, .slice A2_1 l2_1.length c2_1] 26 (0, 0)) (pk BK525.out) k_ hk⟩))
            (case aO => exact (pN HO532.out))
            (case aS => exact (below_size (by repeat (first | (with_reducible first | exact HB.out | apply below_alloc | apply pw_below_drewN | apply below_drew1 | refine below_set ?_ GE523.out | refine below_set ?_ GE524.out | refine below_set ?_ GE525.out) | exact HB.out))))
            (case aL => have := LMc78.out; omega)
            intro v534 w88 ho hb hg hat
            rw [← Ny533.out] at ho
            replace BK523 := Aside0.mk (blk_grown (g := gb523) (o := .cells #[.slice A0_0 l0_0.length c0_0, .slice A0_1 l0_1.length c0_1, .int .i64 a0_2] 25 (0, 0)) (pk BK523.out) hg (Kd.N_ne HO532.out BK523.out (by decide)))
            replace BK524 := Aside0.mk (blk_grown (g := gb524) (o := .cells #[.slice A1_0 l1_0.length c1_0, .slice A1_1 l1_1.length c1_1, .int .i64 a1_2] 25 (0, 0)) (pk BK524.out) hg (Kd.N_ne HO532.out BK524.out (by decide)))
            replace BK525 := Aside0.mk (blk_grown (g := gb525) (o := .cells #[.slice A2_0 l2_0.length c2_0, .slice A2_1 l2_1.length c2_1] 26 (0, 0)) (pk BK525.out) hg (Kd.N_ne HO532.out BK525.out (by decide)))
            replace HB := Aside0.mk (hb)
            have HO535 := Aside0.mk (ho)
            clear HO532
            clear ho hb hg hat
            refine hK.out _ _ ⟨(blk_cell BK523.out 0).trans rfl, (blk_cell BK523.out 1).trans rfl, (blk_cell BK523.out 2).trans rfl, (blk_cell BK524.out 0).trans rfl, (blk_cell BK524.out 1).trans rfl, (blk_cell BK524.out 2).trans rfl⟩ (fun hHeld => ?_)
            clear hK K
            refine norm_ (a' := ?_) ?_ ?_
            rotate_left
            ·
             show Act.put _ (some 59) _ = _
             simp only [nrm]
             rfl
            refine two_ (i := 6) (j := 12) (Ni := some 62) (Nj := some 7) #[tt,tt,tt,tt,tt,tt,tt,tt,tt,tt,tt,ff,ff,ff] #[tt,tt,tt,tt,tt,tt,ff,tt,tt,tt,tt,ff,tt,ff] rfl rfl rfl rfl (two_of HT_.out (by kernel_rfl)) (by decide) (by decide) (fun K hK => ?_) (fun K hK => ?_)
            ·
             skip
             refine Kd.N_append_rows_step k33 (w0 := w) w.heap.size (by rfl) (.tmp 59) (.tmp 61) 22 33 (.agg #[(.int .i64 0), (.slice none 0 0), (.int .i64 0)]) 40 rfl Tryd.underlying22 info33 rfl (by decide) (by omega) v534 y533 l1_0 _ _ _ (fun k_ => k_ ≠ gb523 ∧ k_ ≠ gb524 ∧ k_ ≠ gb525) (fun k_ => k_ < w.heap.size) rfl rfl ?aO ?aR (fun k_ hk => ⟨⟨Nat.ne_of_lt (Nat.lt_of_lt_of_le hk GE523.out), Nat.ne_of_lt (Nat.lt_of_lt_of_le hk GE524.out), Nat.ne_of_lt (Nat.lt_of_lt_of_le hk GE525.out)⟩, fun e_ => Nat.lt_irrefl _ (Nat.lt_of_lt_of_le hk (Kd.N_base (HO535.out) k_ e_.symm))⟩) ?aF ?aB ?aS ?aL ?_
             (case aR => exact (Kd.F_below (Kd.C_F heap33 HR1_0.out) (by repeat (first | (with_reducible first | exact HB.out | apply below_alloc | apply pw_below_drewN | apply below_drew1 | refine below_set ?_ GE523.out | refine below_set ?_ GE524.out | refine below_set ?_ GE525.out) | exact HB.out))))
             (case aB => exact (by repeat (first | (with_reducible first | exact HB.out | apply below_alloc | apply pw_below_drewN | apply below_drew1 | refine below_set ?_ GE523.out | refine below_set ?_ GE524.out | refine below_set ?_ GE525.out) | exact HB.out)))
             (case aF => exact (fun k_ hk => ⟨Kd.freshB (g := gb523) (o := .cells #[.slice A0_0 l0_0.length c0_0, .slice A0_1 l0_1.length c0_1, .int .i64 a0_2] 25 (0, 0)) (pk BK523.out) k_ hk, Kd.freshB (g := gb524) (o := .cells #[.slice A1_0 l1_0.length c1_0, .slice A1_1 l1_1.length c1_1, .int .i64 a1_2] 25 (0, 0)) (pk BK524.out) k_ hk, Kd.freshB (g := gb525) (o := .cells #[.slice A2_0 l2_0.length c2_0, .slice A2_1 l2_1.length c2_1] 26 (0, 0)) (pk BK525.out) k_ hk⟩))
             (case aO => exact (pN HO535.out))
             (case aS => exact (below_size (by repeat (first | (with_reducible first | exact HB.out | apply below_alloc | apply pw_below_drewN | apply below_drew1 | refine below_set ?_ GE523.out | refine below_set ?_ GE524.out | refine below_set ?_ GE525.out) | exact HB.out))))
             (case aL => have := LMc79.out; omega)
             intro v537 w89 ho hb hg hat
             rw [← Ny536.out] at ho
             replace BK523 := Aside0.mk (blk_grown (g := gb523) (o := .cells #[.slice A0_0 l0_0.length c0_0, .slice A0_1 l0_1.length c0_1, .int .i64 a0_2] 25 (0, 0)) (pk BK523.out) hg (Kd.N_ne HO535.out BK523.out (by decide)))
             replace BK524 := Aside0.mk (blk_grown (g := gb524) (o := .cells #[.slice A1_0 l1_0.length c1_0, .slice A1_1 l1_1.length c1_1, .int .i64 a1_2] 25 (0, 0)) (pk BK524.out) hg (Kd.N_ne HO535.out BK524.out (by decide)))
             replace BK525 := Aside0.mk (blk_grown (g := gb525) (o := .cells #[.slice A2_0 l2_0.length c2_0, .slice A2_1 l2_1.length c2_1] 26 (0, 0)) (pk BK525.out) hg (Kd.N_ne HO535.out BK525.out (by decide)))
             replace HB := Aside0.mk (hb)
             have HO538 := Aside0.mk (ho)
             clear HO535
             clear ho hb hg hat
             obtain ⟨Ao90, co90, eo90⟩ := Kd.N_slice HO538.out
             (first | subst eo90 | (injection eo90 with f1_ f2_ f3_; have f4_ := f1_.symm; have f5_ := f3_.symm; clear f1_ f2_ f3_; subst f4_; subst f5_))
             refine hK.out _ _ ⟨(blk_cell BK523.out 0).trans rfl, (blk_cell BK523.out 1).trans rfl, (blk_cell BK523.out 2).trans rfl, (blk_cell BK524.out 0).trans rfl, (blk_cell BK524.out 1).trans rfl, (blk_cell BK524.out 2).trans rfl⟩ (fun hHeld => ?_)
             clear hK K
             refine norm_ (a' := ?_) ?_ ?_
             rotate_left
             ·
              show Act.put _ (some 62) _ = _
              simp only [nrm]
              rfl
             refine pu 11 67 ?_
             refine one_ (i := 12) (N := some 7) #[tt,tt,tt,tt,tt,tt,tt,tt,tt,tt,tt,tt,tt,ff] rfl rfl (one_of HT_.out (by kernel_rfl)) (by decide) (fun K hK => ?_)
             refine box_step ?hg (N := 7) ?hd (cs := #[.slice none 0 0, .slice none 0 0, .int .i64 0]) (t := 25) ?hr ?_; (case hd => rfl); (case hg => rfl); (case hr => first | (go_simp; done) | (go_simp; rfl))
             intro gb539 hg w91 hbox hb
             have n0_ := Aside0.mk (Kd.N_below (Kd.N_elderB (pN HO538.out) gb539 (Nat.le_of_eq hg.symm)) hb)
             have n1_ := Aside0.mk (bb BK523.out hb)
             have n2_ := Aside0.mk (bb BK524.out hb)
             have n3_ := Aside0.mk (bb BK525.out hb)
             have n4_ := Aside0.mk (below_step (by repeat (first | (with_reducible first | exact HB.out | apply below_alloc | apply pw_below_drewN | apply below_drew1 | refine below_set ?_ GE523.out | refine below_set ?_ GE524.out | refine below_set ?_ GE525.out) | exact HB.out)) hb)
             have n5_ := Aside0.mk (hbox)
             have n6_ := Aside0.mk ((by rw [hg]; exact (below_size (by repeat (first | (with_reducible first | exact HB.out | apply below_alloc | apply pw_below_drewN | apply below_drew1 | refine below_set ?_ GE523.out | refine below_set ?_ GE524.out | refine below_set ?_ GE525.out) | exact HB.out))) : w.heap.size ≤ gb539))
             have n7_ := Aside0.mk ((by rw [hg]; exact (below_size (by repeat (first | (with_reducible first | exact HB.out | apply below_alloc | apply pw_below_drewN | apply below_drew1 | refine below_set ?_ GE523.out | refine below_set ?_ GE524.out | refine below_set ?_ GE525.out) | exact HB.out))) : w.heap.size ≤ gb539))
             have n8_ := Aside0.mk ((by rw [hg]; exact Nat.ne_of_lt (blk_lt (g := gb523) (o := .cells #[.slice A0_0 l0_0.length c0_0, .slice A0_1 l0_1.length c0_1, .int .i64 a0_2] 25 (0, 0)) (pk BK523.out)) : gb523 ≠ gb539))
             have n9_ := Aside0.mk ((by rw [hg]; exact Nat.ne_of_gt (blk_lt (g := gb523) (o := .cells #[.slice A0_0 l0_0.length c0_0, .slice A0_1 l0_1.length c0_1, .int .i64 a0_2] 25 (0, 0)) (pk BK523.out)) : gb539 ≠ gb523))
             have n10_ := Aside0.mk ((by rw [hg]; exact Nat.ne_of_lt (blk_lt (g := gb524) (o := .cells #[.slice A1_0 l1_0.length c1_0, .slice A1_1 l1_1.length c1_1, .int .i64 a1_2] 25 (0, 0)) (pk BK524.out)) : gb524 ≠ gb539))
             have n11_ := Aside0.mk ((by rw [hg]; exact Nat.ne_of_gt (blk_lt (g := gb524) (o := .cells #[.slice A1_0 l1_0.length c1_0, .slice A1_1 l1_1.length c1_1, .int .i64 a1_2] 25 (0, 0)) (pk BK524.out)) : gb539 ≠ gb524))
             have n12_ := Aside0.mk ((by rw [hg]; exact Nat.ne_of_lt (blk_lt (g := gb525) (o := .cells #[.slice A2_0 l2_0.length c2_0, .slice A2_1 l2_1.length c2_1] 26 (0, 0)) (pk BK525.out)) : gb525 ≠ gb539))
             have n13_ := Aside0.mk ((by rw [hg]; exact Nat.ne_of_gt (blk_lt (g := gb525) (o := .cells #[.slice A2_0 l2_0.length c2_0, .slice A2_1 l2_1.length c2_1] 26 (0, 0)) (pk BK525.out)) : gb539 ≠ gb525))
             clear HO538
             clear BK523
             clear BK524
             clear BK525
             clear HB
             have HO538 := n0_
             have BK523 := n1_
             have BK524 := n2_
             have BK525 := n3_
             have HB := n4_
             have BK539 := n5_
             have GW539 := n6_
             have GE539 := n7_
             have NB523_539 := n8_
             have NB539_523 := n9_
             have NB524_539 := n10_
             have NB539_524 := n11_
             have NB525_539 := n12_
             have NB539_525 := n13_
             clear n0_ n1_ n2_ n3_ n4_ n5_ n6_ n7_ n8_ n9_ n10_ n11_ n12_ n13_
             clear hb hbox hg
             refine hK.out _ _ ⟨(blk_cell BK523.out 0).trans rfl, (blk_cell BK523.out 1).trans rfl, (blk_cell BK523.out 2).trans rfl, (blk_cell BK524.out 0).trans rfl, (blk_cell BK524.out 1).trans rfl, (blk_cell BK524.out 2).trans rfl⟩ (fun hHeld => ?_)
             clear hK K
             refine norm_ (a' := ?_) ?_ ?_
             rotate_left
             ·
              show Act.put _ (some 7) _ = _
              simp only [nrm]
              rfl
             exact norm_ (by simp only [putAll, Act.put, List.setIfInBounds_toArray, List.set_cons_zero, List.set_cons_succ]) (hCont (v531, v534, .slice Ao90 y536.length co90, gb539) _ ⟨hHeld, (by (with_reducible repeat (first | apply Kd.N_alloc | apply Kd.N_drewN | apply Kd.N_drew)); exact Kd.N_mono HO538.out (fun _ hk => ⟨hk.1.1, ⟨hk.1.2.1, ⟨hk.1.2.2, hk.2⟩⟩⟩)), (pk BK523.out), (pk BK524.out), (pk BK525.out), (pk BK539.out), GW539.out, GE539.out, NB523_539.out, NB539_523.out, NB524_539.out, NB539_524.out, NB525_539.out, NB539_525.out, (by repeat (first | (with_reducible first | exact HB.out | apply below_alloc | apply pw_below_drewN | apply below_drew1 | refine below_set ?_ GE523.out | refine below_set ?_ GE524.out | refine below_set ?_ GE525.out | refine below_set ?_ GE539.out) | exact HB.out))⟩)
            ·
             skip
             refine box_step ?hg (N := 7) ?hd (cs := #[.slice none 0 0, .slice none 0 0, .int .i64 0]) (t := 25) ?hr ?_; (case hd => rfl); (case hg => rfl); (case hr => first | (go_simp; done) | (go_simp; rfl))
             intro gb539 hg w89 hbox hb
             have n0_ := Aside0.mk (Kd.N_below (Kd.N_elderB (pN HO535.out) gb539 (Nat.le_of_eq hg.symm)) hb)
             have n1_ := Aside0.mk (bb BK523.out hb)
             have n2_ := Aside0.mk (bb BK524.out hb)
             have n3_ := Aside0.mk (bb BK525.out hb)
             have n4_ := Aside0.mk (below_step (by repeat (first | (with_reducible first | exact HB.out | apply below_alloc | apply pw_below_drewN | apply below_drew1 | refine below_set ?_ GE523.out | refine below_set ?_ GE524.out | refine below_set ?_ GE525.out) | exact HB.out)) hb)
             have n5_ := Aside0.mk (hbox)
             have n6_ := Aside0.mk ((by rw [hg]; exact (below_size (by repeat (first | (with_reducible first | exact HB.out | apply below_alloc | apply pw_below_drewN | apply below_drew1 | refine below_set ?_ GE523.out | refine below_set ?_ GE524.out | refine below_set ?_ GE525.out) | exact HB.out))) : w.heap.size ≤ gb539))
             have n7_ := Aside0.mk ((by rw [hg]; exact (below_size (by repeat (first | (with_reducible first | exact HB.out | apply below_alloc | apply pw_below_drewN | apply below_drew1 | refine below_set ?_ GE523.out | refine below_set ?_ GE524.out | refine below_set ?_ GE525.out) | exact HB.out))) : w.heap.size ≤ gb539))
             have n8_ := Aside0.mk ((by rw [hg]; exact Nat.ne_of_lt (blk_lt (g := gb523) (o := .cells #[.slice A0_0 l0_0.length c0_0, .slice A0_1 l0_1.length c0_1, .int .i64 a0_2] 25 (0, 0)) (pk BK523.out)) : gb523 ≠ gb539))
             have n9_ := Aside0.mk ((by rw [hg]; exact Nat.ne_of_gt (blk_lt (g := gb523) (o := .cells #[.slice A0_0 l0_0.length c0_0, .slice A0_1 l0_1.length c0_1, .int .i64 a0_2] 25 (0, 0)) (pk BK523.out)) : gb539 ≠ gb523))
             have n10_ := Aside0.mk ((by rw [hg]; exact Nat.ne_of_lt (blk_lt (g := gb524) (o := .cells #[.slice A1_0 l1_0.length c1_0, .slice A1_1 l1_1.length c1_1, .int .i64 a1_2] 25 (0, 0)) (pk BK524.out)) : gb524 ≠ gb539))
             have n11_ := Aside0.mk ((by rw [hg]; exact Nat.ne_of_gt (blk_lt (g := gb524) (o := .cells #[.slice A1_0 l1_0.length c1_0, .slice A1_1 l1_1.length c1_1, .int .i64 a1_2] 25 (0, 0)) (pk BK524.out)) : gb539 ≠ gb524))
             have n12_ := Aside0.mk ((by rw [hg]; exact Nat.ne_of_lt (blk_lt (g := gb525) (o := .cells #[.slice A2_0 l2_0.length c2_0, .slice A2_1 l2_1.length c2_1] 26 (0, 0)) (pk BK525.out)) : gb525 ≠ gb539))
             have n13_ := Aside0.mk ((by rw [hg]; exact Nat.ne_of_gt (blk_lt (g := gb525) (o := .cells #[.slice A2_0 l2_0.length c2_0, .slice A2_1 l2_1.length c2_1] 26 (0, 0)) (pk BK525.out)) : gb539 ≠ gb525))
             clear HO535
             clear BK523
             clear BK524
             clear BK525
             clear HB
             have HO535 := n0_
             have BK523 := n1_
             have BK524 := n2_
             have BK525 := n3_
             have HB := n4_
             have BK539 := n5_
             have GW539 := n6_
             have GE539 := n7_
             have NB523_539 := n8_
             have NB539_523 := n9_
             have NB524_539 := n10_
             have NB539_524 := n11_
             have NB525_539 := n12_
             have NB539_525 := n13_
             clear n0_ n1_ n2_ n3_ n4_ n5_ n6_ n7_ n8_ n9_ n10_ n11_ n12_ n13_
             clear hb hbox hg
             refine hK.out _ _ ⟨(blk_cell BK523.out 0).trans rfl, (blk_cell BK523.out 1).trans rfl, (blk_cell BK523.out 2).trans rfl, (blk_cell BK524.out 0).trans rfl, (blk_cell BK524.out 1).trans rfl, (blk_cell BK524.out 2).trans rfl⟩ (fun hHeld => ?_)
             clear hK K
             refine norm_ (a' := ?_) ?_ ?_
             rotate_left
             ·
              show Act.put _ (some 7) _ = _
              simp only [nrm]
              rfl
             refine one_ (i := 6) (N := some 62) #[tt,tt,tt,tt,tt,tt,tt,tt,tt,tt,tt,ff,tt,ff] rfl rfl (one_of HT_.out (by kernel_rfl)) (by decide) (fun K hK => ?_)
             refine Kd.N_append_rows_step k33 (w0 := w) w.heap.size (by rfl) (.tmp 59) (.tmp 61) 22 33 (.agg #[(.int .i64 0), (.slice none 0 0), (.int .i64 0)]) 40 rfl Tryd.underlying22 info33 rfl (by decide) (by omega) v534 y533 l1_0 _ _ _ (fun k_ => k_ ≠ gb523 ∧ k_ ≠ gb524 ∧ k_ ≠ gb525 ∧ k_ ≠ gb539) (fun k_ => k_ < w.heap.size) rfl rfl ?aO ?aR (fun k_ hk => ⟨⟨Nat.ne_of_lt (Nat.lt_of_lt_of_le hk GE523.out), Nat.ne_of_lt (Nat.lt_of_lt_of_le hk GE524.out), Nat.ne_of_lt (Nat.lt_of_lt_of_le hk GE525.out), Nat.ne_of_lt (Nat.lt_of_lt_of_le hk GE539.out)⟩, fun e_ => Nat.lt_irrefl _ (Nat.lt_of_lt_of_le hk (Kd.N_base (HO535.out) k_ e_.symm))⟩) ?aF ?aB ?aS ?aL ?_
             (case aR => exact (Kd.F_below (Kd.C_F heap33 HR1_0.out) (by repeat (first | (with_reducible first | exact HB.out | apply below_alloc | apply pw_below_drewN | apply below_drew1 | refine below_set ?_ GE523.out | refine below_set ?_ GE524.out | refine below_set ?_ GE525.out | refine below_set ?_ GE539.out) | exact HB.out))))
             (case aB => exact (by repeat (first | (with_reducible first | exact HB.out | apply below_alloc | apply pw_below_drewN | apply below_drew1 | refine below_set ?_ GE523.out | refine below_set ?_ GE524.out | refine below_set ?_ GE525.out | refine below_set ?_ GE539.out) | exact HB.out)))
             (case aF => exact (fun k_ hk => ⟨Kd.freshB (g := gb523) (o := .cells #[.slice A0_0 l0_0.length c0_0, .slice A0_1 l0_1.length c0_1, .int .i64 a0_2] 25 (0, 0)) (pk BK523.out) k_ hk, Kd.freshB (g := gb524) (o := .cells #[.slice A1_0 l1_0.length c1_0, .slice A1_1 l1_1.length c1_1, .int .i64 a1_2] 25 (0, 0)) (pk BK524.out) k_ hk, Kd.freshB (g := gb525) (o := .cells #[.slice A2_0 l2_0.length c2_0, .slice A2_1 l2_1.length c2_1] 26 (0, 0)) (pk BK525.out) k_ hk, Kd.freshB (g := gb539) (o := .cells #[.slice none 0 0, .slice none 0 0, .int .i64 0] 25 (0, 0)) (pk BK539.out) k_ hk⟩))
             (case aO => exact (by (with_reducible repeat (first | apply Kd.N_alloc | apply Kd.N_drewN | apply Kd.N_drew)); exact Kd.N_mono HO535.out (fun _ hk => ⟨hk.1.1, ⟨hk.1.2.1, ⟨hk.1.2.2, hk.2⟩⟩⟩)))
             (case aS => exact (below_size (by repeat (first | (with_reducible first | exact HB.out | apply below_alloc | apply pw_below_drewN | apply below_drew1 | refine below_set ?_ GE523.out | refine below_set ?_ GE524.out | refine below_set ?_ GE525.out | refine below_set ?_ GE539.out) | exact HB.out))))
             (case aL => have := LMc79.out; omega)
             intro v537 w90 ho hb hg hat
             rw [← Ny536.out] at ho
             replace BK523 := Aside0.mk (blk_grown (g := gb523) (o := .cells #[.slice A0_0 l0_0.length c0_0, .slice A0_1 l0_1.length c0_1, .int .i64 a0_2] 25 (0, 0)) (pk BK523.out) hg (Kd.N_ne HO535.out BK523.out (by decide)))
             replace BK524 := Aside0.mk (blk_grown (g := gb524) (o := .cells #[.slice A1_0 l1_0.length c1_0, .slice A1_1 l1_1.length c1_1, .int .i64 a1_2] 25 (0, 0)) (pk BK524.out) hg (Kd.N_ne HO535.out BK524.out (by decide)))
             replace BK525 := Aside0.mk (blk_grown (g := gb525) (o := .cells #[.slice A2_0 l2_0.length c2_0, .slice A2_1 l2_1.length c2_1] 26 (0, 0)) (pk BK525.out) hg (Kd.N_ne HO535.out BK525.out (by decide)))
             replace BK539 := Aside0.mk (blk_grown (g := gb539) (o := .cells #[.slice none 0 0, .slice none 0 0, .int .i64 0] 25 (0, 0)) (pk BK539.out) hg (Kd.N_ne HO535.out BK539.out (by decide)))
             replace HB := Aside0.mk (hb)
             have HO538 := Aside0.mk (ho)
             clear HO535
             clear ho hb hg hat
             obtain ⟨Ao91, co91, eo91⟩ := Kd.N_slice HO538.out
             (first | subst eo91 | (injection eo91 with f1_ f2_ f3_; have f4_ := f1_.symm; have f5_ := f3_.symm; clear f1_ f2_ f3_; subst f4_; subst f5_))
             refine hK.out _ _ ⟨(blk_cell BK523.out 0).trans rfl, (blk_cell BK523.out 1).trans rfl, (blk_cell BK523.out 2).trans rfl, (blk_cell BK524.out 0).trans rfl, (blk_cell BK524.out 1).trans rfl, (blk_cell BK524.out 2).trans rfl⟩ (fun hHeld => ?_)
             clear hK K
             refine norm_ (a' := ?_) ?_ ?_
             rotate_left
             ·
              show Act.put _ (some 62) _ = _
              simp only [nrm]
              rfl
             refine pu 11 67 ?_
             exact norm_ (by simp only [putAll, Act.put, List.setIfInBounds_toArray, List.set_cons_zero, List.set_cons_succ]) (hCont (v531, v534, .slice Ao91 y536.length co91, gb539) _ ⟨hHeld, (pN HO538.out), (pk BK523.out), (pk BK524.out), (pk BK525.out), (pk BK539.out), GW539.out, GE539.out, NB523_539.out, NB539_523.out, NB524_539.out, NB539_524.out, NB525_539.out, NB539_525.out, (by repeat (first | (with_reducible first | exact HB.out | apply below_alloc | apply pw_below_drewN | apply below_drew1 | refine below_set ?_ GE523.out | refine below_set ?_ GE524.out | refine below_set ?_ GE525.out | refine below_set ?_ GE539.out) | exact HB.out))⟩)
           ·
            skip
            refine box_step ?hg (N := 7) ?hd (cs := #[.slice none 0 0, .slice none 0 0, .int .i64 0]) (t := 25) ?hr ?_; (case hd => rfl); (case hg => rfl); (case hr => first | (go_simp; done) | (go_simp; rfl))
            intro gb539 hg w88 hbox hb
            have n0_ := Aside0.mk (Kd.N_below (Kd.N_elderB (pN HO532.out) gb539 (Nat.le_of_eq hg.symm)) hb)
            have n1_ := Aside0.mk (bb BK523.out hb)
            have n2_ := Aside0.mk (bb BK524.out hb)
            have n3_ := Aside0.mk (bb BK525.out hb)
            have n4_ := Aside0.mk (below_step (by repeat (first | (with_reducible first | exact HB.out | apply below_alloc | apply pw_below_drewN | apply below_drew1 | refine below_set ?_ GE523.out | refine below_set ?_ GE524.out | refine below_set ?_ GE525.out) | exact HB.out)) hb)
            have n5_ := Aside0.mk (hbox)
            have n6_ := Aside0.mk ((by rw [hg]; exact (below_size (by repeat (first | (with_reducible first | exact HB.out | apply below_alloc | apply pw_below_drewN | apply below_drew1 | refine below_set ?_ GE523.out | refine below_set ?_ GE524.out | refine below_set ?_ GE525.out) | exact HB.out))) : w.heap.size ≤ gb539))
            have n7_ := Aside0.mk ((by rw [hg]; exact (below_size (by repeat (first | (with_reducible first | exact HB.out | apply below_alloc | apply pw_below_drewN | apply below_drew1 | refine below_set ?_ GE523.out | refine below_set ?_ GE524.out | refine below_set ?_ GE525.out) | exact HB.out))) : w.heap.size ≤ gb539))
            have n8_ := Aside0.mk ((by rw [hg]; exact Nat.ne_of_lt (blk_lt (g := gb523) (o := .cells #[.slice A0_0 l0_0.length c0_0, .slice A0_1 l0_1.length c0_1, .int .i64 a0_2] 25 (0, 0)) (pk BK523.out)) : gb523 ≠ gb539))
            have n9_ := Aside0.mk ((by rw [hg]; exact Nat.ne_of_gt (blk_lt (g := gb523) (o := .cells #[.slice A0_0 l0_0.length c0_0, .slice A0_1 l0_1.length c0_1, .int .i64 a0_2] 25 (0, 0)) (pk BK523.out)) : gb539 ≠ gb523))
            have n10_ := Aside0.mk ((by rw [hg]; exact Nat.ne_of_lt (blk_lt (g := gb524) (o := .cells #[.slice A1_0 l1_0.length c1_0, .slice A1_1 l1_1.length c1_1, .int .i64 a1_2] 25 (0, 0)) (pk BK524.out)) : gb524 ≠ gb539))
            have n11_ := Aside0.mk ((by rw [hg]; exact Nat.ne_of_gt (blk_lt (g := gb524) (o := .cells #[.slice A1_0 l1_0.length c1_0, .slice A1_1 l1_1.length c1_1, .int .i64 a1_2] 25 (0, 0)) (pk BK524.out)) : gb539 ≠ gb524))
            have n12_ := Aside0.mk ((by rw [hg]; exact Nat.ne_of_lt (blk_lt (g := gb525) (o := .cells #[.slice A2_0 l2_0.length c2_0, .slice A2_1 l2_1.length c2_1] 26 (0, 0)) (pk BK525.out)) : gb525 ≠ gb539))
            have n13_ := Aside0.mk ((by rw [hg]; exact Nat.ne_of_gt (blk_lt (g := gb525) (o := .cells #[.slice A2_0 l2_0.length c2_0, .slice A2_1 l2_1.length c2_1] 26 (0, 0)) (pk BK525.out)) : gb539 ≠ gb525))
            clear HO532
            clear BK523
            clear BK524
            clear BK525
            clear HB
            have HO532 := n0_
            have BK523 := n1_
            have BK524 := n2_
            have BK525 := n3_
            have HB := n4_
            have BK539 := n5_
            have GW539 := n6_
            have GE539 := n7_
            have NB523_539 := n8_
            have NB539_523 := n9_
            have NB524_539 := n10_
            have NB539_524 := n11_
            have NB525_539 := n12_
            have NB539_525 := n13_
            clear n0_ n1_ n2_ n3_ n4_ n5_ n6_ n7_ n8_ n9_ n10_ n11_ n12_ n13_
            clear hb hbox hg
            refine hK.out _ _ ⟨(blk_cell BK523.out 0).trans rfl, (blk_cell BK523.out 1).trans rfl, (blk_cell BK523.out 2).trans rfl, (blk_cell BK524.out 0).trans rfl, (blk_cell BK524.out 1).trans rfl, (blk_cell BK524.out 2).trans rfl⟩ (fun hHeld => ?_)
            clear hK K
            refine norm_ (a' := ?_) ?_ ?_
            rotate_left
            ·
             show Act.put _ (some 7) _ = _
             simp only [nrm]
             rfl
            refine one_ (i := 3) (N := some 59) #[tt,tt,tt,tt,tt,tt,ff,tt,tt,tt,tt,ff,tt,ff] rfl rfl (one_of HT_.out (by kernel_rfl)) (by decide) (fun K hK => ?_)
            refine Kd.N_append_rows_step k33 (w0 := w) w.heap.size (by rfl) (.tmp 56) (.tmp 58) 22 33 (.agg #[(.int .i64 0), (.slice none 0 0), (.int .i64 0)]) 40 rfl Tryd.underlying22 info33 rfl (by decide) (by omega) v531 y530 l0_0 _ _ _ (fun k_ => k_ ≠ gb523 ∧ k_ ≠ gb524 ∧ k_ ≠ gb525 ∧ k_ ≠ gb539) (fun k_ => k_ < w.heap.size) rfl rfl ?aO ?aR (fun k_ hk => ⟨⟨Nat.ne_of_lt (Nat.lt_of_lt_of_le hk GE523.out), Nat.ne_of_lt (Nat.lt_of_lt_of_le hk GE524.out), Nat.ne_of_lt (Nat.lt_of_lt_of_le hk GE525.out), Nat.ne_of_lt (Nat.lt_of_lt_of_le hk GE539.out)⟩, fun e_ => Nat.lt_irrefl _ (Nat.lt_of_lt_of_le hk (Kd.N_base (HO532.out) k_ e_.symm))⟩) ?aF ?aB ?aS ?aL ?_
            (case aR => exact (Kd.F_below (Kd.C_F heap33 HR0_0.out) (by repeat (first | (with_reducible first | exact HB.out | apply below_alloc | apply pw_below_drewN | apply below_drew1 | refine below_set ?_ GE523.out | refine below_set ?_ GE524.out | refine below_set ?_ GE525.out | refine below_set ?_ GE539.out) | exact HB.out))))
            (case aB => exact (by repeat (first | (with_reducible first | exact HB.out | apply below_alloc | apply pw_below_drewN | apply below_drew1 | refine below_set ?_ GE523.out | refine below_set ?_ GE524.out | refine below_set ?_ GE525.out | refine below_set ?_ GE539.out) | exact HB.out)))
            (case aF => exact (fun k_ hk => ⟨Kd.freshB (g := gb523) (o := .cells #[.slice A0_0 l0_0.length c0_0, .slice A0_1 l0_1.length c0_1, .int .i64 a0_2] 25 (0, 0)) (pk BK523.out) k_ hk, Kd.freshB (g := gb524) (o := .cells #[.slice A1_0 l1_0.length c1_0, .slice A1_1 l1_1.length c1_1, .int .i64 a1_2] 25 (0, 0)) (pk BK524.out) k_ hk, Kd.freshB (g := gb525) (o := .cells #[.slice A2_0 l2_0.length c2_0, .slice A2_1 l2_1.length c2_1] 26 (0, 0)) (pk BK525.out) k_ hk, Kd.freshB (g := gb539) (o := .cells #[.slice none 0 0, .slice none 0 0, .int .i64 0] 25 (0, 0)) (pk BK539.out) k_ hk⟩))
            (case aO => exact (by (with_reducible repeat (first | apply Kd.N_alloc | apply Kd.N_drewN | apply Kd.N_drew)); exact Kd.N_mono HO532.out (fun _ hk => ⟨hk.1.1, ⟨hk.1.2.1, ⟨hk.1.2.2, hk.2⟩⟩⟩)))
            (case aS => exact (below_size (by repeat (first | (with_reducible first | exact HB.out | apply below_alloc | apply pw_below_drewN | apply below_drew1 | refine below_set ?_ GE523.out | refine below_set ?_ GE524.out | refine below_set ?_ GE525.out | refine below_set ?_ GE539.out) | exact HB.out))))
            (case aL => have := LMc78.out; omega)
            intro v534 w89 ho hb hg hat
            rw [← Ny533.out] at ho
            replace BK523 := Aside0.mk (blk_grown (g := gb523) (o := .cells #[.slice A0_0 l0_0.length c0_0, .slice A0_1 l0_1.length c0_1, .int .i64 a0_2] 25 (0, 0)) (pk BK523.out) hg (Kd.N_ne HO532.out BK523.out (by decide)))
            replace BK524 := Aside0.mk (blk_grown (g := gb524) (o := .cells #[.slice A1_0 l1_0.length c1_0, .slice A1_1 l1_1.length c1_1, .int .i64 a1_2] 25 (0, 0)) (pk BK524.out) hg (Kd.N_ne HO532.out BK524.out (by decide)))
            replace BK525 := Aside0.mk (blk_grown (g := gb525) (o := .cells #[.slice A2_0 l2_0.length c2_0, .slice A2_1 l2_1.length c2_1] 26 (0, 0)) (pk BK525.out) hg (Kd.N_ne HO532.out BK525.out (by decide)))
            replace BK539 := Aside0.mk (blk_grown (g := gb539) (o := .cells #[.slice none 0 0, .slice none 0 0, .int .i64 0] 25 (0, 0)) (pk BK539.out) hg (Kd.N_ne HO532.out BK539.out (by decide)))
            replace HB := Aside0.mk (hb)
            have HO535 := Aside0.mk (ho)
            clear HO532
            clear ho hb hg hat
            refine hK.out _ _ ⟨(blk_cell BK523.out 0).trans rfl, (blk_cell BK523.out 1).trans rfl, (blk_cell BK523.out 2).trans rfl, (blk_cell BK524.out 0).trans rfl, (blk_cell BK524.out 1).trans rfl, (blk_cell BK524.out 2).trans rfl⟩ (fun hHeld => ?_)
            clear hK K
            refine norm_ (a' := ?_) ?_ ?_
            rotate_left
            ·
             show Act.put _ (some 59) _ = _
             simp only [nrm]
             rfl
            refine one_ (i := 6) (N := some 62) #[tt,tt,tt,tt,tt,tt,tt,tt,tt,tt,tt,ff,tt,ff] rfl rfl (one_of HT_.out (by kernel_rfl)) (by decide) (fun K hK => ?_)
            refine Kd.N_append_rows_step k33 (w0 := w) w.heap.size (by rfl) (.tmp 59) (.tmp 61) 22 33 (.agg #[(.int .i64 0), (.slice none 0 0), (.int .i64 0)]) 40 rfl Tryd.underlying22 info33 rfl (by decide) (by omega) v534 y533 l1_0 _ _ _ (fun k_ => k_ ≠ gb523 ∧ k_ ≠ gb524 ∧ k_ ≠ gb525 ∧ k_ ≠ gb539) (fun k_ => k_ < w.heap.size) rfl rfl ?aO ?aR (fun k_ hk => ⟨⟨Nat.ne_of_lt (Nat.lt_of_lt_of_le hk GE523.out), Nat.ne_of_lt (Nat.lt_of_lt_of_le hk GE524.out), Nat.ne_of_lt (Nat.lt_of_lt_of_le hk GE525.out), Nat.ne_of_lt (Nat.lt_of_lt_of_le hk GE539.out)⟩, fun e_ => Nat.lt_irrefl _ (Nat.lt_of_lt_of_le hk (Kd.N_base (HO535.out) k_ e_.symm))⟩) ?aF ?aB ?aS ?aL ?_
            (case aR => exact (Kd.F_below (Kd.C_F heap33 HR1_0.out) (by repeat (first | (with_reducible first | exact HB.out | apply below_alloc | apply pw_below_drewN | apply below_drew1 | refine below_set ?_ GE523.out | refine below_set ?_ GE524.out | refine below_set ?_ GE525.out | refine below_set ?_ GE539.out) | exact HB.out))))
            (case aB => exact (by repeat (first | (with_reducible first | exact HB.out | apply below_alloc | apply pw_below_drewN | apply below_drew1 | refine below_set ?_ GE523.out | refine below_set ?_ GE524.out | refine below_set ?_ GE525.out | refine below_set ?_ GE539.out) | exact HB.out)))
            (case aF => exact (fun k_ hk => ⟨Kd.freshB (g := gb523) (o := .cells #[.slice A0_0 l0_0.length c0_0, .slice A0_1 l0_1.length c0_1, .int .i64 a0_2] 25 (0, 0)) (pk BK523.out) k_ hk, Kd.freshB (g := gb524) (o := .cells #[.slice A1_0 l1_0.length c1_0, .slice A1_1 l1_1.length c1_1, .int .i64 a1_2] 25 (0, 0)) (pk BK524.out) k_ hk, Kd.freshB (g := gb525) (o := .cells #[.slice A2_0 l2_0.length c2_0, .slice A2_1 l2_1.length c2_1] 26 (0, 0)) (pk BK525.out) k_ hk, Kd.freshB (g := gb539) (o := .cells #[.slice none 0 0, .slice none 0 0, .int .i64 0] 25 (0, 0)) (pk BK539.out) k_ hk⟩))
            (case aO => exact (pN HO535.out))
            (case aS => exact (below_size (by repeat (first | (with_reducible first | exact HB.out | apply below_alloc | apply pw_below_drewN | apply below_drew1 | refine below_set ?_ GE523.out | refine below_set ?_ GE524.out | refine below_set ?_ GE525.out | refine below_set ?_ GE539.out) | exact HB.out))))
            (case aL => have := LMc79.out; omega)
            intro v537 w90 ho hb hg hat
            rw [← Ny536.out] at ho
            replace BK523 := Aside0.mk (blk_grown (g := gb523) (o := .cells #[.slice A0_0 l0_0.length c0_0, .slice A0_1 l0_1.length c0_1, .int .i64 a0_2] 25 (0, 0)) (pk BK523.out) hg (Kd.N_ne HO535.out BK523.out (by decide)))
            replace BK524 := Aside0.mk (blk_grown (g := gb524) (o := .cells #[.slice A1_0 l1_0.length c1_0, .slice A1_1 l1_1.length c1_1, .int .i64 a1_2] 25 (0, 0)) (pk BK524.out) hg (Kd.N_ne HO535.out BK524.out (by decide)))
            replace BK525 := Aside0.mk (blk_grown (g := gb525) (o := .cells #[.slice A2_0 l2_0.length c2_0, .slice A2_1 l2_1.length c2_1] 26 (0, 0)) (pk BK525.out) hg (Kd.N_ne HO535.out BK525.out (by decide)))
            replace BK539 := Aside0.mk (blk_grown (g := gb539) (o := .cells #[.slice none 0 0, .slice none 0 0, .int .i64 0] 25 (0, 0)) (pk BK539.out) hg (Kd.N_ne HO535.out BK539.out (by decide)))
            replace HB := Aside0.mk (hb)
            have HO538 := Aside0.mk (ho)
            clear HO535
            clear ho hb hg hat
            obtain ⟨Ao91, co91, eo91⟩ := Kd.N_slice HO538.out
            (first | subst eo91 | (injection eo91 with f1_ f2_ f3_; have f4_ := f1_.symm; have f5_ := f3_.symm; clear f1_ f2_ f3_; subst f4_; subst f5_))
            refine hK.out _ _ ⟨(blk_cell BK523.out 0).trans rfl, (blk_cell BK523.out 1).trans rfl, (blk_cell BK523.out 2).trans rfl, (blk_cell BK524.out 0).trans rfl, (blk_cell BK524.out 1).trans rfl, (blk_cell BK524.out 2).trans rfl⟩ (fun hHeld => ?_)
            clear hK K
            refine norm_ (a' := ?_) ?_ ?_
            rotate_left
            ·
             show Act.put _ (some 62) _ = _
             simp only [nrm]
             rfl
            refine pu 11 67 ?_
            exact norm_ (by simp only [putAll, Act.put, List.setIfInBounds_toArray, List.set_cons_zero, List.set_cons_succ]) (hCont (v531, v534, .slice Ao91 y536.length co91, gb539) _ ⟨hHeld, (pN HO538.out), (pk BK523.out), (pk BK524.out), (pk BK525.out), (pk BK539.out), GW539.out, GE539.out, NB523_539.out, NB539_523.out, NB524_539.out, NB539_524.out, NB525_539.out, NB539_525.out, (by repeat (first | (with_reducible first | exact HB.out | apply below_alloc | apply pw_below_drewN | apply below_drew1 | refine below_set ?_ GE523.out | refine below_set ?_ GE524.out | refine below_set ?_ GE525.out | refine below_set ?_ GE539.out) | exact HB.out))⟩)
          ·
           skip
           refine box_step ?hg (N := 7) ?hd (cs := #[.slice none 0 0, .slice none 0 0, .int .i64 0]) (t := 25) ?hr ?_; (case hd => rfl); (case hg => rfl); (case hr => first | (go_simp; done) | (go_simp; rfl))
           intro gb539 hg w86 hbox hb
           have n0_ := Aside0.mk (bb BK523.out hb)
           have n1_ := Aside0.mk (bb BK524.out hb)
           have n2_ := Aside0.mk (bb BK525.out hb)
           have n3_ := Aside0.mk (below_step (by repeat (first | (with_reducible first | exact HB.out | apply below_alloc | apply pw_below_drewN | apply below_drew1 | refine below_set ?_ GE523.out | refine below_set ?_ GE524.out | refine below_set ?_ GE525.out) | exact HB.out)) hb)
           have n4_ := Aside0.mk (hbox)
           have n5_ := Aside0.mk ((by rw [hg]; exact (below_size (by repeat (first | (with_reducible first | exact HB.out | apply below_alloc | apply pw_below_drewN | apply below_drew1 | refine below_set ?_ GE523.out | refine below_set ?_ GE524.out | refine below_set ?_ GE525.out) | exact HB.out))) : w.heap.size ≤ gb539))
           have n6_ := Aside0.mk ((by rw [hg]; exact (below_size (by repeat (first | (with_reducible first | exact HB.out | apply below_alloc | apply pw_below_drewN | apply below_drew1 | refine below_set ?_ GE523.out | refine below_set ?_ GE524.out | refine below_set ?_ GE525.out) | exact HB.out))) : w.heap.size ≤ gb539))
           have n7_ := Aside0.mk ((by rw [hg]; exact Nat.ne_of_lt (blk_lt (g := gb523) (o := .cells #[.slice A0_0 l0_0.length c0_0, .slice A0_1 l0_1.length c0_1, .int .i64 a0_2] 25 (0, 0)) (pk BK523.out)) : gb523 ≠ gb539))
           have n8_ := Aside0.mk ((by rw [hg]; exact Nat.ne_of_gt (blk_lt (g := gb523) (o := .cells #[.slice A0_0 l0_0.length c0_0, .slice A0_1 l0_1.length c0_1, .int .i64 a0_2] 25 (0, 0)) (pk BK523.out)) : gb539 ≠ gb523))
           have n9_ := Aside0.mk ((by rw [hg]; exact Nat.ne_of_lt (blk_lt (g := gb524) (o := .cells #[.slice A1_0 l1_0.length c1_0, .slice A1_1 l1_1.length c1_1, .int .i64 a1_2] 25 (0, 0)) (pk BK524.out)) : gb524 ≠ gb539))
           have n10_ := Aside0.mk ((by rw [hg]; exact Nat.ne_of_gt (blk_lt (g := gb524) (o := .cells #[.slice A1_0 l1_0.length c1_0, .slice A1_1 l1_1.length c1_1, .int .i64 a1_2] 25 (0, 0)) (pk BK524.out)) : gb539 ≠ gb524))
           have n11_ := Aside0.mk ((by rw [hg]; exact Nat.ne_of_lt (blk_lt (g := gb525) (o := .cells #[.slice A2_0 l2_0.length c2_0, .slice A2_1 l2_1.length c2_1] 26 (0, 0)) (pk BK525.out)) : gb525 ≠ gb539))
           have n12_ := Aside0.mk ((by rw [hg]; exact Nat.ne_of_gt (blk_lt (g := gb525) (o := .cells #[.slice A2_0 l2_0.length c2_0, .slice A2_1 l2_1.length c2_1] 26 (0, 0)) (pk BK525.out)) : gb539 ≠ gb525))
           clear BK523
           clear BK524
           clear BK525
           clear HB
           have BK523 := n0_
           have BK524 := n1_
           have BK525 := n2_
           have HB := n3_
           have BK539 := n4_
           have GW539 := n5_
           have GE539 := n6_
           have NB523_539 := n7_
           have NB539_523 := n8_
           have NB524_539 := n9_
           have NB539_524 := n10_
           have NB525_539 := n11_
           have NB539_525 := n12_
           clear n0_ n1_ n2_ n3_ n4_ n5_ n6_ n7_ n8_ n9_ n10_ n11_ n12_
           clear hb hbox hg
           refine hK.out _ _ ⟨(blk_cell BK523.out 0).trans rfl, (blk_cell BK523.out 1).trans rfl, (blk_cell BK523.out 2).trans rfl, (blk_cell BK524.out 0).trans rfl, (blk_cell BK524.out 1).trans rfl, (blk_cell BK524.out 2).trans rfl⟩ (fun hHeld => ?_)
           clear hK K
           refine norm_ (a' := ?_) ?_ ?_
           rotate_left
           ·
            show Act.put _ (some 7) _ = _
            simp only [nrm]
            rfl
           refine one_ (i := 0) (N := some 56) #[tt,tt,tt,ff,tt,tt,ff,tt,tt,tt,tt,ff,tt,ff] rfl rfl (one_of HT_.out (by kernel_rfl)) (by decide) (fun K hK => ?_)
           refine Kd.N_lit_step k33 _ 33 ?hg (N' := 56) ?hd (xs := ([] : List (S33))) (inner := []) (ok := (fun k_ => k_ ≠ gb523 ∧ k_ ≠ gb524 ∧ k_ ≠ gb525 ∧ k_ ≠ gb539)) (okp := (fun k_ => k_ ≠ gb523 ∧ k_ ≠ gb524 ∧ k_ ≠ gb525 ∧ k_ ≠ gb539)) ?hr ?hp (fun _ hk => hk) ((show ∀ k_, w86.heap.size ≤ k_ → (fun k_ => k_ ≠ gb523 ∧ k_ ≠ gb524 ∧ k_ ≠ gb525 ∧ k_ ≠ gb539) k_ from fun k_ hk => ⟨Kd.freshB (g := gb523) (o := .cells #[.slice A0_0 l0_0.length c0_0, .slice A0_1 l0_1.length c0_1, .int .i64 a0_2] 25 (0, 0)) (pk BK523.out) k_ hk, Kd.freshB (g := gb524) (o := .cells #[.slice A1_0 l1_0.length c1_0, .slice A1_1 l1_1.length c1_1, .int .i64 a1_2] 25 (0, 0)) (pk BK524.out) k_ hk, Kd.freshB (g := gb525) (o := .cells #[.slice A2_0 l2_0.length c2_0, .slice A2_1 l2_1.length c2_1] 26 (0, 0)) (pk BK525.out) k_ hk, Kd.freshB (g := gb539) (o := .cells #[.slice none 0 0, .slice none 0 0, .int .i64 0] 25 (0, 0)) (pk BK539.out) k_ hk⟩) _ (Nat.le_refl _)) (Below.refl _ _) (Nat.le_refl _) (by simp) ?_; (case hd => rfl); (case hg => rfl); (case hr => first | (go_simp; done) | (go_simp; rfl)); (case hp => exact (Reps.none _ _))
           intro v531 w87 ho88 hb hg_ hnew_
           clear hg_ hnew_
           (first | rw [← Ny530.out] at ho88 | (simp only [Int.reduceToNat] at ho88; rw [← Ny530.out] at ho88))
           have HO532 := Aside0.mk (Kd.N_lower ho88 (below_size (by repeat (first | (with_reducible first | exact HB.out | apply below_alloc | apply pw_below_drewN | apply below_drew1 | refine below_set ?_ GE523.out | refine below_set ?_ GE524.out | refine below_set ?_ GE525.out | refine below_set ?_ GE539.out) | exact HB.out))))
           replace BK523 := Aside0.mk (bb BK523.out hb)
           replace BK524 := Aside0.mk (bb BK524.out hb)
           replace BK525 := Aside0.mk (bb BK525.out hb)
           replace BK539 := Aside0.mk (bb BK539.out hb)
           replace HB := Aside0.mk (below_step (by repeat (first | (with_reducible first | exact HB.out | apply below_alloc | apply pw_below_drewN | apply below_drew1 | refine below_set ?_ GE523.out | refine below_set ?_ GE524.out | refine below_set ?_ GE525.out | refine below_set ?_ GE539.out) | exact HB.out)) hb)
           clear hb ho88
           refine hK.out _ _ ⟨(blk_cell BK523.out 0).trans rfl, (blk_cell BK523.out 1).trans rfl, (blk_cell BK523.out 2).trans rfl, (blk_cell BK524.out 0).trans rfl, (blk_cell BK524.out 1).trans rfl, (blk_cell BK524.out 2).trans rfl⟩ (fun hHeld => ?_)
           clear hK K
           refine norm_ (a' := ?_) ?_ ?_
           rotate_left
           ·
            show Act.put _ (some 56) _ = _
            simp only [nrm]
            rfl
           refine one_ (i := 3) (N := some 59) #[tt,tt,tt,tt,tt,tt,ff,tt,tt,tt,tt,ff,tt,ff] rfl rfl (one_of HT_.out (by kernel_rfl)) (by decide) (fun K hK => ?_)
           refine Kd.N_append_rows_step k33 (w0 := w) w.heap.size (by rfl) (.tmp 56) (.tmp 58) 22 33 (.agg #[(.int .i64 0), (.slice none 0 0), (.int .i64 0)]) 40 rfl Tryd.underlying22 info33 rfl (by decide) (by omega) v531 y530 l0_0 _ _ _ (fun k_ => k_ ≠ gb523 ∧ k_ ≠ gb524 ∧ k_ ≠ gb525 ∧ k_ ≠ gb539) (fun k_ => k_ < w.heap.size) rfl rfl ?aO ?aR (fun k_ hk => ⟨⟨Nat.ne_of_lt (Nat.lt_of_lt_of_le hk GE523.out), Nat.ne_of_lt (Nat.lt_of_lt_of_le hk GE524.out), Nat.ne_of_lt (Nat.lt_of_lt_of_le hk GE525.out), Nat.ne_of_lt (Nat.lt_of_lt_of_le hk GE539.out)⟩, fun e_ => Nat.lt_irrefl _ (Nat.lt_of_lt_of_le hk (Kd.N_base (HO532.out) k_ e_.symm))⟩) ?aF ?aB ?aS ?aL ?_
           (case aR => exact (Kd.F_below (Kd.C_F heap33 HR0_0.out) (by repeat (first | (with_reducible first | exact HB.out | apply below_alloc | apply pw_below_drewN | apply below_drew1 | refine below_set ?_ GE523.out | refine below_set ?_ GE524.out | refine below_set ?_ GE525.out | refine below_set ?_ GE539.out) | exact HB.out))))
           (case aB => exact (by repeat (first | (with_reducible first | exact HB.out | apply below_alloc | apply pw_below_drewN | apply below_drew1 | refine below_set ?_ GE523.out | refine below_set ?_ GE524.out | refine below_set ?_ GE525.out | refine below_set ?_ GE539.out) | exact HB.out)))
           (case aF => exact (fun k_ hk => ⟨Kd.freshB (g := gb523) (o := .cells #[.slice A0_0 l0_0.length c0_0, .slice A0_1 l0_1.length c0_1, .int .i64 a0_2] 25 (0, 0)) (pk BK523.out) k_ hk, Kd.freshB (g := gb524) (o := .cells #[.slice A1_0 l1_0.length c1_0, .slice A1_1 l1_1.length c1_1, .int .i64 a1_2] 25 (0, 0)) (pk BK524.out) k_ hk, Kd.freshB (g := gb525) (o := .cells #[.slice A2_0 l2_0.length c2_0, .slice A2_1 l2_1.length c2_1] 26 (0, 0)) (pk BK525.out) k_ hk, Kd.freshB (g := gb539) (o := .cells #[.slice none 0 0, .slice none 0 0, .int .i64 0] 25 (0, 0)) (pk BK539.out) k_ hk⟩))
           (case aO => exact (pN HO532.out))
           (case aS => exact (below_size (by repeat (first | (with_reducible first | exact HB.out | apply below_alloc | apply pw_below_drewN | apply below_drew1 | refine below_set ?_ GE523.out | refine below_set ?_ GE524.out | refine below_set ?_ GE525.out | refine below_set ?_ GE539.out) | exact HB.out))))
           (case aL => have := LMc78.out; omega)
           intro v534 w89 ho hb hg hat
           rw [← Ny533.out] at ho
           replace BK523 := Aside0.mk (blk_grown (g := gb523) (o := .cells #[.slice A0_0 l0_0.length c0_0, .slice A0_1 l0_1.length c0_1, .int .i64 a0_2] 25 (0, 0)) (pk BK523.out) hg (Kd.N_ne HO532.out BK523.out (by decide)))
           replace BK524 := Aside0.mk (blk_grown (g := gb524) (o := .cells #[.slice A1_0 l1_0.length c1_0, .slice A1_1 l1_1.length c1_1, .int .i64 a1_2] 25 (0, 0)) (pk BK524.out) hg (Kd.N_ne HO532.out BK524.out (by decide)))
           replace BK525 := Aside0.mk (blk_grown (g := gb525) (o := .cells #[.slice A2_0 l2_0.length c2_0, .slice A2_1 l2_1.length c2_1] 26 (0, 0)) (pk BK525.out) hg (Kd.N_ne HO532.out BK525.out (by decide)))
           replace BK539 := Aside0.mk (blk_grown (g := gb539) (o := .cells #[.slice none 0 0, .slice none 0 0, .int .i64 0] 25 (0, 0)) (pk BK539.out) hg (Kd.N_ne HO532.out BK539.out (by decide)))
           replace HB := Aside0.mk (hb)
           have HO535 := Aside0.mk (ho)
           clear HO532
           clear ho hb hg hat
           refine hK.out _ _ ⟨(blk_cell BK523.out 0).trans rfl, (blk_cell BK523.out 1).trans rfl, (blk_cell BK523.out 2).trans rfl, (blk_cell BK524.out 0).trans rfl, (blk_cell BK524.out 1).trans rfl, (blk_cell BK524.out 2).trans rfl⟩ (fun hHeld => ?_)
           clear hK K
           refine norm_ (a' := ?_) ?_ ?_
           rotate_left
           ·
            show Act.put _ (some 59) _ = _
            simp only [nrm]
            rfl
           refine one_ (i := 6) (N := some 62) #[tt,tt,tt,tt,tt,tt,tt,tt,tt,tt,tt,ff,tt,ff] rfl rfl (one_of HT_.out (by kernel_rfl)) (by decide) (fun K hK => ?_)
           refine Kd.N_append_rows_step k33 (w0 := w) w.heap.size (by rfl) (.tmp 59) (.tmp 61) 22 33 (.agg #[(.int .i64 0), (.slice none 0 0), (.int .i64 0)]) 40 rfl Tryd.underlying22 info33 rfl (by decide) (by omega) v534 y533 l1_0 _ _ _ (fun k_ => k_ ≠ gb523 ∧ k_ ≠ gb524 ∧ k_ ≠ gb525 ∧ k_ ≠ gb539) (fun k_ => k_ < w.heap.size) rfl rfl ?aO ?aR (fun k_ hk => ⟨⟨Nat.ne_of_lt (Nat.lt_of_lt_of_le hk GE523.out), Nat.ne_of_lt (Nat.lt_of_lt_of_le hk GE524.out), Nat.ne_of_lt (Nat.lt_of_lt_of_le hk GE525.out), Nat.ne_of_lt (Nat.lt_of_lt_of_le hk GE539.out)⟩, fun e_ => Nat.lt_irrefl _ (Nat.lt_of_lt_of_le hk (Kd.N_base (HO535.out) k_ e_.symm))⟩) ?aF ?aB ?aS ?aL ?_
           (case aR => exact (Kd.F_below (Kd.C_F heap33 HR1_0.out) (by repeat (first | (with_reducible first | exact HB.out | apply below_alloc | apply pw_below_drewN | apply below_drew1 | refine below_set ?_ GE523.out | refine below_set ?_ GE524.out | refine below_set ?_ GE525.out | refine below_set ?_ GE539.out) | exact HB.out))))
           (case aB => exact (by repeat (first | (with_reducible first | exact HB.out | apply below_alloc | apply pw_below_drewN | apply below_drew1 | refine below_set ?_ GE523.out | refine below_set ?_ GE524.out | refine below_set ?_ GE525.out | refine below_set ?_ GE539.out) | exact HB.out)))
           (case aF => exact (fun k_ hk => ⟨Kd.freshB (g := gb523) (o := .cells #[.slice A0_0 l0_0.length c0_0, .slice A0_1 l0_1.length c0_1, .int .i64 a0_2] 25 (0, 0)) (pk BK523.out) k_ hk, Kd.freshB (g := gb524) (o := .cells #[.slice A1_0 l1_0.length c1_0, .slice A1_1 l1_1.length c1_1, .int .i64 a1_2] 25 (0, 0)) (pk BK524.out) k_ hk, Kd.freshB (g := gb525) (o := .cells #[.slice A2_0 l2_0.length c2_0, .slice A2_1 l2_1.length c2_1] 26 (0, 0)) (pk BK525.out) k_ hk, Kd.freshB (g := gb539) (o := .cells #[.slice none 0 0, .slice none 0 0, .int .i64 0] 25 (0, 0)) (pk BK539.out) k_ hk⟩))
           (case aO => exact (pN HO535.out))
           (case aS => exact (below_size (by repeat (first | (with_reducible first | exact HB.out | apply below_alloc | apply pw_below_drewN | apply below_drew1 | refine below_set ?_ GE523.out | refine below_set ?_ GE524.out | refine below_set ?_ GE525.out | refine below_set ?_ GE539.out) | exact HB.out))))
           (case aL => have := LMc79.out; omega)
           intro v537 w90 ho hb hg hat
           rw [← Ny536.out] at ho
           replace BK523 := Aside0.mk (blk_grown (g := gb523) (o := .cells #[.slice A0_0 l0_0.length c0_0, .slice A0_1 l0_1.length c0_1, .int .i64 a0_2] 25 (0, 0)) (pk BK523.out) hg (Kd.N_ne HO535.out BK523.out (by decide)))
           replace BK524 := Aside0.mk (blk_grown (g := gb524) (o := .cells #[.slice A1_0 l1_0.length c1_0, .slice A1_1 l1_1.length c1_1, .int .i64 a1_2] 25 (0, 0)) (pk BK524.out) hg (Kd.N_ne HO535.out BK524.out (by decide)))
           replace BK525 := Aside0.mk (blk_grown (g := gb525) (o := .cells #[.slice A2_0 l2_0.length c2_0, .slice A2_1 l2_1.length c2_1] 26 (0, 0)) (pk BK525.out) hg (Kd.N_ne HO535.out BK525.out (by decide)))
           replace BK539 := Aside0.mk (blk_grown (g := gb539) (o := .cells #[.slice none 0 0, .slice none 0 0, .int .i64 0] 25 (0, 0)) (pk BK539.out) hg (Kd.N_ne HO535.out BK539.out (by decide)))
           replace HB := Aside0.mk (hb)
           have HO538 := Aside0.mk (ho)
           clear HO535
           clear ho hb hg hat
           obtain ⟨Ao91, co91, eo91⟩ := Kd.N_slice HO538.out
           (first | subst eo91 | (injection eo91 with f1_ f2_ f3_; have f4_ := f1_.symm; have f5_ := f3_.symm; clear f1_ f2_ f3_; subst f4_; subst f5_))
           refine hK.out _ _ ⟨(blk_cell BK523.out 0).trans rfl, (blk_cell BK523.out 1).trans rfl, (blk_cell BK523.out 2).trans rfl, (blk_cell BK524.out 0).trans rfl, (blk_cell BK524.out 1).trans rfl, (blk_cell BK524.out 2).trans rfl⟩ (fun hHeld => ?_)
           clear hK K
           refine norm_ (a' := ?_) ?_ ?_
           rotate_left
           ·
            show Act.put _ (some 62) _ = _
            simp only [nrm]
            rfl
           refine pu 11 67 ?_
           exact norm_ (by simp only [putAll, Act.put, List.setIfInBounds_toArray, List.set_cons_zero, List.set_cons_succ]) (hCont (v531, v534, .slice Ao91 y536.length co91, gb539) _ ⟨hHeld, (pN HO538.out), (pk BK523.out), (pk BK524.out), (pk BK525.out), (pk BK539.out), GW539.out, GE539.out, NB523_539.out, NB539_523.out, NB524_539.out, NB539_524.out, NB525_539.out, NB539_525.out, (by repeat (first | (with_reducible first | exact HB.out | apply below_alloc | apply pw_below_drewN | apply below_drew1 | refine below_set ?_ GE523.out | refine below_set ?_ GE524.out | refine below_set ?_ GE525.out | refine below_set ?_ GE539.out) | exact HB.out))⟩)
         rintro ⟨v531, v534, v537, gb539⟩ w92 ⟨hS_, h0_, h1_, h2_, h3_, h4_, h5_, h6_, h7_, h8_, h9_, h10_, h11_, h12_, h13_⟩
         have n0_ : Aside0 (Kd.N k33 33 w92 w.heap.size (fun k_ => k_ ≠ gb523 ∧ k_ ≠ gb524 ∧ k_ ≠ gb525 ∧ k_ ≠ gb539) v537 y536) := ⟨h0_⟩
         have n1_ : Aside0 (w92.heap[gb523]? = some (.cells #[.slice A0_0 l0_0.length c0_0, .slice A0_1 l0_1.length c0_1, .int .i64 a0_2] 25 (0, 0))) := ⟨h1_⟩
         have n2_ : Aside0 (w92.heap[gb524]? = some (.cells #[.slice A1_0 l1_0.length c1_0, .slice A1_1 l1_1.length c1_1, .int .i64 a1_2] 25 (0, 0))) := ⟨h2_⟩
         have n3_ : Aside0 (w92.heap[gb525]? = some (.cells #[.slice A2_0 l2_0.length c2_0, .slice A2_1 l2_1.length c2_1] 26 (0, 0))) := ⟨h3_⟩
         have n4_ : Aside0 (w92.heap[gb539]? = some (.cells #[.slice none 0 0, .slice none 0 0, .int .i64 0] 25 (0, 0))) := ⟨h4_⟩
         have n5_ : Aside0 (w.heap.size ≤ gb539) := ⟨h5_⟩
         have n6_ : Aside0 (w.heap.size ≤ gb539) := ⟨h6_⟩
         have n7_ : Aside0 (gb523 ≠ gb539) := ⟨h7_⟩
         have n8_ : Aside0 (gb539 ≠ gb523) := ⟨h8_⟩
         have n9_ : Aside0 (gb524 ≠ gb539) := ⟨h9_⟩
         have n10_ : Aside0 (gb539 ≠ gb524) := ⟨h10_⟩
         have n11_ : Aside0 (gb525 ≠ gb539) := ⟨h11_⟩
         have n12_ : Aside0 (gb539 ≠ gb525) := ⟨h12_⟩
         have n13_ : Aside0 (Below w.heap.size w w92) := ⟨h13_⟩
         clear BK523
         clear BK524
         clear BK525
         clear HB
         clear h0_ h1_ h2_ h3_ h4_ h5_ h6_ h7_ h8_ h9_ h10_ h11_ h12_ h13_
         have HO538 := n0_
         have BK523 := n1_
         have BK524 := n2_
         have BK525 := n3_
         have BK539 := n4_
         have GW539 := n5_
         have GE539 := n6_
         have NB523_539 := n7_
         have NB539_523 := n8_
         have NB524_539 := n9_
         have NB539_524 := n10_
         have NB525_539 := n11_
         have NB539_525 := n12_
         have HB := n13_
         clear n0_ n1_ n2_ n3_ n4_ n5_ n6_ n7_ n8_ n9_ n10_ n11_ n12_ n13_
         have hHeld : w92.cell? ⟨gb523, 0, none⟩ = some (.slice A0_0 l0_0.length c0_0) ∧ w92.cell? ⟨gb523, 1, none⟩ = some (.slice A0_1 l0_1.length c0_1) ∧ w92.cell? ⟨gb523, 2, none⟩ = some (.int .i64 a0_2) ∧ w92.cell? ⟨gb524, 0, none⟩ = some (.slice A1_0 l1_0.length c1_0) ∧ w92.cell? ⟨gb524, 1, none⟩ = some (.slice A1_1 l1_1.length c1_1) ∧ w92.cell? ⟨gb524, 2, none⟩ = some (.int .i64 a1_2) := hS_
         obtain ⟨Ao93, co93, eo93⟩ := Kd.N_slice HO538.out
         (first | subst eo93 | (injection eo93 with f1_ f2_ f3_; have f4_ := f1_.symm; have f5_ := f3_.symm; clear f1_ f2_ f3_; subst f4_; subst f5_))
         refine norm_ (a' := ?_) ?_ ?_
         rotate_left
         ·
          simp only [putAll, Act.put, List.setIfInBounds_toArray, List.set_cons_zero, List.set_cons_succ]
          rfl
         refine one_ (i := 13) (N := none) #[tt,tt,tt,tt,tt,tt,tt,tt,tt,tt,tt,tt,tt,tt] rfl rfl (one_of HT_.out (by kernel_rfl)) (by decide) (fun K hK => ?_)
         have hs94 : w92.cell? ⟨gb539, 0, none⟩ = some (.slice none 0 0) := (blk_cell BK539.out 0).trans rfl
         have hfs94 := blk_frozen BK539.out 0
         have hns94_0 := NB523_539.out
         have hns94_1 := NB524_539.out
         have hns94_2 := NB525_539.out
         have hms94_0 := NB539_523.out
         have hms94_1 := NB539_524.out
         have hms94_2 := NB539_525.out
         have hs95 : w92.cell? ⟨gb539, 1, none⟩ = some (.slice none 0 0) := (blk_cell BK539.out 1).trans rfl
         have hfs95 := blk_frozen BK539.out 1
         have hns95_0 := NB523_539.out
         have hns95_1 := NB524_539.out
         have hns95_2 := NB525_539.out
         have hms95_0 := NB539_523.out
         have hms95_1 := NB539_524.out
         have hms95_2 := NB539_525.out
         have hs96 : w92.cell? ⟨gb539, 2, none⟩ = some (.int .i64 0) := (blk_cell BK539.out 2).trans rfl
         have hfs96 := blk_frozen BK539.out 2
         have hns96_0 := NB523_539.out
         have hns96_1 := NB524_539.out
         have hns96_2 := NB525_539.out
         have hms96_0 := NB539_523.out
         have hms96_1 := NB539_524.out
         have hms96_2 := NB539_525.out
         refine skip_ (w1 := ?_) (by rfl) rfl ?_ ?_
         rotate_left
         ·
          go_simp
          rfl
         refine hK.out _ _ ⟨((cell_far (p := ⟨gb539, _, none⟩) NB523_539.out _).trans (((cell_far (p := ⟨gb539, _, none⟩) NB523_539.out _).trans (((cell_far (p := ⟨gb539, _, none⟩) NB523_539.out _).trans (hHeld.1)))))), ((cell_far (p := ⟨gb539, _, none⟩) NB523_539.out _).trans (((cell_far (p := ⟨gb539, _, none⟩) NB523_539.out _).trans (((cell_far (p := ⟨gb539, _, none⟩) NB523_539.out _).trans (hHeld.2.1)))))), ((cell_far (p := ⟨gb539, _, none⟩) NB523_539.out _).trans (((cell_far (p := ⟨gb539, _, none⟩) NB523_539.out _).trans (((cell_far (p := ⟨gb539, _, none⟩) NB523_539.out _).trans (hHeld.2.2.1)))))), ((cell_far (p := ⟨gb539, _, none⟩) NB524_539.out _).trans (((cell_far (p := ⟨gb539, _, none⟩) NB524_539.out _).trans (((cell_far (p := ⟨gb539, _, none⟩) NB524_539.out _).trans (hHeld.2.2.2.1)))))), ((cell_far (p := ⟨gb539, _, none⟩) NB524_539.out _).trans (((cell_far (p := ⟨gb539, _, none⟩) NB524_539.out _).trans (((cell_far (p := ⟨gb539, _, none⟩) NB524_539.out _).trans (hHeld.2.2.2.2.1)))))), ((cell_far (p := ⟨gb539, _, none⟩) NB524_539.out _).trans (((cell_far (p := ⟨gb539, _, none⟩) NB524_539.out _).trans (((cell_far (p := ⟨gb539, _, none⟩) NB524_539.out _).trans (hHeld.2.2.2.2.2))))))⟩ (fun hHeld => ?_)
         clear hK K
         refine done_ (done_of HT_.out (by kernel_rfl)) ?_
         try go_wp2
         have n0_ : Aside0 (Kd.N k33 33 (((w92.setCell ⟨gb539, 0, none⟩ (.slice Ao93 y536.length co93)).setCell ⟨gb539, 1, none⟩ (.slice A0_1 l0_1.length c0_1)).setCell ⟨gb539, 2, none⟩ (.int .i64 a0_2)) w.heap.size (fun k_ => k_ ≠ gb523 ∧ k_ ≠ gb524 ∧ k_ ≠ gb525 ∧ k_ ≠ gb539) (.slice Ao93 y536.length co93) y536) := ⟨by (with_reducible repeat (first | apply Kd.N_alloc | apply Kd.N_drewN | apply Kd.N_drew)); exact Kd.N_mono (Kd.N_far (p := ⟨gb539, 2, none⟩) (Kd.N_far (p := ⟨gb539, 1, none⟩) (Kd.N_far (p := ⟨gb539, 0, none⟩) (Kd.N_mono HO538.out (fun k_ hk => (⟨hk, hk.2.2.2⟩ : _ ∧ k_ ≠ gb539))) (fun _ hk => hk.2) (.slice Ao93 y536.length co93)) (fun _ hk => hk.2) (.slice A0_1 l0_1.length c0_1)) (fun _ hk => hk.2) (.int .i64 a0_2)) (fun _ hk => ⟨hk.1.1, ⟨hk.1.2.1, ⟨hk.1.2.2.1, hk.1.2.2.2⟩⟩⟩)⟩
         have n1_ : Aside0 ((((w92.setCell ⟨gb539, 0, none⟩ (.slice Ao93 y536.length co93)).setCell ⟨gb539, 1, none⟩ (.slice A0_1 l0_1.length c0_1)).setCell ⟨gb539, 2, none⟩ (.int .i64 a0_2)).heap[gb523]? = some (.cells #[.slice A0_0 l0_0.length c0_0, .slice A0_1 l0_1.length c0_1, .int .i64 a0_2] 25 (0, 0))) := ⟨by (with_reducible repeat (first | refine blk_drewN ?_ _ | refine blk_drew ?_ | refine blk_alloc ?_ _)); refine blk_far ?_ NB523_539.out _; (with_reducible repeat (first | refine blk_drewN ?_ _ | refine blk_drew ?_ | refine blk_alloc ?_ _)); refine blk_far ?_ NB523_539.out _; (with_reducible repeat (first | refine blk_drewN ?_ _ | refine blk_drew ?_ | refine blk_alloc ?_ _)); refine blk_far ?_ NB523_539.out _; (with_reducible repeat (first | refine blk_drewN ?_ _ | refine blk_drew ?_ | refine blk_alloc ?_ _)); exact BK523.out⟩
         have n2_ : Aside0 ((((w92.setCell ⟨gb539, 0, none⟩ (.slice Ao93 y536.length co93)).setCell ⟨gb539, 1, none⟩ (.slice A0_1 l0_1.length c0_1)).setCell ⟨gb539, 2, none⟩ (.int .i64 a0_2)).heap[gb524]? = some (.cells #[.slice A1_0 l1_0.length c1_0, .slice A1_1 l1_1.length c1_1, .int .i64 a1_2] 25 (0, 0))) := ⟨by (with_reducible repeat (first | refine blk_drewN ?_ _ | refine blk_drew ?_ | refine blk_alloc ?_ _)); refine blk_far ?_ NB524_539.out _; (with_reducible repeat (first | refine blk_drewN ?_ _ | refine blk_drew ?_ | refine blk_alloc ?_ _)); refine blk_far ?_ NB524_539.out _; (with_reducible repeat (first | refine blk_drewN ?_ _ | refine blk_drew ?_ | refine blk_alloc ?_ _)); refine blk_far ?_ NB524_539.out _; (with_reducible repeat (first | refine blk_drewN ?_ _ | refine blk_drew ?_ | refine blk_alloc ?_ _)); exact BK524.out⟩
         have n3_ : Aside0 ((((w92.setCell ⟨gb539, 0, none⟩ (.slice Ao93 y536.length co93)).setCell ⟨gb539, 1, none⟩ (.slice A0_1 l0_1.length c0_1)).setCell ⟨gb539, 2, none⟩ (.int .i64 a0_2)).heap[gb525]? = some (.cells #[.slice A2_0 l2_0.length c2_0, .slice A2_1 l2_1.length c2_1] 26 (0, 0))) := ⟨by (with_reducible repeat (first | refine blk_drewN ?_ _ | refine blk_drew ?_ | refine blk_alloc ?_ _)); refine blk_far ?_ NB525_539.out _; (with_reducible repeat (first | refine blk_drewN ?_ _ | refine blk_drew ?_ | refine blk_alloc ?_ _)); refine blk_far ?_ NB525_539.out _; (with_reducible repeat (first | refine blk_drewN ?_ _ | refine blk_drew ?_ | refine blk_alloc ?_ _)); refine blk_far ?_ NB525_539.out _; (with_reducible repeat (first | refine blk_drewN ?_ _ | refine blk_drew ?_ | refine blk_alloc ?_ _)); exact BK525.out⟩
         have n4_ : Aside0 ((((w92.setCell ⟨gb539, 0, none⟩ (.slice Ao93 y536.length co93)).setCell ⟨gb539, 1, none⟩ (.slice A0_1 l0_1.length c0_1)).setCell ⟨gb539, 2, none⟩ (.int .i64 a0_2)).heap[gb539]? = some (.cells #[.slice Ao93 y536.length co93, .slice A0_1 l0_1.length c0_1, .int .i64 a0_2] 25 (0, 0))) := ⟨by (with_reducible repeat (first | refine blk_drewN ?_ _ | refine blk_drew ?_ | refine blk_alloc ?_ _)); refine blk_put (cs := #[.slice Ao93 y536.length co93, .slice A0_1 l0_1.length c0_1, .int .i64 0]) ?_ 2 _ rfl; (with_reducible repeat (first | refine blk_drewN ?_ _ | refine blk_drew ?_ | refine blk_alloc ?_ _)); refine blk_put (cs := #[.slice Ao93 y536.length co93, .slice none 0 0, .int .i64 0]) ?_ 1 _ rfl; (with_reducible repeat (first | refine blk_drewN ?_ _ | refine blk_drew ?_ | refine blk_alloc ?_ _)); refine blk_put (cs := #[.slice none 0 0, .slice none 0 0, .int .i64 0]) ?_ 0 _ rfl; (with_reducible repeat (first | refine blk_drewN ?_ _ | refine blk_drew ?_ | refine blk_alloc ?_ _)); exact BK539.out⟩
         have n5_ : Aside0 (Below w.heap.size w (((w92.setCell ⟨gb539, 0, none⟩ (.slice Ao93 y536.length co93)).setCell ⟨gb539, 1, none⟩ (.slice A0_1 l0_1.length c0_1)).setCell ⟨gb539, 2, none⟩ (.int .i64 a0_2))) := ⟨by repeat (first | (with_reducible first | exact HB.out | apply below_alloc | apply pw_below_drewN | apply below_drew1 | refine below_set ?_ GE523.out | refine below_set ?_ GE524.out | refine below_set ?_ GE525.out | refine below_set ?_ GE539.out) | exact HB.out)⟩
         (try clear HO538)
         (try clear BK523)
         (try clear BK524)
         (try clear BK525)
         (try clear BK539)
         (try clear HB)
         generalize (((w92.setCell ⟨gb539, 0, none⟩ (.slice Ao93 y536.length co93)).setCell ⟨gb539, 1, none⟩ (.slice A0_1 l0_1.length c0_1)).setCell ⟨gb539, 2, none⟩ (.int .i64 a0_2)) = w97 at n0_ n1_ n2_ n3_ n4_ n5_ ⊢
         have HO538 := n0_
         have BK523 := n1_
         have BK524 := n2_
         have BK525 := n3_
         have BK539 := n4_
         have HB := n5_
         clear n0_ n1_ n2_ n3_ n4_ n5_
         replace HO538 := Aside0.mk (Kd.N_drew HO538.out)
         replace BK523 := Aside0.mk (blk_drew BK523.out)
         replace BK524 := Aside0.mk (blk_drew BK524.out)
         replace BK525 := Aside0.mk (blk_drew BK525.out)
         replace BK539 := Aside0.mk (blk_drew BK539.out)
         replace HB := Aside0.mk (below_drew1 HB.out)
         refine start_ (n := 8) (S := fun w' => w'.cell? ⟨gb525, 0, none⟩ = some (.slice A2_0 l2_0.length c2_0) ∧ w'.cell? ⟨gb525, 1, none⟩ = some (.slice A2_1 l2_1.length c2_1)) (ds := []) #[ff,ff,ff,ff,ff,ff,ff,ff] (by kernel_rfl) rfl rfl ⟨(blk_cell BK525.out 0).trans rfl, (blk_cell BK525.out 1).trans rfl⟩ (fun hHeld => ?_); refine with_tabW emendatelaw36_EditscriptConcatenation.tab6 emendatelaw36_EditscriptConcatenation.bits6 (fun HT_ HW_ => ?_)
         generalize w97.drew = w98 at HO538 BK523 BK524 BK525 BK539 HB hHeld ⊢
         refine pu 1 69 ?_
         refine pu 4 72 ?_
         refine tu 2 70 hHeld ?_
         refine tu 5 73 hHeld ?_
         refine one_ (i := 0) (N := some 68) #[tt,tt,tt,ff,tt,tt,ff,ff] rfl rfl (one_of HT_.out (by kernel_rfl)) (by decide) (fun K hK => ?_)
         refine Kd.R_lit_step (Kd.int .i64) _ 3 ?hg (N := 68) ?hd (xs := ([] : List Int)) (inner := []) (ok := fun _ => True) (okp := fun _ => True) ?hr ?hp (fun _ hk => hk) trivial (Below.refl _ _) (Nat.le_refl _) (by simp) ?_; (case hd => rfl); (case hg => rfl); (case hr => first | (go_simp; done) | (go_simp; rfl)); (case hp => exact (Reps.none _ _))
         intro v541 w99 ho100 hb hg_ hnew_
         clear hg_ hnew_
         (first | rw [← Ny540.out] at ho100 | (simp only [Int.reduceToNat] at ho100; rw [← Ny540.out] at ho100))
         replace HO538 := Aside0.mk (Kd.N_elder' (pN HO538.out) (Kd.R_base ho100) hb)
         have HO542 := Aside0.mk (Kd.R_lower ho100 (below_size (by repeat (first | (with_reducible first | exact HB.out | apply below_alloc | apply pw_below_drewN | apply below_drew1 | refine below_set ?_ GE523.out | refine below_set ?_ GE524.out | refine below_set ?_ GE525.out | refine below_set ?_ GE539.out) | exact HB.out))))
         replace BK523 := Aside0.mk (bb BK523.out hb)
         replace BK524 := Aside0.mk (bb BK524.out hb)
         replace BK525 := Aside0.mk (bb BK525.out hb)
         replace BK539 := Aside0.mk (bb BK539.out hb)
         replace HB := Aside0.mk (below_step (by repeat (first | (with_reducible first | exact HB.out | apply below_alloc | apply pw_below_drewN | apply below_drew1 | refine below_set ?_ GE523.out | refine below_set ?_ GE524.out | refine below_set ?_ GE525.out | refine below_set ?_ GE539.out) | exact HB.out)) hb)
         clear hb ho100
         refine hK.out _ _ ⟨(blk_cell BK525.out 0).trans rfl, (blk_cell BK525.out 1).trans rfl⟩ (fun hHeld => ?_)
         clear hK K
         refine norm_ (a' := ?_) ?_ ?_
         rotate_left
         ·
          show Act.put _ (some 68) _ = _
          simp only [nrm]
          rfl
         refine one_ (i := 3) (N := some 71) #[tt,tt,tt,tt,tt,tt,ff,ff] rfl rfl (one_of HT_.out (by kernel_rfl)) (by decide) (fun K hK => ?_)
         refine Kd.R_append_rows_step (Kd.int .i64) (w0 := w) w.heap.size (by rfl) (.tmp 68) (.tmp 70) 23 3 (.int .i64 0) 8 rfl Tryd.underlying23 info3 rfl (by decide) (by omega) v541 y540 l2_0 _ _ _ (fun _ => True) (fun _ => False) rfl rfl ?aO ?aR (fun _ _ h => h) (fun _ h => h.elim) ?aF ?aB ?aS ?aL ?_
         (case aR => repeat (first | exact (Kd.C_below HR2_0.out HB.out) | (with_reducible refine Kd.C_alloc ?_ _) | (with_reducible refine Kd.C_drewN ?_ _) | (with_reducible refine Kd.C_drew ?_)))
         (case aB => exact (by repeat (first | (with_reducible first | exact HB.out | apply below_alloc | apply pw_below_drewN | apply below_drew1 | refine below_set ?_ GE523.out | refine below_set ?_ GE524.out | refine below_set ?_ GE525.out | refine below_set ?_ GE539.out) | exact HB.out)))
         (case aF => exact (fun _ _ => trivial))
         (case aO => exact (pR HO542.out))
         (case aS => exact (below_size (by repeat (first | (with_reducible first | exact HB.out | apply below_alloc | apply pw_below_drewN | apply below_drew1 | refine below_set ?_ GE523.out | refine below_set ?_ GE524.out | refine below_set ?_ GE525.out | refine below_set ?_ GE539.out) | exact HB.out))))
         (case aL => have := LMc80.out; omega)
         intro v544 w101 ho hb hg hat
         rw [← Ny543.out] at ho
         replace BK523 := Aside0.mk (blk_grown (g := gb523) (o := .cells #[.slice A0_0 l0_0.length c0_0, .slice A0_1 l0_1.length c0_1, .int .i64 a0_2] 25 (0, 0)) (pk BK523.out) hg (Kd.R_ne HO542.out BK523.out (by decide)))
         replace BK524 := Aside0.mk (blk_grown (g := gb524) (o := .cells #[.slice A1_0 l1_0.length c1_0, .slice A1_1 l1_1.length c1_1, .int .i64 a1_2] 25 (0, 0)) (pk BK524.out) hg (Kd.R_ne HO542.out BK524.out (by decide)))
         replace BK525 := Aside0.mk (blk_grown (g := gb525) (o := .cells #[.slice A2_0 l2_0.length c2_0, .slice A2_1 l2_1.length c2_1] 26 (0, 0)) (pk BK525.out) hg (Kd.R_ne HO542.out BK525.out (by decide)))
         replace HO538 := Aside0.mk (Kd.N_afterv (ok := (fun k_ => k_ ≠ gb523 ∧ k_ ≠ gb524 ∧ k_ ≠ gb525 ∧ k_ ≠ gb539)) (pN HO538.out) hg hat)
         replace BK539 := Aside0.mk (blk_grown (g := gb539) (o := .cells #[.slice Ao93 y536.length co93, .slice A0_1 l0_1.length c0_1, .int .i64 a0_2] 25 (0, 0)) (pk BK539.out) hg (Kd.R_ne HO542.out BK539.out (by decide)))
         replace HB := Aside0.mk (hb)
         have HO545 := Aside0.mk (ho)
         clear HO542
         clear ho hb hg hat
         refine hK.out _ _ ⟨(blk_cell BK525.out 0).trans rfl, (blk_cell BK525.out 1).trans rfl⟩ (fun hHeld => ?_)
         clear hK K
         refine norm_ (a' := ?_) ?_ ?_
         rotate_left
         ·
          show Act.put _ (some 71) _ = _
          simp only [nrm]
          rfl
         refine one_ (i := 6) (N := some 74) #[tt,tt,tt,tt,tt,tt,tt,ff] rfl rfl (one_of HT_.out (by kernel_rfl)) (by decide) (fun K hK => ?_)
         refine Kd.R_append_rows_step (Kd.int .i64) (w0 := w) w.heap.size (by rfl) (.tmp 71) (.tmp 73) 23 3 (.int .i64 0) 8 rfl Tryd.underlying23 info3 rfl (by decide) (by omega) v544 y543 l2_1 _ _ _ (fun _ => True) (fun _ => False) rfl rfl ?aO ?aR (fun _ _ h => h) (fun _ h => h.elim) ?aF ?aB ?aS ?aL ?_
         (case aR => repeat (first | exact (Kd.C_below HR2_1.out HB.out) | (with_reducible refine Kd.C_alloc ?_ _) | (with_reducible refine Kd.C_drewN ?_ _) | (with_reducible refine Kd.C_drew ?_)))
         (case aB => exact (by repeat (first | (with_reducible first | exact HB.out | apply below_alloc | apply pw_below_drewN | apply below_drew1 | refine below_set ?_ GE523.out | refine below_set ?_ GE524.out | refine below_set ?_ GE525.out | refine below_set ?_ GE539.out) | exact HB.out)))
         (case aF => exact (fun _ _ => trivial))
         (case aO => exact (pR HO545.out))
         (case aS => exact (below_size (by repeat (first | (with_reducible first | exact HB.out | apply below_alloc | apply pw_below_drewN | apply below_drew1 | refine below_set ?_ GE523.out | refine below_set ?_ GE524.out | refine below_set ?_ GE525.out | refine below_set ?_ GE539.out) | exact HB.out))))
         (case aL => have := LMc81.out; omega)
         intro v547 w102 ho hb hg hat
         rw [← Ny546.out] at ho
         replace BK523 := Aside0.mk (blk_grown (g := gb523) (o := .cells #[.slice A0_0 l0_0.length c0_0, .slice A0_1 l0_1.length c0_1, .int .i64 a0_2] 25 (0, 0)) (pk BK523.out) hg (Kd.R_ne HO545.out BK523.out (by decide)))
         replace BK524 := Aside0.mk (blk_grown (g := gb524) (o := .cells #[.slice A1_0 l1_0.length c1_0, .slice A1_1 l1_1.length c1_1, .int .i64 a1_2] 25 (0, 0)) (pk BK524.out) hg (Kd.R_ne HO545.out BK524.out (by decide)))
         replace BK525 := Aside0.mk (blk_grown (g := gb525) (o := .cells #[.slice A2_0 l2_0.length c2_0, .slice A2_1 l2_1.length c2_1] 26 (0, 0)) (pk BK525.out) hg (Kd.R_ne HO545.out BK525.out (by decide)))
         replace HO538 := Aside0.mk (Kd.N_afterv (ok := (fun k_ => k_ ≠ gb523 ∧ k_ ≠ gb524 ∧ k_ ≠ gb525 ∧ k_ ≠ gb539)) (pN HO538.out) hg hat)
         replace BK539 := Aside0.mk (blk_grown (g := gb539) (o := .cells #[.slice Ao93 y536.length co93, .slice A0_1 l0_1.length c0_1, .int .i64 a0_2] 25 (0, 0)) (pk BK539.out) hg (Kd.R_ne HO545.out BK539.out (by decide)))
         replace HB := Aside0.mk (hb)
         have HO548 := Aside0.mk (ho)
         clear HO545
         clear ho hb hg hat
         refine hK.out _ _ ⟨(blk_cell BK525.out 0).trans rfl, (blk_cell BK525.out 1).trans rfl⟩ (fun hHeld => ?_)
         clear hK K
         refine norm_ (a' := ?_) ?_ ?_
         rotate_left
         ·
          show Act.put _ (some 74) _ = _
          simp only [nrm]
          rfl
         refine pu 7 8 ?_
         refine done_ (done_of HT_.out (by kernel_rfl)) ?_
         try go_wp2
         replace HO538 := Aside0.mk (Kd.N_drew HO538.out)
         replace HO548 := Aside0.mk (Kd.R_drew HO548.out)
         replace BK523 := Aside0.mk (blk_drew BK523.out)
         replace BK524 := Aside0.mk (blk_drew BK524.out)
         replace BK525 := Aside0.mk (blk_drew BK525.out)
         replace BK539 := Aside0.mk (blk_drew BK539.out)
         replace HB := Aside0.mk (below_drew1 HB.out)
         obtain ⟨Ao104, co104, eo104⟩ := Kd.R_slice HO548.out
         (first | subst eo104 | (injection eo104 with f1_ f2_ f3_; have f4_ := f1_.symm; have f5_ := f3_.symm; clear f1_ f2_ f3_; subst f4_; subst f5_))
         refine start_ (n := 14) (S := fun w' => w'.cell? ⟨gb539, 0, none⟩ = some (.slice Ao93 y536.length co93) ∧ w'.cell? ⟨gb539, 1, none⟩ = some (.slice A0_1 l0_1.length c0_1) ∧ w'.cell? ⟨gb539, 2, none⟩ = some (.int .i64 a0_2) ∧ w'.cell? ⟨gb523, 0, none⟩ = some (.slice A0_0 l0_0.length c0_0) ∧ w'.cell? ⟨gb523, 1, none⟩ = some (.slice A0_1 l0_1.length c0_1) ∧ w'.cell? ⟨gb523, 2, none⟩ = some (.int .i64 a0_2) ∧ w'.cell? ⟨gb525, 0, none⟩ = some (.slice A2_0 l2_0.length c2_0) ∧ w'.cell? ⟨gb525, 1, none⟩ = some (.slice A2_1 l2_1.length c2_1) ∧ w'.cell? ⟨gb524, 0, none⟩ = some (.slice A1_0 l1_0.length c1_0) ∧ w'.cell? ⟨gb524, 1, none⟩ = some (.slice A1_1 l1_1.length c1_1) ∧ w'.cell? ⟨gb524, 2, none⟩ = some (.int .i64 a1_2)) (ds := []) #[ff,ff,ff,ff,ff,ff,ff,ff,ff,ff,ff,ff,ff,ff] (by kernel_rfl) rfl rfl ⟨(blk_cell BK539.out 0).trans rfl, (blk_cell BK539.out 1).trans rfl, (blk_cell BK539.out 2).trans rfl, (blk_cell BK523.out 0).trans rfl, (blk_cell BK523.out 1).trans rfl, (blk_cell BK523.out 2).trans rfl, (blk_cell BK525.out 0).trans rfl, (blk_cell BK525.out 1).trans rfl, (blk_cell BK524.out 0).trans rfl, (blk_cell BK524.out 1).trans rfl, (blk_cell BK524.out 2).trans rfl⟩ (fun hHeld => ?_); refine with_tabW emendatelaw36_EditscriptConcatenation.tab7 emendatelaw36_EditscriptConcatenation.bits7 (fun HT_ HW_ => ?_)
         generalize w102.drew = w103 at HO538 HO548 BK523 BK524 BK525 BK539 HB hHeld ⊢
         refine pu 1 76 ?_
         refine pu 4 79 ?_
         refine pu 8 83 ?_
         refine tu 0 75 hHeld ?_
         refine tu 3 78 hHeld ?_
         refine tu 5 80 hHeld ?_
         refine tu 7 82 hHeld ?_
         refine tu 9 84 hHeld ?_
         refine one_ (i := 2) (N := some 77) #[tt,tt,tt,tt,tt,tt,ff,tt,tt,tt,ff,ff,ff,ff] rfl rfl (one_of HT_.out (by kernel_rfl)) (by decide) (fun K hK => ?_)
         refine goes_ Tryd.func14 (by kernel_rfl) rfl #[.agg #[.slice Ao93 y536.length co93, .slice A0_1 l0_1.length c0_1, .int .i64 a0_2], .slice Ao104 y546.length co104] (by rfl) rfl rfl (by (try simp only [List.map_toArray, List.map_cons, List.map_nil]); first | done | rfl | (simp only [List.length_drop, List.length_take]; rfl)) ?_
         with_reducible refine (editscript_Distance.calls kj5 _ _ y536 _ _ l0_1 a0_2 _ _ y546 t549 _ ?side1 ?side2 ?side3 ?side4 ?side5 ?side6 A82.out).mono ?_
         (case side1 => exact sd (Kd.N_reads' HO538.out).2.2)
         (case side2 => exact (Kd.N_reads' HO538.out).2.1)
         (case side3 => exact sd (Kd.C_below HR0_1.out HB.out))
         (case side4 => exact HC0_1.out)
         (case side5 => exact sd (Kd.R_reads' HO548.out).2.2)
         (case side6 => exact (Kd.R_reads' HO548.out).2.1)
         rintro e w105 ⟨rfl, hb⟩
         refine ⟨_, rfl, ?_⟩
         replace HO538 := Aside0.mk (Kd.N_below (pN HO538.out) hb)
         replace HO548 := Aside0.mk (Kd.R_below (pR HO548.out) hb)
         replace BK523 := Aside0.mk (bb BK523.out hb)
         replace BK524 := Aside0.mk (bb BK524.out hb)
         replace BK525 := Aside0.mk (bb BK525.out hb)
         replace BK539 := Aside0.mk (bb BK539.out hb)
         replace HB := Aside0.mk (below_step (by repeat (first | (with_reducible first | exact HB.out | apply below_alloc | apply pw_below_drewN | apply below_drew1 | refine below_set ?_ GE523.out | refine below_set ?_ GE524.out | refine below_set ?_ GE525.out | refine below_set ?_ GE539.out) | exact HB.out)) hb)
         (try clear hb)
         (try clear hk)
         refine hK.out _ _ ⟨(blk_cell BK539.out 0).trans rfl, (blk_cell BK539.out 1).trans rfl, (blk_cell BK539.out 2).trans rfl, (blk_cell BK523.out 0).trans rfl, (blk_cell BK523.out 1).trans rfl, (blk_cell BK523.out 2).trans rfl, (blk_cell BK525.out 0).trans rfl, (blk_cell BK525.out 1).trans rfl, (blk_cell BK524.out 0).trans rfl, (blk_cell BK524.out 1).trans rfl, (blk_cell BK524.out 2).trans rfl⟩ (fun hHeld => ?_)
         clear hK K
         refine norm_ (a' := ?_) ?_ ?_
         rotate_left
         ·
          show Act.put _ (some 77) _ = _
          simp only [nrm]
          rfl
         refine one_ (i := 6) (N := some 81) #[tt,tt,tt,tt,tt,tt,tt,tt,tt,tt,ff,ff,ff,ff] rfl rfl (one_of HT_.out (by kernel_rfl)) (by decide) (fun K hK => ?_)
         refine goes_ Tryd.func14 (by kernel_rfl) rfl #[.agg #[.slice A0_0 l0_0.length c0_0, .slice A0_1 l0_1.length c0_1, .int .i64 a0_2], .slice A2_0 l2_0.length c2_0] (by rfl) rfl rfl (by (try simp only [List.map_toArray, List.map_cons, List.map_nil]); first | done | rfl | (simp only [List.length_drop, List.length_take]; rfl)) ?_
         with_reducible refine (editscript_Distance.calls kj5 _ _ l0_0 _ _ l0_1 a0_2 _ _ l2_0 t550 _ ?side1 ?side2 ?side3 ?side4 ?side5 ?side6 A83.out).mono ?_
         (case side1 => exact sd (Kd.C_below HR0_0.out HB.out))
         (case side2 => exact HC0_0.out)
         (case side3 => exact sd (Kd.C_below HR0_1.out HB.out))
         (case side4 => exact HC0_1.out)
         (case side5 => exact sd (Kd.C_below HR2_0.out HB.out))
         (case side6 => exact HC2_0.out)
         rintro e w106 ⟨rfl, hb⟩
         refine ⟨_, rfl, ?_⟩
         replace HO538 := Aside0.mk (Kd.N_below (pN HO538.out) hb)
         replace HO548 := Aside0.mk (Kd.R_below (pR HO548.out) hb)
         replace BK523 := Aside0.mk (bb BK523.out hb)
         replace BK524 := Aside0.mk (bb BK524.out hb)
         replace BK525 := Aside0.mk (bb BK525.out hb)
         replace BK539 := Aside0.mk (bb BK539.out hb)
         replace HB := Aside0.mk (below_step (by repeat (first | (with_reducible first | exact HB.out | apply below_alloc | apply pw_below_drewN | apply below_drew1 | refine below_set ?_ GE523.out | refine below_set ?_ GE524.out | refine below_set ?_ GE525.out | refine below_set ?_ GE539.out) | exact HB.out)) hb)
         (try clear hb)
         (try clear hk)
         refine hK.out _ _ ⟨(blk_cell BK539.out 0).trans rfl, (blk_cell BK539.out 1).trans rfl, (blk_cell BK539.out 2).trans rfl, (blk_cell BK523.out 0).trans rfl, (blk_cell BK523.out 1).trans rfl, (blk_cell BK523.out 2).trans rfl, (blk_cell BK525.out 0).trans rfl, (blk_cell BK525.out 1).trans rfl, (blk_cell BK524.out 0).trans rfl, (blk_cell BK524.out 1).trans rfl, (blk_cell BK524.out 2).trans rfl⟩ (fun hHeld => ?_)
         clear hK K
         refine norm_ (a' := ?_) ?_ ?_
         rotate_left
         ·
          show Act.put _ (some 81) _ = _
          simp only [nrm]
          rfl
         refine one_ (i := 10) (N := some 85) #[tt,tt,tt,tt,tt,tt,tt,tt,tt,tt,tt,ff,ff,ff] rfl rfl (one_of HT_.out (by kernel_rfl)) (by decide) (fun K hK => ?_)
         refine goes_ Tryd.func14 (by kernel_rfl) rfl #[.agg #[.slice A1_0 l1_0.length c1_0, .slice A1_1 l1_1.length c1_1, .int .i64 a1_2], .slice A2_1 l2_1.length c2_1] (by rfl) rfl rfl (by (try simp only [List.map_toArray, List.map_cons, List.map_nil]); first | done | rfl | (simp only [List.length_drop, List.length_take]; rfl)) ?_
         with_reducible refine (editscript_Distance.calls kj5 _ _ l1_0 _ _ l1_1 a1_2 _ _ l2_1 t551 _ ?side1 ?side2 ?side3 ?side4 ?side5 ?side6 A84.out).mono ?_
         (case side1 => exact sd (Kd.C_below HR1_0.out HB.out))
         (case side2 => exact HC1_0.out)
         (case side3 => exact sd (Kd.C_below HR1_1.out HB.out))
         (case side4 => exact HC1_1.out)
         (case side5 => exact sd (Kd.C_below HR2_1.out HB.out))
         (case side6 => exact HC2_1.out)
         rintro e w107 ⟨rfl, hb⟩
         refine ⟨_, rfl, ?_⟩
         replace HO538 := Aside0.mk (Kd.N_below (pN HO538.out) hb)
         replace HO548 := Aside0.mk (Kd.R_below (pR HO548.out) hb)
         replace BK523 := Aside0.mk (bb BK523.out hb)
         replace BK524 := Aside0.mk (bb BK524.out hb)
         replace BK525 := Aside0.mk (bb BK525.out hb)
         replace BK539 := Aside0.mk (bb BK539.out hb)
         replace HB := Aside0.mk (below_step (by repeat (first | (with_reducible first | exact HB.out | apply below_alloc | apply pw_below_drewN | apply below_drew1 | refine below_set ?_ GE523.out | refine below_set ?_ GE524.out | refine below_set ?_ GE525.out | refine below_set ?_ GE539.out) | exact HB.out)) hb)
         (try clear hb)
         (try clear hk)
         refine hK.out _ _ ⟨(blk_cell BK539.out 0).trans rfl, (blk_cell BK539.out 1).trans rfl, (blk_cell BK539.out 2).trans rfl, (blk_cell BK523.out 0).trans rfl, (blk_cell BK523.out 1).trans rfl, (blk_cell BK523.out 2).trans rfl, (blk_cell BK525.out 0).trans rfl, (blk_cell BK525.out 1).trans rfl, (blk_cell BK524.out 0).trans rfl, (blk_cell BK524.out 1).trans rfl, (blk_cell BK524.out 2).trans rfl⟩ (fun hHeld => ?_)
         clear hK K
         refine norm_ (a' := ?_) ?_ ?_
         rotate_left
         ·
          show Act.put _ (some 85) _ = _
          simp only [nrm]
          rfl
         refine pu 11 86 ?_
         refine pu 12 87 ?_
         refine pu 13 6 ?_
         refine done_ (done_of HT_.out (by kernel_rfl)) ?_
         try go_wp2
         go_ret
         exact ⟨er, by repeat (first | (with_reducible first | exact HB.out | apply below_alloc | apply pw_below_drewN | apply below_drew1 | refine below_set ?_ GE523.out | refine below_set ?_ GE524.out | refine below_set ?_ GE525.out | refine below_set ?_ GE539.out) | exact HB.out)⟩
        ·
         rw [if_neg c81] at H
         exact absurd H (by simp)
       ·
        rw [if_neg c80] at H
        exact absurd H (by simp)
      ·
       rw [if_neg c79] at H
       exact absurd H (by simp)
     ·
      rw [if_neg c78] at H
      exact absurd H (by simp)
 ·
  replace c5 := Bool.eq_false_iff.mpr c5
  subst c5
  have H1 : (some false) = some r := by rw [if_neg (show ¬ (false = true) by decide)] at H; exact H
  clear H
  have H := H1
  clear H1
  obtain rfl := Option.some.inj H
  go_enter Tryd.func3, Tryd.ntmps3
  go_wp2_with (first | ((with_reducible refine gate_dst (N := 3) rfl ?_); (try (refine gate_guard (by rfl) ?_; dsimp only)); refine box_event ?hg (N := 3) ?hd (cs := #[.slice A0_0 l0_0.length c0_0, .slice A0_1 l0_1.length c0_1, .int .i64 a0_2]) (t := 25) ?hr ?_; (case hd => rfl); (case hg => rfl); (case hr => first | (go_simp; done) | (go_simp; rfl)); intro gb523 hg w108 hbox hb; have n0_ := Aside0.mk (below_step (pB HB.out) hb); have n1_ := Aside0.mk (hbox); have n2_ := Aside0.mk ((by rw [hg]; exact (below_size (pB HB.out)) : w.heap.size ≤ gb523)); have n3_ := Aside0.mk ((by rw [hg]; exact (below_size (pB HB.out)) : w.heap.size ≤ gb523)); clear HB; have HB := n0_; have BK523 := n1_; have GW523 := n2_; have GE523 := n3_; clear n0_ n1_ n2_ n3_; clear hb hbox hg) | ((with_reducible refine gate_dst (N := 4) rfl ?_); (try (refine gate_guard (by rfl) ?_; dsimp only)); refine box_event ?hg (N := 4) ?hd (cs := #[.slice A1_0 l1_0.length c1_0, .slice A1_1 l1_1.length c1_1, .int .i64 a1_2]) (t := 25) ?hr ?_; (case hd => rfl); (case hg => rfl); (case hr => first | (go_simp; done) | (go_simp; rfl)); intro gb524 hg w109 hbox hb; have n0_ := Aside0.mk (bb BK523.out hb); have n1_ := Aside0.mk (below_step (pb HB.out GE523.out) hb); have n2_ := Aside0.mk (hbox); have n3_ := Aside0.mk ((by rw [hg]; exact (below_size (pb HB.out GE523.out)) : w.heap.size ≤ gb524)); have n4_ := Aside0.mk ((by rw [hg]; exact (below_size (pb HB.out GE523.out)) : w.heap.size ≤ gb524)); have n5_ := Aside0.mk ((by rw [hg]; exact Nat.ne_of_lt (blk_lt (g := gb523) (o := .cells #[.slice A0_0 l0_0.length c0_0, .slice A0_1 l0_1.length c0_1, .int .i64 a0_2] 25 (0, 0)) (pk BK523.out)) : gb523 ≠ gb524)); have n6_ := Aside0.mk ((by rw [hg]; exact Nat.ne_of_gt (blk_lt (g := gb523) (o := .cells #[.slice A0_0 l0_0.length c0_0, .slice A0_1 l0_1.length c0_1, .int .i64 a0_2] 25 (0, 0)) (pk BK523.out)) : gb524 ≠ gb523)); clear BK523; clear HB; have BK523 := n0_; have HB := n1_; have BK524 := n2_; have GW524 := n3_; have GE524 := n4_; have NB523_524 := n5_; have NB524_523 := n6_; clear n0_ n1_ n2_ n3_ n4_ n5_ n6_; clear hb hbox hg) | ((with_reducible refine gate_dst (N := 5) rfl ?_); (try (refine gate_guard (by rfl) ?_; dsimp only)); refine box_event ?hg (N := 5) ?hd (cs := #[.slice A2_0 l2_0.length c2_0, .slice A2_1 l2_1.length c2_1]) (t := 26) ?hr ?_; (case hd => rfl); (case hg => rfl); (case hr => first | (go_simp; done) | (go_simp; rfl)); intro gb525 hg w110 hbox hb; have n0_ := Aside0.mk (bb BK523.out hb); have n1_ := Aside0.mk (bb BK524.out hb); have n2_ := Aside0.mk (below_step (pc HB.out GE523.out GE524.out) hb); have n3_ := Aside0.mk (hbox); have n4_ := Aside0.mk ((by rw [hg]; exact (below_size (pc HB.out GE523.out GE524.out)) : w.heap.size ≤ gb525)); have n5_ := Aside0.mk ((by rw [hg]; exact (below_size (pc HB.out GE523.out GE524.out)) : w.heap.size ≤ gb525)); have n6_ := Aside0.mk ((by rw [hg]; exact Nat.ne_of_lt (blk_lt (g := gb523) (o := .cells #[.slice A0_0 l0_0.length c0_0, .slice A0_1 l0_1.length c0_1, .int .i64 a0_2] 25 (0, 0)) (pk BK523.out)) : gb523 ≠ gb525)); have n7_ := Aside0.mk ((by rw [hg]; exact Nat.ne_of_gt (blk_lt (g := gb523) (o := .cells #[.slice A0_0 l0_0.length c0_0, .slice A0_1 l0_1.length c0_1, .int .i64 a0_2] 25 (0, 0)) (pk BK523.out)) : gb525 ≠ gb523)); have n8_ := Aside0.mk ((by rw [hg]; exact Nat.ne_of_lt (blk_lt (g := gb524) (o := .cells #[.slice A1_0 l1_0.length c1_0, .slice A1_1 l1_1.length c1_1, .int .i64 a1_2] 25 (0, 0)) (pk BK524.out)) : gb524 ≠ gb525)); have n9_ := Aside0.mk ((by rw [hg]; exact Nat.ne_of_gt (blk_lt (g := gb524) (o := .cells #[.slice A1_0 l1_0.length c1_0, .slice A1_1 l1_1.length c1_1, .int .i64 a1_2] 25 (0, 0)) (pk BK524.out)) : gb525 ≠ gb524)); clear BK523; clear BK524; clear HB; have BK523 := n0_; have BK524 := n1_; have HB := n2_; have BK525 := n3_; have GW525 := n4_; have GE525 := n5_; have NB523_525 := n6_; have NB525_523 := n7_; have NB524_525 := n8_; have NB525_524 := n9_; clear n0_ n1_ n2_ n3_ n4_ n5_ n6_ n7_ n8_ n9_; clear hb hbox hg) | ((with_reducible refine gate_callee (f := 11) rfl ?_); refine gl (some 9) Tryd.func11 #[] ?_; (with_reducible refine (emendatelaw36_awake.calls k  false _ (HV.out.below (by repeat (first | (with_reducible first | exact HB.out | apply below_alloc | apply pw_below_drewN | apply below_drew1 | refine below_set ?_ GE523.out | refine below_set ?_ GE524.out | refine below_set ?_ GE525.out) | exact HB.out)) rfl) A4.out).mono ?_); rintro e w111 ⟨rfl, hb⟩; refine ⟨_, rfl, ?_⟩; replace BK523 := Aside0.mk (bb BK523.out hb); replace BK524 := Aside0.mk (bb BK524.out hb); replace BK525 := Aside0.mk (bb BK525.out hb); replace HB := Aside0.mk (below_step (by repeat (first | (with_reducible first | exact HB.out | apply below_alloc | apply pw_below_drewN | apply below_drew1 | refine below_set ?_ GE523.out | refine below_set ?_ GE524.out | refine below_set ?_ GE525.out) | exact HB.out)) hb); (try clear hb)))
  go_ret
  exact ⟨er, by repeat (first | (with_reducible first | exact HB.out | apply below_alloc | apply pw_below_drewN | apply below_drew1 | refine below_set ?_ GE523.out | refine below_set ?_ GE524.out | refine below_set ?_ GE525.out) | exact HB.out)⟩

end Go.Proofs.YtnddijafdphbnaaDoor.All
