-- Printed by wip/tools/wprint.py (a program of this session over the kit's printer). Not trusted: Lean checks it.
import Derived.Test.YtnddijafdphbnaaDoorAllSt
import Derived.Test.YtnddijafdphbnaaDoorAllx16
import Derived.Test.YtnddijafdphbnaaDoorAllx9
import Derived.Test.YtnddijafdphbnaaDoorAllx14
import Derived.Test.YtnddijafdphbnaaDoorAllx19
import Derived.Test.YtnddijafdphbnaaDoorAllx24
import Derived.Test.YtnddijafdphbnaaDoorAllx27
import Derived.Test.YtnddijafdphbnaaDoorAllx30
namespace Go.Proofs.YtnddijafdphbnaaDoor.All
open Go.RowKit Go.Proofs.YtnddijafdphbnaaDoorW.PrintWords Go.Proofs.YtnddijafdphbnaaDoorW.PrintLast Go.Proofs.YtnddijafdphbnaaDoorW.PrintMore
attribute [local go_sem] max2_int min2_int max_two min_two max_three min_three max_four min_four   -- for this text's walks alone
set_option linter.unusedVariables false
set_option linter.unusedSimpArgs false

/-! ### emendatelaw36_EditscriptAlignIsOptimal: function 8 -/
def emendatelaw36_EditscriptAlignIsOptimal.j0 : Nat → List Int → Bool → List (S33) → List Int → Int → Option (Bool)
 | 0, _, _, _, _, _ => none
 | k + 1, x1, x20, x438000, x438001, x438002 => if x20 = true then (some true) else ((editscript_Align.f k x438000 x438001 x438002 x1).bind fun bt440 => ((emendateref36_Distance.f k x438000 x438001 x438002 x1).bind fun t444 => (if bt440.2 = 0 then ((emendateref36_Run.f k x438000 x438001 x438002 bt440.1).bind fun bt445 => (if bt445.2.2 = true then (if bt445.2.1 = t444 then (if t444 < 1099511627776 then ((emendateref27_SameInts.f k x1 bt445.1).bind fun t450 => (some t450)) else (some false)) else (some false)) else (some false))) else (if (bt440.1.length : Int) = 0 then (if bt440.2 = 1 then ((emendateref36_Terminals.f k x438000 x438001 x438002 x1).bind fun t451 => (if t451 = true then (if bt440.2 = 6 then ((emendateref36_Terminals.f k x438000 x438001 x438002 x1).bind fun t452 => (if t452 = true then (some (decide (t444 ≥ 1099511627776))) else (some false))) else (some false)) else (some true))) else (if bt440.2 = 6 then ((emendateref36_Terminals.f k x438000 x438001 x438002 x1).bind fun t453 => (if t453 = true then (some (decide (t444 ≥ 1099511627776))) else (some false))) else (some false))) else (some false)))))
def emendatelaw36_EditscriptAlignIsOptimal.f (k : Nat) (l0_0 : List (S33)) (l0_1 : List Int) (a0_2 : Int) (l1 : List Int) : Option (Bool) := (emendatelaw36_awake.f k).bind fun t438 => (if t438 = true then ((emendatelaw36_fair.f k l0_0 l0_1 a0_2).bind fun t439 => (if t439 = true then (emendatelaw36_EditscriptAlignIsOptimal.j0 k l1 (decide ((l1.length : Int) > 12)) l0_0 l0_1 a0_2) else (emendatelaw36_EditscriptAlignIsOptimal.j0 k l1 true l0_0 l0_1 a0_2))) else (some false))
set_option maxHeartbeats 8000000 in
set_option maxRecDepth 100000 in
theorem emendatelaw36_EditscriptAlignIsOptimal.calls (k : Nat) (A0_0 : Option Addr) (c0_0 : Nat) (l0_0 : List (S33)) (A0_1 : Option Addr) (c0_1 : Nat) (l0_1 : List Int) (a0_2 : Int) (A1 : Option Addr) (c1 : Nat) (l1 : List Int) (r : Bool) (w : World) (hr0_0 : Kd.C k33 w A0_0 l0_0.length l0_0) (hc0_0 : l0_0.length ≤ c0_0) (hr0_1 : Kd.C (Kd.int .i64) w A0_1 l0_1.length l0_1) (hc0_1 : l0_1.length ≤ c0_1) (hr1 : Kd.C (Kd.int .i64) w A1 l1.length l1) (hc1 : l1.length ≤ c1) (hv : VarOk w) (h : emendatelaw36_EditscriptAlignIsOptimal.f k l0_0 l0_1 a0_2 l1 = some r) :
  Calls Tryd.prog 8 #[.agg #[.slice A0_0 l0_0.length c0_0, .slice A0_1 l0_1.length c0_1, .int .i64 a0_2], .slice A1 l1.length c1] w fun e w' => e = .returned (.bool r) ∧ Below w.heap.size w w' := by
 have HV := Aside0.mk hv
 clear hv
 have hu25 := Tryd.underlying25
 have HR0_0 := Aside0.mk hr0_0
 have HC0_0 := Aside0.mk hc0_0
 clear hr0_0 hc0_0
 have HR0_1 := Aside0.mk hr0_1
 have HC0_1 := Aside0.mk hc0_1
 clear hr0_1 hc0_1
 have HR1 := Aside0.mk hr1
 have HC1 := Aside0.mk hc1
 clear hr1 hc1
 have HB := Aside0.mk (Below.refl w.heap.size w)
 have H : ((emendatelaw36_awake.f k).bind fun t438 => (if t438 = true then ((emendatelaw36_fair.f k l0_0 l0_1 a0_2).bind fun t439 => (if t439 = true then (emendatelaw36_EditscriptAlignIsOptimal.j0 k l1 (decide ((l1.length : Int) > 12)) l0_0 l0_1 a0_2) else (emendatelaw36_EditscriptAlignIsOptimal.j0 k l1 true l0_0 l0_1 a0_2))) else (some false))) = some r := h
 clear h
 replace H := Option.bind_eq_some_iff.mp H
 obtain ⟨t438, A30, H⟩ := H
 replace H : (if t438 = true then ((emendatelaw36_fair.f k l0_0 l0_1 a0_2).bind fun t439 => (if t439 = true then (emendatelaw36_EditscriptAlignIsOptimal.j0 k l1 (decide ((l1.length : Int) > 12)) l0_0 l0_1 a0_2) else (emendatelaw36_EditscriptAlignIsOptimal.j0 k l1 true l0_0 l0_1 a0_2))) else (some false)) = some r := H
 have A3 := Aside0.mk A30
 clear A30
 by_cases c4 : t438 = true
 ·
  subst c4
  have H1 : ((emendatelaw36_fair.f k l0_0 l0_1 a0_2).bind fun t439 => (if t439 = true then (emendatelaw36_EditscriptAlignIsOptimal.j0 k l1 (decide ((l1.length : Int) > 12)) l0_0 l0_1 a0_2) else (emendatelaw36_EditscriptAlignIsOptimal.j0 k l1 true l0_0 l0_1 a0_2))) = some r := by rw [if_pos rfl] at H; exact H
  clear H
  have H := H1
  clear H1
  have HC5 := Aside0.mk H
  clear H
  go_enter Tryd.func8, Tryd.ntmps8
  go_upto_region 3 with (first | ((with_reducible refine gate_dst (N := 2) rfl ?_); (try (refine gate_guard (by rfl) ?_; dsimp only)); refine box_event ?hg (N := 2) ?hd (cs := #[.slice A0_0 l0_0.length c0_0, .slice A0_1 l0_1.length c0_1, .int .i64 a0_2]) (t := 25) ?hr ?_; (case hd => rfl); (case hg => rfl); (case hr => first | (go_simp; done) | (go_simp; rfl)); intro gb437 hg w6 hbox hb; have n0_ := Aside0.mk (below_step (pB HB.out) hb); have n1_ := Aside0.mk (hbox); have n2_ := Aside0.mk ((by rw [hg]; exact (below_size (pB HB.out)) : w.heap.size ≤ gb437)); have n3_ := Aside0.mk ((by rw [hg]; exact (below_size (pB HB.out)) : w.heap.size ≤ gb437)); clear HB; have HB := n0_; have BK437 := n1_; have GW437 := n2_; have GE437 := n3_; clear n0_ n1_ n2_ n3_; clear hb hbox hg) | ((with_reducible refine gate_callee (f := 11) rfl ?_); refine gl (some 11) Tryd.func11 #[] ?_; (with_reducible refine (emendatelaw36_awake.calls k  true _ (HV.out.below (pb HB.out GE437.out) rfl) A3.out).mono ?_); rintro e w7 ⟨rfl, hb⟩; refine ⟨_, rfl, ?_⟩; replace BK437 := Aside0.mk (bb BK437.out hb); replace HB := Aside0.mk (below_step (pb HB.out GE437.out) hb); (try clear hb)))
  (try simp only [Act.put, List.setIfInBounds_toArray, List.set_cons_zero, List.set_cons_succ])
  go_cut [20] (fun v20 wc => ∃ (kq : Nat) (x20_4 : Bool), v20 = .bool x20_4 ∧ Aside0 (emendatelaw36_EditscriptAlignIsOptimal.j0 kq l1 x20_4 l0_0 l0_1 a0_2 = some r) ∧ Aside0 (kq ≤ k) ∧ Aside0 (wc.heap[gb437]? = some (.cells #[(.slice A0_0 l0_0.length c0_0), (.slice A0_1 l0_1.length c0_1), .int .i64 a0_2] 25 (0, 0))) ∧ Aside0 (Below w.heap.size w wc))
  case first =>
   have H := HC5.out
   clear HC5
   replace H := Option.bind_eq_some_iff.mp H
   obtain ⟨t439, A80, H⟩ := H
   replace H : (if t439 = true then (emendatelaw36_EditscriptAlignIsOptimal.j0 k l1 (decide ((l1.length : Int) > 12)) l0_0 l0_1 a0_2) else (emendatelaw36_EditscriptAlignIsOptimal.j0 k l1 true l0_0 l0_1 a0_2)) = some r := H
   have A8 := Aside0.mk A80
   clear A80
   by_cases c9 : t439 = true
   ·
    subst c9
    have H1 : (emendatelaw36_EditscriptAlignIsOptimal.j0 k l1 (decide ((l1.length : Int) > 12)) l0_0 l0_1 a0_2) = some r := by rw [if_pos rfl] at H; exact H
    clear H
    have H := H1
    clear H1
    have H' := Aside0.mk H
    clear H
    obtain ⟨hcz10_0, hcz10_1, hcz10_2, hfz10_0, hfz10_1, hfz10_2⟩ := cz3 BK437.out
    go_wp2_with (first | ((with_reducible refine gate_callee (f := 12) rfl ?_); refine gl (some 14) Tryd.func12 #[.agg #[.slice A0_0 l0_0.length c0_0, .slice A0_1 l0_1.length c0_1, .int .i64 a0_2]] ?_; (with_reducible refine (emendatelaw36_fair.calls k _ _ l0_0 _ _ l0_1 a0_2 true _ ?side1 ?side2 ?side3 ?side4 A8.out).mono ?_); (case side1 => exact sd (Kd.C_below HR0_0.out HB.out)); (case side2 => exact HC0_0.out); (case side3 => exact sd (Kd.C_below HR0_1.out HB.out)); (case side4 => exact HC0_1.out); rintro e w11 ⟨rfl, hb⟩; refine ⟨_, rfl, ?_⟩; replace BK437 := Aside0.mk (bb BK437.out hb); replace HB := Aside0.mk (below_step (pb HB.out GE437.out) hb); (try clear hb)))
    go_meet
    case rel => exact ⟨_, (decide ((l1.length : Int) > 12)), rr, H', ⟨by first | omega | exact Nat.le_refl _⟩, ⟨by (with_reducible repeat (first | refine blk_drewN ?_ _ | refine blk_drew ?_ | refine blk_alloc ?_ _)); exact BK437.out⟩, ⟨pb HB.out GE437.out⟩⟩
   ·
    replace c9 := Bool.eq_false_iff.mpr c9
    subst c9
    have H1 : (emendatelaw36_EditscriptAlignIsOptimal.j0 k l1 true l0_0 l0_1 a0_2) = some r := by rw [if_neg (show ¬ (false = true) by decide)] at H; exact H
    clear H
    have H := H1
    clear H1
    have H' := Aside0.mk H
    clear H
    obtain ⟨hcz12_0, hcz12_1, hcz12_2, hfz12_0, hfz12_1, hfz12_2⟩ := cz3 BK437.out
    go_wp2_with (first | ((with_reducible refine gate_callee (f := 12) rfl ?_); refine gl (some 14) Tryd.func12 #[.agg #[.slice A0_0 l0_0.length c0_0, .slice A0_1 l0_1.length c0_1, .int .i64 a0_2]] ?_; (with_reducible refine (emendatelaw36_fair.calls k _ _ l0_0 _ _ l0_1 a0_2 false _ ?side1 ?side2 ?side3 ?side4 A8.out).mono ?_); (case side1 => exact sd (Kd.C_below HR0_0.out HB.out)); (case side2 => exact HC0_0.out); (case side3 => exact sd (Kd.C_below HR0_1.out HB.out)); (case side4 => exact HC0_1.out); rintro e w13 ⟨rfl, hb⟩; refine ⟨_, rfl, ?_⟩; replace BK437 := Aside0.mk (bb BK437.out hb); replace HB := Aside0.mk (below_step (pb HB.out GE437.out) hb); (try clear hb)))
    go_meet
    case rel => exact ⟨_, (true), rr, H', ⟨by first | omega | exact Nat.le_refl _⟩, ⟨by (with_reducible repeat (first | refine blk_drewN ?_ _ | refine blk_drew ?_ | refine blk_alloc ?_ _)); exact BK437.out⟩, ⟨pb HB.out GE437.out⟩⟩
  case rest =>
   clear HC5
   try clear c1
   try clear c4
   obtain ⟨kq, x20_4, rfl, HA, HJ4, BK437, HB⟩ := hcut
   cases kq with
   | zero => exact absurd HA.out (by simp [emendatelaw36_EditscriptAlignIsOptimal.j0])
   | succ kj4 =>
    have H := HA.out
    clear HA
    simp only [emendatelaw36_EditscriptAlignIsOptimal.j0] at H
    by_cases c14 : x20_4 = true
    ·
     subst c14
     have H1 : (some true) = some r := by rw [if_pos rfl] at H; exact H
     clear H
     have H := H1
     clear H1
     obtain rfl := Option.some.inj H
     go_wp2
     go_ret
     exact ⟨er, pb HB.out GE437.out⟩
    ·
     replace c14 := Bool.eq_false_iff.mpr c14
     subst c14
     have H1 : ((editscript_Align.f kj4 l0_0 l0_1 a0_2 l1).bind fun bt440 => ((emendateref36_Distance.f kj4 l0_0 l0_1 a0_2 l1).bind fun t444 => (if bt440.2 = 0 then ((emendateref36_Run.f kj4 l0_0 l0_1 a0_2 bt440.1).bind fun bt445 => (if bt445.2.2 = true then (if bt445.2.1 = t444 then (if t444 < 1099511627776 then ((emendateref27_SameInts.f kj4 l1 bt445.1).bind fun t450 => (some t450)) else (some false)) else (some false)) else (some false))) else (if (bt440.1.length : Int) = 0 then (if bt440.2 = 1 then ((emendateref36_Terminals.f kj4 l0_0 l0_1 a0_2 l1).bind fun t451 => (if t451 = true then (if bt440.2 = 6 then ((emendateref36_Terminals.f kj4 l0_0 l0_1 a0_2 l1).bind fun t452 => (if t452 = true then (some (decide (t444 ≥ 1099511627776))) else (some false))) else (some false)) else (some true))) else (if bt440.2 = 6 then ((emendateref36_Terminals.f kj4 l0_0 l0_1 a0_2 l1).bind fun t453 => (if t453 = true then (some (decide (t444 ≥ 1099511627776))) else (some false))) else (some false))) else (some false))))) = some r := by rw [if_neg (show ¬ (false = true) by decide)] at H; exact H
     clear H
     have H := H1
     clear H1
     replace H := Option.bind_eq_some_iff.mp H
     obtain ⟨⟨t440, t443⟩, A150, H⟩ := H
     replace H : ((emendateref36_Distance.f kj4 l0_0 l0_1 a0_2 l1).bind fun t444 => (if t443 = 0 then ((emendateref36_Run.f kj4 l0_0 l0_1 a0_2 t440).bind fun bt445 => (if bt445.2.2 = true then (if bt445.2.1 = t444 then (if t444 < 1099511627776 then ((emendateref27_SameInts.f kj4 l1 bt445.1).bind fun t450 => (some t450)) else (some false)) else (some false)) else (some false))) else (if (t440.length : Int) = 0 then (if t443 = 1 then ((emendateref36_Terminals.f kj4 l0_0 l0_1 a0_2 l1).bind fun t451 => (if t451 = true then (if t443 = 6 then ((emendateref36_Terminals.f kj4 l0_0 l0_1 a0_2 l1).bind fun t452 => (if t452 = true then (some (decide (t444 ≥ 1099511627776))) else (some false))) else (some false)) else (some true))) else (if t443 = 6 then ((emendateref36_Terminals.f kj4 l0_0 l0_1 a0_2 l1).bind fun t453 => (if t453 = true then (some (decide (t444 ≥ 1099511627776))) else (some false))) else (some false))) else (some false)))) = some r := H
     have A15 := Aside0.mk A150
     clear A150
     replace H := Option.bind_eq_some_iff.mp H
     obtain ⟨t444, A160, H⟩ := H
     replace H : (if t443 = 0 then ((emendateref36_Run.f kj4 l0_0 l0_1 a0_2 t440).bind fun bt445 => (if bt445.2.2 = true then (if bt445.2.1 = t444 then (if t444 < 1099511627776 then ((emendateref27_SameInts.f kj4 l1 bt445.1).bind fun t450 => (some t450)) else (some false)) else (some false)) else (some false))) else (if (t440.length : Int) = 0 then (if t443 = 1 then ((emendateref36_Terminals.f kj4 l0_0 l0_1 a0_2 l1).bind fun t451 => (if t451 = true then (if t443 = 6 then ((emendateref36_Terminals.f kj4 l0_0 l0_1 a0_2 l1).bind fun t452 => (if t452 = true then (some (decide (t444 ≥ 1099511627776))) else (some false))) else (some false)) else (some true))) else (if t443 = 6 then ((emendateref36_Terminals.f kj4 l0_0 l0_1 a0_2 l1).bind fun t453 => (if t453 = true then (some (decide (t444 ≥ 1099511627776))) else (some false))) else (some false))) else (some false))) = some r := H
     have A16 := Aside0.mk A160
     clear A160
     by_cases c17 : t443 = 0
     ·
      rw [if_pos c17] at H
      have c17b0 : (t443 == 0) = true := beq_iff_eq.mpr c17
      have c17b1 : (t443 != 0) = false := bne_eq_false_iff_eq.mpr c17
      clear c17
      replace H := Option.bind_eq_some_iff.mp H
      obtain ⟨⟨t445, t448, t449⟩, A180, H⟩ := H
      replace H : (if t449 = true then (if t448 = t444 then (if t444 < 1099511627776 then ((emendateref27_SameInts.f kj4 l1 t445).bind fun t450 => (some t450)) else (some false)) else (some false)) else (some false)) = some r := H
      have A18 := Aside0.mk A180
      clear A180
      by_cases c19 : t449 = true
      ·
       subst c19
       have H1 : (if t448 = t444 then (if t444 < 1099511627776 then ((emendateref27_SameInts.f kj4 l1 t445).bind fun t450 => (some t450)) else (some false)) else (some false)) = some r := by rw [if_pos rfl] at H; exact H
       clear H
       have H := H1
       clear H1
       by_cases c20 : t448 = t444
       ·
        rw [if_pos c20] at H
        have c20b0 : (t448 == t444) = true := beq_iff_eq.mpr c20
        have c20b1 : (t448 != t444) = false := bne_eq_false_iff_eq.mpr c20
        clear c20
        by_cases c21 : t444 < 1099511627776
        ·
         rw [if_pos c21] at H
         have c21b0 : decide (t444 < 1099511627776) = true := decide_eq_true c21
         clear c21
         replace H := Option.bind_eq_some_iff.mp H
         obtain ⟨t450, A220, H⟩ := H
         replace H : (some t450) = some r := H
         have A22 := Aside0.mk A220
         clear A220
         obtain rfl := Option.some.inj H
         obtain ⟨hcz23_0, hcz23_1, hcz23_2, hfz23_0, hfz23_1, hfz23_2⟩ := cz3 BK437.out
         go_wp2_with (first | ((with_reducible refine gate_callee (f := 21) rfl ?_); refine gl (some 24) Tryd.func21 #[.agg #[.slice A0_0 l0_0.length c0_0, .slice A0_1 l0_1.length c0_1, .int .i64 a0_2], .slice A1 l1.length c1] ?_; (with_reducible refine (editscript_Align.calls kj4 _ _ l0_0 _ _ l0_1 a0_2 _ _ l1 t440 t443 _ ?side1 ?side2 ?side3 ?side4 ?side5 ?side6 A15.out).mono ?_); (case side1 => exact sd (Kd.C_below HR0_0.out HB.out)); (case side2 => exact HC0_0.out); (case side3 => exact sd (Kd.C_below HR0_1.out HB.out)); (case side4 => exact HC0_1.out); (case side5 => exact sd (Kd.C_below HR1.out HB.out)); (case side6 => exact HC1.out); rintro e w24 ⟨v441, rfl, ho0, hb⟩; refine ⟨_, rfl, ?_⟩; have HO442 := Aside0.mk (Kd.R_lower ho0 (below_size (pb HB.out GE437.out))); replace BK437 := Aside0.mk (bb BK437.out hb); replace HB := Aside0.mk (below_step (pb HB.out GE437.out) hb); (try clear hb); (try clear ho0); obtain ⟨hcz25_0, hcz25_1, hcz25_2, hfz25_0, hfz25_1, hfz25_2⟩ := cz3 BK437.out) | ((with_reducible refine gate_callee (f := 19) rfl ?_); refine gl (some 29) Tryd.func19 #[.agg #[.slice A0_0 l0_0.length c0_0, .slice A0_1 l0_1.length c0_1, .int .i64 a0_2], .slice A1 l1.length c1] ?_; (with_reducible refine (emendateref36_Distance.calls kj4 _ _ l0_0 _ _ l0_1 a0_2 _ _ l1 t444 _ ?side1 ?side2 ?side3 ?side4 ?side5 ?side6 A16.out).mono ?_); (case side1 => exact sd (Kd.C_below HR0_0.out HB.out)); (case side2 => exact HC0_0.out); (case side3 => exact sd (Kd.C_below HR0_1.out HB.out)); (case side4 => exact HC0_1.out); (case side5 => exact sd (Kd.C_below HR1.out HB.out)); (case side6 => exact HC1.out); rintro e w26 ⟨rfl, hb⟩; refine ⟨_, rfl, ?_⟩; replace HO442 := Aside0.mk (Kd.R_below (pR HO442.out) hb); replace BK437 := Aside0.mk (bb BK437.out hb); replace HB := Aside0.mk (below_step (pb HB.out GE437.out) hb); (try clear hb); obtain ⟨hcz27_0, hcz27_1, hcz27_2, hfz27_0, hfz27_1, hfz27_2⟩ := cz3 BK437.out; obtain ⟨Ao28, co28, eo28⟩ := Kd.R_slice HO442.out; subst eo28) | ((with_reducible refine gate_callee (f := 20) rfl ?_); refine gl (some 61) Tryd.func20 #[.agg #[.slice A0_0 l0_0.length c0_0, .slice A0_1 l0_1.length c0_1, .int .i64 a0_2], .slice Ao28 t440.length co28] ?_; (with_reducible refine (emendateref36_Run.calls kj4 _ _ l0_0 _ _ l0_1 a0_2 _ _ t440 t445 t448 true _ ?side1 ?side2 ?side3 ?side4 ?side5 ?side6 A18.out).mono ?_); (case side1 => exact sd (Kd.C_below HR0_0.out HB.out)); (case side2 => exact HC0_0.out); (case side3 => exact sd (Kd.C_below HR0_1.out HB.out)); (case side4 => exact HC0_1.out); (case side5 => exact sd (Kd.R_reads' HO442.out).2.2); (case side6 => exact (Kd.R_reads' HO442.out).2.1); rintro e w29 ⟨v446, rfl, ho0, hb⟩; refine ⟨_, rfl, ?_⟩; replace HO442 := Aside0.mk (Kd.R_below (pR HO442.out) hb); have HO447 := Aside0.mk (Kd.R_lower ho0 (below_size (pb HB.out GE437.out))); replace BK437 := Aside0.mk (bb BK437.out hb); replace HB := Aside0.mk (below_step (pb HB.out GE437.out) hb); (try clear hb); (try clear ho0); obtain ⟨Ao30, co30, eo30⟩ := Kd.R_slice HO447.out; subst eo30) | (go_at_call 13; (with_reducible refine (emendateref27_SameInts.calls kj4 _ _ l1 _ _ t445 t450 _ ?side1 ?side2 ?side3 ?side4 A22.out).mono ?_); (case side1 => exact sd (Kd.C_below HR1.out HB.out)); (case side2 => exact HC1.out); (case side3 => exact sd (Kd.R_reads' HO447.out).2.2); (case side4 => exact (Kd.R_reads' HO447.out).2.1); rintro e w' ⟨rfl, ⟨nd, rfl⟩⟩))
         go_ret
         exact ⟨er, pb HB.out GE437.out⟩
        ·
         rw [if_neg c21] at H
         have c21b0 : decide (t444 < 1099511627776) = false := decide_eq_false c21
         clear c21
         obtain rfl := Option.some.inj H
         obtain ⟨hcz31_0, hcz31_1, hcz31_2, hfz31_0, hfz31_1, hfz31_2⟩ := cz3 BK437.out
         go_wp2_with (first | ((with_reducible refine gate_callee (f := 21) rfl ?_); refine gl (some 24) Tryd.func21 #[.agg #[.slice A0_0 l0_0.length c0_0, .slice A0_1 l0_1.length c0_1, .int .i64 a0_2], .slice A1 l1.length c1] ?_; (with_reducible refine (editscript_Align.calls kj4 _ _ l0_0 _ _ l0_1 a0_2 _ _ l1 t440 t443 _ ?side1 ?side2 ?side3 ?side4 ?side5 ?side6 A15.out).mono ?_); (case side1 => exact sd (Kd.C_below HR0_0.out HB.out)); (case side2 => exact HC0_0.out); (case side3 => exact sd (Kd.C_below HR0_1.out HB.out)); (case side4 => exact HC0_1.out); (case side5 => exact sd (Kd.C_below HR1.out HB.out)); (case side6 => exact HC1.out); rintro e w32 ⟨v441, rfl, ho0, hb⟩; refine ⟨_, rfl, ?_⟩; have HO442 := Aside0.mk (Kd.R_lower ho0 (below_size (pb HB.out GE437.out))); replace BK437 := Aside0.mk (bb BK437.out hb); replace HB := Aside0.mk (below_step (pb HB.out GE437.out) hb); (try clear hb); (try clear ho0); obtain ⟨hcz33_0, hcz33_1, hcz33_2, hfz33_0, hfz33_1, hfz33_2⟩ := cz3 BK437.out) | ((with_reducible refine gate_callee (f := 19) rfl ?_); refine gl (some 29) Tryd.func19 #[.agg #[.slice A0_0 l0_0.length c0_0, .slice A0_1 l0_1.length c0_1, .int .i64 a0_2], .slice A1 l1.length c1] ?_; (with_reducible refine (emendateref36_Distance.calls kj4 _ _ l0_0 _ _ l0_1 a0_2 _ _ l1 t444 _ ?side1 ?side2 ?side3 ?side4 ?side5 ?side6 A16.out).mono ?_); (case side1 => exact sd (Kd.C_below HR0_0.out HB.out)); (case side2 => exact HC0_0.out); (case side3 => exact sd (Kd.C_below HR0_1.out HB.out)); (case side4 => exact HC0_1.out); (case side5 => exact sd (Kd.C_below HR1.out HB.out)); (case side6 => exact HC1.out); rintro e w34 ⟨rfl, hb⟩; refine ⟨_, rfl, ?_⟩; replace HO442 := Aside0.mk (Kd.R_below (pR HO442.out) hb); replace BK437 := Aside0.mk (bb BK437.out hb); replace HB := Aside0.mk (below_step (pb HB.out GE437.out) hb); (try clear hb); obtain ⟨hcz35_0, hcz35_1, hcz35_2, hfz35_0, hfz35_1, hfz35_2⟩ := cz3 BK437.out; obtain ⟨Ao36, co36, eo36⟩ := Kd.R_slice HO442.out; subst eo36) | ((with_reducible refine gate_callee (f := 20) rfl ?_); refine gl (some 61) Tryd.func20 #[.agg #[.slice A0_0 l0_0.length c0_0, .slice A0_1 l0_1.length c0_1, .int .i64 a0_2], .slice Ao36 t440.length co36] ?_; (with_reducible refine (emendateref36_Run.calls kj4 _ _ l0_0 _ _ l0_1 a0_2 _ _ t440 t445 t448 true _ ?side1 ?side2 ?side3 ?side4 ?side5 ?side6 A18.out).mono ?_); (case side1 => exact sd (Kd.C_below HR0_0.out HB.out)); (case side2 => exact HC0_0.out); (case side3 => exact sd (Kd.C_below HR0_1.out HB.out)); (case side4 => exact HC0_1.out); (case side5 => exact sd (Kd.R_reads' HO442.out).2.2); (case side6 => exact (Kd.R_reads' HO442.out).2.1); rintro e w37 ⟨v446, rfl, ho0, hb⟩; refine ⟨_, rfl, ?_⟩; replace HO442 := Aside0.mk (Kd.R_below (pR HO442.out) hb); have HO447 := Aside0.mk (Kd.R_lower ho0 (below_size (pb HB.out GE437.out))); replace BK437 := Aside0.mk (bb BK437.out hb); replace HB := Aside0.mk (below_step (pb HB.out GE437.out) hb); (try clear hb); (try clear ho0)))
         go_ret
         exact ⟨er, pb HB.out GE437.out⟩
       ·
        rw [if_neg c20] at H
        have c20b0 : (t448 == t444) = false := beq_eq_false_iff_ne.mpr c20
        have c20b1 : (t448 != t444) = true := bne_iff_ne.mpr c20
        obtain rfl := Option.some.inj H
        obtain ⟨hcz38_0, hcz38_1, hcz38_2, hfz38_0, hfz38_1, hfz38_2⟩ := cz3 BK437.out
        go_wp2_with (first | ((with_reducible refine gate_callee (f := 21) rfl ?_); refine gl (some 24) Tryd.func21 #[.agg #[.slice A0_0 l0_0.length c0_0, .slice A0_1 l0_1.length c0_1, .int .i64 a0_2], .slice A1 l1.length c1] ?_; (with_reducible refine (editscript_Align.calls kj4 _ _ l0_0 _ _ l0_1 a0_2 _ _ l1 t440 t443 _ ?side1 ?side2 ?side3 ?side4 ?side5 ?side6 A15.out).mono ?_); (case side1 => exact sd (Kd.C_below HR0_0.out HB.out)); (case side2 => exact HC0_0.out); (case side3 => exact sd (Kd.C_below HR0_1.out HB.out)); (case side4 => exact HC0_1.out); (case side5 => exact sd (Kd.C_below HR1.out HB.out)); (case side6 => exact HC1.out); rintro e w39 ⟨v441, rfl, ho0, hb⟩; refine ⟨_, rfl, ?_⟩; have HO442 := Aside0.mk (Kd.R_lower ho0 (below_size (pb HB.out GE437.out))); replace BK437 := Aside0.mk (bb BK437.out hb); replace HB := Aside0.mk (below_step (pb HB.out GE437.out) hb); (try clear hb); (try clear ho0); obtain ⟨hcz40_0, hcz40_1, hcz40_2, hfz40_0, hfz40_1, hfz40_2⟩ := cz3 BK437.out) | ((with_reducible refine gate_callee (f := 19) rfl ?_); refine gl (some 29) Tryd.func19 #[.agg #[.slice A0_0 l0_0.length c0_0, .slice A0_1 l0_1.length c0_1, .int .i64 a0_2], .slice A1 l1.length c1] ?_; (with_reducible refine (emendateref36_Distance.calls kj4 _ _ l0_0 _ _ l0_1 a0_2 _ _ l1 t444 _ ?side1 ?side2 ?side3 ?side4 ?side5 ?side6 A16.out).mono ?_); (case side1 => exact sd (Kd.C_below HR0_0.out HB.out)); (case side2 => exact HC0_0.out); (case side3 => exact sd (Kd.C_below HR0_1.out HB.out)); (case side4 => exact HC0_1.out); (case side5 => exact sd (Kd.C_below HR1.out HB.out)); (case side6 => exact HC1.out); rintro e w41 ⟨rfl, hb⟩; refine ⟨_, rfl, ?_⟩; replace HO442 := Aside0.mk (Kd.R_below (pR HO442.out) hb); replace BK437 := Aside0.mk (bb BK437.out hb); replace HB := Aside0.mk (below_step (pb HB.out GE437.out) hb); (try clear hb); obtain ⟨hcz42_0, hcz42_1, hcz42_2, hfz42_0, hfz42_1, hfz42_2⟩ := cz3 BK437.out; obtain ⟨Ao43, co43, eo43⟩ := Kd.R_slice HO442.out; subst eo43) | ((with_reducible refine gate_callee (f := 20) rfl ?_); refine gl (some 61) Tryd.func20 #[.agg #[.slice A0_0 l0_0.length c0_0, .slice A0_1 l0_1.length c0_1, .int .i64 a0_2], .slice Ao43 t440.length co43] ?_; (with_reducible refine (emendateref36_Run.calls kj4 _ _ l0_0 _ _ l0_1 a0_2 _ _ t440 t445 t448 true _ ?side1 ?side2 ?side3 ?side4 ?side5 ?side6 A18.out).mono ?_); (case side1 => exact sd (Kd.C_below HR0_0.out HB.out)); (case side2 => exact HC0_0.out); (case side3 => exact sd (Kd.C_below HR0_1.out HB.out)); (case side4 => exact HC0_1.out); (case side5 => exact sd (Kd.R_reads' HO442.out).2.2); (case side6 => exact (Kd.R_reads' HO442.out).2.1); rintro e w44 ⟨v446, rfl, ho0, hb⟩; refine ⟨_, rfl, ?_⟩; replace HO442 := Aside0.mk (Kd.R_below (pR HO442.out) hb); have HO447 := Aside0.mk (Kd.R_lower ho0 (below_size (pb HB.out GE437.out))); replace BK437 := Aside0.mk (bb BK437.out hb); replace HB := Aside0.mk (below_step (pb HB.out GE437.out) hb); (try clear hb); (try clear ho0)))
        go_ret
        exact ⟨er, pb HB.out GE437.out⟩
      ·
       replace c19 := Bool.eq_false_iff.mpr c19
       subst c19
       have H1 : (some false) = some r := by rw [if_neg (show ¬ (false = true) by decide)] at H; exact H
       clear H
       have H := H1
       clear H1
       obtain rfl := Option.some.inj H
       obtain ⟨hcz45_0, hcz45_1, hcz45_2, hfz45_0, hfz45_1, hfz45_2⟩ := cz3 BK437.out
       go_wp2_with (first | ((with_reducible refine gate_callee (f := 21) rfl ?_); refine gl (some 24) Tryd.func21 #[.agg #[.slice A0_0 l0_0.length c0_0, .slice A0_1 l0_1.length c0_1, .int .i64 a0_2], .slice A1 l1.length c1] ?_; (with_reducible refine (editscript_Align.calls kj4 _ _ l0_0 _ _ l0_1 a0_2 _ _ l1 t440 t443 _ ?side1 ?side2 ?side3 ?side4 ?side5 ?side6 A15.out).mono ?_); (case side1 => exact sd (Kd.C_below HR0_0.out HB.out)); (case side2 => exact HC0_0.out); (case side3 => exact sd (Kd.C_below HR0_1.out HB.out)); (case side4 => exact HC0_1.out); (case side5 => exact sd (Kd.C_below HR1.out HB.out)); (case side6 => exact HC1.out); rintro e w46 ⟨v441, rfl, ho0, hb⟩; refine ⟨_, rfl, ?_⟩; have HO442 := Aside0.mk (Kd.R_lower ho0 (below_size (pb HB.out GE437.out))); replace BK437 := Aside0.mk (bb BK437.out hb); replace HB := Aside0.mk (below_step (pb HB.out GE437.out) hb); (try clear hb); (try clear ho0); obtain ⟨hcz47_0, hcz47_1, hcz47_2, hfz47_0, hfz47_1, hfz47_2⟩ := cz3 BK437.out) | ((with_reducible refine gate_callee (f := 19) rfl ?_); refine gl (some 29) Tryd.func19 #[.agg #[.slice A0_0 l0_0.length c0_0, .slice A0_1 l0_1.length c0_1, .int .i64 a0_2], .slice A1 l1.length c1] ?_; (with_reducible refine (emendateref36_Distance.calls kj4 _ _ l0_0 _ _ l0_1 a0_2 _ _ l1 t444 _ ?side1 ?side2 ?side3 ?side4 ?side5 ?side6 A16.out).mono ?_); (case side1 => exact sd (Kd.C_below HR0_0.out HB.out)); (case side2 => exact HC0_0.out); (case side3 => exact sd (Kd.C_below HR0_1.out HB.out)); (case side4 => exact HC0_1.out); (case side5 => exact sd (Kd.C_below HR1.out HB.out)); (case side6 => exact HC1.out); rintro e w48 ⟨rfl, hb⟩; refine ⟨_, rfl, ?_⟩; replace HO442 := Aside0.mk (Kd.R_below (pR HO442.out) hb); replace BK437 := Aside0.mk (bb BK437.out hb); replace HB := Aside0.mk (below_step (pb HB.out GE437.out) hb); (try clear hb); obtain ⟨hcz49_0, hcz49_1, hcz49_2, hfz49_0, hfz49_1, hfz49_2⟩ := cz3 BK437.out; obtain ⟨Ao50, co50, eo50⟩ := Kd.R_slice HO442.out; subst eo50) | ((with_reducible refine gate_callee (f := 20) rfl ?_); refine gl (some 61) Tryd.func20 #[.agg #[.slice A0_0 l0_0.length c0_0, .slice A0_1 l0_1.length c0_1, .int .i64 a0_2], .slice Ao50 t440.length co50] ?_; (with_reducible refine (emendateref36_Run.calls kj4 _ _ l0_0 _ _ l0_1 a0_2 _ _ t440 t445 t448 false _ ?side1 ?side2 ?side3 ?side4 ?side5 ?side6 A18.out).mono ?_); (case side1 => exact sd (Kd.C_below HR0_0.out HB.out)); (case side2 => exact HC0_0.out); (case side3 => exact sd (Kd.C_below HR0_1.out HB.out)); (case side4 => exact HC0_1.out); (case side5 => exact sd (Kd.R_reads' HO442.out).2.2); (case side6 => exact (Kd.R_reads' HO442.out).2.1); rintro e w51 ⟨v446, rfl, ho0, hb⟩; refine ⟨_, rfl, ?_⟩; replace HO442 := Aside0.mk (Kd.R_below (pR HO442.out) hb); have HO447 := Aside0.mk (Kd.R_lower ho0 (below_size (pb HB.out GE437.out))); replace BK437 := Aside0.mk (bb BK437.out hb); replace HB := Aside0.mk (below_step (pb HB.out GE437.out) hb); (try clear hb); (try clear ho0)))
       go_ret
       exact ⟨er, pb HB.out GE437.out⟩
     ·
      rw [if_neg c17] at H
      have c17b0 : (t443 == 0) = false := beq_eq_false_iff_ne.mpr c17
      have c17b1 : (t443 != 0) = true := bne_iff_ne.mpr c17
      by_cases c52 : (t440.length : Int) = 0
      ·
       rw [if_pos c52] at H
       have c52b0 : ((t440.length : Int) == 0) = true := beq_iff_eq.mpr c52
       have c52b1 : ((t440.length : Int) != 0) = false := bne_eq_false_iff_eq.mpr c52
       clear c52
       by_cases c53 : t443 = 1
       ·
        rw [if_pos c53] at H
        have c53b0 : (t443 == 1) = true := beq_iff_eq.mpr c53
        have c53b1 : (t443 != 1) = false := bne_eq_false_iff_eq.mpr c53
        clear c53
        replace H := Option.bind_eq_some_iff.mp H
        obtain ⟨t451, A540, H⟩ := H
        replace H : (if t451 = true then (if t443 = 6 then ((emendateref36_Terminals.f kj4 l0_0 l0_1 a0_2 l1).bind fun t452 => (if t452 = true then (some (decide (t444 ≥ 1099511627776))) else (some false))) else (some false)) else (some true)) = some r := H
        have A54 := Aside0.mk A540
        clear A540
        by_cases c55 : t451 = true
        ·
         subst c55
         have H1 : (if t443 = 6 then ((emendateref36_Terminals.f kj4 l0_0 l0_1 a0_2 l1).bind fun t452 => (if t452 = true then (some (decide (t444 ≥ 1099511627776))) else (some false))) else (some false)) = some r := by rw [if_pos rfl] at H; exact H
         clear H
         have H := H1
         clear H1
         by_cases c56 : t443 = 6
         ·
          rw [if_pos c56] at H
          have c56b0 : (t443 == 6) = true := beq_iff_eq.mpr c56
          have c56b1 : (t443 != 6) = false := bne_eq_false_iff_eq.mpr c56
          clear c56
          exact absurd ((beq_iff_eq.1 c53b0).symm.trans (beq_iff_eq.1 c56b0)) (by decide)
         ·
          rw [if_neg c56] at H
          have c56b0 : (t443 == 6) = false := beq_eq_false_iff_ne.mpr c56
          have c56b1 : (t443 != 6) = true := bne_iff_ne.mpr c56
          obtain rfl := Option.some.inj H
          obtain ⟨hcz77_0, hcz77_1, hcz77_2, hfz77_0, hfz77_1, hfz77_2⟩ := cz3 BK437.out
          go_wp2_with (first | ((with_reducible refine gate_callee (f := 21) rfl ?_); refine gl (some 24) Tryd.func21 #[.agg #[.slice A0_0 l0_0.length c0_0, .slice A0_1 l0_1.length c0_1, .int .i64 a0_2], .slice A1 l1.length c1] ?_; (with_reducible refine (editscript_Align.calls kj4 _ _ l0_0 _ _ l0_1 a0_2 _ _ l1 t440 t443 _ ?side1 ?side2 ?side3 ?side4 ?side5 ?side6 A15.out).mono ?_); (case side1 => exact sd (Kd.C_below HR0_0.out HB.out)); (case side2 => exact HC0_0.out); (case side3 => exact sd (Kd.C_below HR0_1.out HB.out)); (case side4 => exact HC0_1.out); (case side5 => exact sd (Kd.C_below HR1.out HB.out)); (case side6 => exact HC1.out); rintro e w78 ⟨v441, rfl, ho0, hb⟩; refine ⟨_, rfl, ?_⟩; have HO442 := Aside0.mk (Kd.R_lower ho0 (below_size (pb HB.out GE437.out))); replace BK437 := Aside0.mk (bb BK437.out hb); replace HB := Aside0.mk (below_step (pb HB.out GE437.out) hb); (try clear hb); (try clear ho0); obtain ⟨hcz79_0, hcz79_1, hcz79_2, hfz79_0, hfz79_1, hfz79_2⟩ := cz3 BK437.out) | ((with_reducible refine gate_callee (f := 19) rfl ?_); refine gl (some 29) Tryd.func19 #[.agg #[.slice A0_0 l0_0.length c0_0, .slice A0_1 l0_1.length c0_1, .int .i64 a0_2], .slice A1 l1.length c1] ?_; (with_reducible refine (emendateref36_Distance.calls kj4 _ _ l0_0 _ _ l0_1 a0_2 _ _ l1 t444 _ ?side1 ?side2 ?side3 ?side4 ?side5 ?side6 A16.out).mono ?_); (case side1 => exact sd (Kd.C_below HR0_0.out HB.out)); (case side2 => exact HC0_0.out); (case side3 => exact sd (Kd.C_below HR0_1.out HB.out)); (case side4 => exact HC0_1.out); (case side5 => exact sd (Kd.C_below HR1.out HB.out)); (case side6 => exact HC1.out); rintro e w80 ⟨rfl, hb⟩; refine ⟨_, rfl, ?_⟩; replace HO442 := Aside0.mk (Kd.R_below (pR HO442.out) hb); replace BK437 := Aside0.mk (bb BK437.out hb); replace HB := Aside0.mk (below_step (pb HB.out GE437.out) hb); (try clear hb); obtain ⟨Ao81, co81, eo81⟩ := Kd.R_slice HO442.out; subst eo81; obtain ⟨hcz82_0, hcz82_1, hcz82_2, hfz82_0, hfz82_1, hfz82_2⟩ := cz3 BK437.out) | (go_at_call 22; (with_reducible refine (emendateref36_Terminals.calls kj4 _ _ l0_0 _ _ l0_1 a0_2 _ _ l1 true _ ?side1 ?side2 ?side3 ?side4 ?side5 ?side6 A54.out).mono ?_); (case side1 => exact sd (Kd.C_below HR0_0.out HB.out)); (case side2 => exact HC0_0.out); (case side3 => exact sd (Kd.C_below HR0_1.out HB.out)); (case side4 => exact HC0_1.out); (case side5 => exact sd (Kd.C_below HR1.out HB.out)); (case side6 => exact HC1.out); rintro e w83 ⟨rfl, hb⟩; replace HO442 := Aside0.mk (Kd.R_below (pR HO442.out) hb); replace BK437 := Aside0.mk (bb BK437.out hb); replace HB := Aside0.mk (below_step (pb HB.out GE437.out) hb); (try clear hb)))
          go_ret
          exact ⟨er, pb HB.out GE437.out⟩
        ·
         replace c55 := Bool.eq_false_iff.mpr c55
         subst c55
         have H1 : (some true) = some r := by rw [if_neg (show ¬ (false = true) by decide)] at H; exact H
         clear H
         have H := H1
         clear H1
         obtain rfl := Option.some.inj H
         obtain ⟨hcz84_0, hcz84_1, hcz84_2, hfz84_0, hfz84_1, hfz84_2⟩ := cz3 BK437.out
         go_wp2_with (first | ((with_reducible refine gate_callee (f := 21) rfl ?_); refine gl (some 24) Tryd.func21 #[.agg #[.slice A0_0 l0_0.length c0_0, .slice A0_1 l0_1.length c0_1, .int .i64 a0_2], .slice A1 l1.length c1] ?_; (with_reducible refine (editscript_Align.calls kj4 _ _ l0_0 _ _ l0_1 a0_2 _ _ l1 t440 t443 _ ?side1 ?side2 ?side3 ?side4 ?side5 ?side6 A15.out).mono ?_); (case side1 => exact sd (Kd.C_below HR0_0.out HB.out)); (case side2 => exact HC0_0.out); (case side3 => exact sd (Kd.C_below HR0_1.out HB.out)); (case side4 => exact HC0_1.out); (case side5 => exact sd (Kd.C_below HR1.out HB.out)); (case side6 => exact HC1.out); rintro e w85 ⟨v441, rfl, ho0, hb⟩; refine ⟨_, rfl, ?_⟩; have HO442 := Aside0.mk (Kd.R_lower ho0 (below_size (pb HB.out GE437.out))); replace BK437 := Aside0.mk (bb BK437.out hb); replace HB := Aside0.mk (below_step (pb HB.out GE437.out) hb); (try clear hb); (try clear ho0); obtain ⟨hcz86_0, hcz86_1, hcz86_2, hfz86_0, hfz86_1, hfz86_2⟩ := cz3 BK437.out) | ((with_reducible refine gate_callee (f := 19) rfl ?_); refine gl (some 29) Tryd.func19 #[.agg #[.slice A0_0 l0_0.length c0_0, .slice A0_1 l0_1.length c0_1, .int .i64 a0_2], .slice A1 l1.length c1] ?_; (with_reducible refine (emendateref36_Distance.calls kj4 _ _ l0_0 _ _ l0_1 a0_2 _ _ l1 t444 _ ?side1 ?side2 ?side3 ?side4 ?side5 ?side6 A16.out).mono ?_); (case side1 => exact sd (Kd.C_below HR0_0.out HB.out)); (case side2 => exact HC0_0.out); (case side3 => exact sd (Kd.C_below HR0_1.out HB.out)); (case side4 => exact HC0_1.out); (case side5 => exact sd (Kd.C_below HR1.out HB.out)); (case side6 => exact HC1.out); rintro e w87 ⟨rfl, hb⟩; refine ⟨_, rfl, ?_⟩; replace HO442 := Aside0.mk (Kd.R_below (pR HO442.out) hb); replace BK437 := Aside0.mk (bb BK437.out hb); replace HB := Aside0.mk (below_step (pb HB.out GE437.out) hb); (try clear hb); obtain ⟨Ao88, co88, eo88⟩ := Kd.R_slice HO442.out; subst eo88; obtain ⟨hcz89_0, hcz89_1, hcz89_2, hfz89_0, hfz89_1, hfz89_2⟩ := cz3 BK437.out) | (go_at_call 22; (with_reducible refine (emendateref36_Terminals.calls kj4 _ _ l0_0 _ _ l0_1 a0_2 _ _ l1 false _ ?side1 ?side2 ?side3 ?side4 ?side5 ?side6 A54.out).mono ?_); (case side1 => exact sd (Kd.C_below HR0_0.out HB.out)); (case side2 => exact HC0_0.out); (case side3 => exact sd (Kd.C_below HR0_1.out HB.out)); (case side4 => exact HC0_1.out); (case side5 => exact sd (Kd.C_below HR1.out HB.out)); (case side6 => exact HC1.out); rintro e w90 ⟨rfl, hb⟩; replace HO442 := Aside0.mk (Kd.R_below (pR HO442.out) hb); replace BK437 := Aside0.mk (bb BK437.out hb); replace HB := Aside0.mk (below_step (pb HB.out GE437.out) hb); (try clear hb)))
         go_ret
         exact ⟨er, pb HB.out GE437.out⟩
       ·
        rw [if_neg c53] at H
        have c53b0 : (t443 == 1) = false := beq_eq_false_iff_ne.mpr c53
        have c53b1 : (t443 != 1) = true := bne_iff_ne.mpr c53
        by_cases c91 : t443 = 6
        ·
         rw [if_pos c91] at H
         have c91b0 : (t443 == 6) = true := beq_iff_eq.mpr c91
         have c91b1 : (t443 != 6) = false := bne_eq_false_iff_eq.mpr c91
         clear c91
         replace H := Option.bind_eq_some_iff.mp H
         obtain ⟨t453, A920, H⟩ := H
         replace H : (if t453 = true then (some (decide (t444 ≥ 1099511627776))) else (some false)) = some r := H
         have A92 := Aside0.mk A920
         clear A920
         by_cases c93 : t453 = true
         ·
          subst c93
          have H1 : (some (decide (t444 ≥ 1099511627776))) = some r := by rw [if_pos rfl] at H; exact H
          clear H
          have H := H1
          clear H1
          obtain rfl := Option.some.inj H
          obtain ⟨hcz94_0, hcz94_1, hcz94_2, hfz94_0, hfz94_1, hfz94_2⟩ := cz3 BK437.out
          go_wp2_with (first | ((with_reducible refine gate_callee (f := 21) rfl ?_); refine gl (some 24) Tryd.func21 #[.agg #[.slice A0_0 l0_0.length c0_0, .slice A0_1 l0_1.length c0_1, .int .i64 a0_2], .slice A1 l1.length c1] ?_; (with_reducible refine (editscript_Align.calls kj4 _ _ l0_0 _ _ l0_1 a0_2 _ _ l1 t440 t443 _ ?side1 ?side2 ?side3 ?side4 ?side5 ?side6 A15.out).mono ?_); (case side1 => exact sd (Kd.C_below HR0_0.out HB.out)); (case side2 => exact HC0_0.out); (case side3 => exact sd (Kd.C_below HR0_1.out HB.out)); (case side4 => exact HC0_1.out); (case side5 => exact sd (Kd.C_below HR1.out HB.out)); (case side6 => exact HC1.out); rintro e w95 ⟨v441, rfl, ho0, hb⟩; refine ⟨_, rfl, ?_⟩; have HO442 := Aside0.mk (Kd.R_lower ho0 (below_size (pb HB.out GE437.out))); replace BK437 := Aside0.mk (bb BK437.out hb); replace HB := Aside0.mk (below_step (pb HB.out GE437.out) hb); (try clear hb); (try clear ho0); obtain ⟨hcz96_0, hcz96_1, hcz96_2, hfz96_0, hfz96_1, hfz96_2⟩ := cz3 BK437.out) | ((with_reducible refine gate_callee (f := 19) rfl ?_); refine gl (some 29) Tryd.func19 #[.agg #[.slice A0_0 l0_0.length c0_0, .slice A0_1 l0_1.length c0_1, .int .i64 a0_2], .slice A1 l1.length c1] ?_; (with_reducible refine (emendateref36_Distance.calls kj4 _ _ l0_0 _ _ l0_1 a0_2 _ _ l1 t444 _ ?side1 ?side2 ?side3 ?side4 ?side5 ?side6 A16.out).mono ?_); (case side1 => exact sd (Kd.C_below HR0_0.out HB.out)); (case side2 => exact HC0_0.out); (case side3 => exact sd (Kd.C_below HR0_1.out HB.out)); (case side4 => exact HC0_1.out); (case side5 => exact sd (Kd.C_below HR1.out HB.out)); (case side6 => exact HC1.out); rintro e w97 ⟨rfl, hb⟩; refine ⟨_, rfl, ?_⟩; replace HO442 := Aside0.mk (Kd.R_below (pR HO442.out) hb); replace BK437 := Aside0.mk (bb BK437.out hb); replace HB := Aside0.mk (below_step (pb HB.out GE437.out) hb); (try clear hb); obtain ⟨Ao98, co98, eo98⟩ := Kd.R_slice HO442.out; subst eo98; obtain ⟨hcz99_0, hcz99_1, hcz99_2, hfz99_0, hfz99_1, hfz99_2⟩ := cz3 BK437.out) | (go_at_call 22; (with_reducible refine (emendateref36_Terminals.calls kj4 _ _ l0_0 _ _ l0_1 a0_2 _ _ l1 true _ ?side1 ?side2 ?side3 ?side4 ?side5 ?side6 A92.out).mono ?_); (case side1 => exact sd (Kd.C_below HR0_0.out HB.out)); (case side2 => exact HC0_0.out); (case side3 => exact sd (Kd.C_below HR0_1.out HB.out)); (case side4 => exact HC0_1.out); (case side5 => exact sd (Kd.C_below HR1.out HB.out)); (case side6 => exact HC1.out); rintro e w100 ⟨rfl, hb⟩; replace HO442 := Aside0.mk (Kd.R_below (pR HO442.out) hb); replace BK437 := Aside0.mk (bb BK437.out hb); replace HB := Aside0.mk (below_step (pb HB.out GE437.out) hb); (try clear hb)))
          go_ret
          exact ⟨er, pb HB.out GE437.out⟩
         ·
          replace c93 := Bool.eq_false_iff.mpr c93
          subst c93
          have H1 : (some false) = some r := by rw [if_neg (show ¬ (false = true) by decide)] at H; exact H
          clear H
          have H := H1
          clear H1
          obtain rfl := Option.some.inj H
          obtain ⟨hcz101_0, hcz101_1, hcz101_2, hfz101_0, hfz101_1, hfz101_2⟩ := cz3 BK437.out
          go_wp2_with (first | ((with_reducible refine gate_callee (f := 21) rfl ?_); refine gl (some 24) Tryd.func21 #[.agg #[.slice A0_0 l0_0.length c0_0, .slice A0_1 l0_1.length c0_1, .int .i64 a0_2], .slice A1 l1.length c1] ?_; (with_reducible refine (editscript_Align.calls kj4 _ _ l0_0 _ _ l0_1 a0_2 _ _ l1 t440 t443 _ ?side1 ?side2 ?side3 ?side4 ?side5 ?side6 A15.out).mono ?_); (case side1 => exact sd (Kd.C_below HR0_0.out HB.out)); (case side2 => exact HC0_0.out); (case side3 => exact sd (Kd.C_below HR0_1.out HB.out)); (case side4 => exact HC0_1.out); (case side5 => exact sd (Kd.C_below HR1.out HB.out)); (case side6 => exact HC1.out); rintro e w102 ⟨v441, rfl, ho0, hb⟩; refine ⟨_, rfl, ?_⟩; have HO442 := Aside0.mk (Kd.R_lower ho0 (below_size (pb HB.out GE437.out))); replace BK437 := Aside0.mk (bb BK437.out hb); replace HB := Aside0.mk (below_step (pb HB.out GE437.out) hb); (try clear hb); (try clear ho0); obtain ⟨hcz103_0, hcz103_1, hcz103_2, hfz103_0, hfz103_1, hfz103_2⟩ := cz3 BK437.out) | ((with_reducible refine gate_callee (f := 19) rfl ?_); refine gl (some 29) Tryd.func19 #[.agg #[.slice A0_0 l0_0.length c0_0, .slice A0_1 l0_1.length c0_1, .int .i64 a0_2], .slice A1 l1.length c1] ?_; (with_reducible refine (emendateref36_Distance.calls kj4 _ _ l0_0 _ _ l0_1 a0_2 _ _ l1 t444 _ ?side1 ?side2 ?side3 ?side4 ?side5 ?side6 A16.out).mono ?_); (case side1 => exact sd (Kd.C_below HR0_0.out HB.out)); (case side2 => exact HC0_0.out); (case side3 => exact sd (Kd.C_below HR0_1.out HB.out)); (case side4 => exact HC0_1.out); (case side5 => exact sd (Kd.C_below HR1.out HB.out)); (case side6 => exact HC1.out); rintro e w104 ⟨rfl, hb⟩; refine ⟨_, rfl, ?_⟩; replace HO442 := Aside0.mk (Kd.R_below (pR HO442.out) hb); replace BK437 := Aside0.mk (bb BK437.out hb); replace HB := Aside0.mk (below_step (pb HB.out GE437.out) hb); (try clear hb); obtain ⟨Ao105, co105, eo105⟩ := Kd.R_slice HO442.out; subst eo105; obtain ⟨hcz106_0, hcz106_1, hcz106_2, hfz106_0, hfz106_1, hfz106_2⟩ := cz3 BK437.out) | (go_at_call 22; (with_reducible refine (emendateref36_Terminals.calls kj4 _ _ l0_0 _ _ l0_1 a0_2 _ _ l1 false _ ?side1 ?side2 ?side3 ?side4 ?side5 ?side6 A92.out).mono ?_); (case side1 => exact sd (Kd.C_below HR0_0.out HB.out)); (case side2 => exact HC0_0.out); (case side3 => exact sd (Kd.C_below HR0_1.out HB.out)); (case side4 => exact HC0_1.out); (case side5 => exact sd (Kd.C_below HR1.out HB.out)); (case side6 => exact HC1.out); rintro e w107 ⟨rfl, hb⟩; replace HO442 := Aside0.mk (Kd.R_below (pR HO442.out) hb); replace BK437 := Aside0.mk (bb BK437.out hb); replace HB := Aside0.mk (below_step (pb HB.out GE437.out) hb); (try clear hb)))
          go_ret
          exact ⟨er, pb HB.out GE437.out⟩
        ·
         rw [if_neg c91] at H
         have c91b0 : (t443 == 6) = false := beq_eq_false_iff_ne.mpr c91
         have c91b1 : (t443 != 6) = true := bne_iff_ne.mpr c91
         obtain rfl := Option.some.inj H
         obtain ⟨hcz108_0, hcz108_1, hcz108_2, hfz108_0, hfz108_1, hfz108_2⟩ := cz3 BK437.out
         go_wp2_with (first | ((with_reducible refine gate_callee (f := 21) rfl ?_); refine gl (some 24) Tryd.func21 #[.agg #[.slice A0_0 l0_0.length c0_0, .slice A0_1 l0_1.length c0_1, .int .i64 a0_2], .slice A1 l1.length c1] ?_; (with_reducible refine (editscript_Align.calls kj4 _ _ l0_0 _ _ l0_1 a0_2 _ _ l1 t440 t443 _ ?side1 ?side2 ?side3 ?side4 ?side5 ?side6 A15.out).mono ?_); (case side1 => exact sd (Kd.C_below HR0_0.out HB.out)); (case side2 => exact HC0_0.out); (case side3 => exact sd (Kd.C_below HR0_1.out HB.out)); (case side4 => exact HC0_1.out); (case side5 => exact sd (Kd.C_below HR1.out HB.out)); (case side6 => exact HC1.out); rintro e w109 ⟨v441, rfl, ho0, hb⟩; refine ⟨_, rfl, ?_⟩; have HO442 := Aside0.mk (Kd.R_lower ho0 (below_size (pb HB.out GE437.out))); replace BK437 := Aside0.mk (bb BK437.out hb); replace HB := Aside0.mk (below_step (pb HB.out GE437.out) hb); (try clear hb); (try clear ho0); obtain ⟨hcz110_0, hcz110_1, hcz110_2, hfz110_0, hfz110_1, hfz110_2⟩ := cz3 BK437.out) | ((with_reducible refine gate_callee (f := 19) rfl ?_); refine gl (some 29) Tryd.func19 #[.agg #[.slice A0_0 l0_0.length c0_0, .slice A0_1 l0_1.length c0_1, .int .i64 a0_2], .slice A1 l1.length c1] ?_; (with_reducible refine (emendateref36_Distance.calls kj4 _ _ l0_0 _ _ l0_1 a0_2 _ _ l1 t444 _ ?side1 ?side2 ?side3 ?side4 ?side5 ?side6 A16.out).mono ?_); (case side1 => exact sd (Kd.C_below HR0_0.out HB.out)); (case side2 => exact HC0_0.out); (case side3 => exact sd (Kd.C_below HR0_1.out HB.out)); (case side4 => exact HC0_1.out); (case side5 => exact sd (Kd.C_below HR1.out HB.out)); (case side6 => exact HC1.out); rintro e w111 ⟨rfl, hb⟩; refine ⟨_, rfl, ?_⟩; replace HO442 := Aside0.mk (Kd.R_below (pR HO442.out) hb); replace BK437 := Aside0.mk (bb BK437.out hb); replace HB := Aside0.mk (below_step (pb HB.out GE437.out) hb); (try clear hb); obtain ⟨Ao112, co112, eo112⟩ := Kd.R_slice HO442.out; subst eo112))
         go_ret
         exact ⟨er, pb HB.out GE437.out⟩
      ·
       rw [if_neg c52] at H
       have c52b0 : ((t440.length : Int) == 0) = false := beq_eq_false_iff_ne.mpr c52
       have c52b1 : ((t440.length : Int) != 0) = true := bne_iff_ne.mpr c52
       have c52b2 : ¬ (t440 = []) := fun h_ => c52 (by rw [h_]; rfl)
       obtain rfl := Option.some.inj H
       obtain ⟨hcz113_0, hcz113_1, hcz113_2, hfz113_0, hfz113_1, hfz113_2⟩ := cz3 BK437.out
       go_wp2_with (first | ((with_reducible refine gate_callee (f := 21) rfl ?_); refine gl (some 24) Tryd.func21 #[.agg #[.slice A0_0 l0_0.length c0_0, .slice A0_1 l0_1.length c0_1, .int .i64 a0_2], .slice A1 l1.length c1] ?_; (with_reducible refine (editscript_Align.calls kj4 _ _ l0_0 _ _ l0_1 a0_2 _ _ l1 t440 t443 _ ?side1 ?side2 ?side3 ?side4 ?side5 ?side6 A15.out).mono ?_); (case side1 => exact sd (Kd.C_below HR0_0.out HB.out)); (case side2 => exact HC0_0.out); (case side3 => exact sd (Kd.C_below HR0_1.out HB.out)); (case side4 => exact HC0_1.out); (case side5 => exact sd (Kd.C_below HR1.out HB.out)); (case side6 => exact HC1.out); rintro e w114 ⟨v441, rfl, ho0, hb⟩; refine ⟨_, rfl, ?_⟩; have HO442 := Aside0.mk (Kd.R_lower ho0 (below_size (pb HB.out GE437.out))); replace BK437 := Aside0.mk (bb BK437.out hb); replace HB := Aside0.mk (below_step (pb HB.out GE437.out) hb); (try clear hb); (try clear ho0); obtain ⟨hcz115_0, hcz115_1, hcz115_2, hfz115_0, hfz115_1, hfz115_2⟩ := cz3 BK437.out) | ((with_reducible refine gate_callee (f := 19) rfl ?_); refine gl (some 29) Tryd.func19 #[.agg #[.slice A0_0 l0_0.length c0_0, .slice A0_1 l0_1.length c0_1, .int .i64 a0_2], .slice A1 l1.length c1] ?_; (with_reducible refine (emendateref36_Distance.calls kj4 _ _ l0_0 _ _ l0_1 a0_2 _ _ l1 t444 _ ?side1 ?side2 ?side3 ?side4 ?side5 ?side6 A16.out).mono ?_); (case side1 => exact sd (Kd.C_below HR0_0.out HB.out)); (case side2 => exact HC0_0.out); (case side3 => exact sd (Kd.C_below HR0_1.out HB.out)); (case side4 => exact HC0_1.out); (case side5 => exact sd (Kd.C_below HR1.out HB.out)); (case side6 => exact HC1.out); rintro e w116 ⟨rfl, hb⟩; refine ⟨_, rfl, ?_⟩; replace HO442 := Aside0.mk (Kd.R_below (pR HO442.out) hb); replace BK437 := Aside0.mk (bb BK437.out hb); replace HB := Aside0.mk (below_step (pb HB.out GE437.out) hb); (try clear hb); obtain ⟨Ao117, co117, eo117⟩ := Kd.R_slice HO442.out; subst eo117))
       go_ret
       exact ⟨er, pb HB.out GE437.out⟩
 ·
  replace c4 := Bool.eq_false_iff.mpr c4
  subst c4
  have H1 : (some false) = some r := by rw [if_neg (show ¬ (false = true) by decide)] at H; exact H
  clear H
  have H := H1
  clear H1
  obtain rfl := Option.some.inj H
  go_enter Tryd.func8, Tryd.ntmps8
  go_wp2_with (first | ((with_reducible refine gate_dst (N := 2) rfl ?_); (try (refine gate_guard (by rfl) ?_; dsimp only)); refine box_event ?hg (N := 2) ?hd (cs := #[.slice A0_0 l0_0.length c0_0, .slice A0_1 l0_1.length c0_1, .int .i64 a0_2]) (t := 25) ?hr ?_; (case hd => rfl); (case hg => rfl); (case hr => first | (go_simp; done) | (go_simp; rfl)); intro gb437 hg w118 hbox hb; have n0_ := Aside0.mk (below_step (pB HB.out) hb); have n1_ := Aside0.mk (hbox); have n2_ := Aside0.mk ((by rw [hg]; exact (below_size (pB HB.out)) : w.heap.size ≤ gb437)); have n3_ := Aside0.mk ((by rw [hg]; exact (below_size (pB HB.out)) : w.heap.size ≤ gb437)); clear HB; have HB := n0_; have BK437 := n1_; have GW437 := n2_; have GE437 := n3_; clear n0_ n1_ n2_ n3_; clear hb hbox hg) | ((with_reducible refine gate_callee (f := 11) rfl ?_); refine gl (some 11) Tryd.func11 #[] ?_; (with_reducible refine (emendatelaw36_awake.calls k  false _ (HV.out.below (pb HB.out GE437.out) rfl) A3.out).mono ?_); rintro e w119 ⟨rfl, hb⟩; refine ⟨_, rfl, ?_⟩; replace BK437 := Aside0.mk (bb BK437.out hb); replace HB := Aside0.mk (below_step (pb HB.out GE437.out) hb); (try clear hb)))
  go_ret
  exact ⟨er, pb HB.out GE437.out⟩

end Go.Proofs.YtnddijafdphbnaaDoor.All
