-- Printed by wip/tools/wprint.py (a program of this session over the kit's printer). Not trusted: Lean checks it.
import Derived.Test.YtnddijafdphbnaaDoorAllx0
import Derived.Test.YtnddijafdphbnaaDoorAllx2
import Derived.Test.YtnddijafdphbnaaDoorAllx15
import Derived.Test.YtnddijafdphbnaaDoorAllx16
import Derived.Test.YtnddijafdphbnaaDoorAllx17
import Derived.Test.YtnddijafdphbnaaDoorAllx19
import Derived.Test.YtnddijafdphbnaaDoorAllx24
namespace Go.Proofs.YtnddijafdphbnaaDoor.All
open Go.RowKit Go.Proofs.YtnddijafdphbnaaDoorW.PrintWords Go.Proofs.YtnddijafdphbnaaDoorW.PrintLast Go.Proofs.YtnddijafdphbnaaDoorW.PrintMore
attribute [local go_sem] max2_int min2_int max_two min_two max_three min_three max_four min_four   -- for this text's walks alone
set_option linter.unusedVariables false
set_option linter.unusedSimpArgs false

/-! ### emendatelaw36_EditscriptApplyMatchesReference: function 5 -/
def emendatelaw36_EditscriptApplyMatchesReference.j0 : Nat → List (S49) → Bool → List (S33) → List Int → Int → Option (Bool)
 | 0, _, _, _, _, _ => none
 | k + 1, x1, x22, x370000, x370001, x370002 => if x22 = true then (some true) else ((editscript_Apply.f k x370000 x370001 x370002 x1).bind fun bt372 => ((emendateref36_Apply.f k x370000 x370001 x370002 x1).bind fun bt376 => ((editscript_Cost.f k x370000 x370001 x370002 x1).bind fun bt380 => ((emendateref36_Cost.f k x370000 x370001 x370002 x1).bind fun bt382 => (if bt372.2 = bt376.2 then (if bt380.2 = bt382.2 then (if bt380.1 = bt382.1 then ((emendateref27_SameInts.f k bt372.1 bt376.1).bind fun t384 => (some t384)) else (some false)) else (some false)) else (some false))))))
def emendatelaw36_EditscriptApplyMatchesReference.f (k : Nat) (l0_0 : List (S33)) (l0_1 : List Int) (a0_2 : Int) (l1 : List (S49)) : Option (Bool) := (emendatelaw36_awake.f k).bind fun t370 => (if t370 = true then ((emendatelaw36_fair.f k l0_0 l0_1 a0_2).bind fun t371 => (if t371 = true then (emendatelaw36_EditscriptApplyMatchesReference.j0 k l1 (decide ((l1.length : Int) > 40)) l0_0 l0_1 a0_2) else (emendatelaw36_EditscriptApplyMatchesReference.j0 k l1 true l0_0 l0_1 a0_2))) else (some false))
theorem emendatelaw36_EditscriptApplyMatchesReference.mono_l : ∀ k, (∀ y0 y1 y2 y3 y4, LeO (emendatelaw36_EditscriptApplyMatchesReference.j0 k y0 y1 y2 y3 y4) (emendatelaw36_EditscriptApplyMatchesReference.j0 (k + 1) y0 y1 y2 y3 y4))
 | 0 => fun _ _ _ _ _ r h => by simp [emendatelaw36_EditscriptApplyMatchesReference.j0] at h
 | k + 1 => by
  have ih0 := emendatelaw36_EditscriptApplyMatchesReference.mono_l k
  ·
   intro y0 y1 y2 y3 y4
   unfold emendatelaw36_EditscriptApplyMatchesReference.j0
   repeat' first
   | (with_reducible exact ih0 _ _ _ _ _)
   | (with_reducible exact editscript_Apply.mono _ _ _ _ _)
   | (with_reducible exact editscript_Cost.mono _ _ _ _ _)
   | (with_reducible exact emendatelaw36_awake.mono _)
   | (with_reducible exact emendatelaw36_fair.mono _ _ _ _)
   | (with_reducible exact emendateref27_SameInts.mono _ _ _)
   | (with_reducible exact emendateref36_Apply.mono _ _ _ _ _)
   | (with_reducible exact emendateref36_Cost.mono _ _ _ _ _)
   | (with_reducible exact LeO.refl _)
   | (with_reducible exact LeO.none _)
   | (with_reducible refine LeO.ite ?_ ?_)
   | (with_reducible refine LeO.bind ?_ (fun _ => ?_))
   | exact ih0 _ _ _ _ _
   | exact editscript_Apply.mono _ _ _ _ _
   | exact editscript_Cost.mono _ _ _ _ _
   | exact emendatelaw36_awake.mono _
   | exact emendatelaw36_fair.mono _ _ _ _
   | exact emendateref27_SameInts.mono _ _ _
   | exact emendateref36_Apply.mono _ _ _ _ _
   | exact emendateref36_Cost.mono _ _ _ _ _
   | exact LeO.none _
   | refine LeO.ite ?_ ?_
   | refine LeO.bind ?_ (fun _ => ?_)
theorem emendatelaw36_EditscriptApplyMatchesReference.mono : ∀ a0 a1 a2 a3 k, LeO (emendatelaw36_EditscriptApplyMatchesReference.f k a0 a1 a2 a3) (emendatelaw36_EditscriptApplyMatchesReference.f (k + 1) a0 a1 a2 a3) := by
 intro a0 a1 a2 a3 k
 have ih0 := emendatelaw36_EditscriptApplyMatchesReference.mono_l k
 unfold emendatelaw36_EditscriptApplyMatchesReference.f
 repeat' first
   | (with_reducible exact ih0 _ _ _ _ _)
   | (with_reducible exact editscript_Apply.mono _ _ _ _ _)
   | (with_reducible exact editscript_Cost.mono _ _ _ _ _)
   | (with_reducible exact emendatelaw36_awake.mono _)
   | (with_reducible exact emendatelaw36_fair.mono _ _ _ _)
   | (with_reducible exact emendateref27_SameInts.mono _ _ _)
   | (with_reducible exact emendateref36_Apply.mono _ _ _ _ _)
   | (with_reducible exact emendateref36_Cost.mono _ _ _ _ _)
   | (with_reducible exact LeO.refl _)
   | (with_reducible exact LeO.none _)
   | (with_reducible refine LeO.ite ?_ ?_)
   | (with_reducible refine LeO.bind ?_ (fun _ => ?_))
   | exact ih0 _ _ _ _ _
   | exact editscript_Apply.mono _ _ _ _ _
   | exact editscript_Cost.mono _ _ _ _ _
   | exact emendatelaw36_awake.mono _
   | exact emendatelaw36_fair.mono _ _ _ _
   | exact emendateref27_SameInts.mono _ _ _
   | exact emendateref36_Apply.mono _ _ _ _ _
   | exact emendateref36_Cost.mono _ _ _ _ _
   | exact LeO.none _
   | refine LeO.ite ?_ ?_
   | refine LeO.bind ?_ (fun _ => ?_)
set_option maxHeartbeats 8000000 in
set_option maxRecDepth 100000 in
theorem emendatelaw36_EditscriptApplyMatchesReference.calls (k : Nat) (A0_0 : Option Addr) (c0_0 : Nat) (l0_0 : List (S33)) (A0_1 : Option Addr) (c0_1 : Nat) (l0_1 : List Int) (a0_2 : Int) (A1 : Option Addr) (c1 : Nat) (l1 : List (S49)) (r : Bool) (w : World) (hr0_0 : Kd.C k33 w A0_0 l0_0.length l0_0) (hc0_0 : l0_0.length ≤ c0_0) (hr0_1 : Kd.C (Kd.int .i64) w A0_1 l0_1.length l0_1) (hc0_1 : l0_1.length ≤ c0_1) (hr1 : Kd.C k49 w A1 l1.length l1) (hc1 : l1.length ≤ c1) (hv : VarOk w) (h : emendatelaw36_EditscriptApplyMatchesReference.f k l0_0 l0_1 a0_2 l1 = some r) :
  Calls Tryd.prog 5 #[.agg #[.slice A0_0 l0_0.length c0_0, .slice A0_1 l0_1.length c0_1, .int .i64 a0_2], .slice A1 l1.length c1] w fun e w' => e = .returned (.bool r) ∧ Below w.heap.size w w' := by
 have HV := Aside0.mk hv
 clear hv
 have hu25 := Tryd.underlying25
 have HR0_0 := Aside0.mk hr0_0
 have HC0_0 := Aside0.mk hc0_0
 clear hr0_0 hc0_0
 have HR0_1 := Aside0.mk hr0_1
 have HC0_1 := Aside0.mk hc0_1
 clear hr0_1 hc0_1
 have HR1 := Aside0.mk hr1
 have HC1 := Aside0.mk hc1
 clear hr1 hc1
 have HB := Aside0.mk (Below.refl w.heap.size w)
 have H : ((emendatelaw36_awake.f k).bind fun t370 => (if t370 = true then ((emendatelaw36_fair.f k l0_0 l0_1 a0_2).bind fun t371 => (if t371 = true then (emendatelaw36_EditscriptApplyMatchesReference.j0 k l1 (decide ((l1.length : Int) > 40)) l0_0 l0_1 a0_2) else (emendatelaw36_EditscriptApplyMatchesReference.j0 k l1 true l0_0 l0_1 a0_2))) else (some false))) = some r := h
 clear h
 replace H := Option.bind_eq_some_iff.mp H
 obtain ⟨t370, A30, H⟩ := H
 replace H : (if t370 = true then ((emendatelaw36_fair.f k l0_0 l0_1 a0_2).bind fun t371 => (if t371 = true then (emendatelaw36_EditscriptApplyMatchesReference.j0 k l1 (decide ((l1.length : Int) > 40)) l0_0 l0_1 a0_2) else (emendatelaw36_EditscriptApplyMatchesReference.j0 k l1 true l0_0 l0_1 a0_2))) else (some false)) = some r := H
 have A3 := Aside0.mk A30
 clear A30
 by_cases c4 : t370 = true
 ·
  subst c4
  have H1 : ((emendatelaw36_fair.f k l0_0 l0_1 a0_2).bind fun t371 => (if t371 = true then (emendatelaw36_EditscriptApplyMatchesReference.j0 k l1 (decide ((l1.length : Int) > 40)) l0_0 l0_1 a0_2) else (emendatelaw36_EditscriptApplyMatchesReference.j0 k l1 true l0_0 l0_1 a0_2))) = some r := by rw [if_pos rfl] at H; exact H
  clear H
  have H := H1
  clear H1
  have HC5 := Aside0.mk H
  clear H
  go_enter Tryd.func5, Tryd.ntmps5
  go_upto_region 3 with (first | ((with_reducible refine gate_dst (N := 2) rfl ?_); (try (refine gate_guard (by rfl) ?_; dsimp only)); refine box_event ?hg (N := 2) ?hd (cs := #[.slice A0_0 l0_0.length c0_0, .slice A0_1 l0_1.length c0_1, .int .i64 a0_2]) (t := 25) ?hr ?_; (case hd => rfl); (case hg => rfl); (case hr => first | (go_simp; done) | (go_simp; rfl)); intro gb369 hg w6 hbox hb; have n0_ := Aside0.mk (below_step (pB HB.out) hb); have n1_ := Aside0.mk (hbox); have n2_ := Aside0.mk ((by rw [hg]; exact (below_size (pB HB.out)) : w.heap.size ≤ gb369)); have n3_ := Aside0.mk ((by rw [hg]; exact (below_size (pB HB.out)) : w.heap.size ≤ gb369)); clear HB; have HB := n0_; have BK369 := n1_; have GW369 := n2_; have GE369 := n3_; clear n0_ n1_ n2_ n3_; clear hb hbox hg) | ((with_reducible refine gate_callee (f := 11) rfl ?_); refine goesL_ (some 13) rfl rfl Tryd.func11 (by kernel_rfl) rfl #[] rfl (by (try simp only [List.map_toArray, List.map_cons, List.map_nil]); first | done | rfl | (simp only [List.length_drop, List.length_take]; rfl)) ?_; (with_reducible refine (emendatelaw36_awake.calls k  true _ (HV.out.below (pb HB.out GE369.out) rfl) A3.out).mono ?_); rintro e w7 ⟨rfl, hb⟩; refine ⟨_, rfl, ?_⟩; have n0_ := Aside0.mk (blk_below (g := gb369) (o := .cells #[.slice A0_0 l0_0.length c0_0, .slice A0_1 l0_1.length c0_1, .int .i64 a0_2] 25 (0, 0)) (pk BK369.out) hb); have n1_ := Aside0.mk (below_step (pb HB.out GE369.out) hb); clear BK369; clear HB; have BK369 := n0_; have HB := n1_; clear n0_ n1_; (try clear hb); (try clear hb2); (try clear hk); (try clear hi)))
  (try simp only [Act.put, List.setIfInBounds_toArray, List.set_cons_zero, List.set_cons_succ])
  go_cut [22] (fun v22 wc => ∃ (kq : Nat) (x22_4 : Bool), v22 = .bool x22_4 ∧ Aside0 (emendatelaw36_EditscriptApplyMatchesReference.j0 kq l1 x22_4 l0_0 l0_1 a0_2 = some r) ∧ Aside0 (kq ≤ k) ∧ Aside0 (wc.heap[gb369]? = some (.cells #[(.slice A0_0 l0_0.length c0_0), (.slice A0_1 l0_1.length c0_1), .int .i64 a0_2] 25 (0, 0))) ∧ Aside0 (Below w.heap.size w wc))
  case first =>
   have H := HC5.out
   clear HC5
   replace H := Option.bind_eq_some_iff.mp H
   obtain ⟨t371, A80, H⟩ := H
   replace H : (if t371 = true then (emendatelaw36_EditscriptApplyMatchesReference.j0 k l1 (decide ((l1.length : Int) > 40)) l0_0 l0_1 a0_2) else (emendatelaw36_EditscriptApplyMatchesReference.j0 k l1 true l0_0 l0_1 a0_2)) = some r := H
   have A8 := Aside0.mk A80
   clear A80
   by_cases c9 : t371 = true
   ·
    subst c9
    have H1 : (emendatelaw36_EditscriptApplyMatchesReference.j0 k l1 (decide ((l1.length : Int) > 40)) l0_0 l0_1 a0_2) = some r := by rw [if_pos rfl] at H; exact H
    clear H
    have H := H1
    clear H1
    have H' := Aside0.mk H
    clear H
    have hcz10_0 : w7.cell? ⟨gb369, 0, none⟩ = some (.slice A0_0 l0_0.length c0_0) := (blk_cell BK369.out 0).trans rfl
    have hcz10_1 : w7.cell? ⟨gb369, 1, none⟩ = some (.slice A0_1 l0_1.length c0_1) := (blk_cell BK369.out 1).trans rfl
    have hcz10_2 : w7.cell? ⟨gb369, 2, none⟩ = some (.int .i64 a0_2) := (blk_cell BK369.out 2).trans rfl
    have hfz10_0 := blk_frozen BK369.out 0
    have hfz10_1 := blk_frozen BK369.out 1
    have hfz10_2 := blk_frozen BK369.out 2
    go_wp2_with (first | ((with_reducible refine gate_callee (f := 12) rfl ?_); refine goesL_ (some 16) rfl rfl Tryd.func12 (by kernel_rfl) rfl #[.agg #[.slice A0_0 l0_0.length c0_0, .slice A0_1 l0_1.length c0_1, .int .i64 a0_2]] rfl (by (try simp only [List.map_toArray, List.map_cons, List.map_nil]); first | done | rfl | (simp only [List.length_drop, List.length_take]; rfl)) ?_; (with_reducible refine (emendatelaw36_fair.calls k _ _ l0_0 _ _ l0_1 a0_2 true _ ?side1 ?side2 ?side3 ?side4 A8.out).mono ?_); (case side1 => exact sd (Kd.C_below HR0_0.out HB.out)); (case side2 => exact HC0_0.out); (case side3 => exact sd (Kd.C_below HR0_1.out HB.out)); (case side4 => exact HC0_1.out); rintro e w11 ⟨rfl, hb⟩; refine ⟨_, rfl, ?_⟩; have n0_ := Aside0.mk (blk_below (g := gb369) (o := .cells #[.slice A0_0 l0_0.length c0_0, .slice A0_1 l0_1.length c0_1, .int .i64 a0_2] 25 (0, 0)) (pk BK369.out) hb); have n1_ := Aside0.mk (below_step (pb HB.out GE369.out) hb); clear BK369; clear HB; have BK369 := n0_; have HB := n1_; clear n0_ n1_; (try clear hb); (try clear hb2); (try clear hk); (try clear hi)))
    go_meet
    case rel => exact ⟨_, (decide ((l1.length : Int) > 40)), (by first | rfl | (simp; done) | (simp [*]; done)), H', ⟨by first | omega | exact Nat.le_refl _⟩, ⟨by (with_reducible repeat (first | refine blk_drewN ?_ _ | refine blk_drew ?_ | refine blk_alloc ?_ _)); exact BK369.out⟩, ⟨by repeat (first | (with_reducible first | exact HB.out | apply below_alloc | apply pw_below_drewN | apply below_drew1 | refine below_set ?_ GE369.out) | exact HB.out)⟩⟩
   ·
    replace c9 := Bool.eq_false_iff.mpr c9
    subst c9
    have H1 : (emendatelaw36_EditscriptApplyMatchesReference.j0 k l1 true l0_0 l0_1 a0_2) = some r := by rw [if_neg (show ¬ (false = true) by decide)] at H; exact H
    clear H
    have H := H1
    clear H1
    have H' := Aside0.mk H
    clear H
    have hcz12_0 : w7.cell? ⟨gb369, 0, none⟩ = some (.slice A0_0 l0_0.length c0_0) := (blk_cell BK369.out 0).trans rfl
    have hcz12_1 : w7.cell? ⟨gb369, 1, none⟩ = some (.slice A0_1 l0_1.length c0_1) := (blk_cell BK369.out 1).trans rfl
    have hcz12_2 : w7.cell? ⟨gb369, 2, none⟩ = some (.int .i64 a0_2) := (blk_cell BK369.out 2).trans rfl
    have hfz12_0 := blk_frozen BK369.out 0
    have hfz12_1 := blk_frozen BK369.out 1
    have hfz12_2 := blk_frozen BK369.out 2
    go_wp2_with (first | ((with_reducible refine gate_callee (f := 12) rfl ?_); refine goesL_ (some 16) rfl rfl Tryd.func12 (by kernel_rfl) rfl #[.agg #[.slice A0_0 l0_0.length c0_0, .slice A0_1 l0_1.length c0_1, .int .i64 a0_2]] rfl (by (try simp only [List.map_toArray, List.map_cons, List.map_nil]); first | done | rfl | (simp only [List.length_drop, List.length_take]; rfl)) ?_; (with_reducible refine (emendatelaw36_fair.calls k _ _ l0_0 _ _ l0_1 a0_2 false _ ?side1 ?side2 ?side3 ?side4 A8.out).mono ?_); (case side1 => exact sd (Kd.C_below HR0_0.out HB.out)); (case side2 => exact HC0_0.out); (case side3 => exact sd (Kd.C_below HR0_1.out HB.out)); (case side4 => exact HC0_1.out); rintro e w13 ⟨rfl, hb⟩; refine ⟨_, rfl, ?_⟩; have n0_ := Aside0.mk (blk_below (g := gb369) (o := .cells #[.slice A0_0 l0_0.length c0_0, .slice A0_1 l0_1.length c0_1, .int .i64 a0_2] 25 (0, 0)) (pk BK369.out) hb); have n1_ := Aside0.mk (below_step (pb HB.out GE369.out) hb); clear BK369; clear HB; have BK369 := n0_; have HB := n1_; clear n0_ n1_; (try clear hb); (try clear hb2); (try clear hk); (try clear hi)))
    go_meet
    case rel => exact ⟨_, (true), (by first | rfl | (simp; done) | (simp [*]; done)), H', ⟨by first | omega | exact Nat.le_refl _⟩, ⟨by (with_reducible repeat (first | refine blk_drewN ?_ _ | refine blk_drew ?_ | refine blk_alloc ?_ _)); exact BK369.out⟩, ⟨by repeat (first | (with_reducible first | exact HB.out | apply below_alloc | apply pw_below_drewN | apply below_drew1 | refine below_set ?_ GE369.out) | exact HB.out)⟩⟩
  case rest =>
   clear HC5
   try clear c1
   try clear p2
   try clear c4
   try clear c5
   try clear c9
   try clear c11
   try clear c12
   try clear hcz10_0
   try clear hcz10_1
   try clear hcz10_2
   try clear hcz12_0
   try clear hcz12_1
   try clear hcz12_2
   try clear hfz10_0
   try clear hfz10_1
   try clear hfz10_2
   try clear hfz12_0
   try clear hfz12_1
   try clear hfz12_2
   obtain ⟨kq, x22_4, rfl, HA, HJ4, BK369, HB⟩ := hcut
   cases kq with
   | zero => exact absurd HA.out (by simp [emendatelaw36_EditscriptApplyMatchesReference.j0])
   | succ kj4 =>
    have H := HA.out
    clear HA
    simp only [emendatelaw36_EditscriptApplyMatchesReference.j0] at H
    by_cases c14 : x22_4 = true
    ·
     subst c14
     have H1 : (some true) = some r := by rw [if_pos rfl] at H; exact H
     clear H
     have H := H1
     clear H1
     obtain rfl := Option.some.inj H
     go_wp2
     go_ret
     exact ⟨by first | rfl | (simp [errW_none, errW_some] <;> rfl) | (simp [*, errW_none, errW_some] <;> rfl), by repeat (first | (with_reducible first | exact HB.out | apply below_alloc | apply pw_below_drewN | apply below_drew1 | refine below_set ?_ GE369.out) | exact HB.out)⟩
    ·
     replace c14 := Bool.eq_false_iff.mpr c14
     subst c14
     have H1 : ((editscript_Apply.f kj4 l0_0 l0_1 a0_2 l1).bind fun bt372 => ((emendateref36_Apply.f kj4 l0_0 l0_1 a0_2 l1).bind fun bt376 => ((editscript_Cost.f kj4 l0_0 l0_1 a0_2 l1).bind fun bt380 => ((emendateref36_Cost.f kj4 l0_0 l0_1 a0_2 l1).bind fun bt382 => (if bt372.2 = bt376.2 then (if bt380.2 = bt382.2 then (if bt380.1 = bt382.1 then ((emendateref27_SameInts.f kj4 bt372.1 bt376.1).bind fun t384 => (some t384)) else (some false)) else (some false)) else (some false)))))) = some r := by rw [if_neg (show ¬ (false = true) by decide)] at H; exact H
     clear H
     have H := H1
     clear H1
     replace H := Option.bind_eq_some_iff.mp H
     obtain ⟨⟨t372, t375⟩, A150, H⟩ := H
     replace H : ((emendateref36_Apply.f kj4 l0_0 l0_1 a0_2 l1).bind fun bt376 => ((editscript_Cost.f kj4 l0_0 l0_1 a0_2 l1).bind fun bt380 => ((emendateref36_Cost.f kj4 l0_0 l0_1 a0_2 l1).bind fun bt382 => (if t375 = bt376.2 then (if bt380.2 = bt382.2 then (if bt380.1 = bt382.1 then ((emendateref27_SameInts.f kj4 t372 bt376.1).bind fun t384 => (some t384)) else (some false)) else (some false)) else (some false))))) = some r := H
     have A15 := Aside0.mk A150
     clear A150
     replace H := Option.bind_eq_some_iff.mp H
     obtain ⟨⟨t376, t379⟩, A160, H⟩ := H
     replace H : ((editscript_Cost.f kj4 l0_0 l0_1 a0_2 l1).bind fun bt380 => ((emendateref36_Cost.f kj4 l0_0 l0_1 a0_2 l1).bind fun bt382 => (if t375 = t379 then (if bt380.2 = bt382.2 then (if bt380.1 = bt382.1 then ((emendateref27_SameInts.f kj4 t372 t376).bind fun t384 => (some t384)) else (some false)) else (some false)) else (some false)))) = some r := H
     have A16 := Aside0.mk A160
     clear A160
     replace H := Option.bind_eq_some_iff.mp H
     obtain ⟨⟨t380, t381⟩, A170, H⟩ := H
     replace H : ((emendateref36_Cost.f kj4 l0_0 l0_1 a0_2 l1).bind fun bt382 => (if t375 = t379 then (if t381 = bt382.2 then (if t380 = bt382.1 then ((emendateref27_SameInts.f kj4 t372 t376).bind fun t384 => (some t384)) else (some false)) else (some false)) else (some false))) = some r := H
     have A17 := Aside0.mk A170
     clear A170
     replace H := Option.bind_eq_some_iff.mp H
     obtain ⟨⟨t382, t383⟩, A180, H⟩ := H
     replace H : (if t375 = t379 then (if t381 = t383 then (if t380 = t382 then ((emendateref27_SameInts.f kj4 t372 t376).bind fun t384 => (some t384)) else (some false)) else (some false)) else (some false)) = some r := H
     have A18 := Aside0.mk A180
     clear A180
     by_cases c19 : t375 = t379
     ·
      rw [if_pos c19] at H
      have c19b0 : (t375 == t379) = true := beq_iff_eq.mpr c19
      have c19b1 : (t375 != t379) = false := bne_eq_false_iff_eq.mpr c19
      clear c19
      by_cases c20 : t381 = t383
      ·
       rw [if_pos c20] at H
       have c20b0 : (t381 == t383) = true := beq_iff_eq.mpr c20
       have c20b1 : (t381 != t383) = false := bne_eq_false_iff_eq.mpr c20
       clear c20
       by_cases c21 : t380 = t382
       ·
        rw [if_pos c21] at H
        have c21b0 : (t380 == t382) = true := beq_iff_eq.mpr c21
        have c21b1 : (t380 != t382) = false := bne_eq_false_iff_eq.mpr c21
        clear c21
        replace H := Option.bind_eq_some_iff.mp H
        obtain ⟨t384, A220, H⟩ := H
        replace H : (some t384) = some r := H
        have A22 := Aside0.mk A220
        clear A220
        obtain rfl := Option.some.inj H
        have hcz23_0 : wc.cell? ⟨gb369, 0, none⟩ = some (.slice A0_0 l0_0.length c0_0) := (blk_cell BK369.out 0).trans rfl
        have hcz23_1 : wc.cell? ⟨gb369, 1, none⟩ = some (.slice A0_1 l0_1.length c0_1) := (blk_cell BK369.out 1).trans rfl
        have hcz23_2 : wc.cell? ⟨gb369, 2, none⟩ = some (.int .i64 a0_2) := (blk_cell BK369.out 2).trans rfl
        have hfz23_0 := blk_frozen BK369.out 0
        have hfz23_1 := blk_frozen BK369.out 1
        have hfz23_2 := blk_frozen BK369.out 2
        go_wp2_with (first | ((with_reducible refine gate_callee (f := 15) rfl ?_); refine goesL_ (some 26) rfl rfl Tryd.func15 (by kernel_rfl) rfl #[.agg #[.slice A0_0 l0_0.length c0_0, .slice A0_1 l0_1.length c0_1, .int .i64 a0_2], .slice A1 l1.length c1] rfl (by (try simp only [List.map_toArray, List.map_cons, List.map_nil]); first | done | rfl | (simp only [List.length_drop, List.length_take]; rfl)) ?_; (with_reducible refine (editscript_Apply.calls kj4 _ _ l0_0 _ _ l0_1 a0_2 _ _ l1 t372 t375 _ ?side1 ?side2 ?side3 ?side4 ?side5 ?side6 (HV.out.below (pb HB.out GE369.out) rfl) A15.out).mono ?_); (case side1 => exact sd (Kd.C_below HR0_0.out HB.out)); (case side2 => exact HC0_0.out); (case side3 => exact sd (Kd.C_below HR0_1.out HB.out)); (case side4 => exact HC0_1.out); (case side5 => exact sd (Kd.C_below HR1.out HB.out)); (case side6 => exact HC1.out); rintro e w24 ⟨v373, rfl, ho0, hb⟩; refine ⟨_, rfl, ?_⟩; have n0_ := Aside0.mk (Kd.R_lower ho0 (below_size (pb HB.out GE369.out))); have n1_ := Aside0.mk (blk_below (g := gb369) (o := .cells #[.slice A0_0 l0_0.length c0_0, .slice A0_1 l0_1.length c0_1, .int .i64 a0_2] 25 (0, 0)) (pk BK369.out) hb); have n2_ := Aside0.mk (below_step (pb HB.out GE369.out) hb); clear BK369; clear HB; have HO374 := n0_; have BK369 := n1_; have HB := n2_; clear n0_ n1_ n2_; (try clear hb); (try clear hb2); (try clear hk); (try clear hi); (try clear ho0); have hcz25_0 : w24.cell? ⟨gb369, 0, none⟩ = some (.slice A0_0 l0_0.length c0_0) := (blk_cell BK369.out 0).trans rfl; have hcz25_1 : w24.cell? ⟨gb369, 1, none⟩ = some (.slice A0_1 l0_1.length c0_1) := (blk_cell BK369.out 1).trans rfl; have hcz25_2 : w24.cell? ⟨gb369, 2, none⟩ = some (.int .i64 a0_2) := (blk_cell BK369.out 2).trans rfl; have hfz25_0 := blk_frozen BK369.out 0; have hfz25_1 := blk_frozen BK369.out 1; have hfz25_2 := blk_frozen BK369.out 2) | ((with_reducible refine gate_callee (f := 16) rfl ?_); refine goesL_ (some 32) rfl rfl Tryd.func16 (by kernel_rfl) rfl #[.agg #[.slice A0_0 l0_0.length c0_0, .slice A0_1 l0_1.length c0_1, .int .i64 a0_2], .slice A1 l1.length c1] rfl (by (try simp only [List.map_toArray, List.map_cons, List.map_nil]); first | done | rfl | (simp only [List.length_drop, List.length_take]; rfl)) ?_; (with_reducible refine (emendateref36_Apply.calls kj4 _ _ l0_0 _ _ l0_1 a0_2 _ _ l1 t376 t379 _ ?side1 ?side2 ?side3 ?side4 ?side5 ?side6 A16.out).mono ?_); (case side1 => exact sd (Kd.C_below HR0_0.out HB.out)); (case side2 => exact HC0_0.out); (case side3 => exact sd (Kd.C_below HR0_1.out HB.out)); (case side4 => exact HC0_1.out); (case side5 => exact sd (Kd.C_below HR1.out HB.out)); (case side6 => exact HC1.out); rintro e w26 ⟨v377, rfl, ho0, hb⟩; refine ⟨_, rfl, ?_⟩; have n0_ := Aside0.mk (Kd.R_elder' (pR HO374.out) (Kd.R_base ho0) hb); have n1_ := Aside0.mk (Kd.R_lower (Kd.R_new' ho0 (Kd.R_lt (pR HO374.out))) (below_size (pb HB.out GE369.out))); have n2_ := Aside0.mk (blk_below (g := gb369) (o := .cells #[.slice A0_0 l0_0.length c0_0, .slice A0_1 l0_1.length c0_1, .int .i64 a0_2] 25 (0, 0)) (pk BK369.out) hb); have n3_ := Aside0.mk (below_step (pb HB.out GE369.out) hb); clear HO374; clear BK369; clear HB; have HO374 := n0_; have HO378 := n1_; have BK369 := n2_; have HB := n3_; clear n0_ n1_ n2_ n3_; (try clear hb); (try clear hb2); (try clear hk); (try clear hi); (try clear ho0); have hcz27_0 : w26.cell? ⟨gb369, 0, none⟩ = some (.slice A0_0 l0_0.length c0_0) := (blk_cell BK369.out 0).trans rfl; have hcz27_1 : w26.cell? ⟨gb369, 1, none⟩ = some (.slice A0_1 l0_1.length c0_1) := (blk_cell BK369.out 1).trans rfl; have hcz27_2 : w26.cell? ⟨gb369, 2, none⟩ = some (.int .i64 a0_2) := (blk_cell BK369.out 2).trans rfl; have hfz27_0 := blk_frozen BK369.out 0; have hfz27_1 := blk_frozen BK369.out 1; have hfz27_2 := blk_frozen BK369.out 2) | ((with_reducible refine gate_callee (f := 17) rfl ?_); refine goesL_ (some 38) rfl rfl Tryd.func17 (by kernel_rfl) rfl #[.agg #[.slice A0_0 l0_0.length c0_0, .slice A0_1 l0_1.length c0_1, .int .i64 a0_2], .slice A1 l1.length c1] rfl (by (try simp only [List.map_toArray, List.map_cons, List.map_nil]); first | done | rfl | (simp only [List.length_drop, List.length_take]; rfl)) ?_; (with_reducible refine (editscript_Cost.calls kj4 _ _ l0_0 _ _ l0_1 a0_2 _ _ l1 t380 t381 _ ?side1 ?side2 ?side3 ?side4 ?side5 ?side6 (HV.out.below (pb HB.out GE369.out) rfl) A17.out).mono ?_); (case side1 => exact sd (Kd.C_below HR0_0.out HB.out)); (case side2 => exact HC0_0.out); (case side3 => exact sd (Kd.C_below HR0_1.out HB.out)); (case side4 => exact HC0_1.out); (case side5 => exact sd (Kd.C_below HR1.out HB.out)); (case side6 => exact HC1.out); rintro e w28 ⟨rfl, hb⟩; refine ⟨_, rfl, ?_⟩; have n0_ := Aside0.mk (Kd.R_below (pR HO374.out) hb); have n1_ := Aside0.mk (Kd.R_below (pR HO378.out) hb); have n2_ := Aside0.mk (blk_below (g := gb369) (o := .cells #[.slice A0_0 l0_0.length c0_0, .slice A0_1 l0_1.length c0_1, .int .i64 a0_2] 25 (0, 0)) (pk BK369.out) hb); have n3_ := Aside0.mk (below_step (pb HB.out GE369.out) hb); clear HO374; clear HO378; clear BK369; clear HB; have HO374 := n0_; have HO378 := n1_; have BK369 := n2_; have HB := n3_; clear n0_ n1_ n2_ n3_; (try clear hb); (try clear hb2); (try clear hk); (try clear hi); have hcz29_0 : w28.cell? ⟨gb369, 0, none⟩ = some (.slice A0_0 l0_0.length c0_0) := (blk_cell BK369.out 0).trans rfl; have hcz29_1 : w28.cell? ⟨gb369, 1, none⟩ = some (.slice A0_1 l0_1.length c0_1) := (blk_cell BK369.out 1).trans rfl; have hcz29_2 : w28.cell? ⟨gb369, 2, none⟩ = some (.int .i64 a0_2) := (blk_cell BK369.out 2).trans rfl; have hfz29_0 := blk_frozen BK369.out 0; have hfz29_1 := blk_frozen BK369.out 1; have hfz29_2 := blk_frozen BK369.out 2) | ((with_reducible refine gate_callee (f := 18) rfl ?_); refine goesL_ (some 44) rfl rfl Tryd.func18 (by kernel_rfl) rfl #[.agg #[.slice A0_0 l0_0.length c0_0, .slice A0_1 l0_1.length c0_1, .int .i64 a0_2], .slice A1 l1.length c1] rfl (by (try simp only [List.map_toArray, List.map_cons, List.map_nil]); first | done | rfl | (simp only [List.length_drop, List.length_take]; rfl)) ?_; (with_reducible refine (emendateref36_Cost.calls kj4 _ _ l0_0 _ _ l0_1 a0_2 _ _ l1 t382 t383 _ ?side1 ?side2 ?side3 ?side4 ?side5 ?side6 A18.out).mono ?_); (case side1 => exact sd (Kd.C_below HR0_0.out HB.out)); (case side2 => exact HC0_0.out); (case side3 => exact sd (Kd.C_below HR0_1.out HB.out)); (case side4 => exact HC0_1.out); (case side5 => exact sd (Kd.C_below HR1.out HB.out)); (case side6 => exact HC1.out); rintro e w30 ⟨rfl, hb⟩; refine ⟨_, rfl, ?_⟩; have n0_ := Aside0.mk (Kd.R_below (pR HO374.out) hb); have n1_ := Aside0.mk (Kd.R_below (pR HO378.out) hb); have n2_ := Aside0.mk (blk_below (g := gb369) (o := .cells #[.slice A0_0 l0_0.length c0_0, .slice A0_1 l0_1.length c0_1, .int .i64 a0_2] 25 (0, 0)) (pk BK369.out) hb); have n3_ := Aside0.mk (below_step (pb HB.out GE369.out) hb); clear HO374; clear HO378; clear BK369; clear HB; have HO374 := n0_; have HO378 := n1_; have BK369 := n2_; have HB := n3_; clear n0_ n1_ n2_ n3_; (try clear hb); (try clear hb2); (try clear hk); (try clear hi); obtain ⟨Ao31, co31, eo31⟩ := Kd.R_slice HO374.out; subst eo31; obtain ⟨Ao32, co32, eo32⟩ := Kd.R_slice HO378.out; subst eo32) | (go_at_call 13; (with_reducible refine (emendateref27_SameInts.calls kj4 _ _ t372 _ _ t376 t384 _ ?side1 ?side2 ?side3 ?side4 A22.out).mono ?_); (case side1 => exact sd (Kd.R_reads' HO374.out).2.2); (case side2 => exact (Kd.R_reads' HO374.out).2.1); (case side3 => exact sd (Kd.R_reads' HO378.out).2.2); (case side4 => exact (Kd.R_reads' HO378.out).2.1); rintro e w' ⟨rfl, ⟨nd, rfl⟩⟩))
        go_ret
        exact ⟨by first | rfl | (simp [errW_none, errW_some] <;> rfl) | (simp [*, errW_none, errW_some] <;> rfl), by repeat (first | (with_reducible first | exact HB.out | apply below_alloc | apply pw_below_drewN | apply below_drew1 | refine below_set ?_ GE369.out) | exact HB.out)⟩
       ·
        rw [if_neg c21] at H
        have c21b0 : (t380 == t382) = false := beq_eq_false_iff_ne.mpr c21
        have c21b1 : (t380 != t382) = true := bne_iff_ne.mpr c21
        obtain rfl := Option.some.inj H
        have hcz33_0 : wc.cell? ⟨gb369, 0, none⟩ = some (.slice A0_0 l0_0.length c0_0) := (blk_cell BK369.out 0).trans rfl
        have hcz33_1 : wc.cell? ⟨gb369, 1, none⟩ = some (.slice A0_1 l0_1.length c0_1) := (blk_cell BK369.out 1).trans rfl
        have hcz33_2 : wc.cell? ⟨gb369, 2, none⟩ = some (.int .i64 a0_2) := (blk_cell BK369.out 2).trans rfl
        have hfz33_0 := blk_frozen BK369.out 0
        have hfz33_1 := blk_frozen BK369.out 1
        have hfz33_2 := blk_frozen BK369.out 2
        go_wp2_with (first | ((with_reducible refine gate_callee (f := 15) rfl ?_); refine goesL_ (some 26) rfl rfl Tryd.func15 (by kernel_rfl) rfl #[.agg #[.slice A0_0 l0_0.length c0_0, .slice A0_1 l0_1.length c0_1, .int .i64 a0_2], .slice A1 l1.length c1] rfl (by (try simp only [List.map_toArray, List.map_cons, List.map_nil]); first | done | rfl | (simp only [List.length_drop, List.length_take]; rfl)) ?_; (with_reducible refine (editscript_Apply.calls kj4 _ _ l0_0 _ _ l0_1 a0_2 _ _ l1 t372 t375 _ ?side1 ?side2 ?side3 ?side4 ?side5 ?side6 (HV.out.below (pb HB.out GE369.out) rfl) A15.out).mono ?_); (case side1 => exact sd (Kd.C_below HR0_0.out HB.out)); (case side2 => exact HC0_0.out); (case side3 => exact sd (Kd.C_below HR0_1.out HB.out)); (case side4 => exact HC0_1.out); (case side5 => exact sd (Kd.C_below HR1.out HB.out)); (case side6 => exact HC1.out); rintro e w34 ⟨v373, rfl, ho0, hb⟩; refine ⟨_, rfl, ?_⟩; have n0_ := Aside0.mk (Kd.R_lower ho0 (below_size (pb HB.out GE369.out))); have n1_ := Aside0.mk (blk_below (g := gb369) (o := .cells #[.slice A0_0 l0_0.length c0_0, .slice A0_1 l0_1.length c0_1, .int .i64 a0_2] 25 (0, 0)) (pk BK369.out) hb); have n2_ := Aside0.mk (below_step (pb HB.out GE369.out) hb); clear BK369; clear HB; have HO374 := n0_; have BK369 := n1_; have HB := n2_; clear n0_ n1_ n2_; (try clear hb); (try clear hb2); (try clear hk); (try clear hi); (try clear ho0); have hcz35_0 : w34.cell? ⟨gb369, 0, none⟩ = some (.slice A0_0 l0_0.length c0_0) := (blk_cell BK369.out 0).trans rfl; have hcz35_1 : w34.cell? ⟨gb369, 1, none⟩ = some (.slice A0_1 l0_1.length c0_1) := (blk_cell BK369.out 1).trans rfl; have hcz35_2 : w34.cell? ⟨gb369, 2, none⟩ = some (.int .i64 a0_2) := (blk_cell BK369.out 2).trans rfl; have hfz35_0 := blk_frozen BK369.out 0; have hfz35_1 := blk_frozen BK369.out 1; have hfz35_2 := blk_frozen BK369.out 2) | ((with_reducible refine gate_callee (f := 16) rfl ?_); refine goesL_ (some 32) rfl rfl Tryd.func16 (by kernel_rfl) rfl #[.agg #[.slice A0_0 l0_0.length c0_0, .slice A0_1 l0_1.length c0_1, .int .i64 a0_2], .slice A1 l1.length c1] rfl (by (try simp only [List.map_toArray, List.map_cons, List.map_nil]); first | done | rfl | (simp only [List.length_drop, List.length_take]; rfl)) ?_; (with_reducible refine (emendateref36_Apply.calls kj4 _ _ l0_0 _ _ l0_1 a0_2 _ _ l1 t376 t379 _ ?side1 ?side2 ?side3 ?side4 ?side5 ?side6 A16.out).mono ?_); (case side1 => exact sd (Kd.C_below HR0_0.out HB.out)); (case side2 => exact HC0_0.out); (case side3 => exact sd (Kd.C_below HR0_1.out HB.out)); (case side4 => exact HC0_1.out); (case side5 => exact sd (Kd.C_below HR1.out HB.out)); (case side6 => exact HC1.out); rintro e w36 ⟨v377, rfl, ho0, hb⟩; refine ⟨_, rfl, ?_⟩; have n0_ := Aside0.mk (Kd.R_elder' (pR HO374.out) (Kd.R_base ho0) hb); have n1_ := Aside0.mk (Kd.R_lower (Kd.R_new' ho0 (Kd.R_lt (pR HO374.out))) (below_size (pb HB.out GE369.out))); have n2_ := Aside0.mk (blk_below (g := gb369) (o := .cells #[.slice A0_0 l0_0.length c0_0, .slice A0_1 l0_1.length c0_1, .int .i64 a0_2] 25 (0, 0)) (pk BK369.out) hb); have n3_ := Aside0.mk (below_step (pb HB.out GE369.out) hb); clear HO374; clear BK369; clear HB; have HO374 := n0_; have HO378 := n1_; have BK369 := n2_; have HB := n3_; clear n0_ n1_ n2_ n3_; (try clear hb); (try clear hb2); (try clear hk); (try clear hi); (try clear ho0); have hcz37_0 : w36.cell? ⟨gb369, 0, none⟩ = some (.slice A0_0 l0_0.length c0_0) := (blk_cell BK369.out 0).trans rfl; have hcz37_1 : w36.cell? ⟨gb369, 1, none⟩ = some (.slice A0_1 l0_1.length c0_1) := (blk_cell BK369.out 1).trans rfl; have hcz37_2 : w36.cell? ⟨gb369, 2, none⟩ = some (.int .i64 a0_2) := (blk_cell BK369.out 2).trans rfl; have hfz37_0 := blk_frozen BK369.out 0; have hfz37_1 := blk_frozen BK369.out 1; have hfz37_2 := blk_frozen BK369.out 2) | ((with_reducible refine gate_callee (f := 17) rfl ?_); refine goesL_ (some 38) rfl rfl Tryd.func17 (by kernel_rfl) rfl #[.agg #[.slice A0_0 l0_0.length c0_0, .slice A0_1 l0_1.length c0_1, .int .i64 a0_2], .slice A1 l1.length c1] rfl (by (try simp only [List.map_toArray, List.map_cons, List.map_nil]); first | done | rfl | (simp only [List.length_drop, List.length_take]; rfl)) ?_; (with_reducible refine (editscript_Cost.calls kj4 _ _ l0_0 _ _ l0_1 a0_2 _ _ l1 t380 t381 _ ?side1 ?side2 ?side3 ?side4 ?side5 ?side6 (HV.out.below (pb HB.out GE369.out) rfl) A17.out).mono ?_); (case side1 => exact sd (Kd.C_below HR0_0.out HB.out)); (case side2 => exact HC0_0.out); (case side3 => exact sd (Kd.C_below HR0_1.out HB.out)); (case side4 => exact HC0_1.out); (case side5 => exact sd (Kd.C_below HR1.out HB.out)); (case side6 => exact HC1.out); rintro e w38 ⟨rfl, hb⟩; refine ⟨_, rfl, ?_⟩; have n0_ := Aside0.mk (Kd.R_below (pR HO374.out) hb); have n1_ := Aside0.mk (Kd.R_below (pR HO378.out) hb); have n2_ := Aside0.mk (blk_below (g := gb369) (o := .cells #[.slice A0_0 l0_0.length c0_0, .slice A0_1 l0_1.length c0_1, .int .i64 a0_2] 25 (0, 0)) (pk BK369.out) hb); have n3_ := Aside0.mk (below_step (pb HB.out GE369.out) hb); clear HO374; clear HO378; clear BK369; clear HB; have HO374 := n0_; have HO378 := n1_; have BK369 := n2_; have HB := n3_; clear n0_ n1_ n2_ n3_; (try clear hb); (try clear hb2); (try clear hk); (try clear hi); have hcz39_0 : w38.cell? ⟨gb369, 0, none⟩ = some (.slice A0_0 l0_0.length c0_0) := (blk_cell BK369.out 0).trans rfl; have hcz39_1 : w38.cell? ⟨gb369, 1, none⟩ = some (.slice A0_1 l0_1.length c0_1) := (blk_cell BK369.out 1).trans rfl; have hcz39_2 : w38.cell? ⟨gb369, 2, none⟩ = some (.int .i64 a0_2) := (blk_cell BK369.out 2).trans rfl; have hfz39_0 := blk_frozen BK369.out 0; have hfz39_1 := blk_frozen BK369.out 1; have hfz39_2 := blk_frozen BK369.out 2) | ((with_reducible refine gate_callee (f := 18) rfl ?_); refine goesL_ (some 44) rfl rfl Tryd.func18 (by kernel_rfl) rfl #[.agg #[.slice A0_0 l0_0.length c0_0, .slice A0_1 l0_1.length c0_1, .int .i64 a0_2], .slice A1 l1.length c1] rfl (by (try simp only [List.map_toArray, List.map_cons, List.map_nil]); first | done | rfl | (simp only [List.length_drop, List.length_take]; rfl)) ?_; (with_reducible refine (emendateref36_Cost.calls kj4 _ _ l0_0 _ _ l0_1 a0_2 _ _ l1 t382 t383 _ ?side1 ?side2 ?side3 ?side4 ?side5 ?side6 A18.out).mono ?_); (case side1 => exact sd (Kd.C_below HR0_0.out HB.out)); (case side2 => exact HC0_0.out); (case side3 => exact sd (Kd.C_below HR0_1.out HB.out)); (case side4 => exact HC0_1.out); (case side5 => exact sd (Kd.C_below HR1.out HB.out)); (case side6 => exact HC1.out); rintro e w40 ⟨rfl, hb⟩; refine ⟨_, rfl, ?_⟩; have n0_ := Aside0.mk (Kd.R_below (pR HO374.out) hb); have n1_ := Aside0.mk (Kd.R_below (pR HO378.out) hb); have n2_ := Aside0.mk (blk_below (g := gb369) (o := .cells #[.slice A0_0 l0_0.length c0_0, .slice A0_1 l0_1.length c0_1, .int .i64 a0_2] 25 (0, 0)) (pk BK369.out) hb); have n3_ := Aside0.mk (below_step (pb HB.out GE369.out) hb); clear HO374; clear HO378; clear BK369; clear HB; have HO374 := n0_; have HO378 := n1_; have BK369 := n2_; have HB := n3_; clear n0_ n1_ n2_ n3_; (try clear hb); (try clear hb2); (try clear hk); (try clear hi)))
        go_ret
        exact ⟨by first | rfl | (simp [errW_none, errW_some] <;> rfl) | (simp [*, errW_none, errW_some] <;> rfl), by repeat (first | (with_reducible first | exact HB.out | apply below_alloc | apply pw_below_drewN | apply below_drew1 | refine below_set ?_ GE369.out) | exact HB.out)⟩
      ·
       rw [if_neg c20] at H
       have c20b0 : (t381 == t383) = false := beq_eq_false_iff_ne.mpr c20
       have c20b1 : (t381 != t383) = true := bne_iff_ne.mpr c20
       obtain rfl := Option.some.inj H
       have hcz41_0 : wc.cell? ⟨gb369, 0, none⟩ = some (.slice A0_0 l0_0.length c0_0) := (blk_cell BK369.out 0).trans rfl
       have hcz41_1 : wc.cell? ⟨gb369, 1, none⟩ = some (.slice A0_1 l0_1.length c0_1) := (blk_cell BK369.out 1).trans rfl
       have hcz41_2 : wc.cell? ⟨gb369, 2, none⟩ = some (.int .i64 a0_2) := (blk_cell BK369.out 2).trans rfl
       have hfz41_0 := blk_frozen BK369.out 0
       have hfz41_1 := blk_frozen BK369.out 1
       have hfz41_2 := blk_frozen BK369.out 2
       go_wp2_with (first | ((with_reducible refine gate_callee (f := 15) rfl ?_); refine goesL_ (some 26) rfl rfl Tryd.func15 (by kernel_rfl) rfl #[.agg #[.slice A0_0 l0_0.length c0_0, .slice A0_1 l0_1.length c0_1, .int .i64 a0_2], .slice A1 l1.length c1] rfl (by (try simp only [List.map_toArray, List.map_cons, List.map_nil]); first | done | rfl | (simp only [List.length_drop, List.length_take]; rfl)) ?_; (with_reducible refine (editscript_Apply.calls kj4 _ _ l0_0 _ _ l0_1 a0_2 _ _ l1 t372 t375 _ ?side1 ?side2 ?side3 ?side4 ?side5 ?side6 (HV.out.below (pb HB.out GE369.out) rfl) A15.out).mono ?_); (case side1 => exact sd (Kd.C_below HR0_0.out HB.out)); (case side2 => exact HC0_0.out); (case side3 => exact sd (Kd.C_below HR0_1.out HB.out)); (case side4 => exact HC0_1.out); (case side5 => exact sd (Kd.C_below HR1.out HB.out)); (case side6 => exact HC1.out); rintro e w42 ⟨v373, rfl, ho0, hb⟩; refine ⟨_, rfl, ?_⟩; have n0_ := Aside0.mk (Kd.R_lower ho0 (below_size (pb HB.out GE369.out))); have n1_ := Aside0.mk (blk_below (g := gb369) (o := .cells #[.slice A0_0 l0_0.length c0_0, .slice A0_1 l0_1.length c0_1, .int .i64 a0_2] 25 (0, 0)) (pk BK369.out) hb); have n2_ := Aside0.mk (below_step (pb HB.out GE369.out) hb); clear BK369; clear HB; have HO374 := n0_; have BK369 := n1_; have HB := n2_; clear n0_ n1_ n2_; (try clear hb); (try clear hb2); (try clear hk); (try clear hi); (try clear ho0); have hcz43_0 : w42.cell? ⟨gb369, 0, none⟩ = some (.slice A0_0 l0_0.length c0_0) := (blk_cell BK369.out 0).trans rfl; have hcz43_1 : w42.cell? ⟨gb369, 1, none⟩ = some (.slice A0_1 l0_1.length c0_1) := (blk_cell BK369.out 1).trans rfl; have hcz43_2 : w42.cell? ⟨gb369, 2, none⟩ = some (.int .i64 a0_2) := (blk_cell BK369.out 2).trans rfl; have hfz43_0 := blk_frozen BK369.out 0; have hfz43_1 := blk_frozen BK369.out 1; have hfz43_2 := blk_frozen BK369.out 2) | ((with_reducible refine gate_callee (f := 16) rfl ?_); refine goesL_ (some 32) rfl rfl Tryd.func16 (by kernel_rfl) rfl #[.agg #[.slice A0_0 l0_0.length c0_0, .slice A0_1 l0_1.length c0_1, .int .i64 a0_2], .slice A1 l1.length c1] rfl (by (try simp only [List.map_toArray, List.map_cons, List.map_nil]); first | done | rfl | (simp only [List.length_drop, List.length_take]; rfl)) ?_; (with_reducible refine (emendateref36_Apply.calls kj4 _ _ l0_0 _ _ l0_1 a0_2 _ _ l1 t376 t379 _ ?side1 ?side2 ?side3 ?side4 ?side5 ?side6 A16.out).mono ?_); (case side1 => exact sd (Kd.C_below HR0_0.out HB.out)); (case side2 => exact HC0_0.out); (case side3 => exact sd (Kd.C_below HR0_1.out HB.out)); (case side4 => exact HC0_1.out); (case side5 => exact sd (Kd.C_below HR1.out HB.out)); (case side6 => exact HC1.out); rintro e w44 ⟨v377, rfl, ho0, hb⟩; refine ⟨_, rfl, ?_⟩; have n0_ := Aside0.mk (Kd.R_elder' (pR HO374.out) (Kd.R_base ho0) hb); have n1_ := Aside0.mk (Kd.R_lower (Kd.R_new' ho0 (Kd.R_lt (pR HO374.out))) (below_size (pb HB.out GE369.out))); have n2_ := Aside0.mk (blk_below (g := gb369) (o := .cells #[.slice A0_0 l0_0.length c0_0, .slice A0_1 l0_1.length c0_1, .int .i64 a0_2] 25 (0, 0)) (pk BK369.out) hb); have n3_ := Aside0.mk (below_step (pb HB.out GE369.out) hb); clear HO374; clear BK369; clear HB; have HO374 := n0_; have HO378 := n1_; have BK369 := n2_; have HB := n3_; clear n0_ n1_ n2_ n3_; (try clear hb); (try clear hb2); (try clear hk); (try clear hi); (try clear ho0); have hcz45_0 : w44.cell? ⟨gb369, 0, none⟩ = some (.slice A0_0 l0_0.length c0_0) := (blk_cell BK369.out 0).trans rfl; have hcz45_1 : w44.cell? ⟨gb369, 1, none⟩ = some (.slice A0_1 l0_1.length c0_1) := (blk_cell BK369.out 1).trans rfl; have hcz45_2 : w44.cell? ⟨gb369, 2, none⟩ = some (.int .i64 a0_2) := (blk_cell BK369.out 2).trans rfl; have hfz45_0 := blk_frozen BK369.out 0; have hfz45_1 := blk_frozen BK369.out 1; have hfz45_2 := blk_frozen BK369.out 2) | ((with_reducible refine gate_callee (f := 17) rfl ?_); refine goesL_ (some 38) rfl rfl Tryd.func17 (by kernel_rfl) rfl #[.agg #[.slice A0_0 l0_0.length c0_0, .slice A0_1 l0_1.length c0_1, .int .i64 a0_2], .slice A1 l1.length c1] rfl (by (try simp only [List.map_toArray, List.map_cons, List.map_nil]); first | done | rfl | (simp only [List.length_drop, List.length_take]; rfl)) ?_; (with_reducible refine (editscript_Cost.calls kj4 _ _ l0_0 _ _ l0_1 a0_2 _ _ l1 t380 t381 _ ?side1 ?side2 ?side3 ?side4 ?side5 ?side6 (HV.out.below (pb HB.out GE369.out) rfl) A17.out).mono ?_); (case side1 => exact sd (Kd.C_below HR0_0.out HB.out)); (case side2 => exact HC0_0.out); (case side3 => exact sd (Kd.C_below HR0_1.out HB.out)); (case side4 => exact HC0_1.out); (case side5 => exact sd (Kd.C_below HR1.out HB.out)); (case side6 => exact HC1.out); rintro e w46 ⟨rfl, hb⟩; refine ⟨_, rfl, ?_⟩; have n0_ := Aside0.mk (Kd.R_below (pR HO374.out) hb); have n1_ := Aside0.mk (Kd.R_below (pR HO378.out) hb); have n2_ := Aside0.mk (blk_below (g := gb369) (o := .cells #[.slice A0_0 l0_0.length c0_0, .slice A0_1 l0_1.length c0_1, .int .i64 a0_2] 25 (0, 0)) (pk BK369.out) hb); have n3_ := Aside0.mk (below_step (pb HB.out GE369.out) hb); clear HO374; clear HO378; clear BK369; clear HB; have HO374 := n0_; have HO378 := n1_; have BK369 := n2_; have HB := n3_; clear n0_ n1_ n2_ n3_; (try clear hb); (try clear hb2); (try clear hk); (try clear hi); have hcz47_0 : w46.cell? ⟨gb369, 0, none⟩ = some (.slice A0_0 l0_0.length c0_0) := (blk_cell BK369.out 0).trans rfl; have hcz47_1 : w46.cell? ⟨gb369, 1, none⟩ = some (.slice A0_1 l0_1.length c0_1) := (blk_cell BK369.out 1).trans rfl; have hcz47_2 : w46.cell? ⟨gb369, 2, none⟩ = some (.int .i64 a0_2) := (blk_cell BK369.out 2).trans rfl; have hfz47_0 := blk_frozen BK369.out 0; have hfz47_1 := blk_frozen BK369.out 1; have hfz47_2 := blk_frozen BK369.out 2) | ((with_reducible refine gate_callee (f := 18) rfl ?_); refine goesL_ (some 44) rfl rfl Tryd.func18 (by kernel_rfl) rfl #[.agg #[.slice A0_0 l0_0.length c0_0, .slice A0_1 l0_1.length c0_1, .int .i64 a0_2], .slice A1 l1.length c1] rfl (by (try simp only [List.map_toArray, List.map_cons, List.map_nil]); first | done | rfl | (simp only [List.length_drop, List.length_take]; rfl)) ?_; (with_reducible refine (emendateref36_Cost.calls kj4 _ _ l0_0 _ _ l0_1 a0_2 _ _ l1 t382 t383 _ ?side1 ?side2 ?side3 ?side4 ?side5 ?side6 A18.out).mono ?_); (case side1 => exact sd (Kd.C_below HR0_0.out HB.out)); (case side2 => exact HC0_0.out); (case side3 => exact sd (Kd.C_below HR0_1.out HB.out)); (case side4 => exact HC0_1.out); (case side5 => exact sd (Kd.C_below HR1.out HB.out)); (case side6 => exact HC1.out); rintro e w48 ⟨rfl, hb⟩; refine ⟨_, rfl, ?_⟩; have n0_ := Aside0.mk (Kd.R_below (pR HO374.out) hb); have n1_ := Aside0.mk (Kd.R_below (pR HO378.out) hb); have n2_ := Aside0.mk (blk_below (g := gb369) (o := .cells #[.slice A0_0 l0_0.length c0_0, .slice A0_1 l0_1.length c0_1, .int .i64 a0_2] 25 (0, 0)) (pk BK369.out) hb); have n3_ := Aside0.mk (below_step (pb HB.out GE369.out) hb); clear HO374; clear HO378; clear BK369; clear HB; have HO374 := n0_; have HO378 := n1_; have BK369 := n2_; have HB := n3_; clear n0_ n1_ n2_ n3_; (try clear hb); (try clear hb2); (try clear hk); (try clear hi)))
       go_ret
       exact ⟨by first | rfl | (simp [errW_none, errW_some] <;> rfl) | (simp [*, errW_none, errW_some] <;> rfl), by repeat (first | (with_reducible first | exact HB.out | apply below_alloc | apply pw_below_drewN | apply below_drew1 | refine below_set ?_ GE369.out) | exact HB.out)⟩
     ·
      rw [if_neg c19] at H
      have c19b0 : (t375 == t379) = false := beq_eq_false_iff_ne.mpr c19
      have c19b1 : (t375 != t379) = true := bne_iff_ne.mpr c19
      obtain rfl := Option.some.inj H
      have hcz49_0 : wc.cell? ⟨gb369, 0, none⟩ = some (.slice A0_0 l0_0.length c0_0) := (blk_cell BK369.out 0).trans rfl
      have hcz49_1 : wc.cell? ⟨gb369, 1, none⟩ = some (.slice A0_1 l0_1.length c0_1) := (blk_cell BK369.out 1).trans rfl
      have hcz49_2 : wc.cell? ⟨gb369, 2, none⟩ = some (.int .i64 a0_2) := (blk_cell BK369.out 2).trans rfl
      have hfz49_0 := blk_frozen BK369.out 0
      have hfz49_1 := blk_frozen BK369.out 1
      have hfz49_2 := blk_frozen BK369.out 2
      go_wp2_with (first | ((with_reducible refine gate_callee (f := 15) rfl ?_); refine goesL_ (some 26) rfl rfl Tryd.func15 (by kernel_rfl) rfl #[.agg #[.slice A0_0 l0_0.length c0_0, .slice A0_1 l0_1.length c0_1, .int .i64 a0_2], .slice A1 l1.length c1] rfl (by (try simp only [List.map_toArray, List.map_cons, List.map_nil]); first | done | rfl | (simp only [List.length_drop, List.length_take]; rfl)) ?_; (with_reducible refine (editscript_Apply.calls kj4 _ _ l0_0 _ _ l0_1 a0_2 _ _ l1 t372 t375 _ ?side1 ?side2 ?side3 ?side4 ?side5 ?side6 (HV.out.below (pb HB.out GE369.out) rfl) A15.out).mono ?_); (case side1 => exact sd (Kd.C_below HR0_0.out HB.out)); (case side2 => exact HC0_0.out); (case side3 => exact sd (Kd.C_below HR0_1.out HB.out)); (case side4 => exact HC0_1.out); (case side5 => exact sd (Kd.C_below HR1.out HB.out)); (case side6 => exact HC1.out); rintro e w50 ⟨v373, rfl, ho0, hb⟩; refine ⟨_, rfl, ?_⟩; have n0_ := Aside0.mk (Kd.R_lower ho0 (below_size (pb HB.out GE369.out))); have n1_ := Aside0.mk (blk_below (g := gb369) (o := .cells #[.slice A0_0 l0_0.length c0_0, .slice A0_1 l0_1.length c0_1, .int .i64 a0_2] 25 (0, 0)) (pk BK369.out) hb); have n2_ := Aside0.mk (below_step (pb HB.out GE369.out) hb); clear BK369; clear HB; have HO374 := n0_; have BK369 := n1_; have HB := n2_; clear n0_ n1_ n2_; (try clear hb); (try clear hb2); (try clear hk); (try clear hi); (try clear ho0); have hcz51_0 : w50.cell? ⟨gb369, 0, none⟩ = some (.slice A0_0 l0_0.length c0_0) := (blk_cell BK369.out 0).trans rfl; have hcz51_1 : w50.cell? ⟨gb369, 1, none⟩ = some (.slice A0_1 l0_1.length c0_1) := (blk_cell BK369.out 1).trans rfl; have hcz51_2 : w50.cell? ⟨gb369, 2, none⟩ = some (.int .i64 a0_2) := (blk_cell BK369.out 2).trans rfl; have hfz51_0 := blk_frozen BK369.out 0; have hfz51_1 := blk_frozen BK369.out 1; have hfz51_2 := blk_frozen BK369.out 2) | ((with_reducible refine gate_callee (f := 16) rfl ?_); refine goesL_ (some 32) rfl rfl Tryd.func16 (by kernel_rfl) rfl #[.agg #[.slice A0_0 l0_0.length c0_0, .slice A0_1 l0_1.length c0_1, .int .i64 a0_2], .slice A1 l1.length c1] rfl (by (try simp only [List.map_toArray, List.map_cons, List.map_nil]); first | done | rfl | (simp only [List.length_drop, List.length_take]; rfl)) ?_; (with_reducible refine (emendateref36_Apply.calls kj4 _ _ l0_0 _ _ l0_1 a0_2 _ _ l1 t376 t379 _ ?side1 ?side2 ?side3 ?side4 ?side5 ?side6 A16.out).mono ?_); (case side1 => exact sd (Kd.C_below HR0_0.out HB.out)); (case side2 => exact HC0_0.out); (case side3 => exact sd (Kd.C_below HR0_1.out HB.out)); (case side4 => exact HC0_1.out); (case side5 => exact sd (Kd.C_below HR1.out HB.out)); (case side6 => exact HC1.out); rintro e w52 ⟨v377, rfl, ho0, hb⟩; refine ⟨_, rfl, ?_⟩; have n0_ := Aside0.mk (Kd.R_elder' (pR HO374.out) (Kd.R_base ho0) hb); have n1_ := Aside0.mk (Kd.R_lower (Kd.R_new' ho0 (Kd.R_lt (pR HO374.out))) (below_size (pb HB.out GE369.out))); have n2_ := Aside0.mk (blk_below (g := gb369) (o := .cells #[.slice A0_0 l0_0.length c0_0, .slice A0_1 l0_1.length c0_1, .int .i64 a0_2] 25 (0, 0)) (pk BK369.out) hb); have n3_ := Aside0.mk (below_step (pb HB.out GE369.out) hb); clear HO374; clear BK369; clear HB; have HO374 := n0_; have HO378 := n1_; have BK369 := n2_; have HB := n3_; clear n0_ n1_ n2_ n3_; (try clear hb); (try clear hb2); (try clear hk); (try clear hi); (try clear ho0); have hcz53_0 : w52.cell? ⟨gb369, 0, none⟩ = some (.slice A0_0 l0_0.length c0_0) := (blk_cell BK369.out 0).trans rfl; have hcz53_1 : w52.cell? ⟨gb369, 1, none⟩ = some (.slice A0_1 l0_1.length c0_1) := (blk_cell BK369.out 1).trans rfl; have hcz53_2 : w52.cell? ⟨gb369, 2, none⟩ = some (.int .i64 a0_2) := (blk_cell BK369.out 2).trans rfl; have hfz53_0 := blk_frozen BK369.out 0; have hfz53_1 := blk_frozen BK369.out 1; have hfz53_2 := blk_frozen BK369.out 2) | ((with_reducible refine gate_callee (f := 17) rfl ?_); refine goesL_ (some 38) rfl rfl Tryd.func17 (by kernel_rfl) rfl #[.agg #[.slice A0_0 l0_0.length c0_0, .slice A0_1 l0_1.length c0_1, .int .i64 a0_2], .slice A1 l1.length c1] rfl (by (try simp only [List.map_toArray, List.map_cons, List.map_nil]); first | done | rfl | (simp only [List.length_drop, List.length_take]; rfl)) ?_; (with_reducible refine (editscript_Cost.calls kj4 _ _ l0_0 _ _ l0_1 a0_2 _ _ l1 t380 t381 _ ?side1 ?side2 ?side3 ?side4 ?side5 ?side6 (HV.out.below (pb HB.out GE369.out) rfl) A17.out).mono ?_); (case side1 => exact sd (Kd.C_below HR0_0.out HB.out)); (case side2 => exact HC0_0.out); (case side3 => exact sd (Kd.C_below HR0_1.out HB.out)); (case side4 => exact HC0_1.out); (case side5 => exact sd (Kd.C_below HR1.out HB.out)); (case side6 => exact HC1.out); rintro e w54 ⟨rfl, hb⟩; refine ⟨_, rfl, ?_⟩; have n0_ := Aside0.mk (Kd.R_below (pR HO374.out) hb); have n1_ := Aside0.mk (Kd.R_below (pR HO378.out) hb); have n2_ := Aside0.mk (blk_below (g := gb369) (o := .cells #[.slice A0_0 l0_0.length c0_0, .slice A0_1 l0_1.length c0_1, .int .i64 a0_2] 25 (0, 0)) (pk BK369.out) hb); have n3_ := Aside0.mk (below_step (pb HB.out GE369.out) hb); clear HO374; clear HO378; clear BK369; clear HB; have HO374 := n0_; have HO378 := n1_; have BK369 := n2_; have HB := n3_; clear n0_ n1_ n2_ n3_; (try clear hb); (try clear hb2); (try clear hk); (try clear hi); have hcz55_0 : w54.cell? ⟨gb369, 0, none⟩ = some (.slice A0_0 l0_0.length c0_0) := (blk_cell BK369.out 0).trans rfl; have hcz55_1 : w54.cell? ⟨gb369, 1, none⟩ = some (.slice A0_1 l0_1.length c0_1) := (blk_cell BK369.out 1).trans rfl; have hcz55_2 : w54.cell? ⟨gb369, 2, none⟩ = some (.int .i64 a0_2) := (blk_cell BK369.out 2).trans rfl; have hfz55_0 := blk_frozen BK369.out 0; have hfz55_1 := blk_frozen BK369.out 1; have hfz55_2 := blk_frozen BK369.out 2) | ((with_reducible refine gate_callee (f := 18) rfl ?_); refine goesL_ (some 44) rfl rfl Tryd.func18 (by kernel_rfl) rfl #[.agg #[.slice A0_0 l0_0.length c0_0, .slice A0_1 l0_1.length c0_1, .int .i64 a0_2], .slice A1 l1.length c1] rfl (by (try simp only [List.map_toArray, List.map_cons, List.map_nil]); first | done | rfl | (simp only [List.length_drop, List.length_take]; rfl)) ?_; (with_reducible refine (emendateref36_Cost.calls kj4 _ _ l0_0 _ _ l0_1 a0_2 _ _ l1 t382 t383 _ ?side1 ?side2 ?side3 ?side4 ?side5 ?side6 A18.out).mono ?_); (case side1 => exact sd (Kd.C_below HR0_0.out HB.out)); (case side2 => exact HC0_0.out); (case side3 => exact sd (Kd.C_below HR0_1.out HB.out)); (case side4 => exact HC0_1.out); (case side5 => exact sd (Kd.C_below HR1.out HB.out)); (case side6 => exact HC1.out); rintro e w56 ⟨rfl, hb⟩; refine ⟨_, rfl, ?_⟩; have n0_ := Aside0.mk (Kd.R_below (pR HO374.out) hb); have n1_ := Aside0.mk (Kd.R_below (pR HO378.out) hb); have n2_ := Aside0.mk (blk_below (g := gb369) (o := .cells #[.slice A0_0 l0_0.length c0_0, .slice A0_1 l0_1.length c0_1, .int .i64 a0_2] 25 (0, 0)) (pk BK369.out) hb); have n3_ := Aside0.mk (below_step (pb HB.out GE369.out) hb); clear HO374; clear HO378; clear BK369; clear HB; have HO374 := n0_; have HO378 := n1_; have BK369 := n2_; have HB := n3_; clear n0_ n1_ n2_ n3_; (try clear hb); (try clear hb2); (try clear hk); (try clear hi)))
      go_ret
      exact ⟨by first | rfl | (simp [errW_none, errW_some] <;> rfl) | (simp [*, errW_none, errW_some] <;> rfl), by repeat (first | (with_reducible first | exact HB.out | apply below_alloc | apply pw_below_drewN | apply below_drew1 | refine below_set ?_ GE369.out) | exact HB.out)⟩
 ·
  replace c4 := Bool.eq_false_iff.mpr c4
  subst c4
  have H1 : (some false) = some r := by rw [if_neg (show ¬ (false = true) by decide)] at H; exact H
  clear H
  have H := H1
  clear H1
  obtain rfl := Option.some.inj H
  go_enter Tryd.func5, Tryd.ntmps5
  go_wp2_with (first | ((with_reducible refine gate_dst (N := 2) rfl ?_); (try (refine gate_guard (by rfl) ?_; dsimp only)); refine box_event ?hg (N := 2) ?hd (cs := #[.slice A0_0 l0_0.length c0_0, .slice A0_1 l0_1.length c0_1, .int .i64 a0_2]) (t := 25) ?hr ?_; (case hd => rfl); (case hg => rfl); (case hr => first | (go_simp; done) | (go_simp; rfl)); intro gb369 hg w57 hbox hb; have n0_ := Aside0.mk (below_step (pB HB.out) hb); have n1_ := Aside0.mk (hbox); have n2_ := Aside0.mk ((by rw [hg]; exact (below_size (pB HB.out)) : w.heap.size ≤ gb369)); have n3_ := Aside0.mk ((by rw [hg]; exact (below_size (pB HB.out)) : w.heap.size ≤ gb369)); clear HB; have HB := n0_; have BK369 := n1_; have GW369 := n2_; have GE369 := n3_; clear n0_ n1_ n2_ n3_; clear hb hbox hg) | ((with_reducible refine gate_callee (f := 11) rfl ?_); refine goesL_ (some 13) rfl rfl Tryd.func11 (by kernel_rfl) rfl #[] rfl (by (try simp only [List.map_toArray, List.map_cons, List.map_nil]); first | done | rfl | (simp only [List.length_drop, List.length_take]; rfl)) ?_; (with_reducible refine (emendatelaw36_awake.calls k  false _ (HV.out.below (pb HB.out GE369.out) rfl) A3.out).mono ?_); rintro e w58 ⟨rfl, hb⟩; refine ⟨_, rfl, ?_⟩; have n0_ := Aside0.mk (blk_below (g := gb369) (o := .cells #[.slice A0_0 l0_0.length c0_0, .slice A0_1 l0_1.length c0_1, .int .i64 a0_2] 25 (0, 0)) (pk BK369.out) hb); have n1_ := Aside0.mk (below_step (pb HB.out GE369.out) hb); clear BK369; clear HB; have BK369 := n0_; have HB := n1_; clear n0_ n1_; (try clear hb); (try clear hb2); (try clear hk); (try clear hi)))
  go_ret
  exact ⟨by first | rfl | (simp [errW_none, errW_some] <;> rfl) | (simp [*, errW_none, errW_some] <;> rfl), by repeat (first | (with_reducible first | exact HB.out | apply below_alloc | apply pw_below_drewN | apply below_drew1 | refine below_set ?_ GE369.out) | exact HB.out)⟩

end Go.Proofs.YtnddijafdphbnaaDoor.All
