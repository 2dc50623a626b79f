/- Some texts, one behind the other. -/
import Derived.Test.YtnddijafdphbnaaDoorAllSt
import Derived.Test.YtnddijafdphbnaaDoorAllx28
import Derived.Test.YtnddijafdphbnaaDoorAllx13
import Derived.Test.YtnddijafdphbnaaDoorAllx2
import Derived.Test.YtnddijafdphbnaaDoorAllx19
import Derived.Test.YtnddijafdphbnaaDoorAllx3
section
-- Printed by wip/tools/wprint.py (a program of this session over the kit's printer). Not trusted: Lean checks it.
namespace Go.Proofs.YtnddijafdphbnaaDoor.All
open Go.RowKit Go.Proofs.YtnddijafdphbnaaDoorW.PrintWords Go.Proofs.YtnddijafdphbnaaDoorW.PrintLast Go.Proofs.YtnddijafdphbnaaDoorW.PrintMore
attribute [local go_sem] max2_int min2_int max_two min_two max_three min_three max_four min_four   -- for this text's walks alone
set_option linter.unusedVariables false
set_option linter.unusedSimpArgs false

/-! ### emendateref36_table: function 32 -/
mutual
def emendateref36_table.l0 : Nat → List Int → Int → Int → List Int → Int → List (S33) → List Int → Int → Option (List Int)
 | 0, _, _, _, _, _, _, _, _ => none
 | k + 1, x1, x5, x6, x7, x8, x412000, x412001, x412002 => if x8 ≥ 0 then (emendateref36_table.l1 k x1 x5 x6 x7 x8 (x1.length : Int) x412000 x412001 x412002) else (some x7)
def emendateref36_table.l1 : Nat → List Int → Int → Int → List Int → Int → Int → List (S33) → List Int → Int → Option (List Int)
 | 0, _, _, _, _, _, _, _, _, _ => none
 | k + 1, x1, x5, x6, x7, x8, x9, x412000, x412001, x412002 => if x9 ≥ 0 then (if x8 = x5 then (emendateref36_table.j2 k x1 x5 x6 x7 x8 x9 1099511627776 (x9 == (x1.length : Int)) x412000 x412001 x412002) else (emendateref36_table.j2 k x1 x5 x6 x7 x8 x9 1099511627776 false x412000 x412001 x412002)) else (emendateref36_table.l0 k x1 x5 x6 x7 (wrap64 (x8 - 1)) x412000 x412001 x412002)
def emendateref36_table.j2 : Nat → List Int → Int → Int → List Int → Int → Int → Int → Bool → List (S33) → List Int → Int → Option (List Int)
 | 0, _, _, _, _, _, _, _, _, _, _, _ => none
 | k + 1, x1, x5, x6, x7, x8, x9, x10, x42, x412000, x412001, x412002 => if x42 = true then (emendateref36_table.j3 k x1 x5 x6 x7 x8 x9 0 x412000 x412001 x412002) else (emendateref36_table.j3 k x1 x5 x6 x7 x8 x9 x10 x412000 x412001 x412002)
def emendateref36_table.j3 : Nat → List Int → Int → Int → List Int → Int → Int → Int → List (S33) → List Int → Int → Option (List Int)
 | 0, _, _, _, _, _, _, _, _, _, _ => none
 | k + 1, x1, x5, x6, x7, x8, x9, x10, x412000, x412001, x412002 => emendateref36_table.l2 k x1 x5 x6 x7 x8 x9 x10 1 x412000 x412001 x412002
def emendateref36_table.l2 : Nat → List Int → Int → Int → List Int → Int → Int → Int → Int → List (S33) → List Int → Int → Option (List Int)
 | 0, _, _, _, _, _, _, _, _, _, _, _ => none
 | k + 1, x1, x5, x6, x7, x8, x9, x10, x11, x412000, x412001, x412002 => if x11 ≤ 4 then ((emendateref36_step.f k x412000 x412001 x412002 x1 x7 x6 x8 x9 x11).bind fun t415 => (emendateref36_table.l2 k x1 x5 x6 x7 x8 x9 (mn x10 t415) (wrap64 (x11 + 1)) x412000 x412001 x412002)) else (if 0 ≤ (wrap64 ((wrap64 (x8 * x6)) + x9)) then (if (wrap64 ((wrap64 (x8 * x6)) + x9)) < (x7.length : Int) then (emendateref36_table.l1 k x1 x5 x6 (x7.set ((wrap64 ((wrap64 (x8 * x6)) + x9)) : Int).toNat x10) x8 (wrap64 (x9 - 1)) x412000 x412001 x412002) else (none)) else (none))
end
def emendateref36_table.f (k : Nat) (l0_0 : List (S33)) (l0_1 : List Int) (a0_2 : Int) (l1 : List Int) : Option (List Int) := if 0 ≤ (wrap64 ((wrap64 ((l0_0.length : Int) + 1)) * (wrap64 ((l1.length : Int) + 1)))) then (if (wrap64 ((wrap64 ((l0_0.length : Int) + 1)) * (wrap64 ((l1.length : Int) + 1))) : Int).toNat ≤ 35184372088832 then (emendateref36_table.l0 k l1 (l0_0.length : Int) (wrap64 ((l1.length : Int) + 1)) (List.replicate (wrap64 ((wrap64 ((l0_0.length : Int) + 1)) * (wrap64 ((l1.length : Int) + 1))) : Int).toNat 0) (l0_0.length : Int) l0_0 l0_1 a0_2) else (none)) else (none)
set_option maxHeartbeats 8000000 in
set_option maxRecDepth 100000 in
theorem emendateref36_table.calls (k : Nat) (A0_0 : Option Addr) (c0_0 : Nat) (l0_0 : List (S33)) (A0_1 : Option Addr) (c0_1 : Nat) (l0_1 : List Int) (a0_2 : Int) (A1 : Option Addr) (c1 : Nat) (l1 : List Int) (r : List Int) (w : World) (hr0_0 : Kd.C k33 w A0_0 l0_0.length l0_0) (hc0_0 : l0_0.length ≤ c0_0) (hr0_1 : Kd.C (Kd.int .i64) w A0_1 l0_1.length l0_1) (hc0_1 : l0_1.length ≤ c0_1) (hr1 : Kd.C (Kd.int .i64) w A1 l1.length l1) (hc1 : l1.length ≤ c1) (h : emendateref36_table.f k l0_0 l0_1 a0_2 l1 = some r) :
  Calls Tryd.prog 32 #[.agg #[.slice A0_0 l0_0.length c0_0, .slice A0_1 l0_1.length c0_1, .int .i64 a0_2], .slice A1 l1.length c1] w fun e w' => ∃ v0_ : Value, e = .returned (v0_) ∧ Kd.R (Kd.int .i64) 3 w' w.heap.size (fun _ => True) v0_ r ∧ Below w.heap.size w w' := by
 have hu25 := Tryd.underlying25
 have HR0_0 := Aside0.mk hr0_0
 have HC0_0 := Aside0.mk hc0_0
 clear hr0_0 hc0_0
 have HR0_1 := Aside0.mk hr0_1
 have HC0_1 := Aside0.mk hc0_1
 clear hr0_1 hc0_1
 have HR1 := Aside0.mk hr1
 have HC1 := Aside0.mk hc1
 clear hr1 hc1
 have HB := Aside0.mk (Below.refl w.heap.size w)
 have H : (if 0 ≤ (wrap64 ((wrap64 ((l0_0.length : Int) + 1)) * (wrap64 ((l1.length : Int) + 1)))) then (if (wrap64 ((wrap64 ((l0_0.length : Int) + 1)) * (wrap64 ((l1.length : Int) + 1))) : Int).toNat ≤ 35184372088832 then (emendateref36_table.l0 k l1 (l0_0.length : Int) (wrap64 ((l1.length : Int) + 1)) (List.replicate (wrap64 ((wrap64 ((l0_0.length : Int) + 1)) * (wrap64 ((l1.length : Int) + 1))) : Int).toNat 0) (l0_0.length : Int) l0_0 l0_1 a0_2) else (none)) else (none)) = some r := h
 clear h
 obtain ⟨ji3, hji3⟩ : ∃ j_ : Int, (wrap64 ((wrap64 ((l0_0.length : Int) + 1)) * (wrap64 ((l1.length : Int) + 1)))) = j_ := ⟨_, rfl⟩
 replace H : (if 0 ≤ (ji3) then (if (ji3 : Int).toNat ≤ 35184372088832 then (emendateref36_table.l0 k l1 (l0_0.length : Int) (wrap64 ((l1.length : Int) + 1)) (List.replicate (ji3 : Int).toNat 0) (l0_0.length : Int) l0_0 l0_1 a0_2) else (none)) else (none)) = some r := by first | (rw [hji3] at H; exact H) | (simp only [hji3] at H ⊢; exact H)
 have hji3w : (IntKind.i64.wrap ((wrap64 ((l0_0.length : Int) + 1)) * (wrap64 ((l1.length : Int) + 1)))) = ji3 := (i64_w _).trans hji3
 by_cases c4 : 0 ≤ (ji3)
 ·
  rw [if_pos c4] at H
  have c4b0 := eq_true c4
  have c4b1 : decide (0 ≤ (ji3)) = true := decide_eq_true c4
  clear c4
  by_cases c5 : (ji3 : Int).toNat ≤ 35184372088832
  ·
   rw [if_pos c5] at H
   have c5b0 := eq_true c5
   have c5b1 : decide ((ji3 : Int).toNat ≤ 35184372088832) = true := decide_eq_true c5
   clear c5
   obtain ⟨y412, hy412⟩ : ∃ y_ : List Int, y_ = (List.replicate (ji3 : Int).toNat 0) := ⟨_, rfl⟩
   replace H : (emendateref36_table.l0 k l1 (l0_0.length : Int) (wrap64 ((l1.length : Int) + 1)) y412 (l0_0.length : Int) l0_0 l0_1 a0_2) = some r := by first | (rw [hy412]; with_reducible exact H) | (have H2_ := (Option.bind_some _ _).symm.trans H; rw [hy412]; with_reducible exact H2_) | (have H2_ := (Option.bind_some _ _).symm.trans H; with_reducible exact H2_) | with_reducible exact H | (rw [hy412]; exact H) | exact H
   have Ny412 := Aside0.mk hy412
   clear hy412
   have H' := Aside0.mk H
   clear H
   go_enter Tryd.func32, Tryd.ntmps32
   go_wp2_with (first | ((with_reducible refine gate_dst (N := 2) rfl ?_); (try (refine gate_guard (by rfl) ?_; dsimp only)); refine box_event ?hg (N := 2) ?hd (cs := #[.slice A0_0 l0_0.length c0_0, .slice A0_1 l0_1.length c0_1, .int .i64 a0_2]) (t := 25) ?hr ?_; (case hd => rfl); (case hg => rfl); (case hr => first | (go_simp; done) | (go_simp; rfl)); intro gb411 hg w6 hbox hb; have n0_ := Aside0.mk (below_step (pB HB.out) hb); have n1_ := Aside0.mk (hbox); have n2_ := Aside0.mk ((by rw [hg]; exact (below_size (pB HB.out)) : w.heap.size ≤ gb411)); have n3_ := Aside0.mk ((by rw [hg]; exact (below_size (pB HB.out)) : w.heap.size ≤ gb411)); clear HB; have HB := n0_; have BK411 := n1_; have GW411 := n2_; have GE411 := n3_; clear n0_ n1_ n2_ n3_; clear hb hbox hg; obtain ⟨hcz7_0, hcz7_1, hcz7_2, hfz7_0, hfz7_1, hfz7_2⟩ := cz3 BK411.out) | ((with_reducible refine gate_dst (N := 22) rfl ?_); (try (refine gate_guard (by rfl) ?_; dsimp only)); refine Kd.R_make (Kd.int .i64) _ 3 rfl (N := 22) rfl 23 _ _ rfl ji3 rfl rfl Tryd.underlying23 (.int .i64 0) 8 info3 rfl (by decide) (by omega) 0 (ok := fun _ => True) (okp := fun _ => True) rfl (fun _ hk => hk) trivial (od) (Nat.le_trans (Nat.mul_le_mul_right _ (od : ji3.toNat ≤ 35184372088832)) (by omega)) (Below.refl _ _) (Nat.le_refl _) ?_; intro v413 w8 ho9 hb hg_ hnew_; clear hg_ hnew_; (first | rw [← Ny412.out] at ho9 | (simp only [Int.reduceToNat] at ho9; rw [← Ny412.out] at ho9)); have HO414 := Aside0.mk (Kd.R_lower ho9 (below_size (pb HB.out GE411.out))); replace BK411 := Aside0.mk (bb BK411.out hb); replace HB := Aside0.mk (below_step (pb HB.out GE411.out) hb); clear hb ho9))
   go_loopg [8] k (fun kq v8 w' => ∃ (x7_1 : List Int) (x8_1 : Int), v8 = .int .i64 x8_1 ∧ Aside0 (emendateref36_table.l0 kq l1 (l0_0.length : Int) (wrap64 ((l1.length : Int) + 1)) x7_1 x8_1 l0_0 l0_1 a0_2 = some r) ∧ Aside0 (kq ≤ k) ∧ Aside0 (Kd.R (Kd.int .i64) 3 w' w.heap.size (fun _ => True) v413 x7_1) ∧ Aside0 (w'.heap[gb411]? = some (.cells #[(.slice A0_0 l0_0.length c0_0), (.slice A0_1 l0_1.length c0_1), .int .i64 a0_2] 25 (0, 0))) ∧ Aside0 (Below w.heap.size w w'))
   case atStart => exact ⟨(y412), ((l0_0.length : Int)), rr, H', ⟨Nat.le_refl _⟩, ⟨by (with_reducible repeat (first | apply Kd.R_alloc | apply Kd.R_drewN | apply Kd.R_drew)); exact HO414.out⟩, ⟨by (with_reducible repeat (first | refine blk_drewN ?_ _ | refine blk_drew ?_ | refine blk_alloc ?_ _)); exact BK411.out⟩, ⟨pb HB.out GE411.out⟩⟩
   case round =>
    clear H'
    try clear c1
    try clear c4
    try clear c4b0
    try clear c4b1
    try clear c5
    try clear c5b0
    try clear c5b1
    try clear hcz7_0
    try clear hcz7_1
    try clear hcz7_2
    try clear hfz7_0
    try clear hfz7_1
    try clear hfz7_2
    obtain ⟨x7_1, x8_1, rfl, HA, HK1, HO_7, BK411, HB⟩ := hrel
    cases gk with
    | zero => exact absurd HA.out (by simp [emendateref36_table.l0])
    | succ k1 =>
     have H := HA.out
     clear HA
     simp only [emendateref36_table.l0] at H
     by_cases c10 : x8_1 ≥ 0
     ·
      rw [if_pos c10] at H
      have c10b0 : decide (0 ≤ x8_1) = true := decide_eq_true c10
      clear c10
      have H' := Aside0.mk H
      clear H
      go_wp2
      go_loopg [9] k1 (fun kq v9 w' => ∃ (x7_2 : List Int) (x9_2 : Int), v9 = .int .i64 x9_2 ∧ Aside0 (emendateref36_table.l1 kq l1 (l0_0.length : Int) (wrap64 ((l1.length : Int) + 1)) x7_2 x8_1 x9_2 l0_0 l0_1 a0_2 = some r) ∧ Aside0 (kq ≤ k1) ∧ Aside0 (Kd.R (Kd.int .i64) 3 w' w.heap.size (fun _ => True) v413 x7_2) ∧ Aside0 (w'.heap[gb411]? = some (.cells #[(.slice A0_0 l0_0.length c0_0), (.slice A0_1 l0_1.length c0_1), .int .i64 a0_2] 25 (0, 0))) ∧ Aside0 (Below w.heap.size w w'))
      case atStart => exact ⟨(x7_1), ((l1.length : Int)), rr, H', ⟨Nat.le_refl _⟩, ⟨by (with_reducible repeat (first | apply Kd.R_alloc | apply Kd.R_drewN | apply Kd.R_drew)); exact HO_7.out⟩, ⟨by (with_reducible repeat (first | refine blk_drewN ?_ _ | refine blk_drew ?_ | refine blk_alloc ?_ _)); exact BK411.out⟩, ⟨pb HB.out GE411.out⟩⟩
      case round =>
       clear H'
       try clear c1
       try clear c4
       try clear c4b0
       try clear c4b1
       try clear c5
       try clear c5b0
       try clear c5b1
       try clear c10
       try clear c10b0
       try clear hcz7_0
       try clear hcz7_1
       try clear hcz7_2
       try clear hfz7_0
       try clear hfz7_1
       try clear hfz7_2
       obtain ⟨x7_2, x9_2, rfl, HA, HK2, HO_7, BK411, HB⟩ := hrel
       cases gk with
       | zero => exact absurd HA.out (by simp [emendateref36_table.l1])
       | succ k2 =>
        have H := HA.out
        clear HA
        simp only [emendateref36_table.l1] at H
        by_cases c11 : x9_2 ≥ 0
        ·
         rw [if_pos c11] at H
         have c11b0 : decide (0 ≤ x9_2) = true := decide_eq_true c11
         clear c11
         have HC12 := Aside0.mk H
         clear H
         go_upto_region 10 with (fail)
         go_cut [42] (fun v42 wc => ∃ (kq : Nat) (x42_11 : Bool), v42 = .bool x42_11 ∧ Aside0 (emendateref36_table.j2 kq l1 (l0_0.length : Int) (wrap64 ((l1.length : Int) + 1)) x7_2 x8_1 x9_2 1099511627776 x42_11 l0_0 l0_1 a0_2 = some r) ∧ Aside0 (kq ≤ k2) ∧ Aside0 (Kd.R (Kd.int .i64) 3 wc w.heap.size (fun _ => True) v413 x7_2) ∧ Aside0 (wc.heap[gb411]? = some (.cells #[(.slice A0_0 l0_0.length c0_0), (.slice A0_1 l0_1.length c0_1), .int .i64 a0_2] 25 (0, 0))) ∧ Aside0 (Below w.heap.size w wc))
         case first =>
          have H := HC12.out
          clear HC12
          by_cases c13 : x8_1 = (l0_0.length : Int)
          ·
           rw [if_pos c13] at H
           have c13b0 : (x8_1 == (l0_0.length : Int)) = true := beq_iff_eq.mpr c13
           have c13b1 : (x8_1 != (l0_0.length : Int)) = false := bne_eq_false_iff_eq.mpr c13
           clear c13
           (first | rw [c13b0] | (simp only [i64_w, i32_w]; rw [c13b0]) | skip)
           have H' := Aside0.mk H
           clear H
           go_wp2
           go_meet
           case rel => exact ⟨_, ((x9_2 == (l1.length : Int))), rr, H', ⟨by have := HK1.out; have := HK2.out; first | omega | exact Nat.le_refl _⟩, ⟨by (with_reducible repeat (first | apply Kd.R_alloc | apply Kd.R_drewN | apply Kd.R_drew)); exact HO_7.out⟩, ⟨by (with_reducible repeat (first | refine blk_drewN ?_ _ | refine blk_drew ?_ | refine blk_alloc ?_ _)); exact BK411.out⟩, ⟨pb HB.out GE411.out⟩⟩
          ·
           rw [if_neg c13] at H
           have c13b0 : (x8_1 == (l0_0.length : Int)) = false := beq_eq_false_iff_ne.mpr c13
           have c13b1 : (x8_1 != (l0_0.length : Int)) = true := bne_iff_ne.mpr c13
           (first | rw [c13b0] | (simp only [i64_w, i32_w]; rw [c13b0]) | skip)
           have H' := Aside0.mk H
           clear H
           go_wp2
           go_meet
           case rel => exact ⟨_, (false), rr, H', ⟨by have := HK1.out; have := HK2.out; first | omega | exact Nat.le_refl _⟩, ⟨by (with_reducible repeat (first | apply Kd.R_alloc | apply Kd.R_drewN | apply Kd.R_drew)); exact HO_7.out⟩, ⟨by (with_reducible repeat (first | refine blk_drewN ?_ _ | refine blk_drew ?_ | refine blk_alloc ?_ _)); exact BK411.out⟩, ⟨pb HB.out GE411.out⟩⟩
         case rest =>
          clear HC12
          try clear c1
          try clear c4
          try clear c4b0
          try clear c4b1
          try clear c5
          try clear c5b0
          try clear c5b1
          try clear c10
          try clear c10b0
          try clear c11
          try clear c11b0
          try clear hcz7_0
          try clear hcz7_1
          try clear hcz7_2
          try clear hfz7_0
          try clear hfz7_1
          try clear hfz7_2
          obtain ⟨kq, x42_11, rfl, HA, HJ11, HO_7, BK411, HB⟩ := hcut
          cases kq with
          | zero => exact absurd HA.out (by simp [emendateref36_table.j2])
          | succ kj11 =>
           have H := HA.out
           clear HA
           simp only [emendateref36_table.j2] at H
           have HC14 := Aside0.mk H
           clear H
           go_upto_if 42 with (fail)
           go_cut [10] (fun v10 wc => ∃ (kq : Nat) (x10_13 : Int), v10 = .int .i64 x10_13 ∧ Aside0 (emendateref36_table.j3 kq l1 (l0_0.length : Int) (wrap64 ((l1.length : Int) + 1)) x7_2 x8_1 x9_2 x10_13 l0_0 l0_1 a0_2 = some r) ∧ Aside0 (kq ≤ kj11) ∧ Aside0 (Kd.R (Kd.int .i64) 3 wc w.heap.size (fun _ => True) v413 x7_2) ∧ Aside0 (wc.heap[gb411]? = some (.cells #[(.slice A0_0 l0_0.length c0_0), (.slice A0_1 l0_1.length c0_1), .int .i64 a0_2] 25 (0, 0))) ∧ Aside0 (Below w.heap.size w wc))
           case first =>
            have H := HC14.out
            clear HC14
            by_cases c15 : x42_11 = true
            ·
             subst c15
             have H1 : (emendateref36_table.j3 kj11 l1 (l0_0.length : Int) (wrap64 ((l1.length : Int) + 1)) x7_2 x8_1 x9_2 0 l0_0 l0_1 a0_2) = some r := by rw [if_pos rfl] at H; exact H
             clear H
             have H := H1
             clear H1
             have H' := Aside0.mk H
             clear H
             go_wp2
             go_meet
             case rel => exact ⟨_, (0), rr, H', ⟨by have := HK1.out; have := HK2.out; have := HJ11.out; first | omega | exact Nat.le_refl _⟩, ⟨by (with_reducible repeat (first | apply Kd.R_alloc | apply Kd.R_drewN | apply Kd.R_drew)); exact HO_7.out⟩, ⟨by (with_reducible repeat (first | refine blk_drewN ?_ _ | refine blk_drew ?_ | refine blk_alloc ?_ _)); exact BK411.out⟩, ⟨pb HB.out GE411.out⟩⟩
            ·
             replace c15 := Bool.eq_false_iff.mpr c15
             subst c15
             have H1 : (emendateref36_table.j3 kj11 l1 (l0_0.length : Int) (wrap64 ((l1.length : Int) + 1)) x7_2 x8_1 x9_2 1099511627776 l0_0 l0_1 a0_2) = some r := by rw [if_neg (show ¬ (false = true) by decide)] at H; exact H
             clear H
             have H := H1
             clear H1
             have H' := Aside0.mk H
             clear H
             go_wp2
             go_meet
             case rel => exact ⟨_, (1099511627776), rr, H', ⟨by have := HK1.out; have := HK2.out; have := HJ11.out; first | omega | exact Nat.le_refl _⟩, ⟨by (with_reducible repeat (first | apply Kd.R_alloc | apply Kd.R_drewN | apply Kd.R_drew)); exact HO_7.out⟩, ⟨by (with_reducible repeat (first | refine blk_drewN ?_ _ | refine blk_drew ?_ | refine blk_alloc ?_ _)); exact BK411.out⟩, ⟨pb HB.out GE411.out⟩⟩
           case rest =>
            clear HC14
            try clear c1
            try clear c4
            try clear c4b0
            try clear c4b1
            try clear c5
            try clear c5b0
            try clear c5b1
            try clear c10
            try clear c10b0
            try clear c11
            try clear c11b0
            try clear hcz7_0
            try clear hcz7_1
            try clear hcz7_2
            try clear hfz7_0
            try clear hfz7_1
            try clear hfz7_2
            obtain ⟨kq, x10_13, rfl, HA, HJ13, HO_7, BK411, HB⟩ := hcut
            cases kq with
            | zero => exact absurd HA.out (by simp [emendateref36_table.j3])
            | succ kj13 =>
             have H := HA.out
             clear HA
             simp only [emendateref36_table.j3] at H
             have H' := Aside0.mk H
             clear H
             go_wp2
             go_loopg [10, 11] kj13 (fun kq v10 v11 w' => ∃ (x10_5 : Int) (x11_5 : Int), v10 = .int .i64 x10_5 ∧ v11 = .int .i64 x11_5 ∧ Aside0 (emendateref36_table.l2 kq l1 (l0_0.length : Int) (wrap64 ((l1.length : Int) + 1)) x7_2 x8_1 x9_2 x10_5 x11_5 l0_0 l0_1 a0_2 = some r) ∧ Aside0 (kq ≤ kj13) ∧ Aside0 (Kd.R (Kd.int .i64) 3 w' w.heap.size (fun _ => True) v413 x7_2) ∧ Aside0 (w'.heap[gb411]? = some (.cells #[(.slice A0_0 l0_0.length c0_0), (.slice A0_1 l0_1.length c0_1), .int .i64 a0_2] 25 (0, 0))) ∧ Aside0 (Below w.heap.size w w'))
             case atStart => exact ⟨(x10_13), (1), rr, rr, H', ⟨Nat.le_refl _⟩, ⟨by (with_reducible repeat (first | apply Kd.R_alloc | apply Kd.R_drewN | apply Kd.R_drew)); exact HO_7.out⟩, ⟨by (with_reducible repeat (first | refine blk_drewN ?_ _ | refine blk_drew ?_ | refine blk_alloc ?_ _)); exact BK411.out⟩, ⟨pb HB.out GE411.out⟩⟩
             case round =>
              clear H'
              try clear c1
              try clear c4
              try clear c4b0
              try clear c4b1
              try clear c5
              try clear c5b0
              try clear c5b1
              try clear c10
              try clear c10b0
              try clear c11
              try clear c11b0
              try clear hcz7_0
              try clear hcz7_1
              try clear hcz7_2
              try clear hfz7_0
              try clear hfz7_1
              try clear hfz7_2
              obtain ⟨x10_5, x11_5, rfl, rfl, HA, HK5, HO_7, BK411, HB⟩ := hrel
              cases gk with
              | zero => exact absurd HA.out (by simp [emendateref36_table.l2])
              | succ k5 =>
               have H := HA.out
               clear HA
               simp only [emendateref36_table.l2] at H
               by_cases c16 : x11_5 ≤ 4
               ·
                rw [if_pos c16] at H
                have c16b0 : decide (x11_5 ≤ 4) = true := decide_eq_true c16
                clear c16
                replace H := Option.bind_eq_some_iff.mp H
                obtain ⟨t415, A170, H⟩ := H
                replace H : (emendateref36_table.l2 k5 l1 (l0_0.length : Int) (wrap64 ((l1.length : Int) + 1)) x7_2 x8_1 x9_2 (mn x10_5 t415) (wrap64 (x11_5 + 1)) l0_0 l0_1 a0_2) = some r := H
                have A17 := Aside0.mk A170
                clear A170
                obtain ⟨ji18, hji18⟩ : ∃ j_ : Int, (mn x10_5 t415) = j_ := ⟨_, rfl⟩
                replace H : (emendateref36_table.l2 k5 l1 (l0_0.length : Int) (wrap64 ((l1.length : Int) + 1)) x7_2 x8_1 x9_2 ji18 (wrap64 (x11_5 + 1)) l0_0 l0_1 a0_2) = some r := by first | (rw [hji18] at H; exact H) | (simp only [hji18] at H ⊢; exact H)
                (try rw [hji18] at A17)
                have hji18_ : (if t415 < x10_5 then t415 else x10_5) = ji18 := hji18
                have H' := Aside0.mk H
                clear H
                obtain ⟨hcz19_0, hcz19_1, hcz19_2, hfz19_0, hfz19_1, hfz19_2⟩ := cz3 BK411.out
                obtain ⟨Ao20, co20, eo20⟩ := Kd.R_slice HO_7.out
                subst eo20
                go_wp2_with (first | ((with_reducible refine gate_callee (f := 37) rfl ?_); refine gl (some 55) Tryd.func37 #[.agg #[.slice A0_0 l0_0.length c0_0, .slice A0_1 l0_1.length c0_1, .int .i64 a0_2], .slice A1 l1.length c1, .slice Ao20 x7_2.length co20, .int .i64 (wrap64 ((l1.length : Int) + 1)), .int .i64 x8_1, .int .i64 x9_2, .int .i64 x11_5] ?_; (with_reducible refine (emendateref36_step.calls k5 _ _ l0_0 _ _ l0_1 a0_2 _ _ l1 _ _ x7_2 (wrap64 ((l1.length : Int) + 1)) x8_1 x9_2 x11_5 t415 _ ?side1 ?side2 ?side3 ?side4 ?side5 ?side6 ?side7 ?side8 A17.out).mono ?_); (case side1 => exact sd (Kd.C_below HR0_0.out HB.out)); (case side2 => exact HC0_0.out); (case side3 => exact sd (Kd.C_below HR0_1.out HB.out)); (case side4 => exact HC0_1.out); (case side5 => exact sd (Kd.C_below HR1.out HB.out)); (case side6 => exact HC1.out); (case side7 => exact sd (Kd.R_reads' HO_7.out).2.2); (case side8 => exact (Kd.R_reads' HO_7.out).2.1); rintro e w21 ⟨rfl, hb⟩; refine ⟨_, rfl, ?_⟩; replace HO_7 := Aside0.mk (Kd.R_below (pR HO_7.out) hb); replace BK411 := Aside0.mk (bb BK411.out hb); replace HB := Aside0.mk (below_step (pb HB.out GE411.out) hb); (try clear hb)))
                go_roundg k5
                case measure => have := HK1.out; have := HK2.out; have := HJ11.out; have := HJ13.out; have := HK5.out; omega
                case rel => exact ⟨(ji18), (wrap64 (x11_5 + 1)), (by first | rfl | (simp; done) | (simp only [← hji18] <;> (first | rfl | simp)) | (simp [*]; done)), rr, H', ⟨by have := HK1.out; have := HK2.out; have := HJ11.out; have := HJ13.out; have := HK5.out; omega⟩, ⟨by (with_reducible repeat (first | apply Kd.R_alloc | apply Kd.R_drewN | apply Kd.R_drew)); exact HO_7.out⟩, ⟨by (with_reducible repeat (first | refine blk_drewN ?_ _ | refine blk_drew ?_ | refine blk_alloc ?_ _)); exact BK411.out⟩, ⟨pb HB.out GE411.out⟩⟩
               ·
                rw [if_neg c16] at H
                have c16b0 : decide (x11_5 ≤ 4) = false := decide_eq_false c16
                clear c16
                obtain ⟨ji22, hji22⟩ : ∃ j_ : Int, (wrap64 ((wrap64 (x8_1 * (wrap64 ((l1.length : Int) + 1)))) + x9_2)) = j_ := ⟨_, rfl⟩
                replace H : (if 0 ≤ (ji22) then (if (ji22) < (x7_2.length : Int) then (emendateref36_table.l1 k5 l1 (l0_0.length : Int) (wrap64 ((l1.length : Int) + 1)) (x7_2.set ((ji22) : Int).toNat x10_5) x8_1 (wrap64 (x9_2 - 1)) l0_0 l0_1 a0_2) else (none)) else (none)) = some r := by first | (rw [hji22] at H; exact H) | (simp only [hji22] at H ⊢; exact H)
                have hji22w : (IntKind.i64.wrap ((wrap64 (x8_1 * (wrap64 ((l1.length : Int) + 1)))) + x9_2)) = ji22 := (i64_w _).trans hji22
                by_cases c23 : 0 ≤ (ji22)
                ·
                 rw [if_pos c23] at H
                 have c23b0 : decide (0 ≤ (ji22)) = true := decide_eq_true c23
                 clear c23
                 by_cases c24 : (ji22) < (x7_2.length : Int)
                 ·
                  rw [if_pos c24] at H
                  have c24b0 : decide ((ji22) < (x7_2.length : Int)) = true := decide_eq_true c24
                  clear c24
                  obtain ⟨y416, hy416⟩ : ∃ y_ : List Int, y_ = (x7_2.set ((ji22) : Int).toNat x10_5) := ⟨_, rfl⟩
                  replace H : (emendateref36_table.l1 k5 l1 (l0_0.length : Int) (wrap64 ((l1.length : Int) + 1)) y416 x8_1 (wrap64 (x9_2 - 1)) l0_0 l0_1 a0_2) = some r := by first | (rw [hy416]; with_reducible exact H) | (have H2_ := (Option.bind_some _ _).symm.trans H; rw [hy416]; with_reducible exact H2_) | (have H2_ := (Option.bind_some _ _).symm.trans H; with_reducible exact H2_) | with_reducible exact H | (rw [hy416]; exact H) | exact H
                  have Ny416 := Aside0.mk hy416
                  clear hy416
                  have H' := Aside0.mk H
                  clear H
                  have p25 : 0 ≤ ((ji22) : Int) := od
                  have q25 : ((ji22) : Int) < ((x7_2.length : Int) : Int) := od
                  obtain ⟨go25, co25, eo25, gb25, gl25, cl25, HG25⟩ := Kd.R_form HO_7.out (by omega)
                  (first | cases eo25 | (injection eo25 with ea_ en_ ec_; (first | subst ea_ | (injection ea_ with ea_; subst ea_)); subst ec_; clear en_))
                  have GB25 := Aside0.mk gb25
                  have GG25 := Aside0.mk HG25
                  clear gb25 gl25 HG25
                  obtain ⟨hx25_0, hf25_0⟩ := Kd.R_celln 0 HO_7.out ((ji22) : Int) p25 q25
                  replace p25 := eq_true p25
                  replace q25 := eq_true q25
                  have HP26 := Kd.R_putg HO_7.out ((ji22) : Int) x10_5
                  go_wp2_with (first | ((with_reducible refine gate_store (t := 3) (p := 64) rfl ?_); refine store_event (t := 3) (p := 64) (v := ?vo_w27) (w1 := (wr.setCell ⟨go25, ((ji22) : Int).toNat, none⟩ (.int .i64 x10_5))) ?hg ?ho ?hn ?hr ?_; (case ho => rfl); (case hg => rfl); (case hn => rfl); (case hr => first | (go_simp; done) | (go_simp; rfl)); intro w27 hw; have hg : wr.grownBy w27 (some go25) := (by rw [hw]; exact HP26.2); have hp_ : Kd.R (Kd.int .i64) 3 w27 w.heap.size (fun _ => True) (.slice (some ⟨go25, 0, none⟩) x7_2.length co25) y416 := (by rw [hw, Ny416.out]; exact HP26.1); clear HP26; have n0_ := Aside0.mk (hp_); have n1_ := Aside0.mk (blk_grown (g := gb411) (o := .cells #[.slice A0_0 l0_0.length c0_0, .slice A0_1 l0_1.length c0_1, .int .i64 a0_2] 25 (0, 0)) (pk BK411.out) hg (Kd.R_ne HO_7.out BK411.out (by decide))); have n2_ := Aside0.mk ((by rw [hw]; exact below_set (HB.out) GB25.out : Below w.heap.size w w27)); clear HO_7; clear BK411; clear HB; have HO_7 := n0_; have BK411 := n1_; have HB := n2_; clear n0_ n1_ n2_; clear hg hw hp_))
                  go_roundg k5
                  case measure => have := HK1.out; have := HK2.out; have := HJ11.out; have := HJ13.out; have := HK5.out; omega
                  case rel => exact ⟨(y416), (wrap64 (x9_2 - 1)), rr, H', ⟨by have := HK1.out; have := HK2.out; have := HJ11.out; have := HJ13.out; have := HK5.out; omega⟩, ⟨by (with_reducible repeat (first | apply Kd.R_alloc | apply Kd.R_drewN | apply Kd.R_drew)); exact HO_7.out⟩, ⟨by (with_reducible repeat (first | refine blk_drewN ?_ _ | refine blk_drew ?_ | refine blk_alloc ?_ _)); exact BK411.out⟩, ⟨pb HB.out GE411.out⟩⟩
                 ·
                  rw [if_neg c24] at H
                  exact absurd H (by simp)
                ·
                 rw [if_neg c23] at H
                 exact absurd H (by simp)
        ·
         rw [if_neg c11] at H
         have c11b0 : decide (0 ≤ x9_2) = false := decide_eq_false c11
         clear c11
         have H' := Aside0.mk H
         clear H
         go_wp2
         go_roundg k2
         case measure => have := HK1.out; have := HK2.out; omega
         case rel => exact ⟨(x7_2), (wrap64 (x8_1 - 1)), rr, H', ⟨by have := HK1.out; have := HK2.out; omega⟩, ⟨by (with_reducible repeat (first | apply Kd.R_alloc | apply Kd.R_drewN | apply Kd.R_drew)); exact HO_7.out⟩, ⟨by (with_reducible repeat (first | refine blk_drewN ?_ _ | refine blk_drew ?_ | refine blk_alloc ?_ _)); exact BK411.out⟩, ⟨pb HB.out GE411.out⟩⟩
     ·
      rw [if_neg c10] at H
      have c10b0 : decide (0 ≤ x8_1) = false := decide_eq_false c10
      clear c10
      obtain rfl := Option.some.inj H
      go_wp2
      go_ret
      exact ⟨_, by first | rfl | (simp [errW_none, errW_some] <;> rfl) | (simp only [← hji3]; first | rfl | (simp [errW_none, errW_some] <;> rfl)) | (simp [*, errW_none, errW_some] <;> rfl), by (with_reducible repeat (first | apply Kd.R_alloc | apply Kd.R_drewN | apply Kd.R_drew)); exact HO_7.out, pb HB.out GE411.out⟩
  ·
   rw [if_neg c5] at H
   exact absurd H (by simp)
 ·
  rw [if_neg c4] at H
  exact absurd H (by simp)

end Go.Proofs.YtnddijafdphbnaaDoor.All
end
section
-- Printed by wip/tools/wprint.py (a program of this session over the kit's printer). Not trusted: Lean checks it.
namespace Go.Proofs.YtnddijafdphbnaaDoor.All
open Go.RowKit Go.Proofs.YtnddijafdphbnaaDoorW.PrintWords Go.Proofs.YtnddijafdphbnaaDoorW.PrintLast Go.Proofs.YtnddijafdphbnaaDoorW.PrintMore
attribute [local go_sem] max2_int min2_int max_two min_two max_three min_three max_four min_four   -- for this text's walks alone
set_option linter.unusedVariables false
set_option linter.unusedSimpArgs false

/-! ### emendateref36_Distance: function 19 -/
def emendateref36_Distance.f (k : Nat) (l0_0 : List (S33)) (l0_1 : List Int) (a0_2 : Int) (l1 : List Int) : Option (Int) := (emendateref36_Terminals.f k l0_0 l0_1 a0_2 l1).bind fun t418 => (if t418 = true then ((emendateref36_table.f k l0_0 l0_1 a0_2 l1).bind fun t419 => (if 0 < (t419.length : Int) then (some (rd t419 0)) else (none))) else (some 1099511627776))
set_option maxHeartbeats 8000000 in
set_option maxRecDepth 100000 in
theorem emendateref36_Distance.calls (k : Nat) (A0_0 : Option Addr) (c0_0 : Nat) (l0_0 : List (S33)) (A0_1 : Option Addr) (c0_1 : Nat) (l0_1 : List Int) (a0_2 : Int) (A1 : Option Addr) (c1 : Nat) (l1 : List Int) (r : Int) (w : World) (hr0_0 : Kd.C k33 w A0_0 l0_0.length l0_0) (hc0_0 : l0_0.length ≤ c0_0) (hr0_1 : Kd.C (Kd.int .i64) w A0_1 l0_1.length l0_1) (hc0_1 : l0_1.length ≤ c0_1) (hr1 : Kd.C (Kd.int .i64) w A1 l1.length l1) (hc1 : l1.length ≤ c1) (h : emendateref36_Distance.f k l0_0 l0_1 a0_2 l1 = some r) :
  Calls Tryd.prog 19 #[.agg #[.slice A0_0 l0_0.length c0_0, .slice A0_1 l0_1.length c0_1, .int .i64 a0_2], .slice A1 l1.length c1] w fun e w' => e = .returned (.int .i64 r) ∧ Below w.heap.size w w' := by
 have hu25 := Tryd.underlying25
 have HR0_0 := Aside0.mk hr0_0
 have HC0_0 := Aside0.mk hc0_0
 clear hr0_0 hc0_0
 have HR0_1 := Aside0.mk hr0_1
 have HC0_1 := Aside0.mk hc0_1
 clear hr0_1 hc0_1
 have HR1 := Aside0.mk hr1
 have HC1 := Aside0.mk hc1
 clear hr1 hc1
 have HB := Aside0.mk (Below.refl w.heap.size w)
 have H : ((emendateref36_Terminals.f k l0_0 l0_1 a0_2 l1).bind fun t418 => (if t418 = true then ((emendateref36_table.f k l0_0 l0_1 a0_2 l1).bind fun t419 => (if 0 < (t419.length : Int) then (some (rd t419 0)) else (none))) else (some 1099511627776))) = some r := h
 clear h
 replace H := Option.bind_eq_some_iff.mp H
 obtain ⟨t418, A30, H⟩ := H
 replace H : (if t418 = true then ((emendateref36_table.f k l0_0 l0_1 a0_2 l1).bind fun t419 => (if 0 < (t419.length : Int) then (some (rd t419 0)) else (none))) else (some 1099511627776)) = some r := H
 have A3 := Aside0.mk A30
 clear A30
 by_cases c4 : t418 = true
 ·
  subst c4
  have H1 : ((emendateref36_table.f k l0_0 l0_1 a0_2 l1).bind fun t419 => (if 0 < (t419.length : Int) then (some (rd t419 0)) else (none))) = some r := by rw [if_pos rfl] at H; exact H
  clear H
  have H := H1
  clear H1
  replace H := Option.bind_eq_some_iff.mp H
  obtain ⟨t419, A50, H⟩ := H
  replace H : (if 0 < (t419.length : Int) then (some (rd t419 0)) else (none)) = some r := H
  have A5 := Aside0.mk A50
  clear A50
  by_cases c6 : 0 < (t419.length : Int)
  ·
   rw [if_pos c6] at H
   have c6b0 : decide (0 < (t419.length : Int)) = true := decide_eq_true c6
   have c6b1 : decide (0 < t419.length) = true := decide_eq_true (by omega)
   clear c6
   obtain rfl := Option.some.inj H
   go_enter Tryd.func19, Tryd.ntmps19
   go_wp2_with (first | ((with_reducible refine gate_dst (N := 2) rfl ?_); refine box_event ?hg (N := 2) ?hd (cs := #[.slice A0_0 l0_0.length c0_0, .slice A0_1 l0_1.length c0_1, .int .i64 a0_2]) (t := 25) ?hr ?_; (case hd => rfl); (case hg => rfl); (case hr => first | (go_simp; done) | (go_simp; rfl)); intro gb417 hg w7 hbox hb; have n0_ := Aside0.mk (below_step (pB HB.out) hb); have n1_ := Aside0.mk (hbox); have n2_ := Aside0.mk ((by rw [hg]; exact (below_size (pB HB.out)) : w.heap.size ≤ gb417)); have n3_ := Aside0.mk ((by rw [hg]; exact (below_size (pB HB.out)) : w.heap.size ≤ gb417)); clear HB; have HB := n0_; have BK417 := n1_; have GW417 := n2_; have GE417 := n3_; clear n0_ n1_ n2_ n3_; clear hb hbox hg; obtain ⟨hcz8_0, hcz8_1, hcz8_2, hfz8_0, hfz8_1, hfz8_2⟩ := cz3 BK417.out) | ((with_reducible refine gate_callee (f := 22) rfl ?_); refine gl (some 7) Tryd.func22 #[.agg #[.slice A0_0 l0_0.length c0_0, .slice A0_1 l0_1.length c0_1, .int .i64 a0_2], .slice A1 l1.length c1] ?_; (with_reducible refine (emendateref36_Terminals.calls k _ _ l0_0 _ _ l0_1 a0_2 _ _ l1 true _ ?side1 ?side2 ?side3 ?side4 ?side5 ?side6 A3.out).mono ?_); (case side1 => exact sd (Kd.C_below HR0_0.out HB.out)); (case side2 => exact HC0_0.out); (case side3 => exact sd (Kd.C_below HR0_1.out HB.out)); (case side4 => exact HC0_1.out); (case side5 => exact sd (Kd.C_below HR1.out HB.out)); (case side6 => exact HC1.out); rintro e w9 ⟨rfl, hb⟩; refine ⟨_, rfl, ?_⟩; replace BK417 := Aside0.mk (bb BK417.out hb); replace HB := Aside0.mk (below_step (pb HB.out GE417.out) hb); (try clear hb); obtain ⟨hcz10_0, hcz10_1, hcz10_2, hfz10_0, hfz10_1, hfz10_2⟩ := cz3 BK417.out) | ((with_reducible refine gate_callee (f := 32) rfl ?_); refine gl (some 11) Tryd.func32 #[.agg #[.slice A0_0 l0_0.length c0_0, .slice A0_1 l0_1.length c0_1, .int .i64 a0_2], .slice A1 l1.length c1] ?_; (with_reducible refine (emendateref36_table.calls k _ _ l0_0 _ _ l0_1 a0_2 _ _ l1 t419 _ ?side1 ?side2 ?side3 ?side4 ?side5 ?side6 A5.out).mono ?_); (case side1 => exact sd (Kd.C_below HR0_0.out HB.out)); (case side2 => exact HC0_0.out); (case side3 => exact sd (Kd.C_below HR0_1.out HB.out)); (case side4 => exact HC0_1.out); (case side5 => exact sd (Kd.C_below HR1.out HB.out)); (case side6 => exact HC1.out); rintro e w11 ⟨v420, rfl, ho0, hb⟩; refine ⟨_, rfl, ?_⟩; have HO421 := Aside0.mk (Kd.R_lower ho0 (below_size (pb HB.out GE417.out))); replace BK417 := Aside0.mk (bb BK417.out hb); replace HB := Aside0.mk (below_step (pb HB.out GE417.out) hb); (try clear hb); (try clear ho0); obtain ⟨Ao12, co12, eo12⟩ := Kd.R_slice HO421.out; subst eo12; have p422 : 0 ≤ (0 : Int) := (by omega); have q422 : 0 < (t419.length : Int) := od; obtain ⟨ad422, e422, hx422_0⟩ := Kd.at_int (Kd.R_reads' HO421.out).2.2 0 p422 q422; cases e422; have qi422 : (0 < t419.length) = True := eq_true (by omega); (try rw [show ((0 : Int)).toNat = 0 from rfl] at hx422_0); (try rw [Addr.add_zero'] at hx422_0); replace p422 := eq_true p422; replace q422 := eq_true q422))
   go_ret
   exact ⟨er, pb HB.out GE417.out⟩
  ·
   rw [if_neg c6] at H
   exact absurd H (by simp)
 ·
  replace c4 := Bool.eq_false_iff.mpr c4
  subst c4
  have H1 : (some 1099511627776) = some r := by rw [if_neg (show ¬ (false = true) by decide)] at H; exact H
  clear H
  have H := H1
  clear H1
  obtain rfl := Option.some.inj H
  go_enter Tryd.func19, Tryd.ntmps19
  go_wp2_with (first | ((with_reducible refine gate_dst (N := 2) rfl ?_); refine box_event ?hg (N := 2) ?hd (cs := #[.slice A0_0 l0_0.length c0_0, .slice A0_1 l0_1.length c0_1, .int .i64 a0_2]) (t := 25) ?hr ?_; (case hd => rfl); (case hg => rfl); (case hr => first | (go_simp; done) | (go_simp; rfl)); intro gb417 hg w13 hbox hb; have n0_ := Aside0.mk (below_step (pB HB.out) hb); have n1_ := Aside0.mk (hbox); have n2_ := Aside0.mk ((by rw [hg]; exact (below_size (pB HB.out)) : w.heap.size ≤ gb417)); have n3_ := Aside0.mk ((by rw [hg]; exact (below_size (pB HB.out)) : w.heap.size ≤ gb417)); clear HB; have HB := n0_; have BK417 := n1_; have GW417 := n2_; have GE417 := n3_; clear n0_ n1_ n2_ n3_; clear hb hbox hg; obtain ⟨hcz14_0, hcz14_1, hcz14_2, hfz14_0, hfz14_1, hfz14_2⟩ := cz3 BK417.out) | ((with_reducible refine gate_callee (f := 22) rfl ?_); refine gl (some 7) Tryd.func22 #[.agg #[.slice A0_0 l0_0.length c0_0, .slice A0_1 l0_1.length c0_1, .int .i64 a0_2], .slice A1 l1.length c1] ?_; (with_reducible refine (emendateref36_Terminals.calls k _ _ l0_0 _ _ l0_1 a0_2 _ _ l1 false _ ?side1 ?side2 ?side3 ?side4 ?side5 ?side6 A3.out).mono ?_); (case side1 => exact sd (Kd.C_below HR0_0.out HB.out)); (case side2 => exact HC0_0.out); (case side3 => exact sd (Kd.C_below HR0_1.out HB.out)); (case side4 => exact HC0_1.out); (case side5 => exact sd (Kd.C_below HR1.out HB.out)); (case side6 => exact HC1.out); rintro e w15 ⟨rfl, hb⟩; refine ⟨_, rfl, ?_⟩; replace BK417 := Aside0.mk (bb BK417.out hb); replace HB := Aside0.mk (below_step (pb HB.out GE417.out) hb); (try clear hb)))
  go_ret
  exact ⟨er, pb HB.out GE417.out⟩

end Go.Proofs.YtnddijafdphbnaaDoor.All
end
section
-- Printed by wip/tools/wprint.py (a program of this session over the kit's printer). Not trusted: Lean checks it.
namespace Go.Proofs.YtnddijafdphbnaaDoor.All
open Go.RowKit Go.Proofs.YtnddijafdphbnaaDoorW.PrintWords Go.Proofs.YtnddijafdphbnaaDoorW.PrintLast Go.Proofs.YtnddijafdphbnaaDoorW.PrintMore
attribute [local go_sem] max2_int min2_int max_two min_two max_three min_three max_four min_four   -- for this text's walks alone
set_option linter.unusedVariables false
set_option linter.unusedSimpArgs false

/-! ### emendatelaw36_EditscriptDistanceMatchesReference: function 6 -/
def emendatelaw36_EditscriptDistanceMatchesReference.j0 : Nat → List Int → Bool → List (S33) → List Int → Int → Option (Bool)
 | 0, _, _, _, _, _ => none
 | k + 1, x1, x14, x424000, x424001, x424002 => if x14 = true then (some true) else ((editscript_Distance.f k x424000 x424001 x424002 x1).bind fun t426 => ((emendateref36_Distance.f k x424000 x424001 x424002 x1).bind fun t427 => (some (t426 == t427))))
def emendatelaw36_EditscriptDistanceMatchesReference.f (k : Nat) (l0_0 : List (S33)) (l0_1 : List Int) (a0_2 : Int) (l1 : List Int) : Option (Bool) := (emendatelaw36_awake.f k).bind fun t424 => (if t424 = true then ((emendatelaw36_fair.f k l0_0 l0_1 a0_2).bind fun t425 => (if t425 = true then (emendatelaw36_EditscriptDistanceMatchesReference.j0 k l1 (decide ((l1.length : Int) > 12)) l0_0 l0_1 a0_2) else (emendatelaw36_EditscriptDistanceMatchesReference.j0 k l1 true l0_0 l0_1 a0_2))) else (some false))
def emendatelaw36_EditscriptDistanceMatchesReference.T5 : Bool × List (List Nat × List Nat) := (true, [([], []), ([], []), ([0, 1], [0, 1]), ([], []), ([], []), ([3, 4, 2], [3, 4]), ([2, 5], [2, 5]), ([6, 5, 0, 1, 2, 3, 4, 5, 6], [6])])
def emendatelaw36_EditscriptDistanceMatchesReference.B5 : List Nat := [0, 0, 3, 0, 0, 31, 63, 127]
theorem emendatelaw36_EditscriptDistanceMatchesReference.tab5 : rtab .any (opsOf Tryd.f6 5) = emendatelaw36_EditscriptDistanceMatchesReference.T5 := by kernel_rfl
theorem emendatelaw36_EditscriptDistanceMatchesReference.bits5 : waitsOk emendatelaw36_EditscriptDistanceMatchesReference.T5.2 emendatelaw36_EditscriptDistanceMatchesReference.B5 = true := by kernel_rfl
set_option maxHeartbeats 8000000 in
set_option maxRecDepth 100000 in
theorem emendatelaw36_EditscriptDistanceMatchesReference.calls (k : Nat) (A0_0 : Option Addr) (c0_0 : Nat) (l0_0 : List (S33)) (A0_1 : Option Addr) (c0_1 : Nat) (l0_1 : List Int) (a0_2 : Int) (A1 : Option Addr) (c1 : Nat) (l1 : List Int) (r : Bool) (w : World) (hr0_0 : Kd.C k33 w A0_0 l0_0.length l0_0) (hc0_0 : l0_0.length ≤ c0_0) (hr0_1 : Kd.C (Kd.int .i64) w A0_1 l0_1.length l0_1) (hc0_1 : l0_1.length ≤ c0_1) (hr1 : Kd.C (Kd.int .i64) w A1 l1.length l1) (hc1 : l1.length ≤ c1) (hv : VarOk w) (h : emendatelaw36_EditscriptDistanceMatchesReference.f k l0_0 l0_1 a0_2 l1 = some r) :
  Calls Tryd.prog 6 #[.agg #[.slice A0_0 l0_0.length c0_0, .slice A0_1 l0_1.length c0_1, .int .i64 a0_2], .slice A1 l1.length c1] w fun e w' => e = .returned (.bool r) ∧ Below w.heap.size w w' := by
 have HV := Aside0.mk hv
 clear hv
 have hu25 := Tryd.underlying25
 have HR0_0 := Aside0.mk hr0_0
 have HC0_0 := Aside0.mk hc0_0
 clear hr0_0 hc0_0
 have HR0_1 := Aside0.mk hr0_1
 have HC0_1 := Aside0.mk hc0_1
 clear hr0_1 hc0_1
 have HR1 := Aside0.mk hr1
 have HC1 := Aside0.mk hc1
 clear hr1 hc1
 have HB := Aside0.mk (Below.refl w.heap.size w)
 have H : ((emendatelaw36_awake.f k).bind fun t424 => (if t424 = true then ((emendatelaw36_fair.f k l0_0 l0_1 a0_2).bind fun t425 => (if t425 = true then (emendatelaw36_EditscriptDistanceMatchesReference.j0 k l1 (decide ((l1.length : Int) > 12)) l0_0 l0_1 a0_2) else (emendatelaw36_EditscriptDistanceMatchesReference.j0 k l1 true l0_0 l0_1 a0_2))) else (some false))) = some r := h
 clear h
 replace H := Option.bind_eq_some_iff.mp H
 obtain ⟨t424, A30, H⟩ := H
 replace H : (if t424 = true then ((emendatelaw36_fair.f k l0_0 l0_1 a0_2).bind fun t425 => (if t425 = true then (emendatelaw36_EditscriptDistanceMatchesReference.j0 k l1 (decide ((l1.length : Int) > 12)) l0_0 l0_1 a0_2) else (emendatelaw36_EditscriptDistanceMatchesReference.j0 k l1 true l0_0 l0_1 a0_2))) else (some false)) = some r := H
 have A3 := Aside0.mk A30
 clear A30
 by_cases c4 : t424 = true
 ·
  subst c4
  have H1 : ((emendatelaw36_fair.f k l0_0 l0_1 a0_2).bind fun t425 => (if t425 = true then (emendatelaw36_EditscriptDistanceMatchesReference.j0 k l1 (decide ((l1.length : Int) > 12)) l0_0 l0_1 a0_2) else (emendatelaw36_EditscriptDistanceMatchesReference.j0 k l1 true l0_0 l0_1 a0_2))) = some r := by rw [if_pos rfl] at H; exact H
  clear H
  have H := H1
  clear H1
  have HC5 := Aside0.mk H
  clear H
  go_enter Tryd.func6, Tryd.ntmps6
  go_upto_region 3 with (first | ((with_reducible refine gate_dst (N := 2) rfl ?_); (try (refine gate_guard (by rfl) ?_; dsimp only)); refine box_event ?hg (N := 2) ?hd (cs := #[.slice A0_0 l0_0.length c0_0, .slice A0_1 l0_1.length c0_1, .int .i64 a0_2]) (t := 25) ?hr ?_; (case hd => rfl); (case hg => rfl); (case hr => first | (go_simp; done) | (go_simp; rfl)); intro gb423 hg w6 hbox hb; have n0_ := Aside0.mk (below_step (pB HB.out) hb); have n1_ := Aside0.mk (hbox); have n2_ := Aside0.mk ((by rw [hg]; exact (below_size (pB HB.out)) : w.heap.size ≤ gb423)); have n3_ := Aside0.mk ((by rw [hg]; exact (below_size (pB HB.out)) : w.heap.size ≤ gb423)); clear HB; have HB := n0_; have BK423 := n1_; have GW423 := n2_; have GE423 := n3_; clear n0_ n1_ n2_ n3_; clear hb hbox hg) | ((with_reducible refine gate_callee (f := 11) rfl ?_); refine gl (some 5) Tryd.func11 #[] ?_; (with_reducible refine (emendatelaw36_awake.calls k  true _ (HV.out.below (pb HB.out GE423.out) rfl) A3.out).mono ?_); rintro e w7 ⟨rfl, hb⟩; refine ⟨_, rfl, ?_⟩; replace BK423 := Aside0.mk (bb BK423.out hb); replace HB := Aside0.mk (below_step (pb HB.out GE423.out) hb); (try clear hb)))
  (try simp only [Act.put, List.setIfInBounds_toArray, List.set_cons_zero, List.set_cons_succ])
  go_cut [14] (fun v14 wc => ∃ (kq : Nat) (x14_4 : Bool), v14 = .bool x14_4 ∧ Aside0 (emendatelaw36_EditscriptDistanceMatchesReference.j0 kq l1 x14_4 l0_0 l0_1 a0_2 = some r) ∧ Aside0 (kq ≤ k) ∧ Aside0 (wc.heap[gb423]? = some (.cells #[(.slice A0_0 l0_0.length c0_0), (.slice A0_1 l0_1.length c0_1), .int .i64 a0_2] 25 (0, 0))) ∧ Aside0 (Below w.heap.size w wc))
  case first =>
   have H := HC5.out
   clear HC5
   replace H := Option.bind_eq_some_iff.mp H
   obtain ⟨t425, A80, H⟩ := H
   replace H : (if t425 = true then (emendatelaw36_EditscriptDistanceMatchesReference.j0 k l1 (decide ((l1.length : Int) > 12)) l0_0 l0_1 a0_2) else (emendatelaw36_EditscriptDistanceMatchesReference.j0 k l1 true l0_0 l0_1 a0_2)) = some r := H
   have A8 := Aside0.mk A80
   clear A80
   by_cases c9 : t425 = true
   ·
    subst c9
    have H1 : (emendatelaw36_EditscriptDistanceMatchesReference.j0 k l1 (decide ((l1.length : Int) > 12)) l0_0 l0_1 a0_2) = some r := by rw [if_pos rfl] at H; exact H
    clear H
    have H := H1
    clear H1
    have H' := Aside0.mk H
    clear H
    obtain ⟨hcz10_0, hcz10_1, hcz10_2, hfz10_0, hfz10_1, hfz10_2⟩ := cz3 BK423.out
    go_wp2_with (first | ((with_reducible refine gate_callee (f := 12) rfl ?_); refine gl (some 8) Tryd.func12 #[.agg #[.slice A0_0 l0_0.length c0_0, .slice A0_1 l0_1.length c0_1, .int .i64 a0_2]] ?_; (with_reducible refine (emendatelaw36_fair.calls k _ _ l0_0 _ _ l0_1 a0_2 true _ ?side1 ?side2 ?side3 ?side4 A8.out).mono ?_); (case side1 => exact sd (Kd.C_below HR0_0.out HB.out)); (case side2 => exact HC0_0.out); (case side3 => exact sd (Kd.C_below HR0_1.out HB.out)); (case side4 => exact HC0_1.out); rintro e w11 ⟨rfl, hb⟩; refine ⟨_, rfl, ?_⟩; replace BK423 := Aside0.mk (bb BK423.out hb); replace HB := Aside0.mk (below_step (pb HB.out GE423.out) hb); (try clear hb)))
    go_meet
    case rel => exact ⟨_, (decide ((l1.length : Int) > 12)), rr, H', ⟨by first | omega | exact Nat.le_refl _⟩, ⟨by (with_reducible repeat (first | refine blk_drewN ?_ _ | refine blk_drew ?_ | refine blk_alloc ?_ _)); exact BK423.out⟩, ⟨pb HB.out GE423.out⟩⟩
   ·
    replace c9 := Bool.eq_false_iff.mpr c9
    subst c9
    have H1 : (emendatelaw36_EditscriptDistanceMatchesReference.j0 k l1 true l0_0 l0_1 a0_2) = some r := by rw [if_neg (show ¬ (false = true) by decide)] at H; exact H
    clear H
    have H := H1
    clear H1
    have H' := Aside0.mk H
    clear H
    obtain ⟨hcz12_0, hcz12_1, hcz12_2, hfz12_0, hfz12_1, hfz12_2⟩ := cz3 BK423.out
    go_wp2_with (first | ((with_reducible refine gate_callee (f := 12) rfl ?_); refine gl (some 8) Tryd.func12 #[.agg #[.slice A0_0 l0_0.length c0_0, .slice A0_1 l0_1.length c0_1, .int .i64 a0_2]] ?_; (with_reducible refine (emendatelaw36_fair.calls k _ _ l0_0 _ _ l0_1 a0_2 false _ ?side1 ?side2 ?side3 ?side4 A8.out).mono ?_); (case side1 => exact sd (Kd.C_below HR0_0.out HB.out)); (case side2 => exact HC0_0.out); (case side3 => exact sd (Kd.C_below HR0_1.out HB.out)); (case side4 => exact HC0_1.out); rintro e w13 ⟨rfl, hb⟩; refine ⟨_, rfl, ?_⟩; replace BK423 := Aside0.mk (bb BK423.out hb); replace HB := Aside0.mk (below_step (pb HB.out GE423.out) hb); (try clear hb)))
    go_meet
    case rel => exact ⟨_, (true), rr, H', ⟨by first | omega | exact Nat.le_refl _⟩, ⟨by (with_reducible repeat (first | refine blk_drewN ?_ _ | refine blk_drew ?_ | refine blk_alloc ?_ _)); exact BK423.out⟩, ⟨pb HB.out GE423.out⟩⟩
  case rest =>
   clear HC5
   try clear c1
   try clear c4
   obtain ⟨kq, x14_4, rfl, HA, HJ4, BK423, HB⟩ := hcut
   cases kq with
   | zero => exact absurd HA.out (by simp [emendatelaw36_EditscriptDistanceMatchesReference.j0])
   | succ kj4 =>
    have H := HA.out
    clear HA
    simp only [emendatelaw36_EditscriptDistanceMatchesReference.j0] at H
    by_cases c14 : x14_4 = true
    ·
     subst c14
     have H1 : (some true) = some r := by rw [if_pos rfl] at H; exact H
     clear H
     have H := H1
     clear H1
     obtain rfl := Option.some.inj H
     go_wp2
     go_ret
     exact ⟨er, pb HB.out GE423.out⟩
    ·
     replace c14 := Bool.eq_false_iff.mpr c14
     subst c14
     have H1 : ((editscript_Distance.f kj4 l0_0 l0_1 a0_2 l1).bind fun t426 => ((emendateref36_Distance.f kj4 l0_0 l0_1 a0_2 l1).bind fun t427 => (some (t426 == t427)))) = some r := by rw [if_neg (show ¬ (false = true) by decide)] at H; exact H
     clear H
     have H := H1
     clear H1
     replace H := Option.bind_eq_some_iff.mp H
     obtain ⟨t426, A150, H⟩ := H
     replace H : ((emendateref36_Distance.f kj4 l0_0 l0_1 a0_2 l1).bind fun t427 => (some (t426 == t427))) = some r := H
     have A15 := Aside0.mk A150
     clear A150
     replace H := Option.bind_eq_some_iff.mp H
     obtain ⟨t427, A160, H⟩ := H
     replace H : (some (t426 == t427)) = some r := H
     have A16 := Aside0.mk A160
     clear A160
     obtain rfl := Option.some.inj H
     try go_wp2
     replace BK423 := Aside0.mk (blk_drew BK423.out)
     replace HB := Aside0.mk (below_drew1 HB.out)
     refine start_ (n := 8) (S := fun w' => w'.cell? ⟨gb423, 0, none⟩ = some (.slice A0_0 l0_0.length c0_0) ∧ w'.cell? ⟨gb423, 1, none⟩ = some (.slice A0_1 l0_1.length c0_1) ∧ w'.cell? ⟨gb423, 2, none⟩ = some (.int .i64 a0_2)) (ds := []) #[ff,ff,ff,ff,ff,ff,ff,ff] (by kernel_rfl) rfl rfl ⟨(blk_cell BK423.out 0).trans rfl, (blk_cell BK423.out 1).trans rfl, (blk_cell BK423.out 2).trans rfl⟩ (fun hHeld => ?_); refine with_tabW emendatelaw36_EditscriptDistanceMatchesReference.tab5 emendatelaw36_EditscriptDistanceMatchesReference.bits5 (fun HT_ HW_ => ?_)
     generalize wc.drew = w17 at BK423 HB hHeld ⊢
     refine pu 1 16 ?_
     refine pu 4 19 ?_
     refine tu 0 15 hHeld ?_
     refine tu 3 18 hHeld ?_
     refine one_ (i := 2) (N := some 17) #[tt,tt,tt,tt,tt,ff,ff,ff] rfl rfl (one_of HT_.out (by kernel_rfl)) (by decide) (fun K hK => ?_)
     refine goes_ Tryd.func14 (by kernel_rfl) rfl #[.agg #[.slice A0_0 l0_0.length c0_0, .slice A0_1 l0_1.length c0_1, .int .i64 a0_2], .slice A1 l1.length c1] (by rfl) rfl rfl (by (try simp only [List.map_toArray, List.map_cons, List.map_nil]); first | done | rfl | (simp only [List.length_drop, List.length_take]; rfl)) ?_
     with_reducible refine (editscript_Distance.calls kj4 _ _ l0_0 _ _ l0_1 a0_2 _ _ l1 t426 _ ?side1 ?side2 ?side3 ?side4 ?side5 ?side6 A15.out).mono ?_
     (case side1 => exact sd (Kd.C_below HR0_0.out HB.out))
     (case side2 => exact HC0_0.out)
     (case side3 => exact sd (Kd.C_below HR0_1.out HB.out))
     (case side4 => exact HC0_1.out)
     (case side5 => exact sd (Kd.C_below HR1.out HB.out))
     (case side6 => exact HC1.out)
     rintro e w18 ⟨rfl, hb⟩
     refine ⟨_, rfl, ?_⟩
     replace BK423 := Aside0.mk (bb BK423.out hb)
     replace HB := Aside0.mk (below_step (pb HB.out GE423.out) hb)
     (try clear hb)
     refine hK.out _ _ ⟨(blk_cell BK423.out 0).trans rfl, (blk_cell BK423.out 1).trans rfl, (blk_cell BK423.out 2).trans rfl⟩ (fun hHeld => ?_)
     clear hK K
     refine norm_ (a' := ?_) ?_ ?_
     rotate_left
     ·
      show Act.put _ (some 17) _ = _
      simp only [nrm]
      rfl
     refine one_ (i := 5) (N := some 20) #[tt,tt,tt,tt,tt,tt,ff,ff] rfl rfl (one_of HT_.out (by kernel_rfl)) (by decide) (fun K hK => ?_)
     refine goes_ Tryd.func19 (by kernel_rfl) rfl #[.agg #[.slice A0_0 l0_0.length c0_0, .slice A0_1 l0_1.length c0_1, .int .i64 a0_2], .slice A1 l1.length c1] (by rfl) rfl rfl (by (try simp only [List.map_toArray, List.map_cons, List.map_nil]); first | done | rfl | (simp only [List.length_drop, List.length_take]; rfl)) ?_
     with_reducible refine (emendateref36_Distance.calls kj4 _ _ l0_0 _ _ l0_1 a0_2 _ _ l1 t427 _ ?side1 ?side2 ?side3 ?side4 ?side5 ?side6 A16.out).mono ?_
     (case side1 => exact sd (Kd.C_below HR0_0.out HB.out))
     (case side2 => exact HC0_0.out)
     (case side3 => exact sd (Kd.C_below HR0_1.out HB.out))
     (case side4 => exact HC0_1.out)
     (case side5 => exact sd (Kd.C_below HR1.out HB.out))
     (case side6 => exact HC1.out)
     rintro e w19 ⟨rfl, hb⟩
     refine ⟨_, rfl, ?_⟩
     replace BK423 := Aside0.mk (bb BK423.out hb)
     replace HB := Aside0.mk (below_step (pb HB.out GE423.out) hb)
     (try clear hb)
     refine hK.out _ _ ⟨(blk_cell BK423.out 0).trans rfl, (blk_cell BK423.out 1).trans rfl, (blk_cell BK423.out 2).trans rfl⟩ (fun hHeld => ?_)
     clear hK K
     refine norm_ (a' := ?_) ?_ ?_
     rotate_left
     ·
      show Act.put _ (some 20) _ = _
      simp only [nrm]
      rfl
     refine pu 6 21 ?_
     refine pu 7 4 ?_
     refine done_ (done_of HT_.out (by kernel_rfl)) ?_
     try go_wp2
     go_ret
     exact ⟨er, pb HB.out GE423.out⟩
 ·
  replace c4 := Bool.eq_false_iff.mpr c4
  subst c4
  have H1 : (some false) = some r := by rw [if_neg (show ¬ (false = true) by decide)] at H; exact H
  clear H
  have H := H1
  clear H1
  obtain rfl := Option.some.inj H
  go_enter Tryd.func6, Tryd.ntmps6
  go_wp2_with (first | ((with_reducible refine gate_dst (N := 2) rfl ?_); (try (refine gate_guard (by rfl) ?_; dsimp only)); refine box_event ?hg (N := 2) ?hd (cs := #[.slice A0_0 l0_0.length c0_0, .slice A0_1 l0_1.length c0_1, .int .i64 a0_2]) (t := 25) ?hr ?_; (case hd => rfl); (case hg => rfl); (case hr => first | (go_simp; done) | (go_simp; rfl)); intro gb423 hg w20 hbox hb; have n0_ := Aside0.mk (below_step (pB HB.out) hb); have n1_ := Aside0.mk (hbox); have n2_ := Aside0.mk ((by rw [hg]; exact (below_size (pB HB.out)) : w.heap.size ≤ gb423)); have n3_ := Aside0.mk ((by rw [hg]; exact (below_size (pB HB.out)) : w.heap.size ≤ gb423)); clear HB; have HB := n0_; have BK423 := n1_; have GW423 := n2_; have GE423 := n3_; clear n0_ n1_ n2_ n3_; clear hb hbox hg) | ((with_reducible refine gate_callee (f := 11) rfl ?_); refine gl (some 5) Tryd.func11 #[] ?_; (with_reducible refine (emendatelaw36_awake.calls k  false _ (HV.out.below (pb HB.out GE423.out) rfl) A3.out).mono ?_); rintro e w21 ⟨rfl, hb⟩; refine ⟨_, rfl, ?_⟩; replace BK423 := Aside0.mk (bb BK423.out hb); replace HB := Aside0.mk (below_step (pb HB.out GE423.out) hb); (try clear hb)))
  go_ret
  exact ⟨er, pb HB.out GE423.out⟩

end Go.Proofs.YtnddijafdphbnaaDoor.All
end
section
-- Printed by wip/tools/wprint.py (a program of this session over the kit's printer). Not trusted: Lean checks it.
namespace Go.Proofs.YtnddijafdphbnaaDoor.All
open Go.RowKit Go.Proofs.YtnddijafdphbnaaDoorW.PrintWords Go.Proofs.YtnddijafdphbnaaDoorW.PrintLast Go.Proofs.YtnddijafdphbnaaDoorW.PrintMore
attribute [local go_sem] max2_int min2_int max_two min_two max_three min_three max_four min_four   -- for this text's walks alone
set_option linter.unusedVariables false
set_option linter.unusedSimpArgs false

/-! ### emendateref36_Run: function 20 -/
mutual
def emendateref36_Run.l0 : Nat → List (S49) → List Int → Int → Int → Int → List (S33) → List Int → Int → Option (List Int × Int × Bool)
 | 0, _, _, _, _, _, _, _, _ => none
 | k + 1, x1, x7, x8, x9, x10, x213000, x213001, x213002 => if x10 < (x1.length : Int) then (if 0 ≤ x10 then (if ((rd_T49 x1 x10).f1) ≥ 0 then (emendateref36_Run.j1 k x1 x7 x8 x9 x10 (decide (x9 < (x213000.length : Int))) (decide (((rd_T49 x1 x10).f1) < (x213001.length : Int))) x213000 x213001 x213002 ((rd_T49 x1 x10).f0) ((rd_T49 x1 x10).f1)) else (emendateref36_Run.j1 k x1 x7 x8 x9 x10 (decide (x9 < (x213000.length : Int))) false x213000 x213001 x213002 ((rd_T49 x1 x10).f0) ((rd_T49 x1 x10).f1))) else (none)) else (if x9 = (x213000.length : Int) then (some (x7, x8, true)) else (some (([] : List Int), 0, false)))
def emendateref36_Run.j1 : Nat → List (S49) → List Int → Int → Int → Int → Bool → Bool → List (S33) → List Int → Int → Int → Int → Option (List Int × Int × Bool)
 | 0, _, _, _, _, _, _, _, _, _, _, _, _ => none
 | k + 1, x1, x7, x8, x9, x10, x12, x13, x213000, x213001, x213002, x215000, x215001 => if x215000 = 1 then (if x12 = true then (if x13 = true then (if 0 ≤ x9 then (if x9 < (x213000.length : Int) then (if 0 ≤ x215001 then (if x215001 < (((rd_T33 x213000 x9).f1).length : Int) then (emendateref36_Run.j2 k x1 x7 x8 x9 x10 x12 x13 (decide ((rd ((rd_T33 x213000 x9).f1) x215001) ≥ 0)) x213000 x213001 x213002 x215000 x215001) else (none)) else (none)) else (none)) else (none)) else (emendateref36_Run.j2 k x1 x7 x8 x9 x10 x12 x13 false x213000 x213001 x213002 x215000 x215001)) else (emendateref36_Run.j2 k x1 x7 x8 x9 x10 x12 x13 false x213000 x213001 x213002 x215000 x215001)) else (emendateref36_Run.j2 k x1 x7 x8 x9 x10 x12 x13 false x213000 x213001 x213002 x215000 x215001)
def emendateref36_Run.j2 : Nat → List (S49) → List Int → Int → Int → Int → Bool → Bool → Bool → List (S33) → List Int → Int → Int → Int → Option (List Int × Int × Bool)
 | 0, _, _, _, _, _, _, _, _, _, _, _, _, _ => none
 | k + 1, x1, x7, x8, x9, x10, x12, x13, x40, x213000, x213001, x213002, x215000, x215001 => if x40 = true then (if x7.length < 17592186044416 then (if 0 ≤ x9 then (if x9 < (x213000.length : Int) then (if 0 ≤ x215001 then (if x215001 < (((rd_T33 x213000 x9).f1).length : Int) then ((emendateref36_plus.f x8 (rd ((rd_T33 x213000 x9).f1) x215001)).bind fun t222 => (emendateref36_Run.l0 k x1 (x7 ++ [x215001]) t222 (wrap64 (x9 + 1)) (wrap64 (x10 + 1)) x213000 x213001 x213002)) else (none)) else (none)) else (none)) else (none)) else (none)) else (if x215000 = 2 then (if x12 = true then (if x215001 = 0 then (if 0 ≤ x9 then (if x9 < (x213000.length : Int) then (emendateref36_Run.j3 k x1 x7 x8 x9 x10 x13 (decide (((rd_T33 x213000 x9).f2) < 1099511627776)) x213000 x213001 x213002 x215000 x215001) else (none)) else (none)) else (emendateref36_Run.j3 k x1 x7 x8 x9 x10 x13 false x213000 x213001 x213002 x215000 x215001)) else (emendateref36_Run.j3 k x1 x7 x8 x9 x10 x13 false x213000 x213001 x213002 x215000 x215001)) else (emendateref36_Run.j3 k x1 x7 x8 x9 x10 x13 false x213000 x213001 x213002 x215000 x215001))
def emendateref36_Run.j3 : Nat → List (S49) → List Int → Int → Int → Int → Bool → Bool → List (S33) → List Int → Int → Int → Int → Option (List Int × Int × Bool)
 | 0, _, _, _, _, _, _, _, _, _, _, _, _ => none
 | k + 1, x1, x7, x8, x9, x10, x13, x82, x213000, x213001, x213002, x215000, x215001 => if x82 = true then (if 0 ≤ x9 then (if x9 < (x213000.length : Int) then ((emendateref36_plus.f x8 ((rd_T33 x213000 x9).f2)).bind fun t225 => (emendateref36_Run.l0 k x1 x7 t225 (wrap64 (x9 + 1)) (wrap64 (x10 + 1)) x213000 x213001 x213002)) else (none)) else (none)) else (if x215000 = 3 then (emendateref36_Run.j4 k x1 x7 x8 x9 x10 x13 x213000 x213001 x213002 x215000 x215001) else (emendateref36_Run.j4 k x1 x7 x8 x9 x10 false x213000 x213001 x213002 x215000 x215001))
def emendateref36_Run.j4 : Nat → List (S49) → List Int → Int → Int → Int → Bool → List (S33) → List Int → Int → Int → Int → Option (List Int × Int × Bool)
 | 0, _, _, _, _, _, _, _, _, _, _, _ => none
 | k + 1, x1, x7, x8, x9, x10, x113, x213000, x213001, x213002, x215000, x215001 => if x113 = true then (if x7.length < 17592186044416 then (if 0 ≤ x215001 then (if x215001 < (x213001.length : Int) then ((emendateref36_plus.f x8 (rd x213001 x215001)).bind fun t230 => (emendateref36_Run.l0 k x1 (x7 ++ [x215001]) t230 x9 (wrap64 (x10 + 1)) x213000 x213001 x213002)) else (none)) else (none)) else (none)) else (if x215000 = 4 then (if x215001 = 0 then ((emendateref36_swappable.f x213000 x213001 x213002 x9).bind fun t231 => (if t231 = true then (if 0 ≤ (wrap64 (x9 + 1)) then (if (wrap64 (x9 + 1)) < (x213000.length : Int) then (if 0 ≤ x9 then (if x9 < (x213000.length : Int) then ((some (([(rd_T33 x213000 (wrap64 (x9 + 1))).f0, (rd_T33 x213000 x9).f0] : List Int) : List Int)).bind fun y234 => (if x7.length + y234.length < 17592186044416 then ((emendateref36_plus.f x8 x213002).bind fun t240 => (emendateref36_Run.l0 k x1 (x7 ++ y234) t240 (wrap64 (x9 + 2)) (wrap64 (x10 + 1)) x213000 x213001 x213002)) else (none))) else (none)) else (none)) else (none)) else (none)) else (some (([] : List Int), 0, false)))) else (some (([] : List Int), 0, false))) else (some (([] : List Int), 0, false)))
end
end Go.Proofs.YtnddijafdphbnaaDoor.All
end
section
/- What the printed functions answer: the input's check, the terminals' check, the least costs. Plain Lean, no program in sight. -/
namespace Go.Proofs.YtnddijafdphbnaaDoor.All
open Go.RowKit Go.Proofs.YtnddijafdphbnaaDoorW.PrintWords Go.Proofs.YtnddijafdphbnaaDoorW.PrintLast Go.Proofs.YtnddijafdphbnaaDoorW.PrintMore
set_option linter.unusedVariables false
set_option linter.unusedSimpArgs false

theorem wnat (i : Nat) (h : i ≤ 1000000000) : wrap64 ((i : Int) + 1) = ((i + 1 : Nat) : Int) := by unfold wrap64; omega
theorem rdn (l : List S33) (i : Nat) (h : i < l.length) : rd_T33 l (i : Int) = l[i] := by simp [rd_T33, List.getD, h]
theorem rdi (l : List Int) (i : Nat) (h : i < l.length) : rd l (i : Int) = l[i] := by simp [rd, List.getD, h]

/-! ### The input's check -/
structure GoodC (terms : Nat) (c : S33) : Prop where
 kind0 : -1 ≤ c.f0
 kind1 : c.f0 < (terms : Int)
 row : c.f1.length = terms
 del0 : 1 ≤ c.f2
 del1 : c.f2 ≤ 60000 ∨ c.f2 = 1099511627776
 own : ∀ t : Nat, t < terms → (t : Int) = c.f0 → rd c.f1 (t : Int) = 0
 other : ∀ t : Nat, t < terms → (t : Int) ≠ c.f0 → rd c.f1 (t : Int) = -1 ∨ (1 ≤ rd c.f1 (t : Int) ∧ rd c.f1 (t : Int) ≤ 60000)
structure Good (cols : List S33) (ins : List Int) (sw : Int) : Prop where
 n : cols.length ≤ 8
 m : ins.length ≤ 8
 sw0 : 0 ≤ sw
 sw1 : sw ≤ 60000
 col : ∀ c ∈ cols, GoodC ins.length c
 insb : ∀ t : Nat, t < ins.length → 1 ≤ rd ins (t : Int) ∧ rd ins (t : Int) ≤ 60000

theorem column_l0 (kd dl : Int) (r : List Int) (n : Nat) (hn : n ≤ 8) (hr : r.length = n) : ∀ (d i : Nat), i + d = n → ∃ b, Ev (fun k => emendateref35_Column.l0 k (n : Int) (i : Int) kd r dl) b ∧ (b = true → ∀ t : Nat, i ≤ t → t < n → ((t : Int) = kd → rd r (t : Int) = 0) ∧ ((t : Int) ≠ kd → rd r (t : Int) = -1 ∨ (1 ≤ rd r (t : Int) ∧ rd r (t : Int) ≤ 60000)))
 | 0, i, h => ⟨true, Ev.step (f := fun _ => some true) (fun k => by simp only [emendateref35_Column.l0]; rw [if_neg (by omega)]) (Ev.now _), fun _ t h1 h2 => by omega⟩
 | d + 1, i, h => by
  obtain ⟨b, hb, hb2⟩ := column_l0 kd dl r n hn hr d (i + 1) (by omega)
  have go : ∀ t : Nat, i ≤ t → t < n → t = i ∨ i + 1 ≤ t := fun t h1 h2 => by omega
  by_cases h1 : (i : Int) = kd
  ·
   by_cases h2 : rd r (i : Int) = 0
   ·
    refine ⟨b, Ev.step (f := fun k => emendateref35_Column.l0 k (n : Int) ((i + 1 : Nat) : Int) kd r dl) (fun k => ?_) hb, fun hh t k1 k2 => ?_⟩
    ·
     simp only [emendateref35_Column.l0]
     rw [if_pos (by omega), if_pos (by omega), if_pos (by omega), if_pos h1, if_pos h2, wnat i (by omega)]
    ·
     rcases go t k1 k2 with rfl | k3
     ·
      exact ⟨fun _ => h2, fun k => absurd h1 k⟩
     ·
      exact hb2 hh t k3 k2
   ·
    refine ⟨false, Ev.step (f := fun _ => some false) (fun k => ?_) (Ev.now _), fun hh => nomatch hh⟩
    simp only [emendateref35_Column.l0]
    rw [if_pos (by omega), if_pos (by omega), if_pos (by omega), if_pos h1, if_neg h2]
  ·
   by_cases h2 : rd r (i : Int) = -1
   ·
    refine ⟨b, Ev.step (f := fun k => emendateref35_Column.l0 k (n : Int) ((i + 1 : Nat) : Int) kd r dl) (fun k => ?_) hb, fun hh t k1 k2 => ?_⟩
    ·
     simp only [emendateref35_Column.l0]
     rw [if_pos (by omega), if_pos (by omega), if_pos (by omega), if_neg h1, if_pos h2, wnat i (by omega)]
    ·
     rcases go t k1 k2 with rfl | k3
     ·
      exact ⟨fun k => absurd k h1, fun _ => Or.inl h2⟩
     ·
      exact hb2 hh t k3 k2
   ·
    by_cases h3 : rd r (i : Int) < 1
    ·
     refine ⟨false, Ev.step (f := fun _ => some false) (fun k => ?_) (Ev.now _), fun hh => nomatch hh⟩
     simp only [emendateref35_Column.l0]
     rw [if_pos (by omega), if_pos (by omega), if_pos (by omega), if_neg h1, if_neg h2, if_pos h3]
    ·
     by_cases h4 : rd r (i : Int) > 60000
     ·
      refine ⟨false, Ev.step (f := fun _ => some false) (fun k => ?_) (Ev.now _), fun hh => nomatch hh⟩
      simp only [emendateref35_Column.l0]
      rw [if_pos (by omega), if_pos (by omega), if_pos (by omega), if_neg h1, if_neg h2, if_neg h3, if_pos h4]
     ·
      refine ⟨b, Ev.step (f := fun k => emendateref35_Column.l0 k (n : Int) ((i + 1 : Nat) : Int) kd r dl) (fun k => ?_) hb, fun hh t k1 k2 => ?_⟩
      ·
       simp only [emendateref35_Column.l0]
       rw [if_pos (by omega), if_pos (by omega), if_pos (by omega), if_neg h1, if_neg h2, if_neg h3, if_neg h4, wnat i (by omega)]
      ·
       rcases go t k1 k2 with rfl | k3
       ·
        exact ⟨fun k => absurd k h1, fun _ => Or.inr ⟨by omega, by omega⟩⟩
       ·
        exact hb2 hh t k3 k2
theorem column_no (kd dl : Int) (r : List Int) (a : Int) : Ev (fun k => emendateref35_Column.j0 k a true kd r dl) false := Ev.step (f := fun _ => some false) (fun k => by simp only [emendateref35_Column.j0]; rw [if_pos trivial]) (Ev.now _)
theorem column_ev (c : S33) (n : Nat) (hn : n ≤ 8) : ∃ b, Ev (fun k => emendateref35_Column.f k c.f0 c.f1 c.f2 (n : Int)) b ∧ (b = true → GoodC n c) := by
 have no := column_no c.f0 c.f2 c.f1 (n : Int)
 by_cases h1 : c.f0 < -1
 ·
  exact ⟨false, Ev.congr (fun k => by unfold emendateref35_Column.f; rw [if_pos h1]) no, fun hh => nomatch hh⟩
 by_cases h2 : c.f0 ≥ (n : Int)
 ·
  exact ⟨false, Ev.congr (fun k => by unfold emendateref35_Column.f; rw [if_neg h1, if_pos h2]) no, fun hh => nomatch hh⟩
 by_cases h3 : (c.f1.length : Int) = (n : Int)
 ·
  by_cases h4 : c.f2 < 1
  ·
   exact ⟨false, Ev.congr (fun k => by unfold emendateref35_Column.f; rw [if_neg h1, if_neg h2, if_pos h3, if_pos h4]) no, fun hh => nomatch hh⟩
  obtain ⟨b, hb, hb2⟩ := column_l0 c.f0 c.f2 c.f1 n hn (by omega) n 0 (by omega)
  have yes : Ev (fun k => emendateref35_Column.j0 k (n : Int) false c.f0 c.f1 c.f2) b := Ev.step (f := fun k => emendateref35_Column.l0 k (n : Int) ((0 : Nat) : Int) c.f0 c.f1 c.f2) (fun k => by simp only [emendateref35_Column.j0]; rw [if_neg (by simp)]; rfl) hb
  by_cases h5 : c.f2 > 60000
  ·
   by_cases h6 : c.f2 = 1099511627776
   ·
    refine ⟨b, Ev.congr (fun k => by unfold emendateref35_Column.f; rw [if_neg h1, if_neg h2, if_pos h3, if_neg h4, if_pos h5, bne_eq_false_iff_eq.2 h6]) yes, fun hh => ?_⟩
    exact ⟨by omega, by omega, by omega, by omega, Or.inr h6, fun t ht => (hb2 hh t (Nat.zero_le _) ht).1, fun t ht => (hb2 hh t (Nat.zero_le _) ht).2⟩
   ·
    exact ⟨false, Ev.congr (fun k => by unfold emendateref35_Column.f; rw [if_neg h1, if_neg h2, if_pos h3, if_neg h4, if_pos h5, bne_iff_ne.2 h6]) no, fun hh => nomatch hh⟩
  ·
   refine ⟨b, Ev.congr (fun k => by unfold emendateref35_Column.f; rw [if_neg h1, if_neg h2, if_pos h3, if_neg h4, if_neg h5]) yes, fun hh => ?_⟩
   exact ⟨by omega, by omega, by omega, by omega, Or.inl (by omega), fun t ht => (hb2 hh t (Nat.zero_le _) ht).1, fun t ht => (hb2 hh t (Nat.zero_le _) ht).2⟩
 ·
  exact ⟨false, Ev.congr (fun k => by unfold emendateref35_Column.f; rw [if_neg h1, if_neg h2, if_neg h3]) no, fun hh => nomatch hh⟩
theorem columns_l0 (cols : List S33) (hl : cols.length ≤ 8) (n : Nat) (hn : n ≤ 8) : ∀ (d i : Nat), i + d = cols.length → ∃ b, Ev (fun k => emendateref35_columns.l0 k cols (n : Int) (i : Int)) b ∧ (b = true → ∀ c ∈ cols.drop i, GoodC n c)
 | 0, i, h => ⟨true, Ev.step (f := fun _ => some true) (fun k => by simp only [emendateref35_columns.l0]; rw [if_neg (by omega)]) (Ev.now _), fun _ c hc => by rw [List.drop_eq_nil_of_le (by omega)] at hc; cases hc⟩
 | d + 1, i, h => by
  obtain ⟨b, hb, hb2⟩ := columns_l0 cols hl n hn d (i + 1) (by omega)
  obtain ⟨c, hc, hc2⟩ := column_ev (rd_T33 cols (i : Int)) n hn
  cases c with
  | true =>
   refine ⟨b, Ev.step (f := fun k => (emendateref35_Column.f k (rd_T33 cols (i : Int)).f0 (rd_T33 cols (i : Int)).f1 (rd_T33 cols (i : Int)).f2 (n : Int)).bind fun t336 => if t336 = true then emendateref35_columns.l0 k cols (n : Int) ((i + 1 : Nat) : Int) else some false) (fun k => ?_) (Ev.bind hc (Ev.congr (fun k => by rw [if_pos rfl]) hb)), fun hh x hx => ?_⟩
   ·
    simp only [emendateref35_columns.l0]
    rw [if_pos (by omega), if_pos (by omega), wnat i (by omega)]
   ·
    rw [List.drop_eq_getElem_cons (show i < cols.length by omega)] at hx
    rcases List.mem_cons.1 hx with rfl | hx
    ·
     have := hc2 rfl
     rw [rdn cols i (by omega)] at this
     exact this
    ·
     exact hb2 hh x hx
  | false =>
   refine ⟨false, Ev.step (f := fun k => (emendateref35_Column.f k (rd_T33 cols (i : Int)).f0 (rd_T33 cols (i : Int)).f1 (rd_T33 cols (i : Int)).f2 (n : Int)).bind fun t336 => if t336 = true then emendateref35_columns.l0 k cols (n : Int) ((i + 1 : Nat) : Int) else some false) (fun k => ?_) (Ev.bind hc (Ev.congr (f := fun _ => some false) (fun k => by rw [if_neg (by simp)]) (Ev.now _))), fun hh => nomatch hh⟩
   simp only [emendateref35_columns.l0]
   rw [if_pos (by omega), if_pos (by omega), wnat i (by omega)]
theorem valid_l0 (cols : List S33) (ins : List Int) (sw : Int) (hn : ins.length ≤ 8) : ∀ (d i : Nat), i + d = ins.length → ∃ b, Ev (fun k => emendateref35_Valid.l0 k (ins.length : Int) (i : Int) cols ins sw) b ∧ (b = true → ∀ t : Nat, i ≤ t → t < ins.length → 1 ≤ rd ins (t : Int) ∧ rd ins (t : Int) ≤ 60000)
 | 0, i, h => ⟨true, Ev.step (f := fun _ => some true) (fun k => by simp only [emendateref35_Valid.l0]; rw [if_neg (by omega)]) (Ev.now _), fun _ t h1 h2 => by omega⟩
 | d + 1, i, h => by
  obtain ⟨b, hb, hb2⟩ := valid_l0 cols ins sw hn d (i + 1) (by omega)
  by_cases h1 : rd ins (i : Int) < 1
  ·
   refine ⟨false, Ev.step (f := fun _ => some false) (fun k => ?_) (Ev.now _), fun hh => nomatch hh⟩
   simp only [emendateref35_Valid.l0]
   rw [if_pos (by omega), if_pos (by omega), if_pos (by omega), if_pos h1]
  by_cases h2 : rd ins (i : Int) > 60000
  ·
   refine ⟨false, Ev.step (f := fun _ => some false) (fun k => ?_) (Ev.now _), fun hh => nomatch hh⟩
   simp only [emendateref35_Valid.l0]
   rw [if_pos (by omega), if_pos (by omega), if_pos (by omega), if_neg h1, if_pos h2]
  refine ⟨b, Ev.step (f := fun k => emendateref35_Valid.l0 k (ins.length : Int) ((i + 1 : Nat) : Int) cols ins sw) (fun k => ?_) hb, fun hh t k1 k2 => ?_⟩
  ·
   simp only [emendateref35_Valid.l0]
   rw [if_pos (by omega), if_pos (by omega), if_pos (by omega), if_neg h1, if_neg h2, wnat i (by omega)]
  ·
   rcases (show t = i ∨ i + 1 ≤ t by omega) with rfl | k3
   ·
    exact ⟨by omega, by omega⟩
   ·
    exact hb2 hh t k3 k2
theorem valid_ev (cols : List S33) (ins : List Int) (sw : Int) (hl : cols.length ≤ 8) (hn : ins.length ≤ 8) : ∃ b, Ev (fun k => emendateref35_Valid.f k cols ins sw (ins.length : Int)) b ∧ (b = true → Good cols ins sw) := by
 have no : Ev (fun k => emendateref35_Valid.j0 k (ins.length : Int) true cols ins sw) false := Ev.step (f := fun _ => some false) (fun k => by simp only [emendateref35_Valid.j0]; rw [if_pos trivial]) (Ev.now _)
 by_cases h1 : sw < 0
 ·
  exact ⟨false, Ev.congr (fun k => by unfold emendateref35_Valid.f; rw [if_neg (by omega), if_neg (by omega), if_pos rfl, if_pos h1]) no, fun hh => nomatch hh⟩
 by_cases h2 : sw > 60000
 ·
  exact ⟨false, Ev.congr (fun k => by unfold emendateref35_Valid.f; rw [if_neg (by omega), if_neg (by omega), if_pos rfl, if_neg h1, if_pos h2]) no, fun hh => nomatch hh⟩
 obtain ⟨b, hb, hb2⟩ := valid_l0 cols ins sw hn ins.length 0 (by omega)
 have yes : Ev (fun k => emendateref35_Valid.j0 k (ins.length : Int) false cols ins sw) b := Ev.step (f := fun k => emendateref35_Valid.l0 k (ins.length : Int) ((0 : Nat) : Int) cols ins sw) (fun k => by simp only [emendateref35_Valid.j0]; rw [if_neg (by simp)]; rfl) hb
 obtain ⟨c, hc, hc2⟩ := columns_l0 cols hl ins.length hn cols.length 0 (by omega)
 have hcf : Ev (fun k => emendateref35_columns.f k cols (ins.length : Int)) c := Ev.congr (fun k => rfl) hc
 cases c with
 | true =>
  refine ⟨b, Ev.congr (f := fun k => (emendateref35_columns.f k cols (ins.length : Int)).bind fun t338 => emendateref35_Valid.j0 k (ins.length : Int) (!t338) cols ins sw) (fun k => by unfold emendateref35_Valid.f; rw [if_neg (by omega), if_neg (by omega), if_pos rfl, if_neg h1, if_neg h2]) (Ev.bind hcf yes), fun hh => ?_⟩
  exact ⟨hl, hn, by omega, by omega, fun c h => hc2 rfl c (by simpa using h), fun t ht => hb2 hh t (Nat.zero_le _) ht⟩
 | false => exact ⟨false, Ev.congr (f := fun k => (emendateref35_columns.f k cols (ins.length : Int)).bind fun t338 => emendateref35_Valid.j0 k (ins.length : Int) (!t338) cols ins sw) (fun k => by unfold emendateref35_Valid.f; rw [if_neg (by omega), if_neg (by omega), if_pos rfl, if_neg h1, if_neg h2]) (Ev.bind hcf no), fun hh => nomatch hh⟩
theorem small_l0 (cols : List S33) (ins : List Int) (sw : Int) (hl : cols.length ≤ 8) : ∀ (d i : Nat), i + d = cols.length → ∃ b, Ev (fun k => emendateref36_Small.l0 k (i : Int) cols ins sw) b
 | 0, i, h => ⟨true, Ev.step (f := fun _ => some true) (fun k => by simp only [emendateref36_Small.l0]; rw [if_neg (by omega)]) (Ev.now _)⟩
 | d + 1, i, h => by
  obtain ⟨b, hb⟩ := small_l0 cols ins sw hl d (i + 1) (by omega)
  by_cases h1 : ((rd_T33 cols (i : Int)).f1.length : Int) > 8
  ·
   exact ⟨false, Ev.step (f := fun _ => some false) (fun k => by simp only [emendateref36_Small.l0]; rw [if_pos (by omega), if_pos (by omega), if_pos h1]) (Ev.now _)⟩
  ·
   exact ⟨b, Ev.step (f := fun k => emendateref36_Small.l0 k ((i + 1 : Nat) : Int) cols ins sw) (fun k => by simp only [emendateref36_Small.l0]; rw [if_pos (by omega), if_pos (by omega), if_neg h1, wnat i (by omega)]) hb⟩
theorem small_ev (cols : List S33) (ins : List Int) (sw : Int) : ∃ b, Ev (fun k => emendateref36_Small.f k cols ins sw) b ∧ (b = true → cols.length ≤ 8 ∧ ins.length ≤ 8) := by
 have no : Ev (fun k => emendateref36_Small.j0 k true cols ins sw) false := Ev.step (f := fun _ => some false) (fun k => by simp only [emendateref36_Small.j0]; rw [if_pos trivial]) (Ev.now _)
 by_cases h1 : (cols.length : Int) > 8
 ·
  exact ⟨false, Ev.congr (fun k => by unfold emendateref36_Small.f; rw [if_pos h1]) no, fun hh => nomatch hh⟩
 by_cases h2 : (ins.length : Int) > 8
 ·
  exact ⟨false, Ev.congr (fun k => by unfold emendateref36_Small.f; rw [if_neg h1, decide_eq_true h2]) no, fun hh => nomatch hh⟩
 obtain ⟨b, hb⟩ := small_l0 cols ins sw (by omega) cols.length 0 (by omega)
 exact ⟨b, Ev.congr (fun k => by unfold emendateref36_Small.f; rw [if_neg h1, decide_eq_false h2]) (Ev.step (f := fun k => emendateref36_Small.l0 k ((0 : Nat) : Int) cols ins sw) (fun k => by simp only [emendateref36_Small.j0]; rw [if_neg (by simp)]; rfl) hb), fun _ => ⟨by omega, by omega⟩⟩
/-- fair: what it lets pass is valid. -/
theorem fair_ev (cols : List S33) (ins : List Int) (sw : Int) : ∃ b, Ev (fun k => emendatelaw36_fair.f k cols ins sw) b ∧ (b = true → Good cols ins sw) := by
 obtain ⟨a, ha, ha2⟩ := small_ev cols ins sw
 cases a with
 | true =>
  obtain ⟨b, hb, hb2⟩ := valid_ev cols ins sw (ha2 rfl).1 (ha2 rfl).2
  exact ⟨b, Ev.congr (f := fun k => (emendateref36_Small.f k cols ins sw).bind fun t342 => (if t342 = true then ((emendateref35_Valid.f k cols ins sw (ins.length : Int)).bind fun t343 => (some t343)) else (some false))) (fun k => rfl) (Ev.bind ha (Ev.congr (fun k => by rw [if_pos rfl]) (Ev.bind hb (Ev.now _)))), hb2⟩
 | false => exact ⟨false, Ev.congr (f := fun k => (emendateref36_Small.f k cols ins sw).bind fun t342 => (if t342 = true then ((emendateref35_Valid.f k cols ins sw (ins.length : Int)).bind fun t343 => (some t343)) else (some false))) (fun k => rfl) (Ev.bind ha (Ev.congr (f := fun _ => some false) (fun k => by rw [if_neg (by simp)]) (Ev.now _))), fun hh => nomatch hh⟩

/-! ### The terminals' check -/
def Proper (ins y : List Int) : Prop := ∀ t ∈ y, 0 ≤ t ∧ t < (ins.length : Int)
instance (ins y : List Int) : Decidable (Proper ins y) := by unfold Proper; infer_instance
theorem proper_l0 (cols : List S33) (ins : List Int) (sw : Int) (y : List Int) (hl : y.length ≤ 1000000) : ∀ (d i : Nat), i + d = y.length → Ev (fun k => editscript_proper.l0 k y (y.length : Int) (i : Int) cols ins sw) (decide (Proper ins (y.drop i)))
 | 0, i, h => by
  have e : decide (Proper ins (y.drop i)) = true := decide_eq_true (by rw [List.drop_eq_nil_of_le (by omega)]; intro t ht; cases ht)
  rw [e]
  exact Ev.step (f := fun _ => some true) (fun k => by simp only [editscript_proper.l0]; rw [if_neg (by omega)]) (Ev.now _)
 | d + 1, i, h => by
  have hi : i < y.length := by omega
  have hd := List.drop_eq_getElem_cons hi
  have hr := rdi y i hi
  by_cases h1 : rd y (i : Int) < 0
  ·
   have e : decide (Proper ins (y.drop i)) = false := decide_eq_false (fun hh => by have := (hh y[i] (by rw [hd]; exact List.mem_cons_self)).1; omega)
   rw [e]
   exact Ev.step (f := fun _ => some false) (fun k => by simp only [editscript_proper.l0]; rw [if_pos (by omega), if_pos (by omega), if_pos (by omega), if_pos h1]) (Ev.now _)
  by_cases h2 : rd y (i : Int) ≥ (ins.length : Int)
  ·
   have e : decide (Proper ins (y.drop i)) = false := decide_eq_false (fun hh => by have := (hh y[i] (by rw [hd]; exact List.mem_cons_self)).2; omega)
   rw [e]
   exact Ev.step (f := fun _ => some false) (fun k => by simp only [editscript_proper.l0]; rw [if_pos (by omega), if_pos (by omega), if_pos (by omega), if_neg h1, if_pos h2]) (Ev.now _)
  have e : decide (Proper ins (y.drop i)) = decide (Proper ins (y.drop (i + 1))) := by
   refine decide_eq_decide.2 ⟨fun hh t ht => hh t (by rw [hd]; exact List.mem_cons_of_mem _ ht), fun hh t ht => ?_⟩
   rw [hd] at ht
   rcases List.mem_cons.1 ht with rfl | ht
   ·
    exact ⟨by omega, by omega⟩
   ·
    exact hh t ht
  rw [e]
  exact Ev.step (f := fun k => editscript_proper.l0 k y (y.length : Int) ((i + 1 : Nat) : Int) cols ins sw) (fun k => by simp only [editscript_proper.l0]; rw [if_pos (by omega), if_pos (by omega), if_pos (by omega), if_neg h1, if_neg h2, wnat i (by omega)]) (proper_l0 cols ins sw y hl d (i + 1) (by omega))
theorem proper_ev (cols : List S33) (ins : List Int) (sw : Int) (y : List Int) (hl : y.length ≤ 1000000) : Ev (fun k => editscript_proper.f k cols ins sw y) (decide (Proper ins y)) := Ev.congr (fun k => rfl) (proper_l0 cols ins sw y hl y.length 0 (by omega))
end Go.Proofs.YtnddijafdphbnaaDoor.All
end
section
/- What the reference's Run answers: the plain fold. Plain Lean, no program in sight. -/
namespace Go.Proofs.YtnddijafdphbnaaDoor.All
open Go.RowKit Go.Proofs.YtnddijafdphbnaaDoorW.PrintWords Go.Proofs.YtnddijafdphbnaaDoorW.PrintLast Go.Proofs.YtnddijafdphbnaaDoorW.PrintMore
set_option linter.unusedVariables false
set_option linter.unusedSimpArgs false

theorem rswp {cols : List S33} {ins : List Int} {sw : Int} (hl : cols.length ≤ 1000000) (a : Nat) (ha : a ≤ cols.length) : emendateref36_swappable.f cols ins sw (a : Int) = some (decide (swp cols sw a)) := by
 unfold emendateref36_swappable.f
 rw [wnat a (by omega)]
 have e1 : ((a + 1 : Nat) : Int) = (a : Int) + 1 := by omega
 by_cases h1 : sw > 0
 ·
  rw [if_pos h1]
  by_cases h2 : a + 1 < cols.length
  ·
   rw [if_pos (by omega), if_pos (by omega), if_pos (by omega)]
   by_cases h3 : (rd_T33 cols (a : Int)).f0 ≥ 0
   ·
    rw [if_pos h3, if_pos (by omega), e1]
    congr 1
    by_cases h4 : (rd_T33 cols ((a : Int) + 1)).f0 ≥ 0
    ·
     rw [decide_eq_true h4, decide_eq_true (show swp cols sw a from ⟨h1, h2, h3, h4⟩)]
    ·
     rw [decide_eq_false h4, decide_eq_false (show ¬ swp cols sw a from fun h => h4 h.2.2.2)]
   ·
    rw [if_neg h3, decide_eq_false (show ¬ swp cols sw a from fun h => h3 h.2.2.1)]
  ·
   rw [if_neg (by omega), decide_eq_false (show ¬ swp cols sw a from fun h => h2 h.2.1)]
 ·
  rw [if_neg h1, decide_eq_false (show ¬ swp cols sw a from fun h => h1 h.1)]

section
variable {l : List S49} {cols : List S33} {ins : List Int} {sw : Int} {i at_ k t c : Int} {out : List Int} {b12 b13 : Bool}
end
end Go.Proofs.YtnddijafdphbnaaDoor.All
end
section
/- The least costs: what the table of the program holds. Plain Lean, no program in sight. -/
namespace Go.Proofs.YtnddijafdphbnaaDoor.All
open Go.RowKit Go.Proofs.YtnddijafdphbnaaDoorW.PrintWords Go.Proofs.YtnddijafdphbnaaDoorW.PrintLast Go.Proofs.YtnddijafdphbnaaDoorW.PrintMore
set_option linter.unusedVariables false
set_option linter.unusedSimpArgs false

/-- The least cost over some operations. -/
def foldS (g : S64 → Int) : Int → List S64 → Int
 | b, [] => b
 | b, s :: l => foldS g (mn b (addE s.f1 (g s))) l
theorem foldS_congr {g h : S64 → Int} : ∀ (l : List S64) (b : Int), (∀ s ∈ l, g s = h s) → foldS g b l = foldS h b l
 | [], b, _ => rfl
 | s :: l, b, H => by
  simp only [foldS]
  rw [H s List.mem_cons_self]
  exact foldS_congr l _ (fun t ht => H t (List.mem_cons_of_mem _ ht))
def DF (cols : List S33) (ins : List Int) (sw : Int) (y : List Int) : Nat → Nat → Nat → Int
 | 0, _, _ => 1099511627776
 | f + 1, i, j => if i = cols.length ∧ j = y.length then 0 else foldS (fun s => DF cols ins sw y f (i + s.f2.toNat) (j + s.f3.toNat)) 1099511627776 (stepsE cols ins sw y i j)
/-- The least cost of a script for what is left behind i tokens and j terminals. -/
def Dd (cols : List S33) (ins : List Int) (sw : Int) (y : List Int) (i j : Nat) : Int := DF cols ins sw y (cols.length + y.length - i - j + 1) i j

section
variable {cols : List S33} {ins : List Int} {sw : Int} {y : List Int}
theorem steps_mem {i j : Nat} (hi : i ≤ cols.length) (hj : j ≤ y.length) {s : S64} (h : s ∈ stepsE cols ins sw y i j) : ∃ a b : Nat, s.f2 = (a : Int) ∧ s.f3 = (b : Int) ∧ 1 ≤ a + b ∧ i + a ≤ cols.length ∧ j + b ≤ y.length := by
 unfold stepsE at h
 rcases List.mem_append.1 h with h | h
 ·
  rcases List.mem_append.1 h with h | h
  ·
   rcases List.mem_append.1 h with h | h
   ·
    unfold stA at h
    split at h
    ·
     rename_i hc
     rw [List.mem_singleton] at h
     subst h
     exact ⟨1, 1, rfl, rfl, by omega, by omega, by omega⟩
    ·
     cases h
   ·
    unfold stB at h
    split at h
    ·
     rename_i hc
     rw [List.mem_singleton] at h
     subst h
     exact ⟨1, 0, rfl, rfl, by omega, by omega, by omega⟩
    ·
     cases h
  ·
   unfold stC at h
   split at h
   ·
    rename_i hc
    rw [List.mem_singleton] at h
    subst h
    exact ⟨0, 1, rfl, rfl, by omega, by omega, by omega⟩
   ·
    cases h
 ·
  unfold stD at h
  split at h
  ·
   rename_i hc
   have := hc.2.1.2.1
   rw [List.mem_singleton] at h
   subst h
   exact ⟨2, 2, rfl, rfl, by omega, by omega, by omega⟩
  ·
   cases h
theorem steps_len {i j : Nat} : (stepsE cols ins sw y i j).length ≤ 4 := by
 unfold stepsE stA stB stC stD
 split <;> split <;> split <;> split <;> simp
theorem DF_stable : ∀ (f f' i j : Nat), i ≤ cols.length → j ≤ y.length → cols.length + y.length - i - j + 1 ≤ f → cols.length + y.length - i - j + 1 ≤ f' → DF cols ins sw y f i j = DF cols ins sw y f' i j
 | 0, f', i, j, hi, hj, h, h' => by omega
 | f + 1, 0, i, j, hi, hj, h, h' => by omega
 | f + 1, f' + 1, i, j, hi, hj, h, h' => by
  simp only [DF]
  split
  ·
   rfl
  ·
   refine foldS_congr _ _ fun s hs => ?_
   obtain ⟨a, b, ha, hb, h1, h2, h3⟩ := steps_mem hi hj hs
   rw [ha, hb, Int.toNat_natCast, Int.toNat_natCast]
   exact DF_stable f f' (i + a) (j + b) h2 h3 (by omega) (by omega)
theorem Dd_eq {i j : Nat} (hi : i ≤ cols.length) (hj : j ≤ y.length) : Dd cols ins sw y i j = if i = cols.length ∧ j = y.length then 0 else foldS (fun s => Dd cols ins sw y (i + s.f2.toNat) (j + s.f3.toNat)) 1099511627776 (stepsE cols ins sw y i j) := by
 unfold Dd
 simp only [DF]
 split
 ·
  rfl
 ·
  refine foldS_congr _ _ fun s hs => ?_
  obtain ⟨a, b, ha, hb, h1, h2, h3⟩ := steps_mem hi hj hs
  rw [ha, hb, Int.toNat_natCast, Int.toNat_natCast]
  exact DF_stable (cols.length + y.length - i - j) (cols.length + y.length - (i + a) - (j + b) + 1) (i + a) (j + b) h2 h3 (by omega) (by omega)
theorem Dd_end : Dd cols ins sw y cols.length y.length = 0 := by rw [Dd_eq (Nat.le_refl _) (Nat.le_refl _), if_pos ⟨rfl, rfl⟩]
theorem stOk (G : Good cols ins sw) (hy : Proper ins y) (hm : y.length ≤ 1000) {i j : Nat} (hi : i ≤ cols.length) (hj : j ≤ y.length) : StOk cols ins y i j := by
 have h1 := G.n
 have h2 := G.m
 refine ⟨hi, hj, by omega, by omega, by omega, fun h => ?_, fun h h' => ?_⟩
 ·
  rw [rdi y j h]
  exact hy _ (List.getElem_mem h)
 ·
  rw [rdi y j h', rdn cols i h, (G.col _ (List.getElem_mem h)).row]
  exact (hy _ (List.getElem_mem h')).2
theorem steps_ev (G : Good cols ins sw) (hy : Proper ins y) (hm : y.length ≤ 1000) {i j : Nat} (hi : i ≤ cols.length) (hj : j ≤ y.length) (k : Nat) : editscript_steps.f k cols ins sw y (i : Int) (j : Int) = some (stepsE cols ins sw y i j) := by
 unfold editscript_steps.f
 rw [if_pos ⟨by omega, by omega, by simpa using stOk G hy hm hi hj⟩]
 simp

theorem l2_ev (G : Good cols ins sw) (hm : y.length ≤ 1000) (T : List (List Int)) (i j : Nat) (hi : i ≤ cols.length) (hj : j ≤ y.length) (hT : T.length = cols.length + 1) (hr : (rd_L1 T (i : Int)).length = y.length + 1) (st : List S64) (hs4 : st.length ≤ 4) (g : S64 → Int)
  (hst : ∀ s ∈ st, ∃ a b : Nat, s.f2 = (a : Int) ∧ s.f3 = (b : Int) ∧ i + a ≤ cols.length ∧ j + b ≤ y.length ∧ (rd_L1 T ((i + a : Nat) : Int)).length = y.length + 1 ∧ rd (rd_L1 T ((i + a : Nat) : Int)) ((j + b : Nat) : Int) = g s) (r : List (List Int)) :
  ∀ (d s : Nat) (b : Int), s + d = st.length → Ev (fun k => editscript_table.l1 k y (cols.length : Int) (y.length : Int) (T.set i ((rd_L1 T (i : Int)).set j (foldS g b (st.drop s)))) (i : Int) (wrap64 ((j : Int) - 1)) cols ins sw) r →
   Ev (fun k => editscript_table.l2 k y (cols.length : Int) (y.length : Int) T (i : Int) (j : Int) b st (st.length : Int) (s : Int) cols ins sw) r
 | 0, s, b, h, H => by
  rw [List.drop_eq_nil_of_le (by omega)] at H
  refine Ev.step (fun k => ?_) H
  have hn := G.n
  simp only [editscript_table.l2, foldS]
  rw [if_neg (by omega), if_pos (by omega), if_pos (by omega), if_pos (by omega), if_pos (by omega), Int.toNat_natCast, Int.toNat_natCast]
 | d + 1, s, b, h, H => by
  have hs : s < st.length := by omega
  have hn := G.n
  rw [List.drop_eq_getElem_cons hs] at H
  simp only [foldS] at H
  have ih := l2_ev G hm T i j hi hj hT hr st hs4 g hst r d (s + 1) _ (by omega) H
  obtain ⟨a, c, ha, hc, h1, h2, h3, h4⟩ := hst st[s] (List.getElem_mem hs)
  have hrd : rd_T64 st (s : Int) = st[s] := by simp [rd_T64, List.getD, hs]
  refine Ev.step (fun k => ?_) ih
  simp only [editscript_table.l2]
  have w1 : wrap64 ((i : Int) + (rd_T64 st (s : Int)).f2) = ((i + a : Nat) : Int) := by rw [hrd, ha]; unfold wrap64; omega
  have w2 : wrap64 ((j : Int) + (rd_T64 st (s : Int)).f3) = ((j + c : Nat) : Int) := by rw [hrd, hc]; unfold wrap64; omega
  rw [if_pos (by omega), if_pos (by omega), if_pos (by omega), w1, w2, if_pos (by omega), if_pos (by omega), if_pos (by omega), if_pos (by omega), h4, hrd, wnat s (by omega)]
  rfl

/-- A row that is done. -/
def Row (cols : List S33) (ins : List Int) (sw : Int) (y : List Int) (T : List (List Int)) (i j : Nat) : Prop := (rd_L1 T (i : Int)).length = y.length + 1 ∧ ∀ j', j ≤ j' → j' ≤ y.length → rd (rd_L1 T (i : Int)) (j' : Int) = Dd cols ins sw y i j'
def Tab (cols : List S33) (ins : List Int) (sw : Int) (y : List Int) (T : List (List Int)) (i : Nat) : Prop := T.length = cols.length + 1 ∧ ∀ i', i ≤ i' → i' ≤ cols.length → Row cols ins sw y T i' 0
theorem rd_set_ne (l : List Int) (a b : Nat) (v : Int) (h : a ≠ b) : rd (l.set a v) (b : Int) = rd l (b : Int) := by simp [rd, List.getD, List.getElem?_set, h]
theorem rd_set_eq (l : List Int) (a : Nat) (v : Int) (h : a < l.length) : rd (l.set a v) (a : Int) = v := by simp [rd, List.getD, List.getElem?_set, h]
theorem rdL_set_ne (l : List (List Int)) (a b : Nat) (v : List Int) (h : a ≠ b) : rd_L1 (l.set a v) (b : Int) = rd_L1 l (b : Int) := by simp [rd_L1, List.getD, List.getElem?_set, h]
theorem rdL_set_eq (l : List (List Int)) (a : Nat) (v : List Int) (h : a < l.length) : rd_L1 (l.set a v) (a : Int) = v := by simp [rd_L1, List.getD, List.getElem?_set, h]

/-- One row, from its end to its beginning. -/
theorem l1_ev (G : Good cols ins sw) (hy : Proper ins y) (hm : y.length ≤ 1000) (i : Nat) (hi : i ≤ cols.length) : ∀ (j1 : Nat) (T : List (List Int)), j1 ≤ y.length + 1 → Tab cols ins sw y T (i + 1) → Row cols ins sw y T i j1 → (i = cols.length → j1 = y.length + 1 → rd (rd_L1 T (i : Int)) (y.length : Int) = 0) →
  ∃ T', Tab cols ins sw y T' i ∧ ∀ r, Ev (fun k => editscript_table.l0 k y (cols.length : Int) (y.length : Int) T' (wrap64 ((i : Int) - 1)) cols ins sw) r → Ev (fun k => editscript_table.l1 k y (cols.length : Int) (y.length : Int) T (i : Int) ((j1 : Int) - 1) cols ins sw) r
 | 0, T, hj1, hT, hR, _ => by
  refine ⟨T, ⟨hT.1, fun i' h1 h2 => ?_⟩, fun r H => Ev.step (fun k => by simp only [editscript_table.l1]; rw [if_neg (by omega)]) H⟩
  rcases (show i' = i ∨ i + 1 ≤ i' by omega) with rfl | h
  ·
   exact hR
  ·
   exact hT.2 i' h h2
 | j + 1, T, hj1, hT, hR, hz => by
  have hn := G.n
  have hj : j ≤ y.length := by omega
  have hjc : (((j + 1 : Nat) : Int) - 1) = (j : Int) := by omega
  by_cases he : i = cols.length ∧ j = y.length
  ·
   have hR' : Row cols ins sw y T i j := ⟨hR.1, fun j' h1 h2 => by
    have : j' = y.length := by omega
    subst this
    rw [hz he.1 (by omega), he.1, Dd_end]⟩
   obtain ⟨T', h1, h2⟩ := l1_ev G hy hm i hi j T (by omega) hT hR' (fun _ h => by omega)
   refine ⟨T', h1, fun r H => ?_⟩
   have h3 := h2 r H
   refine Ev.step (f := fun k => editscript_table.j2 k y (cols.length : Int) (y.length : Int) T (i : Int) (j : Int) true cols ins sw) (fun k => ?_) (Ev.step (f := fun k => editscript_table.l1 k y (cols.length : Int) (y.length : Int) T (i : Int) ((j : Int) - 1) cols ins sw) (fun k => ?_) h3)
   ·
    simp only [editscript_table.l1]
    rw [hjc, if_pos (by omega), if_pos (by omega)]
    have : ((j : Int) == (y.length : Int)) = true := by rw [he.2]; simp
    rw [this]
   ·
    simp only [editscript_table.j2]
    have hw : wrap64 ((j : Int) - 1) = (j : Int) - 1 := by unfold wrap64; omega
    rw [if_pos trivial, hw]
  ·
   have hrow := hR.1
   have hg : ∀ s ∈ stepsE cols ins sw y i j, ∃ a b : Nat, s.f2 = (a : Int) ∧ s.f3 = (b : Int) ∧ i + a ≤ cols.length ∧ j + b ≤ y.length ∧ (rd_L1 T ((i + a : Nat) : Int)).length = y.length + 1 ∧ rd (rd_L1 T ((i + a : Nat) : Int)) ((j + b : Nat) : Int) = Dd cols ins sw y (i + s.f2.toNat) (j + s.f3.toNat) := by
    intro s hs
    obtain ⟨a, b, ha, hb, h1, h2, h3⟩ := steps_mem hi hj hs
    refine ⟨a, b, ha, hb, h2, h3, ?_⟩
    rw [ha, hb, Int.toNat_natCast, Int.toNat_natCast]
    cases a with
    | zero => exact ⟨hR.1, hR.2 (j + b) (by omega) h3⟩
    | succ a => exact ⟨(hT.2 (i + (a + 1)) (by omega) h2).1, (hT.2 (i + (a + 1)) (by omega) h2).2 (j + b) (Nat.zero_le _) h3⟩
   obtain ⟨v, hv⟩ : ∃ v, v = foldS (fun s => Dd cols ins sw y (i + s.f2.toNat) (j + s.f3.toNat)) 1099511627776 (stepsE cols ins sw y i j) := ⟨_, rfl⟩
   have hD : Dd cols ins sw y i j = v := by rw [Dd_eq hi hj, if_neg he, hv]
   have hTl := hT.1
   have hT2 : Tab cols ins sw y (T.set i ((rd_L1 T (i : Int)).set j v)) (i + 1) := ⟨by simpa using hT.1, fun i' h1 h2 => by
    unfold Row
    rw [rdL_set_ne _ _ _ _ (by omega)]
    exact hT.2 i' h1 h2⟩
   have hR2 : Row cols ins sw y (T.set i ((rd_L1 T (i : Int)).set j v)) i j := by
    unfold Row
    rw [rdL_set_eq _ _ _ (by omega)]
    refine ⟨by simpa using hR.1, fun j' h1 h2 => ?_⟩
    rcases (show j' = j ∨ j + 1 ≤ j' by omega) with rfl | h
    ·
     rw [rd_set_eq _ _ _ (by omega), hD]
    ·
     rw [rd_set_ne _ _ _ _ (by omega)]
     exact hR.2 j' h h2
   obtain ⟨T', h1, h2⟩ := l1_ev G hy hm i hi j _ (by omega) hT2 hR2 (fun _ h => by omega)
   refine ⟨T', h1, fun r H => ?_⟩
   have h3 := h2 r H
   have hw : wrap64 ((j : Int) - 1) = (j : Int) - 1 := by unfold wrap64; omega
   have h4 := l2_ev G hm T i j hi hj hT.1 hR.1 (stepsE cols ins sw y i j) steps_len _ hg r (stepsE cols ins sw y i j).length 0 1099511627776 (by omega) (by rw [List.drop_zero, ← hv, hw]; exact h3)
   refine Ev.step (f := fun k => editscript_table.j2 k y (cols.length : Int) (y.length : Int) T (i : Int) (j : Int) false cols ins sw) (fun k => ?_) (Ev.step (f := fun k => editscript_table.l2 k y (cols.length : Int) (y.length : Int) T (i : Int) (j : Int) 1099511627776 (stepsE cols ins sw y i j) ((stepsE cols ins sw y i j).length : Int) ((0 : Nat) : Int) cols ins sw) (fun k => ?_) h4)
   ·
    simp only [editscript_table.l1]
    rw [hjc, if_pos (by omega)]
    by_cases h5 : i = cols.length
    ·
     have : ((j : Int) == (y.length : Int)) = false := by simp; omega
     rw [if_pos (by omega), this]
    ·
     rw [if_neg (by omega)]
   ·
    simp only [editscript_table.j2]
    rw [if_neg (by simp), steps_ev G hy hm hi hj k]
    rfl
/-- All rows, from the last to the first. -/
theorem l0_ev (G : Good cols ins sw) (hy : Proper ins y) (hm : y.length ≤ 1000) : ∀ (i1 : Nat) (T : List (List Int)), i1 ≤ cols.length + 1 → Tab cols ins sw y T i1 → ∃ T', Tab cols ins sw y T' 0 ∧ Ev (fun k => editscript_table.l0 k y (cols.length : Int) (y.length : Int) T ((i1 : Int) - 1) cols ins sw) T'
 | 0, T, hi1, hT => ⟨T, hT, Ev.step (f := fun _ => some T) (fun k => by simp only [editscript_table.l0]; rw [if_neg (by omega)]) (Ev.now _)⟩
 | i + 1, T, hi1, hT => by
  have hn := G.n
  have hi : i ≤ cols.length := by omega
  have hw : wrap64 ((y.length : Int) + 1) = ((y.length + 1 : Nat) : Int) := wnat _ (by omega)
  have hTl := hT.1
  obtain ⟨row, hrow⟩ : ∃ row : List Int, row = List.replicate (y.length + 1) 0 := ⟨_, rfl⟩
  have hz : rd row (y.length : Int) = 0 := by rw [hrow]; simp [rd, List.getD]
  have hT2 : Tab cols ins sw y (T.set i row) (i + 1) := ⟨by simpa using hT.1, fun i' h1 h2 => by
   unfold Row
   rw [rdL_set_ne _ _ _ _ (by omega)]
   exact hT.2 i' h1 h2⟩
  obtain ⟨T1, h1, h2⟩ := l1_ev G hy hm i hi (y.length + 1) (T.set i row) (Nat.le_refl _) hT2 ⟨by rw [rdL_set_eq _ _ _ (by omega), hrow]; simp, fun j' h h' => by omega⟩ (fun _ _ => by rw [rdL_set_eq _ _ _ (by omega)]; exact hz)
  obtain ⟨T', h3, h4⟩ := l0_ev G hy hm i T1 (by omega) h1
  have hwi : wrap64 ((i : Int) - 1) = (i : Int) - 1 := by unfold wrap64; omega
  refine ⟨T', h3, Ev.step (fun k => ?_) (h2 T' (by rw [hwi]; exact h4))⟩
  simp only [editscript_table.l0]
  have hic : (((i + 1 : Nat) : Int) - 1) = (i : Int) := by omega
  rw [hic, hw, if_pos (by omega), if_pos (by omega), Int.toNat_natCast, if_pos (by omega), if_pos (by omega), if_pos (by omega), Int.toNat_natCast, ← hrow]
  congr 1
  omega
theorem table_ev (G : Good cols ins sw) (hy : Proper ins y) (hm : y.length ≤ 1000) : ∃ T, Tab cols ins sw y T 0 ∧ Ev (fun k => editscript_table.f k cols ins sw y) T := by
 have hn := G.n
 have hw : wrap64 ((cols.length : Int) + 1) = ((cols.length + 1 : Nat) : Int) := wnat _ (by omega)
 obtain ⟨T, h1, h2⟩ := l0_ev G hy hm (cols.length + 1) (List.replicate (cols.length + 1) []) (Nat.le_refl _) ⟨by simp, fun i' h h' => by omega⟩
 refine ⟨T, h1, Ev.congr (fun k => ?_) h2⟩
 unfold editscript_table.f
 rw [hw, if_pos (by omega), Int.toNat_natCast, if_pos (by omega)]
 congr 1
 omega
/-- Distance. -/
def distE (cols : List S33) (ins : List Int) (sw : Int) (y : List Int) : Int := if Proper ins y then Dd cols ins sw y 0 0 else 1099511627776
theorem dist_ev (G : Good cols ins sw) (hm : y.length ≤ 1000) : Ev (fun k => editscript_Distance.f k cols ins sw y) (distE cols ins sw y) := by
 have hp := proper_ev cols ins sw y (by omega)
 by_cases hy : Proper ins y
 ·
  obtain ⟨T, ⟨h1, h2⟩, h3⟩ := table_ev G hy hm
  have h4 := h2 0 (Nat.zero_le _) (Nat.zero_le _)
  have h5 := h4.1
  have h6 := h4.2 0 (Nat.zero_le _) (Nat.zero_le _)
  rw [decide_eq_true hy] at hp
  have e : distE cols ins sw y = rd (rd_L1 T 0) 0 := by unfold distE; rw [if_pos hy]; exact h6.symm
  rw [e]
  refine Ev.congr (fun k => rfl) (Ev.bind hp (Ev.congr (fun k => by rw [if_pos rfl]) (Ev.bind h3 (Ev.congr (f := fun _ => some (rd (rd_L1 T 0) 0)) (fun k => ?_) (Ev.now _)))))
  rw [if_pos (by omega), if_pos (by have : (rd_L1 T 0).length = y.length + 1 := h5; omega)]
 ·
  rw [decide_eq_false hy] at hp
  have e : distE cols ins sw y = 1099511627776 := by unfold distE; rw [if_neg hy]
  rw [e]
  exact Ev.congr (fun k => rfl) (Ev.bind hp (Ev.congr (f := fun _ => some 1099511627776) (fun k => by rw [if_neg (by simp)]) (Ev.now _)))
end
end Go.Proofs.YtnddijafdphbnaaDoor.All
end
