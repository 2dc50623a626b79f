/- Some texts, one behind the other. -/
import Derived.Test.YtnddijafdphbnaaDoorAllSt
section
-- Printed by wip/tools/wprint.py (a program of this session over the kit's printer). Not trusted: Lean checks it.
namespace Go.Proofs.YtnddijafdphbnaaDoor.All
open Go.RowKit Go.Proofs.YtnddijafdphbnaaDoorW.PrintWords Go.Proofs.YtnddijafdphbnaaDoorW.PrintLast Go.Proofs.YtnddijafdphbnaaDoorW.PrintMore
attribute [local go_sem] max2_int min2_int max_two min_two max_three min_three max_four min_four   -- for this text's walks alone
set_option linter.unusedVariables false
set_option linter.unusedSimpArgs false

/-! ### emendateref36_Small: function 27 -/
mutual
def emendateref36_Small.j0 : Nat → Bool → List (S33) → List Int → Int → Option (Bool)
 | 0, _, _, _, _ => none
 | k + 1, x13, x332000, x332001, x332002 => if x13 = true then (some false) else (emendateref36_Small.l0 k 0 x332000 x332001 x332002)
def emendateref36_Small.l0 : Nat → Int → List (S33) → List Int → Int → Option (Bool)
 | 0, _, _, _, _ => none
 | k + 1, x3, x332000, x332001, x332002 => if x3 < (x332000.length : Int) then (if 0 ≤ x3 then (if (((rd_T33 x332000 x3).f1).length : Int) > 8 then (some false) else (emendateref36_Small.l0 k (wrap64 (x3 + 1)) x332000 x332001 x332002)) else (none)) else (some true)
end
def emendateref36_Small.f (k : Nat) (l0_0 : List (S33)) (l0_1 : List Int) (a0_2 : Int) : Option (Bool) := if (l0_0.length : Int) > 8 then (emendateref36_Small.j0 k true l0_0 l0_1 a0_2) else (emendateref36_Small.j0 k (decide ((l0_1.length : Int) > 8)) l0_0 l0_1 a0_2)
set_option maxHeartbeats 8000000 in
set_option maxRecDepth 100000 in
theorem emendateref36_Small.calls (k : Nat) (A0_0 : Option Addr) (c0_0 : Nat) (l0_0 : List (S33)) (A0_1 : Option Addr) (c0_1 : Nat) (l0_1 : List Int) (a0_2 : Int) (r : Bool) (w : World) (hr0_0 : Kd.C k33 w A0_0 l0_0.length l0_0) (hc0_0 : l0_0.length ≤ c0_0) (hr0_1 : Kd.C (Kd.int .i64) w A0_1 l0_1.length l0_1) (hc0_1 : l0_1.length ≤ c0_1) (h : emendateref36_Small.f k l0_0 l0_1 a0_2 = some r) :
  Calls Tryd.prog 27 #[.agg #[.slice A0_0 l0_0.length c0_0, .slice A0_1 l0_1.length c0_1, .int .i64 a0_2]] w fun e w' => e = .returned (.bool r) ∧ Below w.heap.size w w' := by
 have hu25 := Tryd.underlying25
 have HR0_0 := Aside0.mk hr0_0
 have HC0_0 := Aside0.mk hc0_0
 clear hr0_0 hc0_0
 have HR0_1 := Aside0.mk hr0_1
 have HC0_1 := Aside0.mk hc0_1
 clear hr0_1 hc0_1
 have HB := Aside0.mk (Below.refl w.heap.size w)
 have H : (if (l0_0.length : Int) > 8 then (emendateref36_Small.j0 k true l0_0 l0_1 a0_2) else (emendateref36_Small.j0 k (decide ((l0_1.length : Int) > 8)) l0_0 l0_1 a0_2)) = some r := h
 clear h
 have HC2 := Aside0.mk H
 clear H
 go_enter Tryd.func27, Tryd.ntmps27
 go_upto_region 1 with (first | ((with_reducible refine gate_dst (N := 1) rfl ?_); (try (refine gate_guard (by rfl) ?_; dsimp only)); refine box_event ?hg (N := 1) ?hd (cs := #[.slice A0_0 l0_0.length c0_0, .slice A0_1 l0_1.length c0_1, .int .i64 a0_2]) (t := 25) ?hr ?_; (case hd => rfl); (case hg => rfl); (case hr => first | (go_simp; done) | (go_simp; rfl)); intro gb331 hg w3 hbox hb; have n0_ := Aside0.mk (below_step (pB HB.out) hb); have n1_ := Aside0.mk (hbox); have n2_ := Aside0.mk ((by rw [hg]; exact (below_size (pB HB.out)) : w.heap.size ≤ gb331)); have n3_ := Aside0.mk ((by rw [hg]; exact (below_size (pB HB.out)) : w.heap.size ≤ gb331)); clear HB; have HB := n0_; have BK331 := n1_; have GW331 := n2_; have GE331 := n3_; clear n0_ n1_ n2_ n3_; clear hb hbox hg))
 (try simp only [Act.put, List.setIfInBounds_toArray, List.set_cons_zero, List.set_cons_succ])
 go_cut [13] (fun v13 wc => ∃ (kq : Nat) (x13_1 : Bool), v13 = .bool x13_1 ∧ Aside0 (emendateref36_Small.j0 kq x13_1 l0_0 l0_1 a0_2 = some r) ∧ Aside0 (kq ≤ k) ∧ Aside0 (wc.heap[gb331]? = some (.cells #[(.slice A0_0 l0_0.length c0_0), (.slice A0_1 l0_1.length c0_1), .int .i64 a0_2] 25 (0, 0))) ∧ Aside0 (Below w.heap.size w wc))
 case first =>
  have H := HC2.out
  clear HC2
  by_cases c4 : (l0_0.length : Int) > 8
  ·
   rw [if_pos c4] at H
   have c4b0 : decide (8 < (l0_0.length : Int)) = true := decide_eq_true c4
   have c4b1 : decide (8 < l0_0.length) = true := decide_eq_true (by omega)
   clear c4
   (first | rw [c4b0] | (simp only [i64_w, i32_w]; rw [c4b0]) | skip)
   have H' := Aside0.mk H
   clear H
   obtain ⟨hcz5_0, hcz5_1, hcz5_2, hfz5_0, hfz5_1, hfz5_2⟩ := cz3 BK331.out
   go_wp2
   go_meet
   case rel => exact ⟨_, (true), rr, H', ⟨by first | omega | exact Nat.le_refl _⟩, ⟨by (with_reducible repeat (first | refine blk_drewN ?_ _ | refine blk_drew ?_ | refine blk_alloc ?_ _)); exact BK331.out⟩, ⟨pb HB.out GE331.out⟩⟩
  ·
   rw [if_neg c4] at H
   have c4b0 : decide (8 < (l0_0.length : Int)) = false := decide_eq_false c4
   have c4b1 : decide (8 < l0_0.length) = false := decide_eq_false (by omega)
   clear c4
   (first | rw [c4b0] | (simp only [i64_w, i32_w]; rw [c4b0]) | skip)
   have H' := Aside0.mk H
   clear H
   obtain ⟨hcz6_0, hcz6_1, hcz6_2, hfz6_0, hfz6_1, hfz6_2⟩ := cz3 BK331.out
   go_wp2
   go_meet
   case rel => exact ⟨_, (decide ((l0_1.length : Int) > 8)), rr, H', ⟨by first | omega | exact Nat.le_refl _⟩, ⟨by (with_reducible repeat (first | refine blk_drewN ?_ _ | refine blk_drew ?_ | refine blk_alloc ?_ _)); exact BK331.out⟩, ⟨pb HB.out GE331.out⟩⟩
 case rest =>
  clear HC2
  obtain ⟨kq, x13_1, rfl, HA, HJ1, BK331, HB⟩ := hcut
  cases kq with
  | zero => exact absurd HA.out (by simp [emendateref36_Small.j0])
  | succ kj1 =>
   have H := HA.out
   clear HA
   simp only [emendateref36_Small.j0] at H
   by_cases c7 : x13_1 = true
   ·
    subst c7
    have H1 : (some false) = some r := by rw [if_pos rfl] at H; exact H
    clear H
    have H := H1
    clear H1
    obtain rfl := Option.some.inj H
    go_wp2
    go_ret
    exact ⟨er, pb HB.out GE331.out⟩
   ·
    replace c7 := Bool.eq_false_iff.mpr c7
    subst c7
    have H1 : (emendateref36_Small.l0 kj1 0 l0_0 l0_1 a0_2) = some r := by rw [if_neg (show ¬ (false = true) by decide)] at H; exact H
    clear H
    have H := H1
    clear H1
    have H' := Aside0.mk H
    clear H
    go_wp2
    go_loopg [3] kj1 (fun kq v3 w' => ∃ (x3_2 : Int), v3 = .int .i64 x3_2 ∧ Aside0 (emendateref36_Small.l0 kq x3_2 l0_0 l0_1 a0_2 = some r) ∧ Aside0 (kq ≤ kj1) ∧ Aside0 (w'.heap[gb331]? = some (.cells #[(.slice A0_0 l0_0.length c0_0), (.slice A0_1 l0_1.length c0_1), .int .i64 a0_2] 25 (0, 0))) ∧ Aside0 (Below w.heap.size w w'))
    case atStart => exact ⟨(0), rr, H', ⟨Nat.le_refl _⟩, ⟨by (with_reducible repeat (first | refine blk_drewN ?_ _ | refine blk_drew ?_ | refine blk_alloc ?_ _)); exact BK331.out⟩, ⟨pb HB.out GE331.out⟩⟩
    case round =>
     clear H'
     try clear c7
     obtain ⟨x3_2, rfl, HA, HK2, BK331, HB⟩ := hrel
     cases gk with
     | zero => exact absurd HA.out (by simp [emendateref36_Small.l0])
     | succ k2 =>
      have H := HA.out
      clear HA
      simp only [emendateref36_Small.l0] at H
      by_cases c8 : x3_2 < (l0_0.length : Int)
      ·
       rw [if_pos c8] at H
       have c8b0 : decide (x3_2 < (l0_0.length : Int)) = true := decide_eq_true c8
       clear c8
       by_cases c9 : 0 ≤ x3_2
       ·
        rw [if_pos c9] at H
        have c9b0 : decide (0 ≤ x3_2) = true := decide_eq_true c9
        clear c9
        by_cases c10 : (((rd_T33 l0_0 x3_2).f1).length : Int) > 8
        ·
         rw [if_pos c10] at H
         have c10b0 : decide (8 < (((rd_T33 l0_0 x3_2).f1).length : Int)) = true := decide_eq_true c10
         have c10b1 : decide (8 < ((rd_T33 l0_0 x3_2).f1).length) = true := decide_eq_true (by omega)
         clear c10
         obtain rfl := Option.some.inj H
         obtain ⟨hcz11_0, hcz11_1, hcz11_2, hfz11_0, hfz11_1, hfz11_2⟩ := cz3 BK331.out
         have p332 : 0 ≤ (x3_2 : Int) := od
         have q332 : x3_2 < (l0_0.length : Int) := od
         obtain ⟨ad332, A332_1, c332_1, e332, hx332_0, hx332_1, hx332_2, hl332_1, hi332_1⟩ := at_T33 HR0_0.out x3_2 p332 q332
         cases e332
         replace hx332_0 := bc HB.out hx332_0
         replace hx332_1 := bc HB.out hx332_1
         replace hx332_2 := bc HB.out hx332_2
         have HR332_1 := Aside0.mk hi332_1
         have HC332_1 := Aside0.mk hl332_1
         clear hi332_1 hl332_1
         replace p332 := eq_true p332
         replace q332 := eq_true q332
         go_wp2
         go_ret
         exact ⟨er, pb HB.out GE331.out⟩
        ·
         rw [if_neg c10] at H
         have c10b0 : decide (8 < (((rd_T33 l0_0 x3_2).f1).length : Int)) = false := decide_eq_false c10
         have c10b1 : decide (8 < ((rd_T33 l0_0 x3_2).f1).length) = false := decide_eq_false (by omega)
         clear c10
         have H' := Aside0.mk H
         clear H
         obtain ⟨hcz12_0, hcz12_1, hcz12_2, hfz12_0, hfz12_1, hfz12_2⟩ := cz3 BK331.out
         have p332 : 0 ≤ (x3_2 : Int) := od
         have q332 : x3_2 < (l0_0.length : Int) := od
         obtain ⟨ad332, A332_1, c332_1, e332, hx332_0, hx332_1, hx332_2, hl332_1, hi332_1⟩ := at_T33 HR0_0.out x3_2 p332 q332
         cases e332
         replace hx332_0 := bc HB.out hx332_0
         replace hx332_1 := bc HB.out hx332_1
         replace hx332_2 := bc HB.out hx332_2
         have HR332_1 := Aside0.mk hi332_1
         have HC332_1 := Aside0.mk hl332_1
         clear hi332_1 hl332_1
         replace p332 := eq_true p332
         replace q332 := eq_true q332
         go_wp2
         go_roundg k2
         case measure => have := HJ1.out; have := HK2.out; omega
         case rel => exact ⟨(wrap64 (x3_2 + 1)), rr, H', ⟨by have := HJ1.out; have := HK2.out; omega⟩, ⟨by (with_reducible repeat (first | refine blk_drewN ?_ _ | refine blk_drew ?_ | refine blk_alloc ?_ _)); exact BK331.out⟩, ⟨pb HB.out GE331.out⟩⟩
       ·
        rw [if_neg c9] at H
        exact absurd H (by simp)
      ·
       rw [if_neg c8] at H
       have c8b0 : decide (x3_2 < (l0_0.length : Int)) = false := decide_eq_false c8
       clear c8
       obtain rfl := Option.some.inj H
       obtain ⟨hcz13_0, hcz13_1, hcz13_2, hfz13_0, hfz13_1, hfz13_2⟩ := cz3 BK331.out
       go_wp2
       go_ret
       exact ⟨er, pb HB.out GE331.out⟩

end Go.Proofs.YtnddijafdphbnaaDoor.All
end
section
-- Printed by wip/tools/wprint.py (a program of this session over the kit's printer). Not trusted: Lean checks it.
namespace Go.Proofs.YtnddijafdphbnaaDoor.All
open Go.RowKit Go.Proofs.YtnddijafdphbnaaDoorW.PrintWords Go.Proofs.YtnddijafdphbnaaDoorW.PrintLast Go.Proofs.YtnddijafdphbnaaDoorW.PrintMore
attribute [local go_sem] max2_int min2_int max_two min_two max_three min_three max_four min_four   -- for this text's walks alone
set_option linter.unusedVariables false
set_option linter.unusedSimpArgs false

/-! ### emendateref35_Column: function 40 -/
mutual
def emendateref35_Column.j0 : Nat → Int → Bool → Int → List Int → Int → Option (Bool)
 | 0, _, _, _, _, _ => none
 | k + 1, x1, x37, x334000, x334001, x334002 => if x37 = true then (some false) else (emendateref35_Column.l0 k x1 0 x334000 x334001 x334002)
def emendateref35_Column.l0 : Nat → Int → Int → Int → List Int → Int → Option (Bool)
 | 0, _, _, _, _, _ => none
 | k + 1, x1, x5, x334000, x334001, x334002 => if x5 < x1 then (if 0 ≤ x5 then (if x5 < (x334001.length : Int) then (if x5 = x334000 then (if (rd x334001 x5) = 0 then (emendateref35_Column.l0 k x1 (wrap64 (x5 + 1)) x334000 x334001 x334002) else (some false)) else (if (rd x334001 x5) = (-1) then (emendateref35_Column.l0 k x1 (wrap64 (x5 + 1)) x334000 x334001 x334002) else (if (rd x334001 x5) < 1 then (some false) else (if (rd x334001 x5) > 60000 then (some false) else (emendateref35_Column.l0 k x1 (wrap64 (x5 + 1)) x334000 x334001 x334002))))) else (none)) else (none)) else (some true)
end
def emendateref35_Column.f (k : Nat) (a0_0 : Int) (l0_1 : List Int) (a0_2 : Int) (a1 : Int) : Option (Bool) := if a0_0 < (-1) then (emendateref35_Column.j0 k a1 true a0_0 l0_1 a0_2) else (if a0_0 ≥ a1 then (emendateref35_Column.j0 k a1 true a0_0 l0_1 a0_2) else (if (l0_1.length : Int) = a1 then (if a0_2 < 1 then (emendateref35_Column.j0 k a1 true a0_0 l0_1 a0_2) else (if a0_2 > 60000 then (emendateref35_Column.j0 k a1 (a0_2 != 1099511627776) a0_0 l0_1 a0_2) else (emendateref35_Column.j0 k a1 false a0_0 l0_1 a0_2))) else (emendateref35_Column.j0 k a1 true a0_0 l0_1 a0_2)))
set_option maxHeartbeats 8000000 in
set_option maxRecDepth 100000 in
theorem emendateref35_Column.calls (k : Nat) (a0_0 : Int) (A0_1 : Option Addr) (c0_1 : Nat) (l0_1 : List Int) (a0_2 : Int) (a1 : Int) (r : Bool) (w : World) (hr0_1 : Kd.C (Kd.int .i64) w A0_1 l0_1.length l0_1) (hc0_1 : l0_1.length ≤ c0_1) (h : emendateref35_Column.f k a0_0 l0_1 a0_2 a1 = some r) :
  Calls Tryd.prog 40 #[.agg #[.int .i64 a0_0, .slice A0_1 l0_1.length c0_1, .int .i64 a0_2], .int .i64 a1] w fun e w' => e = .returned (.bool r) ∧ Below w.heap.size w w' := by
 have hu33 := Tryd.underlying33
 have HR0_1 := Aside0.mk hr0_1
 have HC0_1 := Aside0.mk hc0_1
 clear hr0_1 hc0_1
 have HB := Aside0.mk (Below.refl w.heap.size w)
 have H : (if a0_0 < (-1) then (emendateref35_Column.j0 k a1 true a0_0 l0_1 a0_2) else (if a0_0 ≥ a1 then (emendateref35_Column.j0 k a1 true a0_0 l0_1 a0_2) else (if (l0_1.length : Int) = a1 then (if a0_2 < 1 then (emendateref35_Column.j0 k a1 true a0_0 l0_1 a0_2) else (if a0_2 > 60000 then (emendateref35_Column.j0 k a1 (a0_2 != 1099511627776) a0_0 l0_1 a0_2) else (emendateref35_Column.j0 k a1 false a0_0 l0_1 a0_2))) else (emendateref35_Column.j0 k a1 true a0_0 l0_1 a0_2)))) = some r := h
 clear h
 have HC3 := Aside0.mk H
 clear H
 go_enter Tryd.func40, Tryd.ntmps40
 go_upto_region 1 with (first | ((with_reducible refine gate_dst (N := 2) rfl ?_); (try (refine gate_guard (by rfl) ?_; dsimp only)); refine box_event ?hg (N := 2) ?hd (cs := #[.int .i64 a0_0, .slice A0_1 l0_1.length c0_1, .int .i64 a0_2]) (t := 33) ?hr ?_; (case hd => rfl); (case hg => rfl); (case hr => first | (go_simp; done) | (go_simp; rfl)); intro gb333 hg w4 hbox hb; have n0_ := Aside0.mk (below_step (pB HB.out) hb); have n1_ := Aside0.mk (hbox); have n2_ := Aside0.mk ((by rw [hg]; exact (below_size (pB HB.out)) : w.heap.size ≤ gb333)); have n3_ := Aside0.mk ((by rw [hg]; exact (below_size (pB HB.out)) : w.heap.size ≤ gb333)); clear HB; have HB := n0_; have BK333 := n1_; have GW333 := n2_; have GE333 := n3_; clear n0_ n1_ n2_ n3_; clear hb hbox hg))
 (try simp only [Act.put, List.setIfInBounds_toArray, List.set_cons_zero, List.set_cons_succ])
 go_cut [37] (fun v37 wc => ∃ (kq : Nat) (x37_2 : Bool), v37 = .bool x37_2 ∧ Aside0 (emendateref35_Column.j0 kq a1 x37_2 a0_0 l0_1 a0_2 = some r) ∧ Aside0 (kq ≤ k) ∧ Aside0 (wc.heap[gb333]? = some (.cells #[.int .i64 a0_0, (.slice A0_1 l0_1.length c0_1), .int .i64 a0_2] 33 (0, 0))) ∧ Aside0 (Below w.heap.size w wc))
 case first =>
  have H := HC3.out
  clear HC3
  by_cases c5 : a0_0 < (-1)
  ·
   rw [if_pos c5] at H
   have c5b0 : decide (a0_0 < (-1)) = true := decide_eq_true c5
   clear c5
   (first | rw [c5b0] | (simp only [i64_w, i32_w]; rw [c5b0]) | skip)
   have H' := Aside0.mk H
   clear H
   obtain ⟨hcz6_0, hcz6_1, hcz6_2, hfz6_0, hfz6_1, hfz6_2⟩ := cz3 BK333.out
   go_wp2
   go_meet
   case rel => exact ⟨_, (true), rr, H', ⟨by first | omega | exact Nat.le_refl _⟩, ⟨by (with_reducible repeat (first | refine blk_drewN ?_ _ | refine blk_drew ?_ | refine blk_alloc ?_ _)); exact BK333.out⟩, ⟨pb HB.out GE333.out⟩⟩
  ·
   rw [if_neg c5] at H
   have c5b0 : decide (a0_0 < (-1)) = false := decide_eq_false c5
   clear c5
   (first | rw [c5b0] | (simp only [i64_w, i32_w]; rw [c5b0]) | skip)
   by_cases c7 : a0_0 ≥ a1
   ·
    rw [if_pos c7] at H
    have c7b0 : decide (a1 ≤ a0_0) = true := decide_eq_true c7
    clear c7
    have H' := Aside0.mk H
    clear H
    obtain ⟨hcz8_0, hcz8_1, hcz8_2, hfz8_0, hfz8_1, hfz8_2⟩ := cz3 BK333.out
    go_wp2
    go_meet
    case rel => exact ⟨_, (true), rr, H', ⟨by first | omega | exact Nat.le_refl _⟩, ⟨by (with_reducible repeat (first | refine blk_drewN ?_ _ | refine blk_drew ?_ | refine blk_alloc ?_ _)); exact BK333.out⟩, ⟨pb HB.out GE333.out⟩⟩
   ·
    rw [if_neg c7] at H
    have c7b0 : decide (a1 ≤ a0_0) = false := decide_eq_false c7
    clear c7
    by_cases c9 : (l0_1.length : Int) = a1
    ·
     rw [if_pos c9] at H
     have c9b0 : ((l0_1.length : Int) == a1) = true := beq_iff_eq.mpr c9
     have c9b1 : ((l0_1.length : Int) != a1) = false := bne_eq_false_iff_eq.mpr c9
     clear c9
     by_cases c10 : a0_2 < 1
     ·
      rw [if_pos c10] at H
      have c10b0 : decide (a0_2 < 1) = true := decide_eq_true c10
      clear c10
      have H' := Aside0.mk H
      clear H
      obtain ⟨hcz11_0, hcz11_1, hcz11_2, hfz11_0, hfz11_1, hfz11_2⟩ := cz3 BK333.out
      go_wp2
      go_meet
      case rel => exact ⟨_, (true), rr, H', ⟨by first | omega | exact Nat.le_refl _⟩, ⟨by (with_reducible repeat (first | refine blk_drewN ?_ _ | refine blk_drew ?_ | refine blk_alloc ?_ _)); exact BK333.out⟩, ⟨pb HB.out GE333.out⟩⟩
     ·
      rw [if_neg c10] at H
      have c10b0 : decide (a0_2 < 1) = false := decide_eq_false c10
      clear c10
      by_cases c12 : a0_2 > 60000
      ·
       rw [if_pos c12] at H
       have c12b0 : decide (60000 < a0_2) = true := decide_eq_true c12
       clear c12
       have H' := Aside0.mk H
       clear H
       obtain ⟨hcz13_0, hcz13_1, hcz13_2, hfz13_0, hfz13_1, hfz13_2⟩ := cz3 BK333.out
       go_wp2
       go_meet
       case rel => exact ⟨_, ((a0_2 != 1099511627776)), rr, H', ⟨by first | omega | exact Nat.le_refl _⟩, ⟨by (with_reducible repeat (first | refine blk_drewN ?_ _ | refine blk_drew ?_ | refine blk_alloc ?_ _)); exact BK333.out⟩, ⟨pb HB.out GE333.out⟩⟩
      ·
       rw [if_neg c12] at H
       have c12b0 : decide (60000 < a0_2) = false := decide_eq_false c12
       clear c12
       have H' := Aside0.mk H
       clear H
       obtain ⟨hcz14_0, hcz14_1, hcz14_2, hfz14_0, hfz14_1, hfz14_2⟩ := cz3 BK333.out
       go_wp2
       go_meet
       case rel => exact ⟨_, (false), rr, H', ⟨by first | omega | exact Nat.le_refl _⟩, ⟨by (with_reducible repeat (first | refine blk_drewN ?_ _ | refine blk_drew ?_ | refine blk_alloc ?_ _)); exact BK333.out⟩, ⟨pb HB.out GE333.out⟩⟩
    ·
     rw [if_neg c9] at H
     have c9b0 : ((l0_1.length : Int) == a1) = false := beq_eq_false_iff_ne.mpr c9
     have c9b1 : ((l0_1.length : Int) != a1) = true := bne_iff_ne.mpr c9
     have H' := Aside0.mk H
     clear H
     obtain ⟨hcz15_0, hcz15_1, hcz15_2, hfz15_0, hfz15_1, hfz15_2⟩ := cz3 BK333.out
     go_wp2
     go_meet
     case rel => exact ⟨_, (true), rr, H', ⟨by first | omega | exact Nat.le_refl _⟩, ⟨by (with_reducible repeat (first | refine blk_drewN ?_ _ | refine blk_drew ?_ | refine blk_alloc ?_ _)); exact BK333.out⟩, ⟨pb HB.out GE333.out⟩⟩
 case rest =>
  clear HC3
  obtain ⟨kq, x37_2, rfl, HA, HJ2, BK333, HB⟩ := hcut
  cases kq with
  | zero => exact absurd HA.out (by simp [emendateref35_Column.j0])
  | succ kj2 =>
   have H := HA.out
   clear HA
   simp only [emendateref35_Column.j0] at H
   by_cases c16 : x37_2 = true
   ·
    subst c16
    have H1 : (some false) = some r := by rw [if_pos rfl] at H; exact H
    clear H
    have H := H1
    clear H1
    obtain rfl := Option.some.inj H
    go_wp2
    go_ret
    exact ⟨er, pb HB.out GE333.out⟩
   ·
    replace c16 := Bool.eq_false_iff.mpr c16
    subst c16
    have H1 : (emendateref35_Column.l0 kj2 a1 0 a0_0 l0_1 a0_2) = some r := by rw [if_neg (show ¬ (false = true) by decide)] at H; exact H
    clear H
    have H := H1
    clear H1
    have H' := Aside0.mk H
    clear H
    go_wp2
    go_loopg [5] kj2 (fun kq v5 w' => ∃ (x5_2 : Int), v5 = .int .i64 x5_2 ∧ Aside0 (emendateref35_Column.l0 kq a1 x5_2 a0_0 l0_1 a0_2 = some r) ∧ Aside0 (kq ≤ kj2) ∧ Aside0 (w'.heap[gb333]? = some (.cells #[.int .i64 a0_0, (.slice A0_1 l0_1.length c0_1), .int .i64 a0_2] 33 (0, 0))) ∧ Aside0 (Below w.heap.size w w'))
    case atStart => exact ⟨(0), rr, H', ⟨Nat.le_refl _⟩, ⟨by (with_reducible repeat (first | refine blk_drewN ?_ _ | refine blk_drew ?_ | refine blk_alloc ?_ _)); exact BK333.out⟩, ⟨pb HB.out GE333.out⟩⟩
    case round =>
     clear H'
     try clear c16
     obtain ⟨x5_2, rfl, HA, HK2, BK333, HB⟩ := hrel
     cases gk with
     | zero => exact absurd HA.out (by simp [emendateref35_Column.l0])
     | succ k2 =>
      have H := HA.out
      clear HA
      simp only [emendateref35_Column.l0] at H
      by_cases c17 : x5_2 < a1
      ·
       rw [if_pos c17] at H
       have c17b0 : decide (x5_2 < a1) = true := decide_eq_true c17
       clear c17
       by_cases c18 : 0 ≤ x5_2
       ·
        rw [if_pos c18] at H
        have c18b0 : decide (0 ≤ x5_2) = true := decide_eq_true c18
        clear c18
        by_cases c19 : x5_2 < (l0_1.length : Int)
        ·
         rw [if_pos c19] at H
         have c19b0 : decide (x5_2 < (l0_1.length : Int)) = true := decide_eq_true c19
         clear c19
         by_cases c20 : x5_2 = a0_0
         ·
          rw [if_pos c20] at H
          have c20b0 : (x5_2 == a0_0) = true := beq_iff_eq.mpr c20
          have c20b1 : (x5_2 != a0_0) = false := bne_eq_false_iff_eq.mpr c20
          clear c20
          by_cases c21 : (rd l0_1 x5_2) = 0
          ·
           rw [if_pos c21] at H
           have c21b0 : ((rd l0_1 x5_2) == 0) = true := beq_iff_eq.mpr c21
           have c21b1 : ((rd l0_1 x5_2) != 0) = false := bne_eq_false_iff_eq.mpr c21
           clear c21
           have H' := Aside0.mk H
           clear H
           obtain ⟨hcz22_0, hcz22_1, hcz22_2, hfz22_0, hfz22_1, hfz22_2⟩ := cz3 BK333.out
           have p334 : 0 ≤ (x5_2 : Int) := od
           have q334 : x5_2 < (l0_1.length : Int) := od
           obtain ⟨ad334, e334, hx334_0⟩ := Kd.at_int HR0_1.out x5_2 p334 q334
           cases e334
           replace hx334_0 := bc HB.out hx334_0
           replace p334 := eq_true p334
           replace q334 := eq_true q334
           go_wp2
           go_roundg k2
           case measure => have := HJ2.out; have := HK2.out; omega
           case rel => exact ⟨(wrap64 (x5_2 + 1)), rr, H', ⟨by have := HJ2.out; have := HK2.out; omega⟩, ⟨by (with_reducible repeat (first | refine blk_drewN ?_ _ | refine blk_drew ?_ | refine blk_alloc ?_ _)); exact BK333.out⟩, ⟨pb HB.out GE333.out⟩⟩
          ·
           rw [if_neg c21] at H
           have c21b0 : ((rd l0_1 x5_2) == 0) = false := beq_eq_false_iff_ne.mpr c21
           have c21b1 : ((rd l0_1 x5_2) != 0) = true := bne_iff_ne.mpr c21
           obtain rfl := Option.some.inj H
           obtain ⟨hcz23_0, hcz23_1, hcz23_2, hfz23_0, hfz23_1, hfz23_2⟩ := cz3 BK333.out
           have p334 : 0 ≤ (x5_2 : Int) := od
           have q334 : x5_2 < (l0_1.length : Int) := od
           obtain ⟨ad334, e334, hx334_0⟩ := Kd.at_int HR0_1.out x5_2 p334 q334
           cases e334
           replace hx334_0 := bc HB.out hx334_0
           replace p334 := eq_true p334
           replace q334 := eq_true q334
           go_wp2
           go_ret
           exact ⟨er, pb HB.out GE333.out⟩
         ·
          rw [if_neg c20] at H
          have c20b0 : (x5_2 == a0_0) = false := beq_eq_false_iff_ne.mpr c20
          have c20b1 : (x5_2 != a0_0) = true := bne_iff_ne.mpr c20
          by_cases c24 : (rd l0_1 x5_2) = (-1)
          ·
           rw [if_pos c24] at H
           have c24b0 : ((rd l0_1 x5_2) == (-1)) = true := beq_iff_eq.mpr c24
           have c24b1 : ((rd l0_1 x5_2) != (-1)) = false := bne_eq_false_iff_eq.mpr c24
           clear c24
           have H' := Aside0.mk H
           clear H
           obtain ⟨hcz25_0, hcz25_1, hcz25_2, hfz25_0, hfz25_1, hfz25_2⟩ := cz3 BK333.out
           have p334 : 0 ≤ (x5_2 : Int) := od
           have q334 : x5_2 < (l0_1.length : Int) := od
           obtain ⟨ad334, e334, hx334_0⟩ := Kd.at_int HR0_1.out x5_2 p334 q334
           cases e334
           replace hx334_0 := bc HB.out hx334_0
           replace p334 := eq_true p334
           replace q334 := eq_true q334
           go_wp2
           go_roundg k2
           case measure => have := HJ2.out; have := HK2.out; omega
           case rel => exact ⟨(wrap64 (x5_2 + 1)), rr, H', ⟨by have := HJ2.out; have := HK2.out; omega⟩, ⟨by (with_reducible repeat (first | refine blk_drewN ?_ _ | refine blk_drew ?_ | refine blk_alloc ?_ _)); exact BK333.out⟩, ⟨pb HB.out GE333.out⟩⟩
          ·
           rw [if_neg c24] at H
           have c24b0 : ((rd l0_1 x5_2) == (-1)) = false := beq_eq_false_iff_ne.mpr c24
           have c24b1 : ((rd l0_1 x5_2) != (-1)) = true := bne_iff_ne.mpr c24
           by_cases c26 : (rd l0_1 x5_2) < 1
           ·
            rw [if_pos c26] at H
            have c26b0 : decide ((rd l0_1 x5_2) < 1) = true := decide_eq_true c26
            clear c26
            obtain rfl := Option.some.inj H
            obtain ⟨hcz27_0, hcz27_1, hcz27_2, hfz27_0, hfz27_1, hfz27_2⟩ := cz3 BK333.out
            have p334 : 0 ≤ (x5_2 : Int) := od
            have q334 : x5_2 < (l0_1.length : Int) := od
            obtain ⟨ad334, e334, hx334_0⟩ := Kd.at_int HR0_1.out x5_2 p334 q334
            cases e334
            replace hx334_0 := bc HB.out hx334_0
            replace p334 := eq_true p334
            replace q334 := eq_true q334
            go_wp2
            go_ret
            exact ⟨er, pb HB.out GE333.out⟩
           ·
            rw [if_neg c26] at H
            have c26b0 : decide ((rd l0_1 x5_2) < 1) = false := decide_eq_false c26
            clear c26
            by_cases c28 : (rd l0_1 x5_2) > 60000
            ·
             rw [if_pos c28] at H
             have c28b0 : decide (60000 < (rd l0_1 x5_2)) = true := decide_eq_true c28
             clear c28
             obtain rfl := Option.some.inj H
             obtain ⟨hcz29_0, hcz29_1, hcz29_2, hfz29_0, hfz29_1, hfz29_2⟩ := cz3 BK333.out
             have p334 : 0 ≤ (x5_2 : Int) := od
             have q334 : x5_2 < (l0_1.length : Int) := od
             obtain ⟨ad334, e334, hx334_0⟩ := Kd.at_int HR0_1.out x5_2 p334 q334
             cases e334
             replace hx334_0 := bc HB.out hx334_0
             replace p334 := eq_true p334
             replace q334 := eq_true q334
             go_wp2
             go_ret
             exact ⟨er, pb HB.out GE333.out⟩
            ·
             rw [if_neg c28] at H
             have c28b0 : decide (60000 < (rd l0_1 x5_2)) = false := decide_eq_false c28
             clear c28
             have H' := Aside0.mk H
             clear H
             obtain ⟨hcz30_0, hcz30_1, hcz30_2, hfz30_0, hfz30_1, hfz30_2⟩ := cz3 BK333.out
             have p334 : 0 ≤ (x5_2 : Int) := od
             have q334 : x5_2 < (l0_1.length : Int) := od
             obtain ⟨ad334, e334, hx334_0⟩ := Kd.at_int HR0_1.out x5_2 p334 q334
             cases e334
             replace hx334_0 := bc HB.out hx334_0
             replace p334 := eq_true p334
             replace q334 := eq_true q334
             go_wp2
             go_roundg k2
             case measure => have := HJ2.out; have := HK2.out; omega
             case rel => exact ⟨(wrap64 (x5_2 + 1)), rr, H', ⟨by have := HJ2.out; have := HK2.out; omega⟩, ⟨by (with_reducible repeat (first | refine blk_drewN ?_ _ | refine blk_drew ?_ | refine blk_alloc ?_ _)); exact BK333.out⟩, ⟨pb HB.out GE333.out⟩⟩
        ·
         rw [if_neg c19] at H
         exact absurd H (by simp)
       ·
        rw [if_neg c18] at H
        exact absurd H (by simp)
      ·
       rw [if_neg c17] at H
       have c17b0 : decide (x5_2 < a1) = false := decide_eq_false c17
       clear c17
       obtain rfl := Option.some.inj H
       go_wp2
       go_ret
       exact ⟨er, pb HB.out GE333.out⟩

end Go.Proofs.YtnddijafdphbnaaDoor.All
end
section
-- Printed by wip/tools/wprint.py (a program of this session over the kit's printer). Not trusted: Lean checks it.
namespace Go.Proofs.YtnddijafdphbnaaDoor.All
open Go.RowKit Go.Proofs.YtnddijafdphbnaaDoorW.PrintWords Go.Proofs.YtnddijafdphbnaaDoorW.PrintLast Go.Proofs.YtnddijafdphbnaaDoorW.PrintMore
attribute [local go_sem] max2_int min2_int max_two min_two max_three min_three max_four min_four   -- for this text's walks alone
set_option linter.unusedVariables false
set_option linter.unusedSimpArgs false

/-! ### emendateref35_columns: function 38 -/
def emendateref35_columns.l0 : Nat → List (S33) → Int → Int → Option (Bool)
 | 0, _, _, _ => none
 | k + 1, x0, x1, x5 => if x5 < (x0.length : Int) then (if 0 ≤ x5 then ((emendateref35_Column.f k ((rd_T33 x0 x5).f0) ((rd_T33 x0 x5).f1) ((rd_T33 x0 x5).f2) x1).bind fun t336 => (if t336 = true then (emendateref35_columns.l0 k x0 x1 (wrap64 (x5 + 1))) else (some false))) else (none)) else (some true)
def emendateref35_columns.f (k : Nat) (l0 : List (S33)) (a1 : Int) : Option (Bool) := emendateref35_columns.l0 k l0 a1 0
set_option maxHeartbeats 8000000 in
set_option maxRecDepth 100000 in
theorem emendateref35_columns.calls (k : Nat) (A0 : Option Addr) (c0 : Nat) (l0 : List (S33)) (a1 : Int) (r : Bool) (w : World) (hr0 : Kd.C k33 w A0 l0.length l0) (hc0 : l0.length ≤ c0) (h : emendateref35_columns.f k l0 a1 = some r) :
  Calls Tryd.prog 38 #[.slice A0 l0.length c0, .int .i64 a1] w fun e w' => e = .returned (.bool r) ∧ Below w.heap.size w w' := by
 have hu33 := Tryd.underlying33
 have HR0 := Aside0.mk hr0
 have HC0 := Aside0.mk hc0
 clear hr0 hc0
 have HB := Aside0.mk (Below.refl w.heap.size w)
 have H : (emendateref35_columns.l0 k l0 a1 0) = some r := h
 clear h
 have H' := Aside0.mk H
 clear H
 go_enter Tryd.func38, Tryd.ntmps38
 go_wp2
 go_loopg [5] k (fun kq v5 w' => ∃ (x5_1 : Int), v5 = .int .i64 x5_1 ∧ Aside0 (emendateref35_columns.l0 kq l0 a1 x5_1 = some r) ∧ Aside0 (kq ≤ k) ∧ Aside0 (Below w.heap.size w w'))
 case atStart => exact ⟨(0), rr, H', ⟨Nat.le_refl _⟩, ⟨pB HB.out⟩⟩
 case round =>
  clear H'
  obtain ⟨x5_1, rfl, HA, HK1, HB⟩ := hrel
  cases gk with
  | zero => exact absurd HA.out (by simp [emendateref35_columns.l0])
  | succ k1 =>
   have H := HA.out
   clear HA
   simp only [emendateref35_columns.l0] at H
   by_cases c3 : x5_1 < (l0.length : Int)
   ·
    rw [if_pos c3] at H
    have c3b0 : decide (x5_1 < (l0.length : Int)) = true := decide_eq_true c3
    clear c3
    by_cases c4 : 0 ≤ x5_1
    ·
     rw [if_pos c4] at H
     have c4b0 : decide (0 ≤ x5_1) = true := decide_eq_true c4
     clear c4
     replace H := Option.bind_eq_some_iff.mp H
     obtain ⟨t336, A50, H⟩ := H
     replace H : (if t336 = true then (emendateref35_columns.l0 k1 l0 a1 (wrap64 (x5_1 + 1))) else (some false)) = some r := H
     have A5 := Aside0.mk A50
     clear A50
     by_cases c6 : t336 = true
     ·
      subst c6
      have H1 : (emendateref35_columns.l0 k1 l0 a1 (wrap64 (x5_1 + 1))) = some r := by rw [if_pos rfl] at H; exact H
      clear H
      have H := H1
      clear H1
      have H' := Aside0.mk H
      clear H
      have p335 : 0 ≤ (x5_1 : Int) := od
      have q335 : x5_1 < (l0.length : Int) := od
      obtain ⟨ad335, A335_1, c335_1, e335, hx335_0, hx335_1, hx335_2, hl335_1, hi335_1⟩ := at_T33 HR0.out x5_1 p335 q335
      cases e335
      replace hx335_0 := bc HB.out hx335_0
      replace hx335_1 := bc HB.out hx335_1
      replace hx335_2 := bc HB.out hx335_2
      have HR335_1 := Aside0.mk hi335_1
      have HC335_1 := Aside0.mk hl335_1
      clear hi335_1 hl335_1
      replace p335 := eq_true p335
      replace q335 := eq_true q335
      go_wp2_with (first | ((with_reducible refine gate_callee (f := 40) rfl ?_); refine gl (some 17) Tryd.func40 #[.agg #[.int .i64 ((rd_T33 l0 x5_1).f0), .slice A335_1 ((rd_T33 l0 x5_1).f1).length c335_1, .int .i64 ((rd_T33 l0 x5_1).f2)], .int .i64 a1] ?_; (with_reducible refine (emendateref35_Column.calls k1 ((rd_T33 l0 x5_1).f0) _ _ ((rd_T33 l0 x5_1).f1) ((rd_T33 l0 x5_1).f2) a1 true _ ?side1 ?side2 A5.out).mono ?_); (case side1 => exact sd (Kd.C_below HR335_1.out HB.out)); (case side2 => exact HC335_1.out); rintro e w7 ⟨rfl, hb⟩; refine ⟨_, rfl, ?_⟩; replace HB := Aside0.mk (below_step (pB HB.out) hb); (try clear hb)))
      go_roundg k1
      case measure => have := HK1.out; omega
      case rel => exact ⟨(wrap64 (x5_1 + 1)), rr, H', ⟨by have := HK1.out; omega⟩, ⟨pB HB.out⟩⟩
     ·
      replace c6 := Bool.eq_false_iff.mpr c6
      subst c6
      have H1 : (some false) = some r := by rw [if_neg (show ¬ (false = true) by decide)] at H; exact H
      clear H
      have H := H1
      clear H1
      obtain rfl := Option.some.inj H
      have p335 : 0 ≤ (x5_1 : Int) := od
      have q335 : x5_1 < (l0.length : Int) := od
      obtain ⟨ad335, A335_1, c335_1, e335, hx335_0, hx335_1, hx335_2, hl335_1, hi335_1⟩ := at_T33 HR0.out x5_1 p335 q335
      cases e335
      replace hx335_0 := bc HB.out hx335_0
      replace hx335_1 := bc HB.out hx335_1
      replace hx335_2 := bc HB.out hx335_2
      have HR335_1 := Aside0.mk hi335_1
      have HC335_1 := Aside0.mk hl335_1
      clear hi335_1 hl335_1
      replace p335 := eq_true p335
      replace q335 := eq_true q335
      go_wp2_with (first | ((with_reducible refine gate_callee (f := 40) rfl ?_); refine gl (some 17) Tryd.func40 #[.agg #[.int .i64 ((rd_T33 l0 x5_1).f0), .slice A335_1 ((rd_T33 l0 x5_1).f1).length c335_1, .int .i64 ((rd_T33 l0 x5_1).f2)], .int .i64 a1] ?_; (with_reducible refine (emendateref35_Column.calls k1 ((rd_T33 l0 x5_1).f0) _ _ ((rd_T33 l0 x5_1).f1) ((rd_T33 l0 x5_1).f2) a1 false _ ?side1 ?side2 A5.out).mono ?_); (case side1 => exact sd (Kd.C_below HR335_1.out HB.out)); (case side2 => exact HC335_1.out); rintro e w8 ⟨rfl, hb⟩; refine ⟨_, rfl, ?_⟩; replace HB := Aside0.mk (below_step (pB HB.out) hb); (try clear hb)))
      go_ret
      exact ⟨er, pB HB.out⟩
    ·
     rw [if_neg c4] at H
     exact absurd H (by simp)
   ·
    rw [if_neg c3] at H
    have c3b0 : decide (x5_1 < (l0.length : Int)) = false := decide_eq_false c3
    clear c3
    obtain rfl := Option.some.inj H
    go_wp2
    go_ret
    exact ⟨er, pB HB.out⟩

end Go.Proofs.YtnddijafdphbnaaDoor.All
end
section
-- Printed by wip/tools/wprint.py (a program of this session over the kit's printer). Not trusted: Lean checks it.
namespace Go.Proofs.YtnddijafdphbnaaDoor.All
open Go.RowKit Go.Proofs.YtnddijafdphbnaaDoorW.PrintWords Go.Proofs.YtnddijafdphbnaaDoorW.PrintLast Go.Proofs.YtnddijafdphbnaaDoorW.PrintMore
attribute [local go_sem] max2_int min2_int max_two min_two max_three min_three max_four min_four   -- for this text's walks alone
set_option linter.unusedVariables false
set_option linter.unusedSimpArgs false

/-! ### emendateref35_Valid: function 28 -/
mutual
def emendateref35_Valid.j0 : Nat → Int → Bool → List (S33) → List Int → Int → Option (Bool)
 | 0, _, _, _, _, _ => none
 | k + 1, x1, x37, x338000, x338001, x338002 => if x37 = true then (some false) else (emendateref35_Valid.l0 k x1 0 x338000 x338001 x338002)
def emendateref35_Valid.l0 : Nat → Int → Int → List (S33) → List Int → Int → Option (Bool)
 | 0, _, _, _, _, _ => none
 | k + 1, x1, x5, x338000, x338001, x338002 => if x5 < x1 then (if 0 ≤ x5 then (if x5 < (x338001.length : Int) then (if (rd x338001 x5) < 1 then (some false) else (if (rd x338001 x5) > 60000 then (some false) else (emendateref35_Valid.l0 k x1 (wrap64 (x5 + 1)) x338000 x338001 x338002))) else (none)) else (none)) else (some true)
end
def emendateref35_Valid.f (k : Nat) (l0_0 : List (S33)) (l0_1 : List Int) (a0_2 : Int) (a1 : Int) : Option (Bool) := if a1 < 0 then (emendateref35_Valid.j0 k a1 true l0_0 l0_1 a0_2) else (if (l0_0.length : Int) > 60 then (emendateref35_Valid.j0 k a1 true l0_0 l0_1 a0_2) else (if (l0_1.length : Int) = a1 then (if a0_2 < 0 then (emendateref35_Valid.j0 k a1 true l0_0 l0_1 a0_2) else (if a0_2 > 60000 then (emendateref35_Valid.j0 k a1 true l0_0 l0_1 a0_2) else ((emendateref35_columns.f k l0_0 a1).bind fun t338 => (emendateref35_Valid.j0 k a1 (!t338) l0_0 l0_1 a0_2)))) else (emendateref35_Valid.j0 k a1 true l0_0 l0_1 a0_2)))
set_option maxHeartbeats 8000000 in
set_option maxRecDepth 100000 in
theorem emendateref35_Valid.calls (k : Nat) (A0_0 : Option Addr) (c0_0 : Nat) (l0_0 : List (S33)) (A0_1 : Option Addr) (c0_1 : Nat) (l0_1 : List Int) (a0_2 : Int) (a1 : Int) (r : Bool) (w : World) (hr0_0 : Kd.C k33 w A0_0 l0_0.length l0_0) (hc0_0 : l0_0.length ≤ c0_0) (hr0_1 : Kd.C (Kd.int .i64) w A0_1 l0_1.length l0_1) (hc0_1 : l0_1.length ≤ c0_1) (h : emendateref35_Valid.f k l0_0 l0_1 a0_2 a1 = some r) :
  Calls Tryd.prog 28 #[.agg #[.slice A0_0 l0_0.length c0_0, .slice A0_1 l0_1.length c0_1, .int .i64 a0_2], .int .i64 a1] w fun e w' => e = .returned (.bool r) ∧ Below w.heap.size w w' := by
 have hu25 := Tryd.underlying25
 have HR0_0 := Aside0.mk hr0_0
 have HC0_0 := Aside0.mk hc0_0
 clear hr0_0 hc0_0
 have HR0_1 := Aside0.mk hr0_1
 have HC0_1 := Aside0.mk hc0_1
 clear hr0_1 hc0_1
 have HB := Aside0.mk (Below.refl w.heap.size w)
 have H : (if a1 < 0 then (emendateref35_Valid.j0 k a1 true l0_0 l0_1 a0_2) else (if (l0_0.length : Int) > 60 then (emendateref35_Valid.j0 k a1 true l0_0 l0_1 a0_2) else (if (l0_1.length : Int) = a1 then (if a0_2 < 0 then (emendateref35_Valid.j0 k a1 true l0_0 l0_1 a0_2) else (if a0_2 > 60000 then (emendateref35_Valid.j0 k a1 true l0_0 l0_1 a0_2) else ((emendateref35_columns.f k l0_0 a1).bind fun t338 => (emendateref35_Valid.j0 k a1 (!t338) l0_0 l0_1 a0_2)))) else (emendateref35_Valid.j0 k a1 true l0_0 l0_1 a0_2)))) = some r := h
 clear h
 have HC3 := Aside0.mk H
 clear H
 go_enter Tryd.func28, Tryd.ntmps28
 go_upto_region 1 with (first | ((with_reducible refine gate_dst (N := 2) rfl ?_); (try (refine gate_guard (by rfl) ?_; dsimp only)); refine box_event ?hg (N := 2) ?hd (cs := #[.slice A0_0 l0_0.length c0_0, .slice A0_1 l0_1.length c0_1, .int .i64 a0_2]) (t := 25) ?hr ?_; (case hd => rfl); (case hg => rfl); (case hr => first | (go_simp; done) | (go_simp; rfl)); intro gb337 hg w4 hbox hb; have n0_ := Aside0.mk (below_step (pB HB.out) hb); have n1_ := Aside0.mk (hbox); have n2_ := Aside0.mk ((by rw [hg]; exact (below_size (pB HB.out)) : w.heap.size ≤ gb337)); have n3_ := Aside0.mk ((by rw [hg]; exact (below_size (pB HB.out)) : w.heap.size ≤ gb337)); clear HB; have HB := n0_; have BK337 := n1_; have GW337 := n2_; have GE337 := n3_; clear n0_ n1_ n2_ n3_; clear hb hbox hg))
 (try simp only [Act.put, List.setIfInBounds_toArray, List.set_cons_zero, List.set_cons_succ])
 go_cut [37] (fun v37 wc => ∃ (kq : Nat) (x37_2 : Bool), v37 = .bool x37_2 ∧ Aside0 (emendateref35_Valid.j0 kq a1 x37_2 l0_0 l0_1 a0_2 = some r) ∧ Aside0 (kq ≤ k) ∧ Aside0 (wc.heap[gb337]? = some (.cells #[(.slice A0_0 l0_0.length c0_0), (.slice A0_1 l0_1.length c0_1), .int .i64 a0_2] 25 (0, 0))) ∧ Aside0 (Below w.heap.size w wc))
 case first =>
  have H := HC3.out
  clear HC3
  by_cases c5 : a1 < 0
  ·
   rw [if_pos c5] at H
   have c5b0 : decide (a1 < 0) = true := decide_eq_true c5
   clear c5
   (first | rw [c5b0] | (simp only [i64_w, i32_w]; rw [c5b0]) | skip)
   have H' := Aside0.mk H
   clear H
   go_wp2
   go_meet
   case rel => exact ⟨_, (true), rr, H', ⟨by first | omega | exact Nat.le_refl _⟩, ⟨by (with_reducible repeat (first | refine blk_drewN ?_ _ | refine blk_drew ?_ | refine blk_alloc ?_ _)); exact BK337.out⟩, ⟨pb HB.out GE337.out⟩⟩
  ·
   rw [if_neg c5] at H
   have c5b0 : decide (a1 < 0) = false := decide_eq_false c5
   clear c5
   (first | rw [c5b0] | (simp only [i64_w, i32_w]; rw [c5b0]) | skip)
   by_cases c6 : (l0_0.length : Int) > 60
   ·
    rw [if_pos c6] at H
    have c6b0 : decide (60 < (l0_0.length : Int)) = true := decide_eq_true c6
    have c6b1 : decide (60 < l0_0.length) = true := decide_eq_true (by omega)
    clear c6
    have H' := Aside0.mk H
    clear H
    obtain ⟨hcz7_0, hcz7_1, hcz7_2, hfz7_0, hfz7_1, hfz7_2⟩ := cz3 BK337.out
    go_wp2
    go_meet
    case rel => exact ⟨_, (true), rr, H', ⟨by first | omega | exact Nat.le_refl _⟩, ⟨by (with_reducible repeat (first | refine blk_drewN ?_ _ | refine blk_drew ?_ | refine blk_alloc ?_ _)); exact BK337.out⟩, ⟨pb HB.out GE337.out⟩⟩
   ·
    rw [if_neg c6] at H
    have c6b0 : decide (60 < (l0_0.length : Int)) = false := decide_eq_false c6
    have c6b1 : decide (60 < l0_0.length) = false := decide_eq_false (by omega)
    clear c6
    by_cases c8 : (l0_1.length : Int) = a1
    ·
     rw [if_pos c8] at H
     have c8b0 : ((l0_1.length : Int) == a1) = true := beq_iff_eq.mpr c8
     have c8b1 : ((l0_1.length : Int) != a1) = false := bne_eq_false_iff_eq.mpr c8
     clear c8
     by_cases c9 : a0_2 < 0
     ·
      rw [if_pos c9] at H
      have c9b0 : decide (a0_2 < 0) = true := decide_eq_true c9
      clear c9
      have H' := Aside0.mk H
      clear H
      obtain ⟨hcz10_0, hcz10_1, hcz10_2, hfz10_0, hfz10_1, hfz10_2⟩ := cz3 BK337.out
      go_wp2
      go_meet
      case rel => exact ⟨_, (true), rr, H', ⟨by first | omega | exact Nat.le_refl _⟩, ⟨by (with_reducible repeat (first | refine blk_drewN ?_ _ | refine blk_drew ?_ | refine blk_alloc ?_ _)); exact BK337.out⟩, ⟨pb HB.out GE337.out⟩⟩
     ·
      rw [if_neg c9] at H
      have c9b0 : decide (a0_2 < 0) = false := decide_eq_false c9
      clear c9
      by_cases c11 : a0_2 > 60000
      ·
       rw [if_pos c11] at H
       have c11b0 : decide (60000 < a0_2) = true := decide_eq_true c11
       clear c11
       have H' := Aside0.mk H
       clear H
       obtain ⟨hcz12_0, hcz12_1, hcz12_2, hfz12_0, hfz12_1, hfz12_2⟩ := cz3 BK337.out
       go_wp2
       go_meet
       case rel => exact ⟨_, (true), rr, H', ⟨by first | omega | exact Nat.le_refl _⟩, ⟨by (with_reducible repeat (first | refine blk_drewN ?_ _ | refine blk_drew ?_ | refine blk_alloc ?_ _)); exact BK337.out⟩, ⟨pb HB.out GE337.out⟩⟩
      ·
       rw [if_neg c11] at H
       have c11b0 : decide (60000 < a0_2) = false := decide_eq_false c11
       clear c11
       replace H := Option.bind_eq_some_iff.mp H
       obtain ⟨t338, A130, H⟩ := H
       replace H : (emendateref35_Valid.j0 k a1 (!t338) l0_0 l0_1 a0_2) = some r := H
       have A13 := Aside0.mk A130
       clear A130
       have H' := Aside0.mk H
       clear H
       obtain ⟨hcz14_0, hcz14_1, hcz14_2, hfz14_0, hfz14_1, hfz14_2⟩ := cz3 BK337.out
       go_wp2_with (first | (go_at_call 38; (with_reducible refine (emendateref35_columns.calls k _ _ l0_0 a1 t338 _ ?side1 ?side2 A13.out).mono ?_); (case side1 => exact sd (Kd.C_below HR0_0.out HB.out)); (case side2 => exact HC0_0.out); rintro e w15 ⟨rfl, hb⟩; replace BK337 := Aside0.mk (bb BK337.out hb); replace HB := Aside0.mk (below_step (pb HB.out GE337.out) hb); (try clear hb)))
       go_meet
       case rel => exact ⟨_, (!t338), rr, H', ⟨by first | omega | exact Nat.le_refl _⟩, ⟨by (with_reducible repeat (first | refine blk_drewN ?_ _ | refine blk_drew ?_ | refine blk_alloc ?_ _)); exact BK337.out⟩, ⟨pb HB.out GE337.out⟩⟩
    ·
     rw [if_neg c8] at H
     have c8b0 : ((l0_1.length : Int) == a1) = false := beq_eq_false_iff_ne.mpr c8
     have c8b1 : ((l0_1.length : Int) != a1) = true := bne_iff_ne.mpr c8
     have H' := Aside0.mk H
     clear H
     obtain ⟨hcz16_0, hcz16_1, hcz16_2, hfz16_0, hfz16_1, hfz16_2⟩ := cz3 BK337.out
     go_wp2
     go_meet
     case rel => exact ⟨_, (true), rr, H', ⟨by first | omega | exact Nat.le_refl _⟩, ⟨by (with_reducible repeat (first | refine blk_drewN ?_ _ | refine blk_drew ?_ | refine blk_alloc ?_ _)); exact BK337.out⟩, ⟨pb HB.out GE337.out⟩⟩
 case rest =>
  clear HC3
  obtain ⟨kq, x37_2, rfl, HA, HJ2, BK337, HB⟩ := hcut
  cases kq with
  | zero => exact absurd HA.out (by simp [emendateref35_Valid.j0])
  | succ kj2 =>
   have H := HA.out
   clear HA
   simp only [emendateref35_Valid.j0] at H
   by_cases c17 : x37_2 = true
   ·
    subst c17
    have H1 : (some false) = some r := by rw [if_pos rfl] at H; exact H
    clear H
    have H := H1
    clear H1
    obtain rfl := Option.some.inj H
    go_wp2
    go_ret
    exact ⟨er, pb HB.out GE337.out⟩
   ·
    replace c17 := Bool.eq_false_iff.mpr c17
    subst c17
    have H1 : (emendateref35_Valid.l0 kj2 a1 0 l0_0 l0_1 a0_2) = some r := by rw [if_neg (show ¬ (false = true) by decide)] at H; exact H
    clear H
    have H := H1
    clear H1
    have H' := Aside0.mk H
    clear H
    go_wp2
    go_loopg [5] kj2 (fun kq v5 w' => ∃ (x5_2 : Int), v5 = .int .i64 x5_2 ∧ Aside0 (emendateref35_Valid.l0 kq a1 x5_2 l0_0 l0_1 a0_2 = some r) ∧ Aside0 (kq ≤ kj2) ∧ Aside0 (w'.heap[gb337]? = some (.cells #[(.slice A0_0 l0_0.length c0_0), (.slice A0_1 l0_1.length c0_1), .int .i64 a0_2] 25 (0, 0))) ∧ Aside0 (Below w.heap.size w w'))
    case atStart => exact ⟨(0), rr, H', ⟨Nat.le_refl _⟩, ⟨by (with_reducible repeat (first | refine blk_drewN ?_ _ | refine blk_drew ?_ | refine blk_alloc ?_ _)); exact BK337.out⟩, ⟨pb HB.out GE337.out⟩⟩
    case round =>
     clear H'
     try clear c17
     obtain ⟨x5_2, rfl, HA, HK2, BK337, HB⟩ := hrel
     cases gk with
     | zero => exact absurd HA.out (by simp [emendateref35_Valid.l0])
     | succ k2 =>
      have H := HA.out
      clear HA
      simp only [emendateref35_Valid.l0] at H
      by_cases c18 : x5_2 < a1
      ·
       rw [if_pos c18] at H
       have c18b0 : decide (x5_2 < a1) = true := decide_eq_true c18
       clear c18
       by_cases c19 : 0 ≤ x5_2
       ·
        rw [if_pos c19] at H
        have c19b0 : decide (0 ≤ x5_2) = true := decide_eq_true c19
        clear c19
        by_cases c20 : x5_2 < (l0_1.length : Int)
        ·
         rw [if_pos c20] at H
         have c20b0 : decide (x5_2 < (l0_1.length : Int)) = true := decide_eq_true c20
         clear c20
         by_cases c21 : (rd l0_1 x5_2) < 1
         ·
          rw [if_pos c21] at H
          have c21b0 : decide ((rd l0_1 x5_2) < 1) = true := decide_eq_true c21
          clear c21
          obtain rfl := Option.some.inj H
          obtain ⟨hcz22_0, hcz22_1, hcz22_2, hfz22_0, hfz22_1, hfz22_2⟩ := cz3 BK337.out
          have p339 : 0 ≤ (x5_2 : Int) := od
          have q339 : x5_2 < (l0_1.length : Int) := od
          obtain ⟨ad339, e339, hx339_0⟩ := Kd.at_int HR0_1.out x5_2 p339 q339
          cases e339
          replace hx339_0 := bc HB.out hx339_0
          replace p339 := eq_true p339
          replace q339 := eq_true q339
          go_wp2
          go_ret
          exact ⟨er, pb HB.out GE337.out⟩
         ·
          rw [if_neg c21] at H
          have c21b0 : decide ((rd l0_1 x5_2) < 1) = false := decide_eq_false c21
          clear c21
          by_cases c23 : (rd l0_1 x5_2) > 60000
          ·
           rw [if_pos c23] at H
           have c23b0 : decide (60000 < (rd l0_1 x5_2)) = true := decide_eq_true c23
           clear c23
           obtain rfl := Option.some.inj H
           obtain ⟨hcz24_0, hcz24_1, hcz24_2, hfz24_0, hfz24_1, hfz24_2⟩ := cz3 BK337.out
           have p339 : 0 ≤ (x5_2 : Int) := od
           have q339 : x5_2 < (l0_1.length : Int) := od
           obtain ⟨ad339, e339, hx339_0⟩ := Kd.at_int HR0_1.out x5_2 p339 q339
           cases e339
           replace hx339_0 := bc HB.out hx339_0
           replace p339 := eq_true p339
           replace q339 := eq_true q339
           have p340 : 0 ≤ (x5_2 : Int) := od
           have q340 : x5_2 < (l0_1.length : Int) := od
           obtain ⟨ad340, e340, hx340_0⟩ := Kd.at_int HR0_1.out x5_2 p340 q340
           obtain rfl : ad339 = ad340 := (by injection e340)
           replace hx340_0 := bc HB.out hx340_0
           replace p340 := eq_true p340
           replace q340 := eq_true q340
           go_wp2
           go_ret
           exact ⟨er, pb HB.out GE337.out⟩
          ·
           rw [if_neg c23] at H
           have c23b0 : decide (60000 < (rd l0_1 x5_2)) = false := decide_eq_false c23
           clear c23
           have H' := Aside0.mk H
           clear H
           obtain ⟨hcz25_0, hcz25_1, hcz25_2, hfz25_0, hfz25_1, hfz25_2⟩ := cz3 BK337.out
           have p339 : 0 ≤ (x5_2 : Int) := od
           have q339 : x5_2 < (l0_1.length : Int) := od
           obtain ⟨ad339, e339, hx339_0⟩ := Kd.at_int HR0_1.out x5_2 p339 q339
           cases e339
           replace hx339_0 := bc HB.out hx339_0
           replace p339 := eq_true p339
           replace q339 := eq_true q339
           have p340 : 0 ≤ (x5_2 : Int) := od
           have q340 : x5_2 < (l0_1.length : Int) := od
           obtain ⟨ad340, e340, hx340_0⟩ := Kd.at_int HR0_1.out x5_2 p340 q340
           obtain rfl : ad339 = ad340 := (by injection e340)
           replace hx340_0 := bc HB.out hx340_0
           replace p340 := eq_true p340
           replace q340 := eq_true q340
           go_wp2
           go_roundg k2
           case measure => have := HJ2.out; have := HK2.out; omega
           case rel => exact ⟨(wrap64 (x5_2 + 1)), rr, H', ⟨by have := HJ2.out; have := HK2.out; omega⟩, ⟨by (with_reducible repeat (first | refine blk_drewN ?_ _ | refine blk_drew ?_ | refine blk_alloc ?_ _)); exact BK337.out⟩, ⟨pb HB.out GE337.out⟩⟩
        ·
         rw [if_neg c20] at H
         exact absurd H (by simp)
       ·
        rw [if_neg c19] at H
        exact absurd H (by simp)
      ·
       rw [if_neg c18] at H
       have c18b0 : decide (x5_2 < a1) = false := decide_eq_false c18
       clear c18
       obtain rfl := Option.some.inj H
       go_wp2
       go_ret
       exact ⟨er, pb HB.out GE337.out⟩

end Go.Proofs.YtnddijafdphbnaaDoor.All
end
section
-- Printed by wip/tools/wprint.py (a program of this session over the kit's printer). Not trusted: Lean checks it.
namespace Go.Proofs.YtnddijafdphbnaaDoor.All
open Go.RowKit Go.Proofs.YtnddijafdphbnaaDoorW.PrintWords Go.Proofs.YtnddijafdphbnaaDoorW.PrintLast Go.Proofs.YtnddijafdphbnaaDoorW.PrintMore
attribute [local go_sem] max2_int min2_int max_two min_two max_three min_three max_four min_four   -- for this text's walks alone
set_option linter.unusedVariables false
set_option linter.unusedSimpArgs false

/-! ### emendatelaw36_fair: function 12 -/
def emendatelaw36_fair.f (k : Nat) (l0_0 : List (S33)) (l0_1 : List Int) (a0_2 : Int) : Option (Bool) := (emendateref36_Small.f k l0_0 l0_1 a0_2).bind fun t342 => (if t342 = true then ((emendateref35_Valid.f k l0_0 l0_1 a0_2 (l0_1.length : Int)).bind fun t343 => (some t343)) else (some false))
set_option maxHeartbeats 8000000 in
set_option maxRecDepth 100000 in
theorem emendatelaw36_fair.calls (k : Nat) (A0_0 : Option Addr) (c0_0 : Nat) (l0_0 : List (S33)) (A0_1 : Option Addr) (c0_1 : Nat) (l0_1 : List Int) (a0_2 : Int) (r : Bool) (w : World) (hr0_0 : Kd.C k33 w A0_0 l0_0.length l0_0) (hc0_0 : l0_0.length ≤ c0_0) (hr0_1 : Kd.C (Kd.int .i64) w A0_1 l0_1.length l0_1) (hc0_1 : l0_1.length ≤ c0_1) (h : emendatelaw36_fair.f k l0_0 l0_1 a0_2 = some r) :
  Calls Tryd.prog 12 #[.agg #[.slice A0_0 l0_0.length c0_0, .slice A0_1 l0_1.length c0_1, .int .i64 a0_2]] w fun e w' => e = .returned (.bool r) ∧ Below w.heap.size w w' := by
 have hu25 := Tryd.underlying25
 have HR0_0 := Aside0.mk hr0_0
 have HC0_0 := Aside0.mk hc0_0
 clear hr0_0 hc0_0
 have HR0_1 := Aside0.mk hr0_1
 have HC0_1 := Aside0.mk hc0_1
 clear hr0_1 hc0_1
 have HB := Aside0.mk (Below.refl w.heap.size w)
 have H : ((emendateref36_Small.f k l0_0 l0_1 a0_2).bind fun t342 => (if t342 = true then ((emendateref35_Valid.f k l0_0 l0_1 a0_2 (l0_1.length : Int)).bind fun t343 => (some t343)) else (some false))) = some r := h
 clear h
 replace H := Option.bind_eq_some_iff.mp H
 obtain ⟨t342, A20, H⟩ := H
 replace H : (if t342 = true then ((emendateref35_Valid.f k l0_0 l0_1 a0_2 (l0_1.length : Int)).bind fun t343 => (some t343)) else (some false)) = some r := H
 have A2 := Aside0.mk A20
 clear A20
 by_cases c3 : t342 = true
 ·
  subst c3
  have H1 : ((emendateref35_Valid.f k l0_0 l0_1 a0_2 (l0_1.length : Int)).bind fun t343 => (some t343)) = some r := by rw [if_pos rfl] at H; exact H
  clear H
  have H := H1
  clear H1
  replace H := Option.bind_eq_some_iff.mp H
  obtain ⟨t343, A40, H⟩ := H
  replace H : (some t343) = some r := H
  have A4 := Aside0.mk A40
  clear A40
  obtain rfl := Option.some.inj H
  go_enter Tryd.func12, Tryd.ntmps12
  go_wp2_with (first | ((with_reducible refine gate_dst (N := 1) rfl ?_); (try (refine gate_guard (by rfl) ?_; dsimp only)); refine box_event ?hg (N := 1) ?hd (cs := #[.slice A0_0 l0_0.length c0_0, .slice A0_1 l0_1.length c0_1, .int .i64 a0_2]) (t := 25) ?hr ?_; (case hd => rfl); (case hg => rfl); (case hr => first | (go_simp; done) | (go_simp; rfl)); intro gb341 hg w5 hbox hb; have n0_ := Aside0.mk (below_step (pB HB.out) hb); have n1_ := Aside0.mk (hbox); have n2_ := Aside0.mk ((by rw [hg]; exact (below_size (pB HB.out)) : w.heap.size ≤ gb341)); have n3_ := Aside0.mk ((by rw [hg]; exact (below_size (pB HB.out)) : w.heap.size ≤ gb341)); clear HB; have HB := n0_; have BK341 := n1_; have GW341 := n2_; have GE341 := n3_; clear n0_ n1_ n2_ n3_; clear hb hbox hg; obtain ⟨hcz6_0, hcz6_1, hcz6_2, hfz6_0, hfz6_1, hfz6_2⟩ := cz3 BK341.out) | ((with_reducible refine gate_callee (f := 27) rfl ?_); refine gl (some 4) Tryd.func27 #[.agg #[.slice A0_0 l0_0.length c0_0, .slice A0_1 l0_1.length c0_1, .int .i64 a0_2]] ?_; (with_reducible refine (emendateref36_Small.calls k _ _ l0_0 _ _ l0_1 a0_2 true _ ?side1 ?side2 ?side3 ?side4 A2.out).mono ?_); (case side1 => exact sd (Kd.C_below HR0_0.out HB.out)); (case side2 => exact HC0_0.out); (case side3 => exact sd (Kd.C_below HR0_1.out HB.out)); (case side4 => exact HC0_1.out); rintro e w7 ⟨rfl, hb⟩; refine ⟨_, rfl, ?_⟩; replace BK341 := Aside0.mk (bb BK341.out hb); replace HB := Aside0.mk (below_step (pb HB.out GE341.out) hb); (try clear hb); obtain ⟨hcz8_0, hcz8_1, hcz8_2, hfz8_0, hfz8_1, hfz8_2⟩ := cz3 BK341.out) | (go_at_call 28; (with_reducible refine (emendateref35_Valid.calls k _ _ l0_0 _ _ l0_1 a0_2 (l0_1.length : Int) t343 _ ?side1 ?side2 ?side3 ?side4 A4.out).mono ?_); (case side1 => exact sd (Kd.C_below HR0_0.out HB.out)); (case side2 => exact HC0_0.out); (case side3 => exact sd (Kd.C_below HR0_1.out HB.out)); (case side4 => exact HC0_1.out); rintro e w9 ⟨rfl, hb⟩; replace BK341 := Aside0.mk (bb BK341.out hb); replace HB := Aside0.mk (below_step (pb HB.out GE341.out) hb); (try clear hb)))
  go_ret
  exact ⟨er, pb HB.out GE341.out⟩
 ·
  replace c3 := Bool.eq_false_iff.mpr c3
  subst c3
  have H1 : (some false) = some r := by rw [if_neg (show ¬ (false = true) by decide)] at H; exact H
  clear H
  have H := H1
  clear H1
  obtain rfl := Option.some.inj H
  go_enter Tryd.func12, Tryd.ntmps12
  go_wp2_with (first | ((with_reducible refine gate_dst (N := 1) rfl ?_); (try (refine gate_guard (by rfl) ?_; dsimp only)); refine box_event ?hg (N := 1) ?hd (cs := #[.slice A0_0 l0_0.length c0_0, .slice A0_1 l0_1.length c0_1, .int .i64 a0_2]) (t := 25) ?hr ?_; (case hd => rfl); (case hg => rfl); (case hr => first | (go_simp; done) | (go_simp; rfl)); intro gb341 hg w10 hbox hb; have n0_ := Aside0.mk (below_step (pB HB.out) hb); have n1_ := Aside0.mk (hbox); have n2_ := Aside0.mk ((by rw [hg]; exact (below_size (pB HB.out)) : w.heap.size ≤ gb341)); have n3_ := Aside0.mk ((by rw [hg]; exact (below_size (pB HB.out)) : w.heap.size ≤ gb341)); clear HB; have HB := n0_; have BK341 := n1_; have GW341 := n2_; have GE341 := n3_; clear n0_ n1_ n2_ n3_; clear hb hbox hg; obtain ⟨hcz11_0, hcz11_1, hcz11_2, hfz11_0, hfz11_1, hfz11_2⟩ := cz3 BK341.out) | ((with_reducible refine gate_callee (f := 27) rfl ?_); refine gl (some 4) Tryd.func27 #[.agg #[.slice A0_0 l0_0.length c0_0, .slice A0_1 l0_1.length c0_1, .int .i64 a0_2]] ?_; (with_reducible refine (emendateref36_Small.calls k _ _ l0_0 _ _ l0_1 a0_2 false _ ?side1 ?side2 ?side3 ?side4 A2.out).mono ?_); (case side1 => exact sd (Kd.C_below HR0_0.out HB.out)); (case side2 => exact HC0_0.out); (case side3 => exact sd (Kd.C_below HR0_1.out HB.out)); (case side4 => exact HC0_1.out); rintro e w12 ⟨rfl, hb⟩; refine ⟨_, rfl, ?_⟩; replace BK341 := Aside0.mk (bb BK341.out hb); replace HB := Aside0.mk (below_step (pb HB.out GE341.out) hb); (try clear hb)))
  go_ret
  exact ⟨er, pb HB.out GE341.out⟩

end Go.Proofs.YtnddijafdphbnaaDoor.All
end
