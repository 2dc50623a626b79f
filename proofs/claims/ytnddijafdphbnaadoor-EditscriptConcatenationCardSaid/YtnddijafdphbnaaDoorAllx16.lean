/- Some texts, one behind the other. -/
import Derived.Test.YtnddijafdphbnaaDoorAllSt
import Derived.Test.YtnddijafdphbnaaDoorAllx3
import Derived.Test.YtnddijafdphbnaaDoorAllx7
section
-- Printed by wip/tools/wprint.py (a program of this session over the kit's printer). Not trusted: Lean checks it.
namespace Go.Proofs.YtnddijafdphbnaaDoor.All
open Go.RowKit Go.Proofs.YtnddijafdphbnaaDoorW.PrintWords Go.Proofs.YtnddijafdphbnaaDoorW.PrintLast Go.Proofs.YtnddijafdphbnaaDoorW.PrintMore
attribute [local go_sem] max2_int min2_int max_two min_two max_three min_three max_four min_four   -- for this text's walks alone
set_option linter.unusedVariables false
set_option linter.unusedSimpArgs false

/-! ### emendateref27_SameInts: function 13 -/
def emendateref27_SameInts.l0 : Nat → List Int → List Int → Int → Option (Bool)
 | 0, _, _, _ => none
 | k + 1, x0, x1, x5 => if x5 < (x0.length : Int) then (if 0 ≤ x5 then (if x5 < (x1.length : Int) then (if (rd x0 x5) = (rd x1 x5) then (emendateref27_SameInts.l0 k x0 x1 (wrap64 (x5 + 1))) else (some false)) else (none)) else (none)) else (some true)
def emendateref27_SameInts.f (k : Nat) (l0 : List Int) (l1 : List Int) : Option (Bool) := if (l0.length : Int) = (l1.length : Int) then (emendateref27_SameInts.l0 k l0 l1 0) else (some false)
theorem emendateref27_SameInts.mono_l : ∀ k, (∀ y0 y1 y2, LeO (emendateref27_SameInts.l0 k y0 y1 y2) (emendateref27_SameInts.l0 (k + 1) y0 y1 y2))
 | 0 => fun _ _ _ r h => by simp [emendateref27_SameInts.l0] at h
 | k + 1 => by
  have ih0 := emendateref27_SameInts.mono_l k
  ·
   intro y0 y1 y2
   unfold emendateref27_SameInts.l0
   repeat' first
   | (with_reducible exact ih0 _ _ _)
   | (with_reducible exact LeO.refl _)
   | (with_reducible exact LeO.none _)
   | (with_reducible refine LeO.ite ?_ ?_)
   | (with_reducible refine LeO.bind ?_ (fun _ => ?_))
   | exact ih0 _ _ _
   | exact LeO.none _
   | refine LeO.ite ?_ ?_
   | refine LeO.bind ?_ (fun _ => ?_)
theorem emendateref27_SameInts.mono : ∀ a0 a1 k, LeO (emendateref27_SameInts.f k a0 a1) (emendateref27_SameInts.f (k + 1) a0 a1) := by
 intro a0 a1 k
 have ih0 := emendateref27_SameInts.mono_l k
 unfold emendateref27_SameInts.f
 repeat' first
   | (with_reducible exact ih0 _ _ _)
   | (with_reducible exact LeO.refl _)
   | (with_reducible exact LeO.none _)
   | (with_reducible refine LeO.ite ?_ ?_)
   | (with_reducible refine LeO.bind ?_ (fun _ => ?_))
   | exact ih0 _ _ _
   | exact LeO.none _
   | refine LeO.ite ?_ ?_
   | refine LeO.bind ?_ (fun _ => ?_)
set_option maxHeartbeats 8000000 in
set_option maxRecDepth 100000 in
theorem emendateref27_SameInts.calls (k : Nat) (A0 : Option Addr) (c0 : Nat) (l0 : List Int) (A1 : Option Addr) (c1 : Nat) (l1 : List Int) (r : Bool) (w : World) (hr0 : Kd.C (Kd.int .i64) w A0 l0.length l0) (hc0 : l0.length ≤ c0) (hr1 : Kd.C (Kd.int .i64) w A1 l1.length l1) (hc1 : l1.length ≤ c1) (h : emendateref27_SameInts.f k l0 l1 = some r) :
  Calls Tryd.prog 13 #[.slice A0 l0.length c0, .slice A1 l1.length c1] w fun e w' => e = .returned (.bool r) ∧ Drawn0 w w' := by
 have HR0 := Aside0.mk hr0
 have HC0 := Aside0.mk hc0
 clear hr0 hc0
 have HR1 := Aside0.mk hr1
 have HC1 := Aside0.mk hc1
 clear hr1 hc1
 have H : (if (l0.length : Int) = (l1.length : Int) then (emendateref27_SameInts.l0 k l0 l1 0) else (some false)) = some r := h
 clear h
 by_cases c3 : (l0.length : Int) = (l1.length : Int)
 ·
  rw [if_pos c3] at H
  have c3b0 : ((l0.length : Int) == (l1.length : Int)) = true := beq_iff_eq.mpr c3
  have c3b1 : ((l0.length : Int) != (l1.length : Int)) = false := bne_eq_false_iff_eq.mpr c3
  have c3b2 : (l0.length == l1.length) = true := by first | simpa using c3 | (simp at c3 ⊢; omega)
  clear c3
  have H' := Aside0.mk H
  clear H
  go_enter Tryd.func13, Tryd.ntmps13
  go_wp2
  repeat (go_quiet (fail); try go_wp2)
  go_loopg [5] k (fun kq v5 w' => ∃ (x5_1 : Int), v5 = .int .i64 x5_1 ∧ Aside0 (emendateref27_SameInts.l0 kq l0 l1 x5_1 = some r) ∧ Aside0 (kq ≤ k) ∧ Drawn0 w w')
  case atStart => exact ⟨(0), rr, H', ⟨Nat.le_refl _⟩, by repeat (first | exact Drawn0.refl _ | apply Drawn0.step)⟩
  case round =>
   clear H'
   try clear c1
   try clear c3
   try clear c3b0
   try clear c3b1
   try clear c3b2
   obtain ⟨x5_1, rfl, HA, HK1, ⟨m1, rfl⟩⟩ := hrel
   cases gk with
   | zero => exact absurd HA.out (by simp [emendateref27_SameInts.l0])
   | succ k1 =>
    have H := HA.out
    clear HA
    simp only [emendateref27_SameInts.l0] at H
    by_cases c4 : x5_1 < (l0.length : Int)
    ·
     rw [if_pos c4] at H
     have c4b0 : decide (x5_1 < (l0.length : Int)) = true := decide_eq_true c4
     clear c4
     by_cases c5 : 0 ≤ x5_1
     ·
      rw [if_pos c5] at H
      have c5b0 : decide (0 ≤ x5_1) = true := decide_eq_true c5
      clear c5
      by_cases c6 : x5_1 < (l1.length : Int)
      ·
       rw [if_pos c6] at H
       have c6b0 : decide (x5_1 < (l1.length : Int)) = true := decide_eq_true c6
       clear c6
       by_cases c7 : (rd l0 x5_1) = (rd l1 x5_1)
       ·
        rw [if_pos c7] at H
        have c7b0 : ((rd l0 x5_1) == (rd l1 x5_1)) = true := beq_iff_eq.mpr c7
        have c7b1 : ((rd l0 x5_1) != (rd l1 x5_1)) = false := bne_eq_false_iff_eq.mpr c7
        clear c7
        have H' := Aside0.mk H
        clear H
        have p101 : 0 ≤ (x5_1 : Int) := od
        have q101 : x5_1 < (l0.length : Int) := od
        obtain ⟨ad101, e101, hx101_0⟩ := Kd.at_int HR0.out x5_1 p101 q101
        cases e101
        replace p101 := eq_true p101
        replace q101 := eq_true q101
        have p102 : 0 ≤ (x5_1 : Int) := od
        have q102 : x5_1 < (l1.length : Int) := od
        obtain ⟨ad102, e102, hx102_0⟩ := Kd.at_int HR1.out x5_1 p102 q102
        cases e102
        replace p102 := eq_true p102
        replace q102 := eq_true q102
        go_wp2
        repeat (go_quiet (fail); try go_wp2)
        go_roundg k1
        case measure => have := HK1.out; omega
        case rel => exact ⟨(wrap64 (x5_1 + 1)), rr, H', ⟨by have := HK1.out; omega⟩, by repeat (first | exact Drawn0.refl _ | apply Drawn0.step)⟩
       ·
        rw [if_neg c7] at H
        have c7b0 : ((rd l0 x5_1) == (rd l1 x5_1)) = false := beq_eq_false_iff_ne.mpr c7
        have c7b1 : ((rd l0 x5_1) != (rd l1 x5_1)) = true := bne_iff_ne.mpr c7
        obtain rfl := Option.some.inj H
        have p101 : 0 ≤ (x5_1 : Int) := od
        have q101 : x5_1 < (l0.length : Int) := od
        obtain ⟨ad101, e101, hx101_0⟩ := Kd.at_int HR0.out x5_1 p101 q101
        cases e101
        replace p101 := eq_true p101
        replace q101 := eq_true q101
        have p102 : 0 ≤ (x5_1 : Int) := od
        have q102 : x5_1 < (l1.length : Int) := od
        obtain ⟨ad102, e102, hx102_0⟩ := Kd.at_int HR1.out x5_1 p102 q102
        cases e102
        replace p102 := eq_true p102
        replace q102 := eq_true q102
        go_wp2
        repeat (go_quiet (fail); try go_wp2)
        go_ret
        exact ⟨rr, by repeat (first | exact Drawn0.refl _ | apply Drawn0.step)⟩
      ·
       rw [if_neg c6] at H
       exact absurd H (by simp)
     ·
      rw [if_neg c5] at H
      exact absurd H (by simp)
    ·
     rw [if_neg c4] at H
     have c4b0 : decide (x5_1 < (l0.length : Int)) = false := decide_eq_false c4
     clear c4
     obtain rfl := Option.some.inj H
     go_wp2
     repeat (go_quiet (fail); try go_wp2)
     go_ret
     exact ⟨rr, by repeat (first | exact Drawn0.refl _ | apply Drawn0.step)⟩
 ·
  rw [if_neg c3] at H
  have c3b0 : ((l0.length : Int) == (l1.length : Int)) = false := beq_eq_false_iff_ne.mpr c3
  have c3b1 : ((l0.length : Int) != (l1.length : Int)) = true := bne_iff_ne.mpr c3
  have c3b2 : (l0.length == l1.length) = false := by first | simpa using c3 | (simp at c3 ⊢; omega)
  obtain rfl := Option.some.inj H
  go_enter Tryd.func13, Tryd.ntmps13
  go_wp2
  repeat (go_quiet (fail); try go_wp2)
  go_ret
  exact ⟨rr, by repeat (first | exact Drawn0.refl _ | apply Drawn0.step)⟩

end Go.Proofs.YtnddijafdphbnaaDoor.All
end
section
-- Printed by wip/tools/wprint.py (a program of this session over the kit's printer). Not trusted: Lean checks it.
namespace Go.Proofs.YtnddijafdphbnaaDoor.All
open Go.RowKit Go.Proofs.YtnddijafdphbnaaDoorW.PrintWords Go.Proofs.YtnddijafdphbnaaDoorW.PrintLast Go.Proofs.YtnddijafdphbnaaDoorW.PrintMore
attribute [local go_sem] max2_int min2_int max_two min_two max_three min_three max_four min_four   -- for this text's walks alone
set_option linter.unusedVariables false
set_option linter.unusedSimpArgs false

/-! ### editscript_Distance: function 14 -/
def editscript_Distance.f (k : Nat) (l0_0 : List (S33)) (l0_1 : List Int) (a0_2 : Int) (l1 : List Int) : Option (Int) := (editscript_proper.f k l0_0 l0_1 a0_2 l1).bind fun t168 => (if t168 = true then ((editscript_table.f k l0_0 l0_1 a0_2 l1).bind fun t169 => (if 0 < (t169.length : Int) then (if 0 < ((rd_L1 t169 0).length : Int) then (some (rd (rd_L1 t169 0) 0)) else (none)) else (none))) else (some 1099511627776))
theorem editscript_Distance.mono : ∀ a0 a1 a2 a3 k, LeO (editscript_Distance.f k a0 a1 a2 a3) (editscript_Distance.f (k + 1) a0 a1 a2 a3) := by
 intro a0 a1 a2 a3 k
 unfold editscript_Distance.f
 repeat' first
   | (with_reducible exact editscript_proper.mono _ _ _ _ _)
   | (with_reducible exact editscript_table.mono _ _ _ _ _)
   | (with_reducible exact LeO.refl _)
   | (with_reducible exact LeO.none _)
   | (with_reducible refine LeO.ite ?_ ?_)
   | (with_reducible refine LeO.bind ?_ (fun _ => ?_))
   | exact editscript_proper.mono _ _ _ _ _
   | exact editscript_table.mono _ _ _ _ _
   | exact LeO.none _
   | refine LeO.ite ?_ ?_
   | refine LeO.bind ?_ (fun _ => ?_)
set_option maxHeartbeats 8000000 in
set_option maxRecDepth 100000 in
theorem editscript_Distance.calls (k : Nat) (A0_0 : Option Addr) (c0_0 : Nat) (l0_0 : List (S33)) (A0_1 : Option Addr) (c0_1 : Nat) (l0_1 : List Int) (a0_2 : Int) (A1 : Option Addr) (c1 : Nat) (l1 : List Int) (r : Int) (w : World) (hr0_0 : Kd.C k33 w A0_0 l0_0.length l0_0) (hc0_0 : l0_0.length ≤ c0_0) (hr0_1 : Kd.C (Kd.int .i64) w A0_1 l0_1.length l0_1) (hc0_1 : l0_1.length ≤ c0_1) (hr1 : Kd.C (Kd.int .i64) w A1 l1.length l1) (hc1 : l1.length ≤ c1) (h : editscript_Distance.f k l0_0 l0_1 a0_2 l1 = some r) :
  Calls Tryd.prog 14 #[.agg #[.slice A0_0 l0_0.length c0_0, .slice A0_1 l0_1.length c0_1, .int .i64 a0_2], .slice A1 l1.length c1] w fun e w' => e = .returned (.int .i64 r) ∧ Below w.heap.size w w' := by
 have hu25 := Tryd.underlying25
 have HR0_0 := Aside0.mk hr0_0
 have HC0_0 := Aside0.mk hc0_0
 clear hr0_0 hc0_0
 have HR0_1 := Aside0.mk hr0_1
 have HC0_1 := Aside0.mk hc0_1
 clear hr0_1 hc0_1
 have HR1 := Aside0.mk hr1
 have HC1 := Aside0.mk hc1
 clear hr1 hc1
 have HB := Aside0.mk (Below.refl w.heap.size w)
 have H : ((editscript_proper.f k l0_0 l0_1 a0_2 l1).bind fun t168 => (if t168 = true then ((editscript_table.f k l0_0 l0_1 a0_2 l1).bind fun t169 => (if 0 < (t169.length : Int) then (if 0 < ((rd_L1 t169 0).length : Int) then (some (rd (rd_L1 t169 0) 0)) else (none)) else (none))) else (some 1099511627776))) = some r := h
 clear h
 replace H := Option.bind_eq_some_iff.mp H
 obtain ⟨t168, A30, H⟩ := H
 replace H : (if t168 = true then ((editscript_table.f k l0_0 l0_1 a0_2 l1).bind fun t169 => (if 0 < (t169.length : Int) then (if 0 < ((rd_L1 t169 0).length : Int) then (some (rd (rd_L1 t169 0) 0)) else (none)) else (none))) else (some 1099511627776)) = some r := H
 have A3 := Aside0.mk A30
 clear A30
 by_cases c4 : t168 = true
 ·
  subst c4
  have H1 : ((editscript_table.f k l0_0 l0_1 a0_2 l1).bind fun t169 => (if 0 < (t169.length : Int) then (if 0 < ((rd_L1 t169 0).length : Int) then (some (rd (rd_L1 t169 0) 0)) else (none)) else (none))) = some r := by rw [if_pos rfl] at H; exact H
  clear H
  have H := H1
  clear H1
  replace H := Option.bind_eq_some_iff.mp H
  obtain ⟨t169, A50, H⟩ := H
  replace H : (if 0 < (t169.length : Int) then (if 0 < ((rd_L1 t169 0).length : Int) then (some (rd (rd_L1 t169 0) 0)) else (none)) else (none)) = some r := H
  have A5 := Aside0.mk A50
  clear A50
  by_cases c6 : 0 < (t169.length : Int)
  ·
   rw [if_pos c6] at H
   have c6b0 : decide (0 < (t169.length : Int)) = true := decide_eq_true c6
   have c6b1 : decide (0 < t169.length) = true := decide_eq_true (by omega)
   clear c6
   by_cases c7 : 0 < ((rd_L1 t169 0).length : Int)
   ·
    rw [if_pos c7] at H
    have c7b0 : decide (0 < ((rd_L1 t169 0).length : Int)) = true := decide_eq_true c7
    have c7b1 : decide (0 < (rd_L1 t169 0).length) = true := decide_eq_true (by omega)
    clear c7
    obtain rfl := Option.some.inj H
    go_enter Tryd.func14, Tryd.ntmps14
    go_wp2_with (first | ((with_reducible refine gate_dst (N := 2) rfl ?_); refine box_event ?hg (N := 2) ?hd (cs := #[.slice A0_0 l0_0.length c0_0, .slice A0_1 l0_1.length c0_1, .int .i64 a0_2]) (t := 25) ?hr ?_; (case hd => rfl); (case hg => rfl); (case hr => first | (go_simp; done) | (go_simp; rfl)); intro gb167 hg w8 hbox hb; have n0_ := Aside0.mk (below_step (pB HB.out) hb); have n1_ := Aside0.mk (hbox); have n2_ := Aside0.mk ((by rw [hg]; exact (below_size (pB HB.out)) : w.heap.size ≤ gb167)); have n3_ := Aside0.mk ((by rw [hg]; exact (below_size (pB HB.out)) : w.heap.size ≤ gb167)); clear HB; have HB := n0_; have BK167 := n1_; have GW167 := n2_; have GE167 := n3_; clear n0_ n1_ n2_ n3_; clear hb hbox hg; obtain ⟨hcz9_0, hcz9_1, hcz9_2, hfz9_0, hfz9_1, hfz9_2⟩ := cz3 BK167.out) | ((with_reducible refine gate_callee (f := 29) rfl ?_); refine gl (some 7) Tryd.func29 #[.agg #[.slice A0_0 l0_0.length c0_0, .slice A0_1 l0_1.length c0_1, .int .i64 a0_2], .slice A1 l1.length c1] ?_; (with_reducible refine (editscript_proper.calls k _ _ l0_0 _ _ l0_1 a0_2 _ _ l1 true _ ?side1 ?side2 ?side3 ?side4 ?side5 ?side6 A3.out).mono ?_); (case side1 => exact sd (Kd.C_below HR0_0.out HB.out)); (case side2 => exact HC0_0.out); (case side3 => exact sd (Kd.C_below HR0_1.out HB.out)); (case side4 => exact HC0_1.out); (case side5 => exact sd (Kd.C_below HR1.out HB.out)); (case side6 => exact HC1.out); rintro e w10 ⟨rfl, hb⟩; refine ⟨_, rfl, ?_⟩; replace BK167 := Aside0.mk (bb BK167.out hb); replace HB := Aside0.mk (below_step (pb HB.out GE167.out) hb); (try clear hb); obtain ⟨hcz11_0, hcz11_1, hcz11_2, hfz11_0, hfz11_1, hfz11_2⟩ := cz3 BK167.out) | ((with_reducible refine gate_callee (f := 30) rfl ?_); refine gl (some 11) Tryd.func30 #[.agg #[.slice A0_0 l0_0.length c0_0, .slice A0_1 l0_1.length c0_1, .int .i64 a0_2], .slice A1 l1.length c1] ?_; (with_reducible refine (editscript_table.calls k _ _ l0_0 _ _ l0_1 a0_2 _ _ l1 t169 _ ?side1 ?side2 ?side3 ?side4 ?side5 ?side6 A5.out).mono ?_); (case side1 => exact sd (Kd.C_below HR0_0.out HB.out)); (case side2 => exact HC0_0.out); (case side3 => exact sd (Kd.C_below HR0_1.out HB.out)); (case side4 => exact HC0_1.out); (case side5 => exact sd (Kd.C_below HR1.out HB.out)); (case side6 => exact HC1.out); rintro e w12 ⟨v170, rfl, ho0, hb⟩; refine ⟨_, rfl, ?_⟩; have HO171 := Aside0.mk (Kd.S_lower ho0 (below_size (pb HB.out GE167.out))); replace BK167 := Aside0.mk (bb BK167.out hb); replace HB := Aside0.mk (below_step (pb HB.out GE167.out) hb); (try clear hb); (try clear ho0); obtain ⟨Ao13, co13, eo13⟩ := Kd.S_slice HO171.out; subst eo13; have p172 : 0 ≤ (0 : Int) := (by omega); have q172 : 0 < (t169.length : Int) := od; obtain ⟨ad172, A172_0, c172_0, e172, hx172_0, hl172_0, hi172_0⟩ := at_L1 (Kd.S_reads' HO171.out).2.2 0 p172 q172; cases e172; obtain ⟨ce172, hce172, hMe172, hcc172⟩ := Kd.S_get HO171.out [] 0 p172 (by first | exact q172 | exact od | (have e_ := (Kd.S_reads' HO171.out).1; omega)); obtain ⟨ve172_0, rfl, ge172_0⟩ := hMe172; have hv172_0 := hcc172 0 _ rfl; rw [Nat.add_zero, show ((Kd.slice 3 (Kd.int .i64))).sz = 1 from rfl, Nat.mul_one] at hv172_0; replace hv172_0 := Option.some.inj (hv172_0.symm.trans hx172_0); rw [hv172_0] at ge172_0; have HL172_0 := Aside0.mk (show Kd.R (Kd.int .i64) 3 _ _ _ _ (rd_L1 t169 0) from ge172_0); clear hv172_0 ge172_0; clear hcc172 hce172; have qi172 : (0 < t169.length) = True := eq_true (by omega); (try rw [show ((0 : Int)).toNat = 0 from rfl] at hx172_0); (try rw [Addr.add_zero'] at hx172_0); have HR172_0 := Aside0.mk hi172_0; have HC172_0 := Aside0.mk hl172_0; clear hi172_0 hl172_0; replace p172 := eq_true p172; replace q172 := eq_true q172; have p173 : 0 ≤ (0 : Int) := (by omega); have q173 : 0 < ((rd_L1 t169 0).length : Int) := od; obtain ⟨ad173, e173, hx173_0⟩ := Kd.at_int (by repeat (first | (with_reducible exact HR172_0.out) | (with_reducible refine Kd.C_alloc ?_ _) | (with_reducible refine Kd.C_drewN ?_ _) | (with_reducible refine Kd.C_drew ?_) | exact HR172_0.out)) 0 p173 q173; cases e173; have qi173 : (0 < (rd_L1 t169 0).length) = True := eq_true (by omega); (try rw [show ((0 : Int)).toNat = 0 from rfl] at hx173_0); (try rw [Addr.add_zero'] at hx173_0); replace p173 := eq_true p173; replace q173 := eq_true q173))
    go_ret
    exact ⟨er, pb HB.out GE167.out⟩
   ·
    rw [if_neg c7] at H
    exact absurd H (by simp)
  ·
   rw [if_neg c6] at H
   exact absurd H (by simp)
 ·
  replace c4 := Bool.eq_false_iff.mpr c4
  subst c4
  have H1 : (some 1099511627776) = some r := by rw [if_neg (show ¬ (false = true) by decide)] at H; exact H
  clear H
  have H := H1
  clear H1
  obtain rfl := Option.some.inj H
  go_enter Tryd.func14, Tryd.ntmps14
  go_wp2_with (first | ((with_reducible refine gate_dst (N := 2) rfl ?_); refine box_event ?hg (N := 2) ?hd (cs := #[.slice A0_0 l0_0.length c0_0, .slice A0_1 l0_1.length c0_1, .int .i64 a0_2]) (t := 25) ?hr ?_; (case hd => rfl); (case hg => rfl); (case hr => first | (go_simp; done) | (go_simp; rfl)); intro gb167 hg w14 hbox hb; have n0_ := Aside0.mk (below_step (pB HB.out) hb); have n1_ := Aside0.mk (hbox); have n2_ := Aside0.mk ((by rw [hg]; exact (below_size (pB HB.out)) : w.heap.size ≤ gb167)); have n3_ := Aside0.mk ((by rw [hg]; exact (below_size (pB HB.out)) : w.heap.size ≤ gb167)); clear HB; have HB := n0_; have BK167 := n1_; have GW167 := n2_; have GE167 := n3_; clear n0_ n1_ n2_ n3_; clear hb hbox hg; obtain ⟨hcz15_0, hcz15_1, hcz15_2, hfz15_0, hfz15_1, hfz15_2⟩ := cz3 BK167.out) | ((with_reducible refine gate_callee (f := 29) rfl ?_); refine gl (some 7) Tryd.func29 #[.agg #[.slice A0_0 l0_0.length c0_0, .slice A0_1 l0_1.length c0_1, .int .i64 a0_2], .slice A1 l1.length c1] ?_; (with_reducible refine (editscript_proper.calls k _ _ l0_0 _ _ l0_1 a0_2 _ _ l1 false _ ?side1 ?side2 ?side3 ?side4 ?side5 ?side6 A3.out).mono ?_); (case side1 => exact sd (Kd.C_below HR0_0.out HB.out)); (case side2 => exact HC0_0.out); (case side3 => exact sd (Kd.C_below HR0_1.out HB.out)); (case side4 => exact HC0_1.out); (case side5 => exact sd (Kd.C_below HR1.out HB.out)); (case side6 => exact HC1.out); rintro e w16 ⟨rfl, hb⟩; refine ⟨_, rfl, ?_⟩; replace BK167 := Aside0.mk (bb BK167.out hb); replace HB := Aside0.mk (below_step (pb HB.out GE167.out) hb); (try clear hb)))
  go_ret
  exact ⟨er, pb HB.out GE167.out⟩

end Go.Proofs.YtnddijafdphbnaaDoor.All
end
section
-- Printed by wip/tools/wprint.py (a program of this session over the kit's printer). Not trusted: Lean checks it.
namespace Go.Proofs.YtnddijafdphbnaaDoor.All
open Go.RowKit Go.Proofs.YtnddijafdphbnaaDoorW.PrintWords Go.Proofs.YtnddijafdphbnaaDoorW.PrintLast Go.Proofs.YtnddijafdphbnaaDoorW.PrintMore
attribute [local go_sem] max2_int min2_int max_two min_two max_three min_three max_four min_four   -- for this text's walks alone
set_option linter.unusedVariables false
set_option linter.unusedSimpArgs false

/-! ### emendatelaw36_example: function 26 -/
def emendatelaw36_example.f  : Option ((List (S33)) × List Int × Int) := some ((([(⟨0, (([0, 4] : List Int)), 5⟩ : S33), (⟨1, (([4, 0] : List Int)), 5⟩ : S33)] : List (S33))), (([3, 3] : List Int)), 2)
set_option maxHeartbeats 8000000 in
set_option maxRecDepth 100000 in
theorem emendatelaw36_example.calls  (r1 : List (S33)) (r2 : List Int) (r3 : Int) (w : World) (h : emendatelaw36_example.f  = some (r1, r2, r3)) :
  Calls Tryd.prog 26 #[] w fun e w' => ∃ v0_ v1_ : Value, e = .returned (.agg #[v0_, v1_, .int .i64 r3]) ∧ Kd.N k33 33 w' w.heap.size (fun k_ => (w.heap.size ≤ k_) ∧ some k_ ≠ (v1_ : Value).ownBlock) v0_ r1 ∧ Kd.R (Kd.int .i64) 3 w' w.heap.size (fun k_ => (w.heap.size ≤ k_)) v1_ r2 ∧ Below w.heap.size w w' := by
 have hu25 := Tryd.underlying25
 have hu33 := Tryd.underlying33
 have HB := Aside0.mk (Below.refl w.heap.size w)
 have H : (some ((([(⟨0, (([0, 4] : List Int)), 5⟩ : S33), (⟨1, (([4, 0] : List Int)), 5⟩ : S33)] : List (S33))), (([3, 3] : List Int)), 2)) = some (r1, r2, r3) := h
 clear h
 obtain ⟨y197, hy197⟩ : ∃ y_ : List Int, y_ = (([0, 4] : List Int)) := ⟨_, rfl⟩
 replace H : (some ((([(⟨0, y197, 5⟩ : S33), (⟨1, (([4, 0] : List Int)), 5⟩ : S33)] : List (S33))), (([3, 3] : List Int)), 2)) = some (r1, r2, r3) := by first | (rw [hy197]; with_reducible exact H) | (have H2_ := (Option.bind_some _ _).symm.trans H; rw [hy197]; with_reducible exact H2_) | (have H2_ := (Option.bind_some _ _).symm.trans H; with_reducible exact H2_) | with_reducible exact H | (rw [hy197]; exact H) | exact H
 have Ny197 := Aside0.mk hy197
 clear hy197
 obtain ⟨y200, hy200⟩ : ∃ y_ : List Int, y_ = (([4, 0] : List Int)) := ⟨_, rfl⟩
 replace H : (some ((([(⟨0, y197, 5⟩ : S33), (⟨1, y200, 5⟩ : S33)] : List (S33))), (([3, 3] : List Int)), 2)) = some (r1, r2, r3) := by first | (rw [hy200]; with_reducible exact H) | (have H2_ := (Option.bind_some _ _).symm.trans H; rw [hy200]; with_reducible exact H2_) | (have H2_ := (Option.bind_some _ _).symm.trans H; with_reducible exact H2_) | with_reducible exact H | (rw [hy200]; exact H) | exact H
 have Ny200 := Aside0.mk hy200
 clear hy200
 obtain ⟨y203, hy203⟩ : ∃ y_ : List (S33), y_ = (([(⟨0, y197, 5⟩ : S33), (⟨1, y200, 5⟩ : S33)] : List (S33))) := ⟨_, rfl⟩
 replace H : (some (y203, (([3, 3] : List Int)), 2)) = some (r1, r2, r3) := by first | (rw [hy203]; with_reducible exact H) | (have H2_ := (Option.bind_some _ _).symm.trans H; rw [hy203]; with_reducible exact H2_) | (have H2_ := (Option.bind_some _ _).symm.trans H; with_reducible exact H2_) | with_reducible exact H | (rw [hy203]; exact H) | exact H
 have Ny203 := Aside0.mk hy203
 clear hy203
 obtain ⟨y206, hy206⟩ : ∃ y_ : List Int, y_ = (([3, 3] : List Int)) := ⟨_, rfl⟩
 replace H : (some (y203, y206, 2)) = some (r1, r2, r3) := by first | (rw [hy206]; with_reducible exact H) | (have H2_ := (Option.bind_some _ _).symm.trans H; rw [hy206]; with_reducible exact H2_) | (have H2_ := (Option.bind_some _ _).symm.trans H; with_reducible exact H2_) | with_reducible exact H | (rw [hy206]; exact H) | exact H
 have Ny206 := Aside0.mk hy206
 clear hy206
 simp only [Option.some.injEq, Prod.mk.injEq] at H
 obtain ⟨rfl, rfl, rfl⟩ := H
 go_enter Tryd.func26, Tryd.ntmps26
 go_wp2_with (first | ((with_reducible refine gate_dst (N := 0) rfl ?_); refine box_event ?hg (N := 0) ?hd (cs := #[.slice none 0 0, .slice none 0 0, .int .i64 0]) (t := 25) ?hr ?_; (case hd => rfl); (case hg => rfl); (case hr => first | (go_simp; done) | (go_simp; rfl)); intro gb196 hg w1 hbox hb; have n0_ := Aside0.mk (below_step (pB HB.out) hb); have n1_ := Aside0.mk (hbox); have n2_ := Aside0.mk ((by rw [hg]; exact (below_size (pB HB.out)) : w.heap.size ≤ gb196)); have n3_ := Aside0.mk ((by rw [hg]; exact (below_size (pB HB.out)) : w.heap.size ≤ gb196)); clear HB; have HB := n0_; have BK196 := n1_; have GW196 := n2_; have GE196 := n3_; clear n0_ n1_ n2_ n3_; clear hb hbox hg) | ((with_reducible refine gate_dst (N := 1) rfl ?_); refine Kd.R_lit (Kd.int .i64) _ 3 ?hg (N := 1) ?hd (xs := ([0, 4] : List Int)) (inner := [.int .i64 0, .int .i64 4]) (ok := fun _ => True) (okp := fun _ => True) ?hr ?hp (fun _ hk => hk) trivial (Below.refl _ _) (Nat.le_refl _) (by simp) ?_; (case hd => rfl); (case hg => rfl); (case hr => first | (go_simp; done) | (go_simp; rfl)); (case hp => exact (Reps.one (show Kd.M (Kd.int .i64) _ _ _ 0 [.int .i64 0] from rfl) (Reps.one (show Kd.M (Kd.int .i64) _ _ _ 4 [.int .i64 4] from rfl) (Reps.none _ _)))); intro v198 w2 ho3 hb hg_ hnew_; clear hg_ hnew_; (first | rw [← Ny197.out] at ho3 | (simp only [Int.reduceToNat] at ho3; rw [← Ny197.out] at ho3)); have HO199 := Aside0.mk (Kd.R_lower (Kd.R_newM (M := fun k_ => (w.heap.size ≤ k_)) ho3 (below_size (pb HB.out GE196.out)) (fun k_ h_ => h_)) (below_size (pb HB.out GE196.out))); replace BK196 := Aside0.mk (bb BK196.out hb); replace HB := Aside0.mk (below_step (pb HB.out GE196.out) hb); clear hb ho3; obtain ⟨Ao4, co4, eo4⟩ := Kd.R_slice HO199.out; subst eo4) | ((with_reducible refine gate_dst (N := 3) rfl ?_); refine Kd.R_lit (Kd.int .i64) _ 3 ?hg (N := 3) ?hd (xs := ([4, 0] : List Int)) (inner := [.int .i64 4, .int .i64 0]) (ok := fun _ => True) (okp := fun _ => True) ?hr ?hp (fun _ hk => hk) trivial (Below.refl _ _) (Nat.le_refl _) (by simp) ?_; (case hd => rfl); (case hg => rfl); (case hr => first | (go_simp; done) | (go_simp; rfl)); (case hp => exact (Reps.one (show Kd.M (Kd.int .i64) _ _ _ 4 [.int .i64 4] from rfl) (Reps.one (show Kd.M (Kd.int .i64) _ _ _ 0 [.int .i64 0] from rfl) (Reps.none _ _)))); intro v201 w5 ho6 hb hg_ hnew_; clear hg_ hnew_; (first | rw [← Ny200.out] at ho6 | (simp only [Int.reduceToNat] at ho6; rw [← Ny200.out] at ho6)); have n0_ := Aside0.mk (Kd.R_elder' (pR HO199.out) (Kd.R_base ho6) hb); have n1_ := Aside0.mk (Kd.R_lower (Kd.R_new' (Kd.R_newM (M := fun k_ => (w.heap.size ≤ k_)) ho6 (below_size (pb HB.out GE196.out)) (fun k_ h_ => h_)) (Kd.R_lt (pR HO199.out))) (below_size (pb HB.out GE196.out))); have n2_ := Aside0.mk (bb BK196.out hb); have n3_ := Aside0.mk (below_step (pb HB.out GE196.out) hb); clear HO199; clear BK196; clear HB; have HO199 := n0_; have HO202 := n1_; have BK196 := n2_; have HB := n3_; clear n0_ n1_ n2_ n3_; clear hb ho6; obtain ⟨Ao7, co7, eo7⟩ := Kd.R_slice HO202.out; subst eo7) | ((with_reducible refine gate_dst (N := 5) rfl ?_); refine Kd.N_lit k33 _ 33 ?hg (N' := 5) ?hd (xs := ([(⟨0, y197, 5⟩ : S33), (⟨1, y200, 5⟩ : S33)] : List (S33))) (inner := [.int .i64 0, .slice Ao4 y197.length co4, .int .i64 5, .int .i64 1, .slice Ao7 y200.length co7, .int .i64 5]) (ok := (fun k_ => (w.heap.size ≤ k_) ∧ k_ ≠ gb196)) (okp := (fun k_ => (w.heap.size ≤ k_) ∧ k_ ≠ gb196)) ?hr ?hp (fun _ hk => hk) ((show ∀ k_, w5.heap.size ≤ k_ → (fun k_ => (w.heap.size ≤ k_) ∧ k_ ≠ gb196) k_ from fun k_ hk => ⟨(Nat.le_trans (below_size (pb HB.out GE196.out)) hk), Kd.freshB (g := gb196) (o := .cells #[.slice none 0 0, .slice none 0 0, .int .i64 0] 25 (0, 0)) (pk BK196.out) k_ hk⟩) _ (Nat.le_refl _)) (Below.refl _ _) (Nat.le_refl _) (by simp) ?_; (case hd => rfl); (case hg => rfl); (case hr => first | (go_simp; done) | (go_simp; rfl)); (case hp => exact (Reps.c3 (show Kd.FK k33 _ _ (⟨0, y197, 5⟩ : S33) [.int .i64 0, .slice Ao4 y197.length co4, .int .i64 5] from (k33_mkF _ _ (⟨0, y197, 5⟩ : S33) (Kd.R_reads' (Kd.R_mono (ok' := (fun k_ => (w.heap.size ≤ k_) ∧ k_ ≠ gb196)) (Kd.R_types (HO199.out) BK196.out (by decide)) (fun k_ hk => ⟨hk.1.1.1, hk.2⟩))).2.1 (Kd.R_F (Kd.R_mono (ok' := (fun k_ => (w.heap.size ≤ k_) ∧ k_ ≠ gb196)) (Kd.R_types (HO199.out) BK196.out (by decide)) (fun k_ hk => ⟨hk.1.1.1, hk.2⟩))))) (Reps.c3 (show Kd.FK k33 _ _ (⟨1, y200, 5⟩ : S33) [.int .i64 1, .slice Ao7 y200.length co7, .int .i64 5] from (k33_mkF _ _ (⟨1, y200, 5⟩ : S33) (Kd.R_reads' (Kd.R_mono (ok' := (fun k_ => (w.heap.size ≤ k_) ∧ k_ ≠ gb196)) (Kd.R_types (HO202.out) BK196.out (by decide)) (fun k_ hk => ⟨hk.1.1.1, hk.2⟩))).2.1 (Kd.R_F (Kd.R_mono (ok' := (fun k_ => (w.heap.size ≤ k_) ∧ k_ ≠ gb196)) (Kd.R_types (HO202.out) BK196.out (by decide)) (fun k_ hk => ⟨hk.1.1.1, hk.2⟩))))) (Reps.none _ _)))); intro v204 w8 ho9 hb hg_ hnew_; clear hg_ hnew_; (first | rw [← Ny203.out] at ho9 | (simp only [Int.reduceToNat] at ho9; rw [← Ny203.out] at ho9)); have HO205 := Aside0.mk (Kd.N_lower ho9 (below_size (pb HB.out GE196.out))); replace BK196 := Aside0.mk (bb BK196.out hb); replace HB := Aside0.mk (below_step (pb HB.out GE196.out) hb); clear HO199 HO202; clear hb ho9) | ((with_reducible refine gate_dst (N := 6) rfl ?_); refine Kd.R_lit (Kd.int .i64) _ 3 ?hg (N := 6) ?hd (xs := ([3, 3] : List Int)) (inner := [.int .i64 3, .int .i64 3]) (ok := fun _ => True) (okp := fun _ => True) ?hr ?hp (fun _ hk => hk) trivial (Below.refl _ _) (Nat.le_refl _) (by simp) ?_; (case hd => rfl); (case hg => rfl); (case hr => first | (go_simp; done) | (go_simp; rfl)); (case hp => exact (Reps.one (show Kd.M (Kd.int .i64) _ _ _ 3 [.int .i64 3] from rfl) (Reps.one (show Kd.M (Kd.int .i64) _ _ _ 3 [.int .i64 3] from rfl) (Reps.none _ _)))); intro v207 w10 ho11 hb hg_ hnew_; clear hg_ hnew_; (first | rw [← Ny206.out] at ho11 | (simp only [Int.reduceToNat] at ho11; rw [← Ny206.out] at ho11)); replace HO205 := Aside0.mk (Kd.N_elder' (pN HO205.out) (Kd.R_base ho11) hb); have HO208 := Aside0.mk (Kd.R_lower (Kd.R_newM (M := fun k_ => (w.heap.size ≤ k_)) ho11 (below_size (pb HB.out GE196.out)) (fun k_ h_ => h_)) (below_size (pb HB.out GE196.out))); replace BK196 := Aside0.mk (bb BK196.out hb); replace HB := Aside0.mk (below_step (pb HB.out GE196.out) hb); clear hb ho11; obtain ⟨Ao12, co12, eo12⟩ := Kd.R_slice HO208.out; subst eo12; obtain ⟨Ao13, co13, eo13⟩ := Kd.N_slice HO205.out; subst eo13; obtain ⟨hcz14_0, hcz14_1, hcz14_2, hfz14_0, hfz14_1, hfz14_2⟩ := cz3 BK196.out))
 refine bodyPost_ret (results_cell_row rfl _ _ gb196 25 #[.slice Ao13 y203.length co13, .slice Ao12 y206.length co12, .int .i64 2] (0, 0) _ rfl (by (with_reducible repeat (first | refine blk_drewN ?_ _ | refine blk_drew ?_ | refine blk_alloc ?_ _)); refine blk_put (cs := #[.slice Ao13 y203.length co13, .slice Ao12 y206.length co12, .int .i64 0]) ?_ 2 _ rfl; (with_reducible repeat (first | refine blk_drewN ?_ _ | refine blk_drew ?_ | refine blk_alloc ?_ _)); refine blk_put (cs := #[.slice Ao13 y203.length co13, .slice none 0 0, .int .i64 0]) ?_ 1 _ rfl; (with_reducible repeat (first | refine blk_drewN ?_ _ | refine blk_drew ?_ | refine blk_alloc ?_ _)); refine blk_put (cs := #[.slice none 0 0, .slice none 0 0, .int .i64 0]) ?_ 0 _ rfl; (with_reducible repeat (first | refine blk_drewN ?_ _ | refine blk_drew ?_ | refine blk_alloc ?_ _)); exact BK196.out) Tryd.underlying25 rfl (by kernel_rfl)) rfl ?_
 exact ⟨_, _, er, by (with_reducible repeat (first | apply Kd.N_alloc | apply Kd.N_drewN | apply Kd.N_drew)); exact Kd.N_mono (Kd.N_far (p := ⟨gb196, 2, none⟩) (Kd.N_far (p := ⟨gb196, 1, none⟩) (Kd.N_far (p := ⟨gb196, 0, none⟩) (Kd.N_mono HO205.out (fun k_ hk => (⟨hk, hk.1.2⟩ : _ ∧ k_ ≠ gb196))) (fun _ hk => hk.2) (.slice Ao13 y203.length co13)) (fun _ hk => hk.2) (.slice Ao12 y206.length co12)) (fun _ hk => hk.2) (.int .i64 2)) (fun _ hk => ⟨hk.1.1.1, hk.1.2⟩), by (with_reducible repeat (first | apply Kd.R_alloc | apply Kd.R_drewN | apply Kd.R_drew)); exact Kd.R_mono (Kd.R_far (p := ⟨gb196, 2, none⟩) (Kd.R_far (p := ⟨gb196, 1, none⟩) (Kd.R_far (p := ⟨gb196, 0, none⟩) (Kd.R_types HO208.out BK196.out (by decide)) (fun _ hk => hk.2) (.slice Ao13 y203.length co13)) (fun _ hk => hk.2) (.slice Ao12 y206.length co12)) (fun _ hk => hk.2) (.int .i64 2)) (fun _ hk => hk.1.1), pb HB.out GE196.out⟩

end Go.Proofs.YtnddijafdphbnaaDoor.All
end
section
/- The walk of run. -/
namespace Go.Proofs.YtnddijafdphbnaaDoor.All
open Go.RowKit Go.Proofs.YtnddijafdphbnaaDoorW.PrintWords Go.Proofs.YtnddijafdphbnaaDoorW.PrintLast Go.Proofs.YtnddijafdphbnaaDoorW.PrintMore
set_option linter.unusedVariables false
set_option linter.unusedSimpArgs false

/-- What run comes to. -/
def RunPost (A0 : Option Addr) (c0 : Nat) (cols : List S33) (A1 : Option Addr) (c1 : Nat) (ins : List Int) (sw : Int) (l : List S49) (w : World) (e : Ending) (W' : World) : Prop :=
 Below w.heap.size w W' ∧ (runE cols ins sw l = none ∧ e = .returned (.tuple #[.pointer none, .int .i64 1]) ∨ ∃ out c g vo, runE cols ins sw l = some (out, c) ∧ e = .returned (.tuple #[.pointer (some ⟨g, 0, none⟩), .int .i64 0]) ∧ W'.heap[g]? = some (.cells #[.slice A0 cols.length c0, .slice A1 ins.length c1, .int .i64 sw, .int .i64 cols.length, vo, .int .i64 c] 58 (0, 0)) ∧ Kd.R (Kd.int .i64) 3 W' w.heap.size (fun _ => True) vo out)
def okg (g gi : Nat) (k : Nat) : Prop := k ≠ g ∧ k ≠ gi
theorem alloc_size (w : World) (o : Obj) : (w.alloc o).heap.size = w.heap.size + 1 := by show (w.heap.push o).size = _; exact Array.size_push _
theorem blk_new2 (w : World) (o p : Obj) : ((w.alloc o).alloc p).heap[w.heap.size + 1]? = some p := by rw [← alloc_size w o]; exact blk_new _ p
theorem blk_new1 (w : World) (o p : Obj) : ((w.alloc o).alloc p).heap[w.heap.size]? = some o := ((below_alloc (Below.refl _ _) p).block w.heap.size (by rw [alloc_size]; omega)).trans (blk_new w o)
set_option maxHeartbeats 4000000 in
set_option maxRecDepth 100000 in
theorem run_calls (A0 : Option Addr) (c0 : Nat) (cols : List S33) (A1 : Option Addr) (c1 : Nat) (ins : List Int) (sw : Int) (A2 : Option Addr) (c2 : Nat) (l : List S49) (w : World) (hC : Kd.C k33 w A0 cols.length cols) (hcc0 : cols.length ≤ c0) (hI : Kd.C (Kd.int .i64) w A1 ins.length ins) (hcc1 : ins.length ≤ c1) (hL : Kd.C k49 w A2 l.length l) (hcc2 : l.length ≤ c2) (hv : VarOk w) (hl : cols.length ≤ 1000000) (hil : ins.length ≤ 1000000) (hll : l.length ≤ 1000) :
  Calls Tryd.prog 31 #[.agg #[.slice A0 cols.length c0, .slice A1 ins.length c1, .int .i64 sw], .slice A2 l.length c2] w (RunPost A0 c0 cols A1 c1 ins sw l w) := by
 have HC := Aside0.mk hC
 have HI := Aside0.mk hI
 have HL := Aside0.mk hL
 have HCC0 := Aside0.mk hcc0
 have HCC1 := Aside0.mk hcc1
 have HCC2 := Aside0.mk hcc2
 have HV := Aside0.mk hv
 have HLC := Aside0.mk hl
 have HLI := Aside0.mk hil
 have HLL := Aside0.mk hll
 clear hC hI hL hcc0 hcc1 hcc2 hv hl hil hll
 have hu25 := Tryd.underlying25
 go_enter Tryd.func31, Tryd.ntmps31
 go_wp2
 obtain ⟨gi, hgi⟩ : ∃ gi, gi = w.heap.size := ⟨_, rfl⟩
 obtain ⟨g, hg⟩ : ∃ g, g = w.heap.size + 1 := ⟨_, rfl⟩
 have HGI := Aside0.mk hgi
 have HG := Aside0.mk hg
 have HB0 := Aside0.mk (show w.heap.size ≤ g by rw [hg]; omega)
 have HES := Aside0.mk (show ES A0 cols.length c0 A1 ins.length c1 sw g w.heap.size (okg g gi) ((w.alloc (.cells #[.slice A0 cols.length c0, .slice A1 ins.length c1, .int .i64 sw] 25 (0, 0))).alloc (.cells #[.slice A0 cols.length c0, .slice A1 ins.length c1, .int .i64 sw, .int .i64 0, .slice none 0 0, .int .i64 0] 58 (0, 0))) ((0 : Nat) : Int) [] 0 from ⟨⟨.slice none 0 0, by rw [hg]; exact blk_new2 _ _ _, Kd.R_nil _ _ _ _ _⟩, fun _ hk => hk.1, fun k hk => by rw [alloc_size, alloc_size] at hk; exact ⟨by omega, by omega⟩⟩)
 have HBL := Aside0.mk (show Below w.heap.size w ((w.alloc (.cells #[.slice A0 cols.length c0, .slice A1 ins.length c1, .int .i64 sw] 25 (0, 0))).alloc (.cells #[.slice A0 cols.length c0, .slice A1 ins.length c1, .int .i64 sw, .int .i64 0, .slice none 0 0, .int .i64 0] 58 (0, 0))) from below_alloc (below_alloc (Below.refl _ _) _) _)
 have HIN := Aside0.mk (show ((w.alloc (.cells #[.slice A0 cols.length c0, .slice A1 ins.length c1, .int .i64 sw] 25 (0, 0))).alloc (.cells #[.slice A0 cols.length c0, .slice A1 ins.length c1, .int .i64 sw, .int .i64 0, .slice none 0 0, .int .i64 0] 58 (0, 0))).heap[gi]? = some (.cells #[.slice A0 cols.length c0, .slice A1 ins.length c1, .int .i64 sw] 25 (0, 0)) by rw [hgi]; exact blk_new1 _ _ _)
 generalize ((w.alloc (.cells #[.slice A0 cols.length c0, .slice A1 ins.length c1, .int .i64 sw] 25 (0, 0))).alloc (.cells #[.slice A0 cols.length c0, .slice A1 ins.length c1, .int .i64 sw, .int .i64 0, .slice none 0 0, .int .i64 0] 58 (0, 0))) = wa at *
 rw [← hg, ← hgi]
 clear hg hgi
 go_loopg [14] l.length (fun kq v14 wr => ∃ (i : Nat) (s : RS), v14 = .int .i64 i ∧ Aside0 (i + kq = l.length ∧ runAll cols ins sw (l.take i) (0, [], 0) = some s) ∧ Aside0 (ES A0 cols.length c0 A1 ins.length c1 sw g w.heap.size (okg g gi) wr (s.1 : Int) s.2.1 s.2.2) ∧ Aside0 (Below w.heap.size w wr) ∧ Aside0 (wr.heap[gi]? = some (.cells #[.slice A0 cols.length c0, .slice A1 ins.length c1, .int .i64 sw] 25 (0, 0))))
 case atStart => exact ⟨0, (0, [], 0), rfl, ⟨by simp, by simp [runAll]⟩, HES, HBL, HIN⟩
 case round =>
  clear HES HBL HIN
  obtain ⟨i, s, rfl, HA, HES, HB, HIN⟩ := hrel
  have HSL := Aside0.mk (runAll_len HA.out.2)
  by_cases hi : i < l.length
  ·
   have p0 : decide ((i : Int) < (l.length : Int)) = true := decide_eq_true (by omega)
   have p1 : decide (i < l.length) = true := decide_eq_true (by omega)
   obtain ⟨ad, e, hx0, hx1⟩ := at_T49 HL.out (i : Int) (by omega) (by omega)
   cases e
   have HT := Aside0.mk (runAll_take (cols := cols) (ins := ins) (sw := sw) (s := (0, [], 0)) hi)
   obtain ⟨o, ho⟩ : ∃ o, rd_T49 l (i : Int) = o := ⟨_, rfl⟩
   have ho' : l[i] = o := by
    rw [← ho]
    simp [rd_T49, List.getD, hi]
   rw [ho] at hx0 hx1
   rw [HA.out.2, ho'] at HT
   simp only [Int.toNat_natCast] at hx0 hx1
   clear ho ho'
   replace hx0 := bc HB.out hx0
   replace hx1 := bc HB.out hx1
   have hib : (i : Int) ≤ 1000 := by have := HLL.out; omega
   have q0 := eq_true (show (0 : Int) ≤ (i : Int) by omega)
   have q1 := eq_true (show (i : Int) < (l.length : Int) by omega)
   have HI2 := Aside0.mk hi
   have HSN := Aside0.mk (show s.2.1.length < 1000000 by have h1 := HSL.out.1; have h2 := HLL.out; simp only [List.length_take, List.length_nil] at h1; omega)
   have HSC := Aside0.mk (show s.1 ≤ cols.length from HSL.out.2 (Nat.zero_le _))
   clear hi
   go_upto_region 5 with (fail)
   have HK2 := Aside0.mk (blk_new wr (.cells #[.int .i64 o.f0, .int .i64 o.f1] 49 (0, 0)))
   have HW2 := Aside0.mk (below_alloc (Below.refl wr.heap.size wr) (.cells #[.int .i64 o.f0, .int .i64 o.f1] 49 (0, 0)))
   have HE2 := Aside0.mk (ES.box HES.out HW2.out (Nat.le_refl _) (blk_lt HK2.out))
   have HGG := Aside0.mk (Nat.le_refl wr.heap.size)
   obtain ⟨gb, hgb⟩ : ∃ gb, gb = wr.heap.size := ⟨_, rfl⟩
   obtain ⟨W2, hW2⟩ : ∃ W2 : World, W2 = wr.alloc (.cells #[.int .i64 o.f0, .int .i64 o.f1] 49 (0, 0)) := ⟨_, rfl⟩
   rw [← hW2] at HE2 HK2 HW2
   rw [← hgb] at HE2 HK2
   rw [← hW2, ← hgb]
   have HGB := Aside0.mk hgb
   have HBW := Aside0.mk (show w.heap.size ≤ wr.heap.size from HB.out.size)
   have HB2 := Aside0.mk (show Below w.heap.size w W2 from HB.out.trans (HW2.out.mono HB.out.size))
   clear hW2 hgb hx0 hx1 HGG
   obtain ⟨OK, hOK⟩ : ∃ OK, OK = ok2 (okg g gi) gb := ⟨_, rfl⟩
   rw [← hOK] at HE2
   have HOK := Aside0.mk hOK
   clear hOK
   have hd0 : W2.cell? ⟨gb, 0, none⟩ = some (.int .i64 o.f0) := (blk_cell HK2.out 0).trans rfl
   have hd1 : W2.cell? ⟨gb, 1, none⟩ = some (.int .i64 o.f1) := (blk_cell HK2.out 1).trans rfl
   by_cases hk0 : o.f0 < 1
   ·
    have HNO := Aside0.mk (show actE cols ins sw o.f0 o.f1 s = none by unfold actE; rw [if_neg (by omega), if_neg (by omega), if_neg (by omega), if_neg (by omega)])
    have b0 : decide (o.f0 < 1) = true := decide_eq_true hk0
    clear hk0
    refine start_ (n := 19) (S := fun w' => w'.cell? ⟨gb, 0, none⟩ = some (.int .i64 o.f0)) (ds := []) #[ff,ff,ff,ff,ff,ff,ff,ff,ff,ff,ff,ff,ff,ff,ff,ff,ff,ff,ff] (by kernel_rfl) rfl rfl (hd0) (fun hHeld => ?_)
    refine pv 0 18 ?_
    refine tv 1 19 hHeld ?_
    refine pv 2 20 ?_
    refine pv 3 21 ?_
    refine qv 4 22 ?_
    refine qv 5 23 ?_
    refine qv 6 24 ?_
    refine pv 7 25 ?_
    refine pv 8 26 ?_
    refine qv 9 27 ?_
    refine qv 10 28 ?_
    refine qv 11 29 ?_
    refine qv 12 30 ?_
    refine qv 13 31 ?_
    refine qv 14 32 ?_
    refine qv 15 33 ?_
    refine qv 16 34 ?_
    refine qv 17 35 ?_
    refine pv 18 36 ?_
    refine done_ (by kernel_rfl) ?_
    go_wp2
    go_ret2
    exact ⟨below_drew HB2.out, Or.inl ⟨runE_none (i := i + 1) (by rw [HT.out]; exact HNO.out), rfl⟩⟩
   ·
    by_cases hk1 : 4 < o.f0
    ·
     have HNO := Aside0.mk (show actE cols ins sw o.f0 o.f1 s = none by unfold actE; rw [if_neg (by omega), if_neg (by omega), if_neg (by omega), if_neg (by omega)])
     have b0 : decide (o.f0 < 1) = false := decide_eq_false hk0
     have b1 : decide (4 < o.f0) = true := decide_eq_true hk1
     clear hk0 hk1
     refine start_ (n := 19) (S := fun w' => w'.cell? ⟨gb, 0, none⟩ = some (.int .i64 o.f0)) (ds := []) #[ff,ff,ff,ff,ff,ff,ff,ff,ff,ff,ff,ff,ff,ff,ff,ff,ff,ff,ff] (by kernel_rfl) rfl rfl (hd0) (fun hHeld => ?_)
     refine pv 0 18 ?_
     refine tv 1 19 hHeld ?_
     refine pv 2 20 ?_
     refine pv 3 21 ?_
     refine pv 4 22 ?_
     refine tv 5 23 hHeld ?_
     refine pv 6 24 ?_
     refine pv 7 25 ?_
     refine pv 8 26 ?_
     refine qv 9 27 ?_
     refine qv 10 28 ?_
     refine qv 11 29 ?_
     refine qv 12 30 ?_
     refine qv 13 31 ?_
     refine qv 14 32 ?_
     refine qv 15 33 ?_
     refine qv 16 34 ?_
     refine qv 17 35 ?_
     refine pv 18 36 ?_
     refine done_ (by kernel_rfl) ?_
     go_wp2
     go_ret2
     exact ⟨below_drew HB2.out, Or.inl ⟨runE_none (i := i + 1) (by rw [HT.out]; exact HNO.out), rfl⟩⟩
    ·
     have b0 : decide (o.f0 < 1) = false := decide_eq_false hk0
     have b1 : decide (4 < o.f0) = false := decide_eq_false hk1
     have k0 := eq_true (show (0 : Int) ≤ o.f0 by omega)
     have k1 := eq_true (show o.f0 < 5 by omega)
     obtain ⟨f, fn, hvc, hf, hfn, hfb, hcall⟩ := act_fn w HV.out o.f0 (by omega) (by omega)
     have hvc2 := bc HB2.out hvc
     have HCALL := Aside0.mk hcall
     have HF := Aside0.mk hf
     have HFN := Aside0.mk hfn
     have HFB := Aside0.mk hfb
     clear hk0 hk1 hvc hf hfn hfb hcall
     refine start_ (n := 19) (S := fun w' => w'.cell? ⟨gb, 0, none⟩ = some (.int .i64 o.f0) ∧ w'.cell? ⟨gb, 1, none⟩ = some (.int .i64 o.f1) ∧ w'.cell? ⟨0, o.f0.toNat, none⟩ = some (.func (.func f) #[] #[])) (ds := [16]) #[ff,ff,ff,ff,ff,ff,ff,ff,ff,ff,ff,ff,ff,ff,ff,ff,ff,ff,ff] (by kernel_rfl) rfl rfl ⟨hd0, hd1, hvc2⟩ (fun hHeld => ?_)
     refine pv 0 18 ?_
     refine tv 1 19 hHeld ?_
     refine pv 2 20 ?_
     refine pv 3 21 ?_
     refine pv 4 22 ?_
     refine tv 5 23 hHeld ?_
     refine pv 6 24 ?_
     refine pv 7 25 ?_
     refine pv 8 26 ?_
     refine pv 9 27 ?_
     refine pv 13 31 ?_
     refine pv 14 32 ?_
     refine tv 10 28 hHeld ?_
     refine pv 11 29 ?_
     refine tv 12 30 hHeld ?_
     refine tv 15 33 hHeld ?_
     refine last_ (i := 16) (N := some 34) #[tt,tt,tt,tt,tt,tt,tt,tt,tt,tt,tt,tt,tt,tt,tt,tt,tt,ff,ff] rfl rfl (by kernel_rfl) (by decide) (fun K hK => ?_)
     refine goesV_ HF.out HFN.out HFB.out #[.pointer (some ⟨g, 0, none⟩), .int .i64 o.f1] (by rfl) rfl rfl (by rfl) (by simp only [List.map_toArray, List.map_cons, List.map_nil]; rfl) ?_
     with_reducible refine (HCALL.out A0 c0 cols A1 c1 ins sw g OK w _ s o.f1 (HE2.out.below (below_drew (Below.refl _ _))) HB0.out HSN.out HLC.out HLI.out (below_drew HB2.out) HC.out HI.out HCC0.out HCC1.out HSC.out).mono ?_
     rintro e w9 ⟨b, rfl, hb0, hb1⟩
     have HNO := Aside0.mk hb0
     have HYES := Aside0.mk hb1
     clear hb0 hb1
     refine ⟨_, rfl, ?_⟩
     refine hK.out _ _ ?_
     clear hK K
     refine norm_ (a' := ?_) ?_ ?_
     rotate_left
     ·
      show Act.put _ (some 34) _ = _
      simp only [nrm]
      rfl
     refine pv 17 35 ?_
     refine pv 18 36 ?_
     refine done_ (by kernel_rfl) ?_
     cases b with
     | false =>
      obtain ⟨hn1, hn2⟩ := HNO.out rfl
      have HN1 := Aside0.mk hn1
      have HN2 := Aside0.mk hn2
      clear hn1 hn2 HNO HYES
      go_wp2
      go_ret2
      exact ⟨HB2.out.trans (((below_drew (Below.refl _ _)).trans HN2.out).mono HB2.out.size), Or.inl ⟨runE_none (i := i + 1) (by rw [HT.out]; exact HN1.out), rfl⟩⟩
     | true =>
      obtain ⟨s', hs', hes', hfr'⟩ := HYES.out rfl
      have hbb : Below w.heap.size w w9 := HB2.out.trans ((below_drew (Below.refl _ _)).trans hfr'.1)
      rw [HOK.out] at hes' hfr'
      have hgw : g < wr.heap.size := HES.out.lt
      have hiw : gi < wr.heap.size := blk_lt HIN.out
      have hsw : wr.heap.size ≤ w9.heap.size := Nat.le_trans HW2.out.size hfr'.1.size
      have hin' : w9.heap[gi]? = some (.cells #[.slice A0 cols.length c0, .slice A1 ins.length c1, .int .i64 sw] 25 (0, 0)) :=
       (hfr'.2 gi (Nat.lt_of_lt_of_le hiw HW2.out.size) (by have h1 := HG.out; have h2 := HGI.out; omega) (fun hk => hk.1.2 rfl)).trans ((HW2.out.block gi hiw).trans HIN.out)
      have HE9 := Aside0.mk (ES.wide (ok := okg g gi) hes' (fun k hk => hk.1) (fun k hk => ⟨by omega, by omega⟩))
      have HB9 := Aside0.mk hbb
      have HI9 := Aside0.mk hin'
      have HS9 := Aside0.mk hs'
      clear hes' hfr' hbb hgw hiw hsw hin' hs' HNO HYES
      go_wp2
      go_roundg (gk - 1)
      case measure => have h1 := HA.out.1; have h2 := HI2.out; omega
      case rel => exact ⟨i + 1, s', by first | rfl | go_num | (simp; done), ⟨by have h1 := HA.out.1; have h2 := HI2.out; omega, HT.out.trans HS9.out⟩, HE9, HB9, HI9⟩
  ·
   have p0 : decide ((i : Int) < (l.length : Int)) = false := decide_eq_false (by omega)
   have p1 : decide (i < l.length) = false := decide_eq_false (by omega)
   have hrun : runAll cols ins sw l (0, [], 0) = some s := by have h1 := HA.out.2; rw [List.take_of_length_le (by omega)] at h1; exact h1
   have HRUN := Aside0.mk hrun
   clear hi hrun
   obtain ⟨⟨vo, hbk, hro⟩, _, _⟩ := HES.out
   have hd3 : wr.cell? ⟨g, 3, none⟩ = some (.int .i64 s.1) := (blk_cell hbk 3).trans rfl
   have hd0 : wr.cell? ⟨gi, 0, none⟩ = some (.slice A0 cols.length c0) := (blk_cell HIN.out 0).trans rfl
   have HBK := Aside0.mk hbk
   have HRO := Aside0.mk hro
   clear hbk hro
   go_upto_region 8 with (fail)
   by_cases hz : s.1 = cols.length
   ·
    have b0 : ((s.1 : Int) != (cols.length : Int)) = false := by rw [hz]; simp
    have HZ := Aside0.mk hz
    clear hz
    refine start_ (n := 8) (S := fun w' => w'.cell? ⟨g, 3, none⟩ = some (.int .i64 s.1) ∧ w'.cell? ⟨gi, 0, none⟩ = some (.slice A0 cols.length c0)) (ds := []) #[ff,ff,ff,ff,ff,ff,ff,ff] (by kernel_rfl) rfl rfl ⟨hd3, hd0⟩ (fun hHeld => ?_)
    refine pv 0 38 ?_
    refine pv 1 39 ?_
    refine pv 2 40 ?_
    refine pv 4 42 ?_
    refine tv 3 41 hHeld ?_
    refine tv 5 43 hHeld ?_
    refine pv 6 44 ?_
    refine pv 7 45 ?_
    refine done_ (by kernel_rfl) ?_
    go_wp2
    go_ret2
    exact ⟨below_drew HB.out, Or.inr ⟨s.2.1, s.2.2, g, vo, by unfold runE; rw [HRUN.out]; simp [HZ.out], rfl, by have h := HBK.out; rw [HZ.out] at h; exact h, Kd.R_mono (Kd.R_drew HRO.out) (fun _ _ => trivial)⟩⟩
   ·
    have b0 : ((s.1 : Int) != (cols.length : Int)) = true := by simp; omega
    have HZ := Aside0.mk hz
    clear hz
    refine start_ (n := 8) (S := fun w' => w'.cell? ⟨g, 3, none⟩ = some (.int .i64 s.1) ∧ w'.cell? ⟨gi, 0, none⟩ = some (.slice A0 cols.length c0)) (ds := []) #[ff,ff,ff,ff,ff,ff,ff,ff] (by kernel_rfl) rfl rfl ⟨hd3, hd0⟩ (fun hHeld => ?_)
    refine pv 0 38 ?_
    refine pv 1 39 ?_
    refine pv 2 40 ?_
    refine pv 4 42 ?_
    refine tv 3 41 hHeld ?_
    refine tv 5 43 hHeld ?_
    refine pv 6 44 ?_
    refine pv 7 45 ?_
    refine done_ (by kernel_rfl) ?_
    go_wp2
    go_ret2
    exact ⟨below_drew HB.out, Or.inl ⟨by unfold runE; rw [HRUN.out]; simp [HZ.out], rfl⟩⟩
end Go.Proofs.YtnddijafdphbnaaDoor.All
end
section
/- Apply and Cost: what run comes to. -/
namespace Go.Proofs.YtnddijafdphbnaaDoor.All
open Go.RowKit Go.Proofs.YtnddijafdphbnaaDoorW.PrintWords Go.Proofs.YtnddijafdphbnaaDoorW.PrintLast Go.Proofs.YtnddijafdphbnaaDoorW.PrintMore
set_option linter.unusedVariables false
set_option linter.unusedSimpArgs false

def editscript_Apply.f (k : Nat) (l0_0 : List (S33)) (l0_1 : List Int) (a0_2 : Int) (l1 : List (S49)) : Option (List Int × Int) :=
 if l0_0.length ≤ 1000000 ∧ l0_1.length ≤ 1000000 ∧ l1.length ≤ 1000 then some (match runE l0_0 l0_1 a0_2 l1 with | none => ([], 1) | some r => (r.1, 0)) else none
theorem editscript_Apply.mono : ∀ a0 a1 a2 a3 k, LeO (editscript_Apply.f k a0 a1 a2 a3) (editscript_Apply.f (k + 1) a0 a1 a2 a3) := fun _ _ _ _ _ _ h => h
def editscript_Cost.f (k : Nat) (l0_0 : List (S33)) (l0_1 : List Int) (a0_2 : Int) (l1 : List (S49)) : Option (Int × Int) :=
 if l0_0.length ≤ 1000000 ∧ l0_1.length ≤ 1000000 ∧ l1.length ≤ 1000 then some (match runE l0_0 l0_1 a0_2 l1 with | none => (0, 1) | some r => (r.2, 0)) else none
theorem editscript_Cost.mono : ∀ a0 a1 a2 a3 k, LeO (editscript_Cost.f k a0 a1 a2 a3) (editscript_Cost.f (k + 1) a0 a1 a2 a3) := fun _ _ _ _ _ _ h => h

theorem RunPost.shape {A0 : Option Addr} {c0 : Nat} {cols : List S33} {A1 : Option Addr} {c1 : Nat} {ins : List Int} {sw : Int} {l : List S49} {w : World} {e : Ending} {W' : World} (h : RunPost A0 c0 cols A1 c1 ins sw l w e W') : ∃ P E, e = .returned (.tuple #[P, .int .i64 E]) ∧ Below w.heap.size w W' ∧ (E = 1 ∧ runE cols ins sw l = none ∨ ∃ out c g vo, runE cols ins sw l = some (out, c) ∧ P = .pointer (some ⟨g, 0, none⟩) ∧ E = 0 ∧ W'.heap[g]? = some (.cells #[.slice A0 cols.length c0, .slice A1 ins.length c1, .int .i64 sw, .int .i64 cols.length, vo, .int .i64 c] 58 (0, 0)) ∧ Kd.R (Kd.int .i64) 3 W' w.heap.size (fun _ => True) vo out) := by
 obtain ⟨hb, ⟨h1, rfl⟩ | ⟨out, c, g, vo, h1, rfl, h2, h3⟩⟩ := h
 ·
  exact ⟨_, _, rfl, hb, Or.inl ⟨rfl, h1⟩⟩
 ·
  exact ⟨_, _, rfl, hb, Or.inr ⟨out, c, g, vo, h1, rfl, rfl, h2, h3⟩⟩
set_option maxHeartbeats 4000000 in
set_option maxRecDepth 100000 in
theorem editscript_Apply.calls (k : Nat) (A0_0 : Option Addr) (c0_0 : Nat) (l0_0 : List (S33)) (A0_1 : Option Addr) (c0_1 : Nat) (l0_1 : List Int) (a0_2 : Int) (A1 : Option Addr) (c1 : Nat) (l1 : List (S49)) (r1 : List Int) (r2 : Int) (w : World) (hr0_0 : Kd.C k33 w A0_0 l0_0.length l0_0) (hc0_0 : l0_0.length ≤ c0_0) (hr0_1 : Kd.C (Kd.int .i64) w A0_1 l0_1.length l0_1) (hc0_1 : l0_1.length ≤ c0_1) (hr1 : Kd.C k49 w A1 l1.length l1) (hc1 : l1.length ≤ c1) (hv : VarOk w) (h : editscript_Apply.f k l0_0 l0_1 a0_2 l1 = some (r1, r2)) :
  Calls Tryd.prog 15 #[.agg #[.slice A0_0 l0_0.length c0_0, .slice A0_1 l0_1.length c0_1, .int .i64 a0_2], .slice A1 l1.length c1] w fun e w' => ∃ v0_ : Value, e = .returned (.tuple #[v0_, .int .i64 r2]) ∧ Kd.R (Kd.int .i64) 3 w' w.heap.size (fun _ => True) v0_ r1 ∧ Below w.heap.size w w' := by
 obtain ⟨hg, hr⟩ : (l0_0.length ≤ 1000000 ∧ l0_1.length ≤ 1000000 ∧ l1.length ≤ 1000) ∧ (match runE l0_0 l0_1 a0_2 l1 with | none => (([] : List Int), (1 : Int)) | some r => (r.1, 0)) = (r1, r2) := by
  unfold editscript_Apply.f at h
  split at h
  ·
   exact ⟨by assumption, Option.some.inj h⟩
  ·
   cases h
 have HR00 := Aside0.mk hr0_0
 have HC00 := Aside0.mk hc0_0
 have HR01 := Aside0.mk hr0_1
 have HC01 := Aside0.mk hc0_1
 have HR1 := Aside0.mk hr1
 have HC1 := Aside0.mk hc1
 have HV := Aside0.mk hv
 have HG := Aside0.mk hg
 have HR := Aside0.mk hr
 clear hr0_0 hc0_0 hr0_1 hc0_1 hr1 hc1 hv hg hr h
 have hu25 := Tryd.underlying25
 go_enter Tryd.func15, Tryd.ntmps15
 go_upto_region 2 with (first | (go_at_call 31; (with_reducible refine (run_calls A0_0 c0_0 l0_0 A0_1 c0_1 l0_1 a0_2 A1 c1 l1 _ (Kd.C_alloc HR00.out _) HC00.out (Kd.C_alloc HR01.out _) HC01.out (Kd.C_alloc HR1.out _) HC1.out (HV.out.below (below_alloc (Below.refl _ _) _) rfl) HG.out.1 HG.out.2.1 HG.out.2.2).mono ?_); rintro e w1 hp0; obtain ⟨P, E, rfl, hb, hp⟩ := RunPost.shape hp0; have HBB := Aside0.mk hb; have HP := Aside0.mk hp; clear hp0 hb hp))
 have HB := Aside0.mk (show Below w.heap.size w w1 from (below_alloc (Below.refl _ _) _).trans (HBB.out.mono (by rw [alloc_size]; omega)))
 rcases HP.out with ⟨rfl, hn⟩ | ⟨out, c, g, vo, hs, rfl, rfl, hblk, hro⟩
 ·
  have HN := Aside0.mk hn
  clear hn
  go_wp2
  go_ret2
  have h := HR.out
  rw [HN.out] at h
  obtain ⟨rfl, rfl⟩ := Prod.mk.inj h
  exact ⟨_, rfl, Kd.R_nil _ _ _ _ _, HB.out⟩
 ·
  have HS := Aside0.mk hs
  have HRO := Aside0.mk (Kd.R_lower hro (show w.heap.size ≤ (w.alloc (.cells #[.slice A0_0 l0_0.length c0_0, .slice A0_1 l0_1.length c0_1, .int .i64 a0_2] 25 (0, 0))).heap.size by rw [alloc_size]; omega))
  have hc4 : w1.cell? ⟨g, 4, none⟩ = some vo := (blk_cell hblk 4).trans rfl
  have hc5 : w1.cell? ⟨g, 5, none⟩ = some (.int .i64 c) := (blk_cell hblk 5).trans rfl
  clear hs hblk hro
  go_wp2
  go_ret2
  have h := HR.out
  rw [HS.out] at h
  obtain ⟨rfl, rfl⟩ := Prod.mk.inj h
  exact ⟨_, rfl, HRO.out, HB.out⟩

set_option maxHeartbeats 4000000 in
set_option maxRecDepth 100000 in
theorem editscript_Cost.calls (k : Nat) (A0_0 : Option Addr) (c0_0 : Nat) (l0_0 : List (S33)) (A0_1 : Option Addr) (c0_1 : Nat) (l0_1 : List Int) (a0_2 : Int) (A1 : Option Addr) (c1 : Nat) (l1 : List (S49)) (r1 : Int) (r2 : Int) (w : World) (hr0_0 : Kd.C k33 w A0_0 l0_0.length l0_0) (hc0_0 : l0_0.length ≤ c0_0) (hr0_1 : Kd.C (Kd.int .i64) w A0_1 l0_1.length l0_1) (hc0_1 : l0_1.length ≤ c0_1) (hr1 : Kd.C k49 w A1 l1.length l1) (hc1 : l1.length ≤ c1) (hv : VarOk w) (h : editscript_Cost.f k l0_0 l0_1 a0_2 l1 = some (r1, r2)) :
  Calls Tryd.prog 17 #[.agg #[.slice A0_0 l0_0.length c0_0, .slice A0_1 l0_1.length c0_1, .int .i64 a0_2], .slice A1 l1.length c1] w fun e w' => e = .returned (.tuple #[.int .i64 r1, .int .i64 r2]) ∧ Below w.heap.size w w' := by
 obtain ⟨hg, hr⟩ : (l0_0.length ≤ 1000000 ∧ l0_1.length ≤ 1000000 ∧ l1.length ≤ 1000) ∧ (match runE l0_0 l0_1 a0_2 l1 with | none => ((0 : Int), (1 : Int)) | some r => (r.2, 0)) = (r1, r2) := by
  unfold editscript_Cost.f at h
  split at h
  ·
   exact ⟨by assumption, Option.some.inj h⟩
  ·
   cases h
 have HR00 := Aside0.mk hr0_0
 have HC00 := Aside0.mk hc0_0
 have HR01 := Aside0.mk hr0_1
 have HC01 := Aside0.mk hc0_1
 have HR1 := Aside0.mk hr1
 have HC1 := Aside0.mk hc1
 have HV := Aside0.mk hv
 have HG := Aside0.mk hg
 have HR := Aside0.mk hr
 clear hr0_0 hc0_0 hr0_1 hc0_1 hr1 hc1 hv hg hr h
 have hu25 := Tryd.underlying25
 go_enter Tryd.func17, Tryd.ntmps17
 go_upto_region 2 with (first | (go_at_call 31; (with_reducible refine (run_calls A0_0 c0_0 l0_0 A0_1 c0_1 l0_1 a0_2 A1 c1 l1 _ (Kd.C_alloc HR00.out _) HC00.out (Kd.C_alloc HR01.out _) HC01.out (Kd.C_alloc HR1.out _) HC1.out (HV.out.below (below_alloc (Below.refl _ _) _) rfl) HG.out.1 HG.out.2.1 HG.out.2.2).mono ?_); rintro e w1 hp0; obtain ⟨P, E, rfl, hb, hp⟩ := RunPost.shape hp0; have HBB := Aside0.mk hb; have HP := Aside0.mk hp; clear hp0 hb hp))
 have HB := Aside0.mk (show Below w.heap.size w w1 from (below_alloc (Below.refl _ _) _).trans (HBB.out.mono (by rw [alloc_size]; omega)))
 rcases HP.out with ⟨rfl, hn⟩ | ⟨out, c, g, vo, hs, rfl, rfl, hblk, hro⟩
 ·
  have HN := Aside0.mk hn
  clear hn
  go_wp2
  go_ret2
  have h := HR.out
  rw [HN.out] at h
  obtain ⟨rfl, rfl⟩ := Prod.mk.inj h
  exact ⟨rfl, HB.out⟩
 ·
  have HS := Aside0.mk hs
  have HRO := Aside0.mk (Kd.R_lower hro (show w.heap.size ≤ (w.alloc (.cells #[.slice A0_0 l0_0.length c0_0, .slice A0_1 l0_1.length c0_1, .int .i64 a0_2] 25 (0, 0))).heap.size by rw [alloc_size]; omega))
  have hc4 : w1.cell? ⟨g, 4, none⟩ = some vo := (blk_cell hblk 4).trans rfl
  have hc5 : w1.cell? ⟨g, 5, none⟩ = some (.int .i64 c) := (blk_cell hblk 5).trans rfl
  clear hs hblk hro
  go_wp2
  go_ret2
  have h := HR.out
  rw [HS.out] at h
  obtain ⟨rfl, rfl⟩ := Prod.mk.inj h
  exact ⟨rfl, HB.out⟩
end Go.Proofs.YtnddijafdphbnaaDoor.All
end
