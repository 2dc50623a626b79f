-- Printed by wip/tools/wprint.py (a program of this session over the kit's printer). Not trusted: Lean checks it.
import Derived.Test.YtnddijafdphbnaaDoorAllSt
import Derived.Test.YtnddijafdphbnaaDoorAllx27
import Derived.Test.YtnddijafdphbnaaDoorAllx28
import Derived.Test.YtnddijafdphbnaaDoorAllx30
namespace Go.Proofs.YtnddijafdphbnaaDoor.All
open Go.RowKit Go.Proofs.YtnddijafdphbnaaDoorW.PrintWords Go.Proofs.YtnddijafdphbnaaDoorW.PrintLast Go.Proofs.YtnddijafdphbnaaDoorW.PrintMore
attribute [local go_sem] max2_int min2_int max_two min_two max_three min_three max_four min_four   -- for this text's walks alone
set_option linter.unusedVariables false
set_option linter.unusedSimpArgs false

/-! ### emendateref36_Align: function 23 -/
mutual
def emendateref36_Align.l0 : Nat → List Int → Int → List Int → List (S49) → Int → Int → List (S33) → List Int → Int → Option ((List (S49)) × Int)
 | 0, _, _, _, _, _, _, _, _, _ => none
 | k + 1, x1, x6, x7, x8, x9, x10, x455000, x455001, x455002 => if x9 < (x455000.length : Int) then (emendateref36_Align.j1 k x1 x6 x7 x8 x9 x10 true x455000 x455001 x455002) else (emendateref36_Align.j1 k x1 x6 x7 x8 x9 x10 (decide (x10 < (x1.length : Int))) x455000 x455001 x455002)
def emendateref36_Align.j1 : Nat → List Int → Int → List Int → List (S49) → Int → Int → Bool → List (S33) → List Int → Int → Option ((List (S49)) × Int)
 | 0, _, _, _, _, _, _, _, _, _, _ => none
 | k + 1, x1, x6, x7, x8, x9, x10, x37, x455000, x455001, x455002 => if x37 = true then (emendateref36_Align.l1 k x1 x6 x7 x8 x9 x10 1 x455000 x455001 x455002) else (some (x8, 0))
def emendateref36_Align.l1 : Nat → List Int → Int → List Int → List (S49) → Int → Int → Int → List (S33) → List Int → Int → Option ((List (S49)) × Int)
 | 0, _, _, _, _, _, _, _, _, _, _ => none
 | k + 1, x1, x6, x7, x8, x9, x10, x11, x455000, x455001, x455002 => (emendateref36_step.f k x455000 x455001 x455002 x1 x7 x6 x9 x10 x11).bind fun t460 => (if 0 ≤ (wrap64 ((wrap64 (x9 * x6)) + x10)) then (if (wrap64 ((wrap64 (x9 * x6)) + x10)) < (x7.length : Int) then (if t460 = (rd x7 (wrap64 ((wrap64 (x9 * x6)) + x10))) then (if x11 = 1 then (if 0 ≤ x10 then (if x10 < (x1.length : Int) then (if x8.length < 8796093022208 then (emendateref36_Align.l0 k x1 x6 x7 (x8 ++ [(⟨x11, rd x1 x10⟩ : S49)]) (wrap64 (x9 + 1)) (wrap64 (x10 + 1)) x455000 x455001 x455002) else (none)) else (none)) else (none)) else (if x11 = 2 then (if x8.length < 8796093022208 then (emendateref36_Align.l0 k x1 x6 x7 (x8 ++ [(⟨x11, 0⟩ : S49)]) (wrap64 (x9 + 1)) x10 x455000 x455001 x455002) else (none)) else (if x11 = 3 then (if 0 ≤ x10 then (if x10 < (x1.length : Int) then (if x8.length < 8796093022208 then (emendateref36_Align.l0 k x1 x6 x7 (x8 ++ [(⟨x11, rd x1 x10⟩ : S49)]) x9 (wrap64 (x10 + 1)) x455000 x455001 x455002) else (none)) else (none)) else (none)) else (if x11 = 4 then (if x8.length < 8796093022208 then (emendateref36_Align.l0 k x1 x6 x7 (x8 ++ [(⟨x11, 0⟩ : S49)]) (wrap64 (x9 + 2)) (wrap64 (x10 + 2)) x455000 x455001 x455002) else (none)) else (if x8.length < 8796093022208 then (emendateref36_Align.l0 k x1 x6 x7 (x8 ++ [(⟨x11, 0⟩ : S49)]) x9 x10 x455000 x455001 x455002) else (none)))))) else (emendateref36_Align.l1 k x1 x6 x7 x8 x9 x10 (wrap64 (x11 + 1)) x455000 x455001 x455002)) else (none)) else (none))
end
def emendateref36_Align.f (k : Nat) (l0_0 : List (S33)) (l0_1 : List Int) (a0_2 : Int) (l1 : List Int) : Option ((List (S49)) × Int) := (emendateref36_Terminals.f k l0_0 l0_1 a0_2 l1).bind fun t455 => (if t455 = true then ((emendateref36_table.f k l0_0 l0_1 a0_2 l1).bind fun t456 => (if 0 < (t456.length : Int) then (if (rd t456 0) ≥ 1099511627776 then (some (([] : List (S49)), 6)) else (emendateref36_Align.l0 k l1 (wrap64 ((l1.length : Int) + 1)) t456 ([] : List (S49)) 0 0 l0_0 l0_1 a0_2)) else (none))) else (some (([] : List (S49)), 1)))
def emendateref36_Align.T11 : Bool × List (List Nat × List Nat) := (true, [([], []), ([], []), ([], []), ([], []), ([], []), ([], []), ([], []), ([0, 1, 2, 3, 4, 5, 6], [0, 1, 2, 3, 4, 5, 6]), ([], []), ([], []), ([], []), ([9, 10], [9, 10]), ([], []), ([11, 12], [11, 12]), ([8, 13], [8, 13]), ([14], [14]), ([7, 15], [7, 15])])
def emendateref36_Align.B11 : List Nat := [0, 0, 0, 0, 0, 0, 0, 127, 0, 0, 0, 1536, 0, 7680, 16128, 32512, 65535]
theorem emendateref36_Align.tab11 : rtab .any (opsOf Tryd.f23 11) = emendateref36_Align.T11 := by kernel_rfl
theorem emendateref36_Align.bits11 : waitsOk emendateref36_Align.T11.2 emendateref36_Align.B11 = true := by kernel_rfl
set_option maxHeartbeats 8000000 in
set_option maxRecDepth 100000 in
theorem emendateref36_Align.calls (k : Nat) (A0_0 : Option Addr) (c0_0 : Nat) (l0_0 : List (S33)) (A0_1 : Option Addr) (c0_1 : Nat) (l0_1 : List Int) (a0_2 : Int) (A1 : Option Addr) (c1 : Nat) (l1 : List Int) (r1 : List (S49)) (r2 : Int) (w : World) (hr0_0 : Kd.C k33 w A0_0 l0_0.length l0_0) (hc0_0 : l0_0.length ≤ c0_0) (hr0_1 : Kd.C (Kd.int .i64) w A0_1 l0_1.length l0_1) (hc0_1 : l0_1.length ≤ c0_1) (hr1 : Kd.C (Kd.int .i64) w A1 l1.length l1) (hc1 : l1.length ≤ c1) (h : emendateref36_Align.f k l0_0 l0_1 a0_2 l1 = some (r1, r2)) :
  Calls Tryd.prog 23 #[.agg #[.slice A0_0 l0_0.length c0_0, .slice A0_1 l0_1.length c0_1, .int .i64 a0_2], .slice A1 l1.length c1] w fun e w' => ∃ v0_ : Value, e = .returned (.tuple #[v0_, .int .i64 r2]) ∧ Kd.R k49 49 w' w.heap.size (fun _ => True) v0_ r1 ∧ Below w.heap.size w w' := by
 have hu25 := Tryd.underlying25
 have hu49 := Tryd.underlying49
 have HR0_0 := Aside0.mk hr0_0
 have HC0_0 := Aside0.mk hc0_0
 clear hr0_0 hc0_0
 have HR0_1 := Aside0.mk hr0_1
 have HC0_1 := Aside0.mk hc0_1
 clear hr0_1 hc0_1
 have HR1 := Aside0.mk hr1
 have HC1 := Aside0.mk hc1
 clear hr1 hc1
 have HB := Aside0.mk (Below.refl w.heap.size w)
 have H : ((emendateref36_Terminals.f k l0_0 l0_1 a0_2 l1).bind fun t455 => (if t455 = true then ((emendateref36_table.f k l0_0 l0_1 a0_2 l1).bind fun t456 => (if 0 < (t456.length : Int) then (if (rd t456 0) ≥ 1099511627776 then (some (([] : List (S49)), 6)) else (emendateref36_Align.l0 k l1 (wrap64 ((l1.length : Int) + 1)) t456 ([] : List (S49)) 0 0 l0_0 l0_1 a0_2)) else (none))) else (some (([] : List (S49)), 1)))) = some (r1, r2) := h
 clear h
 replace H := Option.bind_eq_some_iff.mp H
 obtain ⟨t455, A30, H⟩ := H
 replace H : (if t455 = true then ((emendateref36_table.f k l0_0 l0_1 a0_2 l1).bind fun t456 => (if 0 < (t456.length : Int) then (if (rd t456 0) ≥ 1099511627776 then (some (([] : List (S49)), 6)) else (emendateref36_Align.l0 k l1 (wrap64 ((l1.length : Int) + 1)) t456 ([] : List (S49)) 0 0 l0_0 l0_1 a0_2)) else (none))) else (some (([] : List (S49)), 1))) = some (r1, r2) := H
 have A3 := Aside0.mk A30
 clear A30
 by_cases c4 : t455 = true
 ·
  subst c4
  have H1 : ((emendateref36_table.f k l0_0 l0_1 a0_2 l1).bind fun t456 => (if 0 < (t456.length : Int) then (if (rd t456 0) ≥ 1099511627776 then (some (([] : List (S49)), 6)) else (emendateref36_Align.l0 k l1 (wrap64 ((l1.length : Int) + 1)) t456 ([] : List (S49)) 0 0 l0_0 l0_1 a0_2)) else (none))) = some (r1, r2) := by rw [if_pos rfl] at H; exact H
  clear H
  have H := H1
  clear H1
  replace H := Option.bind_eq_some_iff.mp H
  obtain ⟨t456, A50, H⟩ := H
  replace H : (if 0 < (t456.length : Int) then (if (rd t456 0) ≥ 1099511627776 then (some (([] : List (S49)), 6)) else (emendateref36_Align.l0 k l1 (wrap64 ((l1.length : Int) + 1)) t456 ([] : List (S49)) 0 0 l0_0 l0_1 a0_2)) else (none)) = some (r1, r2) := H
  have A5 := Aside0.mk A50
  clear A50
  by_cases c6 : 0 < (t456.length : Int)
  ·
   rw [if_pos c6] at H
   have c6b0 : decide (0 < (t456.length : Int)) = true := decide_eq_true c6
   have c6b1 : decide (0 < t456.length) = true := decide_eq_true (by omega)
   clear c6
   by_cases c7 : (rd t456 0) ≥ 1099511627776
   ·
    rw [if_pos c7] at H
    have c7b0 : decide (1099511627776 ≤ (rd t456 0)) = true := decide_eq_true c7
    clear c7
    simp only [Option.some.injEq, Prod.mk.injEq] at H
    obtain ⟨rfl, rfl⟩ := H
    go_enter Tryd.func23, Tryd.ntmps23
    go_wp2_with (first | ((with_reducible refine gate_dst (N := 2) rfl ?_); (try (refine gate_guard (by rfl) ?_; dsimp only)); refine box_event ?hg (N := 2) ?hd (cs := #[.slice A0_0 l0_0.length c0_0, .slice A0_1 l0_1.length c0_1, .int .i64 a0_2]) (t := 25) ?hr ?_; (case hd => rfl); (case hg => rfl); (case hr => first | (go_simp; done) | (go_simp; rfl)); intro gb454 hg w8 hbox hb; have n0_ := Aside0.mk (below_step (pB HB.out) hb); have n1_ := Aside0.mk (hbox); have n2_ := Aside0.mk ((by rw [hg]; exact (below_size (pB HB.out)) : w.heap.size ≤ gb454)); have n3_ := Aside0.mk ((by rw [hg]; exact (below_size (pB HB.out)) : w.heap.size ≤ gb454)); clear HB; have HB := n0_; have BK454 := n1_; have GW454 := n2_; have GE454 := n3_; clear n0_ n1_ n2_ n3_; clear hb hbox hg; obtain ⟨hcz9_0, hcz9_1, hcz9_2, hfz9_0, hfz9_1, hfz9_2⟩ := cz3 BK454.out) | ((with_reducible refine gate_callee (f := 22) rfl ?_); refine gl (some 15) Tryd.func22 #[.agg #[.slice A0_0 l0_0.length c0_0, .slice A0_1 l0_1.length c0_1, .int .i64 a0_2], .slice A1 l1.length c1] ?_; (with_reducible refine (emendateref36_Terminals.calls k _ _ l0_0 _ _ l0_1 a0_2 _ _ l1 true _ ?side1 ?side2 ?side3 ?side4 ?side5 ?side6 A3.out).mono ?_); (case side1 => exact sd (Kd.C_below HR0_0.out HB.out)); (case side2 => exact HC0_0.out); (case side3 => exact sd (Kd.C_below HR0_1.out HB.out)); (case side4 => exact HC0_1.out); (case side5 => exact sd (Kd.C_below HR1.out HB.out)); (case side6 => exact HC1.out); rintro e w10 ⟨rfl, hb⟩; refine ⟨_, rfl, ?_⟩; replace BK454 := Aside0.mk (bb BK454.out hb); replace HB := Aside0.mk (below_step (pb HB.out GE454.out) hb); (try clear hb); obtain ⟨hcz11_0, hcz11_1, hcz11_2, hfz11_0, hfz11_1, hfz11_2⟩ := cz3 BK454.out) | ((with_reducible refine gate_callee (f := 32) rfl ?_); refine gl (some 22) Tryd.func32 #[.agg #[.slice A0_0 l0_0.length c0_0, .slice A0_1 l0_1.length c0_1, .int .i64 a0_2], .slice A1 l1.length c1] ?_; (with_reducible refine (emendateref36_table.calls k _ _ l0_0 _ _ l0_1 a0_2 _ _ l1 t456 _ ?side1 ?side2 ?side3 ?side4 ?side5 ?side6 A5.out).mono ?_); (case side1 => exact sd (Kd.C_below HR0_0.out HB.out)); (case side2 => exact HC0_0.out); (case side3 => exact sd (Kd.C_below HR0_1.out HB.out)); (case side4 => exact HC0_1.out); (case side5 => exact sd (Kd.C_below HR1.out HB.out)); (case side6 => exact HC1.out); rintro e w12 ⟨v457, rfl, ho0, hb⟩; refine ⟨_, rfl, ?_⟩; have HO458 := Aside0.mk (Kd.R_lower ho0 (below_size (pb HB.out GE454.out))); replace BK454 := Aside0.mk (bb BK454.out hb); replace HB := Aside0.mk (below_step (pb HB.out GE454.out) hb); (try clear hb); (try clear ho0); obtain ⟨Ao13, co13, eo13⟩ := Kd.R_slice HO458.out; subst eo13; have p459 : 0 ≤ (0 : Int) := (by omega); have q459 : 0 < (t456.length : Int) := od; obtain ⟨ad459, e459, hx459_0⟩ := Kd.at_int (Kd.R_reads' HO458.out).2.2 0 p459 q459; cases e459; have qi459 : (0 < t456.length) = True := eq_true (by omega); (try rw [show ((0 : Int)).toNat = 0 from rfl] at hx459_0); (try rw [Addr.add_zero'] at hx459_0); replace p459 := eq_true p459; replace q459 := eq_true q459))
    go_ret2
    exact ⟨_, er, by first | exact Kd.R_nil _ _ _ _ _ | exact Kd.N_nil _ _ _ _ _ | exact Kd.V_nil _ _ _ _ _ | exact Kd.Q_nil _ _ _ _ _ | exact Kd.S_nil _ _ _ _ _, pb HB.out GE454.out⟩
   ·
    rw [if_neg c7] at H
    have c7b0 : decide (1099511627776 ≤ (rd t456 0)) = false := decide_eq_false c7
    clear c7
    have H' := Aside0.mk H
    clear H
    go_enter Tryd.func23, Tryd.ntmps23
    go_wp2_with (first | ((with_reducible refine gate_dst (N := 2) rfl ?_); (try (refine gate_guard (by rfl) ?_; dsimp only)); refine box_event ?hg (N := 2) ?hd (cs := #[.slice A0_0 l0_0.length c0_0, .slice A0_1 l0_1.length c0_1, .int .i64 a0_2]) (t := 25) ?hr ?_; (case hd => rfl); (case hg => rfl); (case hr => first | (go_simp; done) | (go_simp; rfl)); intro gb454 hg w14 hbox hb; have n0_ := Aside0.mk (below_step (pB HB.out) hb); have n1_ := Aside0.mk (hbox); have n2_ := Aside0.mk ((by rw [hg]; exact (below_size (pB HB.out)) : w.heap.size ≤ gb454)); have n3_ := Aside0.mk ((by rw [hg]; exact (below_size (pB HB.out)) : w.heap.size ≤ gb454)); clear HB; have HB := n0_; have BK454 := n1_; have GW454 := n2_; have GE454 := n3_; clear n0_ n1_ n2_ n3_; clear hb hbox hg; obtain ⟨hcz15_0, hcz15_1, hcz15_2, hfz15_0, hfz15_1, hfz15_2⟩ := cz3 BK454.out) | ((with_reducible refine gate_callee (f := 22) rfl ?_); refine gl (some 15) Tryd.func22 #[.agg #[.slice A0_0 l0_0.length c0_0, .slice A0_1 l0_1.length c0_1, .int .i64 a0_2], .slice A1 l1.length c1] ?_; (with_reducible refine (emendateref36_Terminals.calls k _ _ l0_0 _ _ l0_1 a0_2 _ _ l1 true _ ?side1 ?side2 ?side3 ?side4 ?side5 ?side6 A3.out).mono ?_); (case side1 => exact sd (Kd.C_below HR0_0.out HB.out)); (case side2 => exact HC0_0.out); (case side3 => exact sd (Kd.C_below HR0_1.out HB.out)); (case side4 => exact HC0_1.out); (case side5 => exact sd (Kd.C_below HR1.out HB.out)); (case side6 => exact HC1.out); rintro e w16 ⟨rfl, hb⟩; refine ⟨_, rfl, ?_⟩; replace BK454 := Aside0.mk (bb BK454.out hb); replace HB := Aside0.mk (below_step (pb HB.out GE454.out) hb); (try clear hb); obtain ⟨hcz17_0, hcz17_1, hcz17_2, hfz17_0, hfz17_1, hfz17_2⟩ := cz3 BK454.out) | ((with_reducible refine gate_callee (f := 32) rfl ?_); refine gl (some 22) Tryd.func32 #[.agg #[.slice A0_0 l0_0.length c0_0, .slice A0_1 l0_1.length c0_1, .int .i64 a0_2], .slice A1 l1.length c1] ?_; (with_reducible refine (emendateref36_table.calls k _ _ l0_0 _ _ l0_1 a0_2 _ _ l1 t456 _ ?side1 ?side2 ?side3 ?side4 ?side5 ?side6 A5.out).mono ?_); (case side1 => exact sd (Kd.C_below HR0_0.out HB.out)); (case side2 => exact HC0_0.out); (case side3 => exact sd (Kd.C_below HR0_1.out HB.out)); (case side4 => exact HC0_1.out); (case side5 => exact sd (Kd.C_below HR1.out HB.out)); (case side6 => exact HC1.out); rintro e w18 ⟨v457, rfl, ho0, hb⟩; refine ⟨_, rfl, ?_⟩; have HO458 := Aside0.mk (Kd.R_lower ho0 (below_size (pb HB.out GE454.out))); replace BK454 := Aside0.mk (bb BK454.out hb); replace HB := Aside0.mk (below_step (pb HB.out GE454.out) hb); (try clear hb); (try clear ho0); obtain ⟨Ao19, co19, eo19⟩ := Kd.R_slice HO458.out; subst eo19; have p459 : 0 ≤ (0 : Int) := (by omega); have q459 : 0 < (t456.length : Int) := od; obtain ⟨ad459, e459, hx459_0⟩ := Kd.at_int (Kd.R_reads' HO458.out).2.2 0 p459 q459; cases e459; have qi459 : (0 < t456.length) = True := eq_true (by omega); (try rw [show ((0 : Int)).toNat = 0 from rfl] at hx459_0); (try rw [Addr.add_zero'] at hx459_0); replace p459 := eq_true p459; replace q459 := eq_true q459))
    go_loopg [8, 9, 10] k (fun kq v8 v9 v10 w' => ∃ (x8_1 : List (S49)) (x9_1 : Int) (x10_1 : Int), v9 = .int .i64 x9_1 ∧ v10 = .int .i64 x10_1 ∧ Aside0 (emendateref36_Align.l0 kq l1 (wrap64 ((l1.length : Int) + 1)) t456 x8_1 x9_1 x10_1 l0_0 l0_1 a0_2 = some (r1, r2)) ∧ Aside0 (kq ≤ k) ∧ Aside0 (Kd.R (Kd.int .i64) 3 w' w.heap.size (fun _ => True) (.slice (some ad459) t456.length co19) t456) ∧ Aside0 (Kd.R k49 49 w' w.heap.size (fun _ => True) v8 x8_1) ∧ Aside0 (w'.heap[gb454]? = some (.cells #[(.slice A0_0 l0_0.length c0_0), (.slice A0_1 l0_1.length c0_1), .int .i64 a0_2] 25 (0, 0))) ∧ Aside0 (Below w.heap.size w w'))
    case atStart => exact ⟨(([] : List (S49))), (0), (0), rr, rr, H', ⟨Nat.le_refl _⟩, ⟨by (with_reducible repeat (first | apply Kd.R_alloc | apply Kd.R_drewN | apply Kd.R_drew)); exact HO458.out⟩, ⟨by first | exact Kd.R_nil _ _ _ _ _ | exact Kd.N_nil _ _ _ _ _ | exact Kd.V_nil _ _ _ _ _ | exact Kd.Q_nil _ _ _ _ _ | exact Kd.S_nil _ _ _ _ _⟩, ⟨by (with_reducible repeat (first | refine blk_drewN ?_ _ | refine blk_drew ?_ | refine blk_alloc ?_ _)); exact BK454.out⟩, ⟨pb HB.out GE454.out⟩⟩
    case round => as_aux_lemma =>
     clear H'
     try clear c1
     try clear c4
     try clear c6
     try clear c6b0
     try clear c6b1
     try clear c7
     try clear c7b0
     try clear hcz15_0
     try clear hcz15_1
     try clear hcz15_2
     try clear hcz17_0
     try clear hcz17_1
     try clear hcz17_2
     try clear hfz15_0
     try clear hfz15_1
     try clear hfz15_2
     try clear hfz17_0
     try clear hfz17_1
     try clear hfz17_2
     try clear hx459_0
     try clear p459
     try clear q459
     obtain ⟨x8_1, x9_1, x10_1, rfl, rfl, HA, HK1, HO_7, HO_8, BK454, HB⟩ := hrel
     cases gk with
     | zero => exact absurd HA.out (by simp [emendateref36_Align.l0])
     | succ k1 =>
      have H := HA.out
      clear HA
      simp only [emendateref36_Align.l0] at H
      have HC20 := Aside0.mk H
      clear H
      go_upto_region 9 with (fail)
      go_cut [37] (fun v37 wc => ∃ (kq : Nat) (x37_19 : Bool), v37 = .bool x37_19 ∧ Aside0 (emendateref36_Align.j1 kq l1 (wrap64 ((l1.length : Int) + 1)) t456 x8_1 x9_1 x10_1 x37_19 l0_0 l0_1 a0_2 = some (r1, r2)) ∧ Aside0 (kq ≤ k1) ∧ Aside0 (Kd.R (Kd.int .i64) 3 wc w.heap.size (fun _ => True) (.slice (some ad459) t456.length co19) t456) ∧ Aside0 (Kd.R k49 49 wc w.heap.size (fun _ => True) u8 x8_1) ∧ Aside0 (wc.heap[gb454]? = some (.cells #[(.slice A0_0 l0_0.length c0_0), (.slice A0_1 l0_1.length c0_1), .int .i64 a0_2] 25 (0, 0))) ∧ Aside0 (Below w.heap.size w wc))
      case first => as_aux_lemma =>
       have H := HC20.out
       clear HC20
       by_cases c21 : x9_1 < (l0_0.length : Int)
       ·
        rw [if_pos c21] at H
        have c21b0 : decide (x9_1 < (l0_0.length : Int)) = true := decide_eq_true c21
        clear c21
        (first | rw [c21b0] | (simp only [i64_w, i32_w]; rw [c21b0]) | skip)
        have H' := Aside0.mk H
        clear H
        obtain ⟨hcz22_0, hcz22_1, hcz22_2, hfz22_0, hfz22_1, hfz22_2⟩ := cz3 BK454.out
        go_wp2
        go_meet
        case rel => exact ⟨_, (true), rr, H', ⟨by have := HK1.out; first | omega | exact Nat.le_refl _⟩, ⟨by (with_reducible repeat (first | apply Kd.R_alloc | apply Kd.R_drewN | apply Kd.R_drew)); exact HO_7.out⟩, ⟨by (with_reducible repeat (first | apply Kd.R_alloc | apply Kd.R_drewN | apply Kd.R_drew)); exact HO_8.out⟩, ⟨by (with_reducible repeat (first | refine blk_drewN ?_ _ | refine blk_drew ?_ | refine blk_alloc ?_ _)); exact BK454.out⟩, ⟨pb HB.out GE454.out⟩⟩
       ·
        rw [if_neg c21] at H
        have c21b0 : decide (x9_1 < (l0_0.length : Int)) = false := decide_eq_false c21
        clear c21
        (first | rw [c21b0] | (simp only [i64_w, i32_w]; rw [c21b0]) | skip)
        have H' := Aside0.mk H
        clear H
        obtain ⟨hcz23_0, hcz23_1, hcz23_2, hfz23_0, hfz23_1, hfz23_2⟩ := cz3 BK454.out
        go_wp2
        go_meet
        case rel => exact ⟨_, (decide (x10_1 < (l1.length : Int))), rr, H', ⟨by have := HK1.out; first | omega | exact Nat.le_refl _⟩, ⟨by (with_reducible repeat (first | apply Kd.R_alloc | apply Kd.R_drewN | apply Kd.R_drew)); exact HO_7.out⟩, ⟨by (with_reducible repeat (first | apply Kd.R_alloc | apply Kd.R_drewN | apply Kd.R_drew)); exact HO_8.out⟩, ⟨by (with_reducible repeat (first | refine blk_drewN ?_ _ | refine blk_drew ?_ | refine blk_alloc ?_ _)); exact BK454.out⟩, ⟨pb HB.out GE454.out⟩⟩
      case rest => as_aux_lemma =>
       clear HC20
       try clear c1
       try clear c4
       try clear c6
       try clear c6b0
       try clear c6b1
       try clear c7
       try clear c7b0
       try clear hcz15_0
       try clear hcz15_1
       try clear hcz15_2
       try clear hcz17_0
       try clear hcz17_1
       try clear hcz17_2
       try clear hfz15_0
       try clear hfz15_1
       try clear hfz15_2
       try clear hfz17_0
       try clear hfz17_1
       try clear hfz17_2
       try clear hx459_0
       try clear p459
       try clear q459
       obtain ⟨kq, x37_19, rfl, HA, HJ19, HO_7, HO_8, BK454, HB⟩ := hcut
       cases kq with
       | zero => exact absurd HA.out (by simp [emendateref36_Align.j1])
       | succ kj19 =>
        have H := HA.out
        clear HA
        simp only [emendateref36_Align.j1] at H
        by_cases c24 : x37_19 = true
        ·
         subst c24
         have H1 : (emendateref36_Align.l1 kj19 l1 (wrap64 ((l1.length : Int) + 1)) t456 x8_1 x9_1 x10_1 1 l0_0 l0_1 a0_2) = some (r1, r2) := by rw [if_pos rfl] at H; exact H
         clear H
         have H := H1
         clear H1
         have H' := Aside0.mk H
         clear H
         go_wp2
         go_loopg [11] kj19 (fun kq v11 w' => ∃ (x11_3 : Int), v11 = .int .i64 x11_3 ∧ Aside0 (emendateref36_Align.l1 kq l1 (wrap64 ((l1.length : Int) + 1)) t456 x8_1 x9_1 x10_1 x11_3 l0_0 l0_1 a0_2 = some (r1, r2)) ∧ Aside0 (kq ≤ kj19) ∧ Aside0 (Kd.R (Kd.int .i64) 3 w' w.heap.size (fun _ => True) (.slice (some ad459) t456.length co19) t456) ∧ Aside0 (Kd.R k49 49 w' w.heap.size (fun _ => True) u8 x8_1) ∧ Aside0 (w'.heap[gb454]? = some (.cells #[(.slice A0_0 l0_0.length c0_0), (.slice A0_1 l0_1.length c0_1), .int .i64 a0_2] 25 (0, 0))) ∧ Aside0 (Below w.heap.size w w'))
         case atStart => exact ⟨(1), rr, H', ⟨Nat.le_refl _⟩, ⟨by (with_reducible repeat (first | apply Kd.R_alloc | apply Kd.R_drewN | apply Kd.R_drew)); exact HO_7.out⟩, ⟨by (with_reducible repeat (first | apply Kd.R_alloc | apply Kd.R_drewN | apply Kd.R_drew)); exact HO_8.out⟩, ⟨by (with_reducible repeat (first | refine blk_drewN ?_ _ | refine blk_drew ?_ | refine blk_alloc ?_ _)); exact BK454.out⟩, ⟨pb HB.out GE454.out⟩⟩
         case round => as_aux_lemma =>
          clear H'
          try clear c1
          try clear c4
          try clear c6
          try clear c6b0
          try clear c6b1
          try clear c7
          try clear c7b0
          try clear c24
          try clear hcz15_0
          try clear hcz15_1
          try clear hcz15_2
          try clear hcz17_0
          try clear hcz17_1
          try clear hcz17_2
          try clear hfz15_0
          try clear hfz15_1
          try clear hfz15_2
          try clear hfz17_0
          try clear hfz17_1
          try clear hfz17_2
          try clear hx459_0
          try clear p459
          try clear q459
          obtain ⟨x11_3, rfl, HA, HK3, HO_7, HO_8, BK454, HB⟩ := hrel
          cases gk with
          | zero => exact absurd HA.out (by simp [emendateref36_Align.l1])
          | succ k3 =>
           have H := HA.out
           clear HA
           simp only [emendateref36_Align.l1] at H
           replace H := Option.bind_eq_some_iff.mp H
           obtain ⟨t460, A250, H⟩ := H
           replace H : (if 0 ≤ (wrap64 ((wrap64 (x9_1 * (wrap64 ((l1.length : Int) + 1)))) + x10_1)) then (if (wrap64 ((wrap64 (x9_1 * (wrap64 ((l1.length : Int) + 1)))) + x10_1)) < (t456.length : Int) then (if t460 = (rd t456 (wrap64 ((wrap64 (x9_1 * (wrap64 ((l1.length : Int) + 1)))) + x10_1))) then (if x11_3 = 1 then (if 0 ≤ x10_1 then (if x10_1 < (l1.length : Int) then (if x8_1.length < 8796093022208 then (emendateref36_Align.l0 k3 l1 (wrap64 ((l1.length : Int) + 1)) t456 (x8_1 ++ [(⟨x11_3, rd l1 x10_1⟩ : S49)]) (wrap64 (x9_1 + 1)) (wrap64 (x10_1 + 1)) l0_0 l0_1 a0_2) else (none)) else (none)) else (none)) else (if x11_3 = 2 then (if x8_1.length < 8796093022208 then (emendateref36_Align.l0 k3 l1 (wrap64 ((l1.length : Int) + 1)) t456 (x8_1 ++ [(⟨x11_3, 0⟩ : S49)]) (wrap64 (x9_1 + 1)) x10_1 l0_0 l0_1 a0_2) else (none)) else (if x11_3 = 3 then (if 0 ≤ x10_1 then (if x10_1 < (l1.length : Int) then (if x8_1.length < 8796093022208 then (emendateref36_Align.l0 k3 l1 (wrap64 ((l1.length : Int) + 1)) t456 (x8_1 ++ [(⟨x11_3, rd l1 x10_1⟩ : S49)]) x9_1 (wrap64 (x10_1 + 1)) l0_0 l0_1 a0_2) else (none)) else (none)) else (none)) else (if x11_3 = 4 then (if x8_1.length < 8796093022208 then (emendateref36_Align.l0 k3 l1 (wrap64 ((l1.length : Int) + 1)) t456 (x8_1 ++ [(⟨x11_3, 0⟩ : S49)]) (wrap64 (x9_1 + 2)) (wrap64 (x10_1 + 2)) l0_0 l0_1 a0_2) else (none)) else (if x8_1.length < 8796093022208 then (emendateref36_Align.l0 k3 l1 (wrap64 ((l1.length : Int) + 1)) t456 (x8_1 ++ [(⟨x11_3, 0⟩ : S49)]) x9_1 x10_1 l0_0 l0_1 a0_2) else (none)))))) else (emendateref36_Align.l1 k3 l1 (wrap64 ((l1.length : Int) + 1)) t456 x8_1 x9_1 x10_1 (wrap64 (x11_3 + 1)) l0_0 l0_1 a0_2)) else (none)) else (none)) = some (r1, r2) := H
           have A25 := Aside0.mk A250
           clear A250
           obtain ⟨ji26, hji26⟩ : ∃ j_ : Int, (wrap64 ((wrap64 (x9_1 * (wrap64 ((l1.length : Int) + 1)))) + x10_1)) = j_ := ⟨_, rfl⟩
           replace H : (if 0 ≤ (ji26) then (if (ji26) < (t456.length : Int) then (if t460 = (rd t456 (ji26)) then (if x11_3 = 1 then (if 0 ≤ x10_1 then (if x10_1 < (l1.length : Int) then (if x8_1.length < 8796093022208 then (emendateref36_Align.l0 k3 l1 (wrap64 ((l1.length : Int) + 1)) t456 (x8_1 ++ [(⟨x11_3, rd l1 x10_1⟩ : S49)]) (wrap64 (x9_1 + 1)) (wrap64 (x10_1 + 1)) l0_0 l0_1 a0_2) else (none)) else (none)) else (none)) else (if x11_3 = 2 then (if x8_1.length < 8796093022208 then (emendateref36_Align.l0 k3 l1 (wrap64 ((l1.length : Int) + 1)) t456 (x8_1 ++ [(⟨x11_3, 0⟩ : S49)]) (wrap64 (x9_1 + 1)) x10_1 l0_0 l0_1 a0_2) else (none)) else (if x11_3 = 3 then (if 0 ≤ x10_1 then (if x10_1 < (l1.length : Int) then (if x8_1.length < 8796093022208 then (emendateref36_Align.l0 k3 l1 (wrap64 ((l1.length : Int) + 1)) t456 (x8_1 ++ [(⟨x11_3, rd l1 x10_1⟩ : S49)]) x9_1 (wrap64 (x10_1 + 1)) l0_0 l0_1 a0_2) else (none)) else (none)) else (none)) else (if x11_3 = 4 then (if x8_1.length < 8796093022208 then (emendateref36_Align.l0 k3 l1 (wrap64 ((l1.length : Int) + 1)) t456 (x8_1 ++ [(⟨x11_3, 0⟩ : S49)]) (wrap64 (x9_1 + 2)) (wrap64 (x10_1 + 2)) l0_0 l0_1 a0_2) else (none)) else (if x8_1.length < 8796093022208 then (emendateref36_Align.l0 k3 l1 (wrap64 ((l1.length : Int) + 1)) t456 (x8_1 ++ [(⟨x11_3, 0⟩ : S49)]) x9_1 x10_1 l0_0 l0_1 a0_2) else (none)))))) else (emendateref36_Align.l1 k3 l1 (wrap64 ((l1.length : Int) + 1)) t456 x8_1 x9_1 x10_1 (wrap64 (x11_3 + 1)) l0_0 l0_1 a0_2)) else (none)) else (none)) = some (r1, r2) := by first | (rw [hji26] at H; exact H) | (simp only [hji26] at H ⊢; exact H)
           (try rw [hji26] at A25)
           have hji26w : (IntKind.i64.wrap ((wrap64 (x9_1 * (wrap64 ((l1.length : Int) + 1)))) + x10_1)) = ji26 := (i64_w _).trans hji26
           by_cases c27 : 0 ≤ (ji26)
           ·
            rw [if_pos c27] at H
            have c27b0 : decide (0 ≤ (ji26)) = true := decide_eq_true c27
            clear c27
            by_cases c28 : (ji26) < (t456.length : Int)
            ·
             rw [if_pos c28] at H
             have c28b0 : decide ((ji26) < (t456.length : Int)) = true := decide_eq_true c28
             clear c28
             by_cases c29 : t460 = (rd t456 (ji26))
             ·
              rw [if_pos c29] at H
              have c29b0 : (t460 == (rd t456 (ji26))) = true := beq_iff_eq.mpr c29
              have c29b1 : (t460 != (rd t456 (ji26))) = false := bne_eq_false_iff_eq.mpr c29
              clear c29
              by_cases c30 : x11_3 = 1
              ·
               rw [if_pos c30] at H
               have c30b0 : (x11_3 == 1) = true := beq_iff_eq.mpr c30
               have c30b1 : (x11_3 != 1) = false := bne_eq_false_iff_eq.mpr c30
               clear c30
               by_cases c31 : 0 ≤ x10_1
               ·
                rw [if_pos c31] at H
                have c31b0 : decide (0 ≤ x10_1) = true := decide_eq_true c31
                clear c31
                by_cases c32 : x10_1 < (l1.length : Int)
                ·
                 rw [if_pos c32] at H
                 have c32b0 : decide (x10_1 < (l1.length : Int)) = true := decide_eq_true c32
                 clear c32
                 by_cases c33 : x8_1.length < 8796093022208
                 ·
                  rw [if_pos c33] at H
                  have LMc33 := Aside0.mk c33
                  clear c33
                  obtain ⟨y464, hy464⟩ : ∃ y_ : List (S49), y_ = (x8_1 ++ [(⟨x11_3, rd l1 x10_1⟩ : S49)]) := ⟨_, rfl⟩
                  replace H : (emendateref36_Align.l0 k3 l1 (wrap64 ((l1.length : Int) + 1)) t456 y464 (wrap64 (x9_1 + 1)) (wrap64 (x10_1 + 1)) l0_0 l0_1 a0_2) = some (r1, r2) := by first | (rw [hy464]; with_reducible exact H) | (have H2_ := (Option.bind_some _ _).symm.trans H; rw [hy464]; with_reducible exact H2_) | (have H2_ := (Option.bind_some _ _).symm.trans H; with_reducible exact H2_) | with_reducible exact H | (rw [hy464]; exact H) | exact H
                  have Ny464 := Aside0.mk hy464
                  clear hy464
                  have H' := Aside0.mk H
                  clear H
                  try go_wp2
                  replace HO_7 := Aside0.mk (Kd.R_drew HO_7.out)
                  replace HO_8 := Aside0.mk (Kd.R_drew HO_8.out)
                  replace BK454 := Aside0.mk (blk_drew BK454.out)
                  replace HB := Aside0.mk (below_drew1 HB.out)
                  have p461 : 0 ≤ ((ji26) : Int) := od
                  have q461 : (ji26) < (t456.length : Int) := od
                  obtain ⟨ad461, e461, hx461_0⟩ := Kd.at_int (Kd.R_reads' HO_7.out).2.2 (ji26) p461 q461
                  obtain rfl : ad459 = ad461 := (by injection e461)
                  replace p461 := eq_true p461
                  replace q461 := eq_true q461
                  refine start_ (n := 17) (S := fun w' => w'.cell? ⟨gb454, 0, none⟩ = some (.slice A0_0 l0_0.length c0_0) ∧ w'.cell? ⟨gb454, 1, none⟩ = some (.slice A0_1 l0_1.length c0_1) ∧ w'.cell? ⟨gb454, 2, none⟩ = some (.int .i64 a0_2) ∧ w'.cell? (ad459.add ((ji26)).toNat) = some (.int .i64 (rd t456 (ji26)))) (ds := []) #[ff,ff,ff,ff,ff,ff,ff,ff,ff,ff,ff,ff,ff,ff,ff,ff,ff] (by kernel_rfl) rfl rfl ⟨(blk_cell BK454.out 0).trans rfl, (blk_cell BK454.out 1).trans rfl, (blk_cell BK454.out 2).trans rfl, hx461_0⟩ (fun hHeld => ?_); refine with_tabW emendateref36_Align.tab11 emendateref36_Align.bits11 (fun HT_ HW_ => ?_)
                  generalize wr.drew = w34 at HO_7 HO_8 BK454 HB hx461_0 hHeld ⊢
                  refine pu 1 39 ?_
                  refine pu 2 40 ?_
                  refine pu 3 41 ?_
                  refine pu 4 42 ?_
                  refine pu 5 43 ?_
                  refine pu 6 44 ?_
                  refine pu 8 46 ?_
                  refine pu 9 47 ?_
                  refine pu 10 48 ?_
                  refine pu 11 49 ?_
                  refine pu 12 50 ?_
                  refine pu 13 51 ?_
                  refine pu 14 52 ?_
                  refine tu 0 38 hHeld ?_
                  refine tu 15 53 hHeld ?_
                  refine one_ (i := 7) (N := some 45) #[tt,tt,tt,tt,tt,tt,tt,tt,tt,tt,tt,tt,tt,tt,tt,tt,ff] rfl rfl (one_of HT_.out (by kernel_rfl)) (by decide) (fun K hK => ?_)
                  refine goes_ Tryd.func37 (by kernel_rfl) rfl #[.agg #[.slice A0_0 l0_0.length c0_0, .slice A0_1 l0_1.length c0_1, .int .i64 a0_2], .slice A1 l1.length c1, .slice (some ad459) t456.length co19, .int .i64 (wrap64 ((l1.length : Int) + 1)), .int .i64 x9_1, .int .i64 x10_1, .int .i64 x11_3] (by rfl) rfl rfl (by (try simp only [List.map_toArray, List.map_cons, List.map_nil]); first | done | rfl | (simp only [List.length_drop, List.length_take]; rfl)) ?_
                  with_reducible refine (emendateref36_step.calls k3 _ _ l0_0 _ _ l0_1 a0_2 _ _ l1 _ _ t456 (wrap64 ((l1.length : Int) + 1)) x9_1 x10_1 x11_3 t460 _ ?side1 ?side2 ?side3 ?side4 ?side5 ?side6 ?side7 ?side8 A25.out).mono ?_
                  (case side1 => exact sd (Kd.C_below HR0_0.out HB.out))
                  (case side2 => exact HC0_0.out)
                  (case side3 => exact sd (Kd.C_below HR0_1.out HB.out))
                  (case side4 => exact HC0_1.out)
                  (case side5 => exact sd (Kd.C_below HR1.out HB.out))
                  (case side6 => exact HC1.out)
                  (case side7 => exact sd (Kd.R_reads' HO_7.out).2.2)
                  (case side8 => exact (Kd.R_reads' HO_7.out).2.1)
                  rintro e w35 ⟨rfl, hb⟩
                  have HS3_ := (hb.cell (World.block_lt_of_cell? _ _ (hHeld.2.2.2))).trans (hHeld.2.2.2)
                  refine ⟨_, rfl, ?_⟩
                  replace HO_7 := Aside0.mk (Kd.R_below (pR HO_7.out) hb)
                  replace HO_8 := Aside0.mk (Kd.R_below (pR HO_8.out) hb)
                  replace BK454 := Aside0.mk (bb BK454.out hb)
                  replace HB := Aside0.mk (below_step (pb HB.out GE454.out) hb)
                  (try clear hb)
                  refine hK.out _ _ ⟨(blk_cell BK454.out 0).trans rfl, (blk_cell BK454.out 1).trans rfl, (blk_cell BK454.out 2).trans rfl, HS3_⟩ (fun hHeld => ?_)
                  clear hK K
                  refine norm_ (a' := ?_) ?_ ?_
                  rotate_left
                  ·
                   show Act.put _ (some 45) _ = _
                   simp only [nrm]
                   rfl
                  refine pu 16 54 ?_
                  refine done_ (done_of HT_.out (by kernel_rfl)) ?_
                  try go_wp2_with (first | ((with_reducible refine gate_dst (N := 12) rfl ?_); (try (refine gate_guard (by rfl) ?_; dsimp only)); refine box_event ?hg (N := 12) ?hd (cs := #[.int .i64 0, .int .i64 0]) (t := 49) ?hr ?_; (case hd => rfl); (case hg => rfl); (case hr => first | (go_simp; done) | (go_simp; rfl)); intro gb462 hg w36 hbox hb; have n0_ := Aside0.mk (Kd.R_below (pR HO_7.out) hb); have n1_ := Aside0.mk (Kd.R_below (Kd.R_elderB (pR HO_8.out) gb462 (Nat.le_of_eq hg.symm)) hb); have n2_ := Aside0.mk (bb BK454.out hb); have n3_ := Aside0.mk (below_step (pb HB.out GE454.out) hb); have n4_ := Aside0.mk (hbox); have n5_ := Aside0.mk ((by rw [hg]; exact (below_size (pb HB.out GE454.out)) : w.heap.size ≤ gb462)); have n6_ := Aside0.mk ((by rw [hg]; exact (below_size (pb HB.out GE454.out)) : w.heap.size ≤ gb462)); have n7_ := Aside0.mk ((by rw [hg]; exact Nat.ne_of_lt (blk_lt (g := gb454) (o := .cells #[.slice A0_0 l0_0.length c0_0, .slice A0_1 l0_1.length c0_1, .int .i64 a0_2] 25 (0, 0)) (pk BK454.out)) : gb454 ≠ gb462)); have n8_ := Aside0.mk ((by rw [hg]; exact Nat.ne_of_gt (blk_lt (g := gb454) (o := .cells #[.slice A0_0 l0_0.length c0_0, .slice A0_1 l0_1.length c0_1, .int .i64 a0_2] 25 (0, 0)) (pk BK454.out)) : gb462 ≠ gb454)); clear HO_7; clear HO_8; clear BK454; clear HB; have HO_7 := n0_; have HO_8 := n1_; have BK454 := n2_; have HB := n3_; have BK462 := n4_; have GW462 := n5_; have GE462 := n6_; have NB454_462 := n7_; have NB462_454 := n8_; clear n0_ n1_ n2_ n3_ n4_ n5_ n6_ n7_ n8_; clear hb hbox hg; have hnb37 := NB462_454.out; have hnc37 := NB454_462.out; obtain ⟨hcz38_0, hcz38_1, hfz38_0, hfz38_1⟩ := cz2 BK462.out; have p463 : 0 ≤ (x10_1 : Int) := od; have q463 : x10_1 < (l1.length : Int) := od; obtain ⟨ad463, e463, hx463_0⟩ := Kd.at_int HR1.out x10_1 p463 q463; cases e463; have hn463_0 : ad463.block ≠ gb462 := Nat.ne_of_lt (Nat.lt_of_lt_of_le (by have := World.block_lt_of_cell? _ _ hx463_0; first | rwa [add_block] at this | exact this) GW462.out); have hn463_1 : ad463.block ≠ gb462 := Nat.ne_of_lt (Nat.lt_of_lt_of_le (by have := World.block_lt_of_cell? _ _ hx463_0; first | rwa [add_block] at this | exact this) GW462.out); replace hx463_0 := bc HB.out hx463_0; replace hx463_0 := (cell_far (p := ⟨gb462, 0, none⟩) (by first | (rw [add_block]; exact hn463_0) | (show (Addr.add _ _).block ≠ _; rw [add_block]; exact hn463_0) | exact hn463_0) (.int .i64 x11_3)).trans hx463_0; replace hx463_0 := (cell_far (p := ⟨gb462, 1, none⟩) (by first | (rw [add_block]; exact hn463_1) | (show (Addr.add _ _).block ≠ _; rw [add_block]; exact hn463_1) | exact hn463_1) (.int .i64 0)).trans hx463_0; clear hn463_0; clear hn463_1; replace p463 := eq_true p463; replace q463 := eq_true q463; have hq1 := blk_put (cs' := #[.int .i64 x11_3, .int .i64 0]) BK462.out 0 (.int .i64 x11_3) rfl; have hq2 := blk_put (cs' := #[.int .i64 x11_3, .int .i64 0]) hq1 1 (.int .i64 0) rfl; have hq3 := blk_put (cs' := #[.int .i64 x11_3, .int .i64 (rd l1 x10_1)]) hq2 1 (.int .i64 (rd l1 x10_1)) rfl; have hqa := (blk_cell hq2 0).trans rfl; have hqb := (blk_cell hq2 1).trans rfl; have hqc := blk_frozen hq2 0; have hqd := blk_frozen hq2 1; have hqe := (blk_cell hq3 0).trans rfl; have hqf := (blk_cell hq3 1).trans rfl; have hqg := blk_frozen hq3 0; have hqh := blk_frozen hq3 1; clear hq1 hq2 hq3) | ((with_reducible refine gate_builtin (b := .append) (xs := #[.tmp 90, .tmp 92]) rfl ?_); (try (refine gate_guard (by rfl) ?_; dsimp only)); at_builtin; refine Kd.R_append k49 (w0 := w) w.heap.size rfl (.tmp 90) (.tmp 92) 35 49 (.agg #[(.int .i64 0), (.int .i64 0)]) 16 rfl Tryd.underlying35 info49 rfl (by decide) (by omega) u8 x8_1 (⟨x11_3, rd l1 x10_1⟩ : S49) [.int .i64 x11_3, .int .i64 (rd l1 x10_1)] (fun k_ => k_ ≠ gb462) (fun _ => False) rfl (by first | (go_simp; done) | (go_simp; rfl)) ?aP (fun _ hk => hk.elim) ?aF ?aO ?aB ?aS ?aL ?_; (case aP => exact k49_mkM _ _ _ (⟨x11_3, rd l1 x10_1⟩ : S49)); (case aB => exact (pc HB.out GE454.out GE462.out)); (case aF => exact (fun k_ hk => Kd.freshB (g := gb462) (o := .cells #[.int .i64 x11_3, .int .i64 (rd l1 x10_1)] 49 (0, 0)) (by (with_reducible repeat (first | refine blk_drewN ?_ _ | refine blk_drew ?_ | refine blk_alloc ?_ _)); refine blk_put (cs := #[.int .i64 x11_3, .int .i64 0]) ?_ 1 _ rfl; (with_reducible repeat (first | refine blk_drewN ?_ _ | refine blk_drew ?_ | refine blk_alloc ?_ _)); refine blk_put (cs := #[.int .i64 x11_3, .int .i64 0]) ?_ 1 _ rfl; (with_reducible repeat (first | refine blk_drewN ?_ _ | refine blk_drew ?_ | refine blk_alloc ?_ _)); refine blk_put (cs := #[.int .i64 0, .int .i64 0]) ?_ 0 _ rfl; (with_reducible repeat (first | refine blk_drewN ?_ _ | refine blk_drew ?_ | refine blk_alloc ?_ _)); exact BK462.out) k_ hk)); (case aO => exact (by (with_reducible repeat (first | apply Kd.R_alloc | apply Kd.R_drewN | apply Kd.R_drew)); exact Kd.R_mono (Kd.R_far (p := ⟨gb462, 1, none⟩) (Kd.R_far (p := ⟨gb462, 1, none⟩) (Kd.R_far (p := ⟨gb462, 0, none⟩) (Kd.R_mono HO_8.out (fun k_ hk => (⟨hk, hk.2⟩ : _ ∧ k_ ≠ gb462))) (fun _ hk => hk.2) (.int .i64 x11_3)) (fun _ hk => hk.2) (.int .i64 0)) (fun _ hk => hk.2) (.int .i64 (rd l1 x10_1))) (fun _ hk => hk.1.2))); (case aS => exact (below_size (pc HB.out GE454.out GE462.out))); (case aL => have := LMc33.out; omega); intro v465 w39 ho hb hg hat; rw [← Ny464.out] at ho; replace HO_7 := Aside0.mk (Kd.R_over' (by (with_reducible repeat (first | apply Kd.R_alloc | apply Kd.R_drewN | apply Kd.R_drew)); exact (Kd.R_mono (Kd.R_far (p := ⟨gb462, 1, none⟩) (Kd.R_far (p := ⟨gb462, 1, none⟩) (Kd.R_far (p := ⟨gb462, 0, none⟩) (Kd.R_types HO_7.out BK462.out (by decide)) (fun _ hk => hk.2) (.int .i64 x11_3)) (fun _ hk => hk.2) (.int .i64 0)) (fun _ hk => hk.2) (.int .i64 (rd l1 x10_1))) (fun _ h_ => h_.1))) (Kd.R_typed (by (with_reducible repeat (first | apply Kd.R_alloc | apply Kd.R_drewN | apply Kd.R_drew)); exact (Kd.R_mono (Kd.R_far (p := ⟨gb462, 1, none⟩) (Kd.R_far (p := ⟨gb462, 1, none⟩) (Kd.R_far (p := ⟨gb462, 0, none⟩) (Kd.R_mono HO_8.out (fun k_ hk => (⟨hk, hk.2⟩ : _ ∧ k_ ≠ gb462))) (fun _ hk => hk.2) (.int .i64 x11_3)) (fun _ hk => hk.2) (.int .i64 0)) (fun _ hk => hk.2) (.int .i64 (rd l1 x10_1))) (fun _ h_ => h_.1)))) (by decide) hg); replace BK454 := Aside0.mk (blk_grown (g := gb454) (o := .cells #[.slice A0_0 l0_0.length c0_0, .slice A0_1 l0_1.length c0_1, .int .i64 a0_2] 25 (0, 0)) (by (with_reducible repeat (first | refine blk_drewN ?_ _ | refine blk_drew ?_ | refine blk_alloc ?_ _)); refine blk_far ?_ NB454_462.out _; (with_reducible repeat (first | refine blk_drewN ?_ _ | refine blk_drew ?_ | refine blk_alloc ?_ _)); refine blk_far ?_ NB454_462.out _; (with_reducible repeat (first | refine blk_drewN ?_ _ | refine blk_drew ?_ | refine blk_alloc ?_ _)); refine blk_far ?_ NB454_462.out _; (with_reducible repeat (first | refine blk_drewN ?_ _ | refine blk_drew ?_ | refine blk_alloc ?_ _)); exact BK454.out) hg (Kd.R_ne HO_8.out BK454.out (by decide))); replace BK462 := Aside0.mk (blk_grown (g := gb462) (o := .cells #[.int .i64 x11_3, .int .i64 (rd l1 x10_1)] 49 (0, 0)) (by (with_reducible repeat (first | refine blk_drewN ?_ _ | refine blk_drew ?_ | refine blk_alloc ?_ _)); refine blk_put (cs := #[.int .i64 x11_3, .int .i64 0]) ?_ 1 _ rfl; (with_reducible repeat (first | refine blk_drewN ?_ _ | refine blk_drew ?_ | refine blk_alloc ?_ _)); refine blk_put (cs := #[.int .i64 x11_3, .int .i64 0]) ?_ 1 _ rfl; (with_reducible repeat (first | refine blk_drewN ?_ _ | refine blk_drew ?_ | refine blk_alloc ?_ _)); refine blk_put (cs := #[.int .i64 0, .int .i64 0]) ?_ 0 _ rfl; (with_reducible repeat (first | refine blk_drewN ?_ _ | refine blk_drew ?_ | refine blk_alloc ?_ _)); exact BK462.out) hg (Kd.R_away HO_8.out (fun _ hk => hk.2))); replace HB := Aside0.mk (hb); have HO466 := Aside0.mk (ho); clear HO_8; clear ho hb hg hat))
                  go_roundg k3
                  case measure => have := HK1.out; have := HJ19.out; have := HK3.out; omega
                  case rel => exact ⟨(y464), (wrap64 (x9_1 + 1)), (wrap64 (x10_1 + 1)), rr, rr, H', ⟨by have := HK1.out; have := HJ19.out; have := HK3.out; omega⟩, ⟨by (with_reducible repeat (first | apply Kd.R_alloc | apply Kd.R_drewN | apply Kd.R_drew)); exact HO_7.out⟩, ⟨by (with_reducible repeat (first | apply Kd.R_alloc | apply Kd.R_drewN | apply Kd.R_drew)); exact Kd.R_mono HO466.out (fun _ hk => trivial)⟩, ⟨by (with_reducible repeat (first | refine blk_drewN ?_ _ | refine blk_drew ?_ | refine blk_alloc ?_ _)); exact BK454.out⟩, ⟨pc HB.out GE454.out GE462.out⟩⟩
                 ·
                  rw [if_neg c33] at H
                  exact absurd H (by simp)
                ·
                 rw [if_neg c32] at H
                 exact absurd H (by simp)
               ·
                rw [if_neg c31] at H
                exact absurd H (by simp)
              ·
               rw [if_neg c30] at H
               have c30b0 : (x11_3 == 1) = false := beq_eq_false_iff_ne.mpr c30
               have c30b1 : (x11_3 != 1) = true := bne_iff_ne.mpr c30
               by_cases c40 : x11_3 = 2
               ·
                rw [if_pos c40] at H
                have c40b0 : (x11_3 == 2) = true := beq_iff_eq.mpr c40
                have c40b1 : (x11_3 != 2) = false := bne_eq_false_iff_eq.mpr c40
                clear c40
                by_cases c41 : x8_1.length < 8796093022208
                ·
                 rw [if_pos c41] at H
                 have LMc41 := Aside0.mk c41
                 clear c41
                 obtain ⟨y467, hy467⟩ : ∃ y_ : List (S49), y_ = (x8_1 ++ [(⟨x11_3, 0⟩ : S49)]) := ⟨_, rfl⟩
                 replace H : (emendateref36_Align.l0 k3 l1 (wrap64 ((l1.length : Int) + 1)) t456 y467 (wrap64 (x9_1 + 1)) x10_1 l0_0 l0_1 a0_2) = some (r1, r2) := by first | (rw [hy467]; with_reducible exact H) | (have H2_ := (Option.bind_some _ _).symm.trans H; rw [hy467]; with_reducible exact H2_) | (have H2_ := (Option.bind_some _ _).symm.trans H; with_reducible exact H2_) | with_reducible exact H | (rw [hy467]; exact H) | exact H
                 have Ny467 := Aside0.mk hy467
                 clear hy467
                 have H' := Aside0.mk H
                 clear H
                 try go_wp2
                 replace HO_7 := Aside0.mk (Kd.R_drew HO_7.out)
                 replace HO_8 := Aside0.mk (Kd.R_drew HO_8.out)
                 replace BK454 := Aside0.mk (blk_drew BK454.out)
                 replace HB := Aside0.mk (below_drew1 HB.out)
                 have p461 : 0 ≤ ((ji26) : Int) := od
                 have q461 : (ji26) < (t456.length : Int) := od
                 obtain ⟨ad461, e461, hx461_0⟩ := Kd.at_int (Kd.R_reads' HO_7.out).2.2 (ji26) p461 q461
                 obtain rfl : ad459 = ad461 := (by injection e461)
                 replace p461 := eq_true p461
                 replace q461 := eq_true q461
                 refine start_ (n := 17) (S := fun w' => w'.cell? ⟨gb454, 0, none⟩ = some (.slice A0_0 l0_0.length c0_0) ∧ w'.cell? ⟨gb454, 1, none⟩ = some (.slice A0_1 l0_1.length c0_1) ∧ w'.cell? ⟨gb454, 2, none⟩ = some (.int .i64 a0_2) ∧ w'.cell? (ad459.add ((ji26)).toNat) = some (.int .i64 (rd t456 (ji26)))) (ds := []) #[ff,ff,ff,ff,ff,ff,ff,ff,ff,ff,ff,ff,ff,ff,ff,ff,ff] (by kernel_rfl) rfl rfl ⟨(blk_cell BK454.out 0).trans rfl, (blk_cell BK454.out 1).trans rfl, (blk_cell BK454.out 2).trans rfl, hx461_0⟩ (fun hHeld => ?_); refine with_tabW emendateref36_Align.tab11 emendateref36_Align.bits11 (fun HT_ HW_ => ?_)
                 generalize wr.drew = w42 at HO_7 HO_8 BK454 HB hx461_0 hHeld ⊢
                 refine pu 1 39 ?_
                 refine pu 2 40 ?_
                 refine pu 3 41 ?_
                 refine pu 4 42 ?_
                 refine pu 5 43 ?_
                 refine pu 6 44 ?_
                 refine pu 8 46 ?_
                 refine pu 9 47 ?_
                 refine pu 10 48 ?_
                 refine pu 11 49 ?_
                 refine pu 12 50 ?_
                 refine pu 13 51 ?_
                 refine pu 14 52 ?_
                 refine tu 0 38 hHeld ?_
                 refine tu 15 53 hHeld ?_
                 refine one_ (i := 7) (N := some 45) #[tt,tt,tt,tt,tt,tt,tt,tt,tt,tt,tt,tt,tt,tt,tt,tt,ff] rfl rfl (one_of HT_.out (by kernel_rfl)) (by decide) (fun K hK => ?_)
                 refine goes_ Tryd.func37 (by kernel_rfl) rfl #[.agg #[.slice A0_0 l0_0.length c0_0, .slice A0_1 l0_1.length c0_1, .int .i64 a0_2], .slice A1 l1.length c1, .slice (some ad459) t456.length co19, .int .i64 (wrap64 ((l1.length : Int) + 1)), .int .i64 x9_1, .int .i64 x10_1, .int .i64 x11_3] (by rfl) rfl rfl (by (try simp only [List.map_toArray, List.map_cons, List.map_nil]); first | done | rfl | (simp only [List.length_drop, List.length_take]; rfl)) ?_
                 with_reducible refine (emendateref36_step.calls k3 _ _ l0_0 _ _ l0_1 a0_2 _ _ l1 _ _ t456 (wrap64 ((l1.length : Int) + 1)) x9_1 x10_1 x11_3 t460 _ ?side1 ?side2 ?side3 ?side4 ?side5 ?side6 ?side7 ?side8 A25.out).mono ?_
                 (case side1 => exact sd (Kd.C_below HR0_0.out HB.out))
                 (case side2 => exact HC0_0.out)
                 (case side3 => exact sd (Kd.C_below HR0_1.out HB.out))
                 (case side4 => exact HC0_1.out)
                 (case side5 => exact sd (Kd.C_below HR1.out HB.out))
                 (case side6 => exact HC1.out)
                 (case side7 => exact sd (Kd.R_reads' HO_7.out).2.2)
                 (case side8 => exact (Kd.R_reads' HO_7.out).2.1)
                 rintro e w43 ⟨rfl, hb⟩
                 have HS3_ := (hb.cell (World.block_lt_of_cell? _ _ (hHeld.2.2.2))).trans (hHeld.2.2.2)
                 refine ⟨_, rfl, ?_⟩
                 replace HO_7 := Aside0.mk (Kd.R_below (pR HO_7.out) hb)
                 replace HO_8 := Aside0.mk (Kd.R_below (pR HO_8.out) hb)
                 replace BK454 := Aside0.mk (bb BK454.out hb)
                 replace HB := Aside0.mk (below_step (pb HB.out GE454.out) hb)
                 (try clear hb)
                 refine hK.out _ _ ⟨(blk_cell BK454.out 0).trans rfl, (blk_cell BK454.out 1).trans rfl, (blk_cell BK454.out 2).trans rfl, HS3_⟩ (fun hHeld => ?_)
                 clear hK K
                 refine norm_ (a' := ?_) ?_ ?_
                 rotate_left
                 ·
                  show Act.put _ (some 45) _ = _
                  simp only [nrm]
                  rfl
                 refine pu 16 54 ?_
                 refine done_ (done_of HT_.out (by kernel_rfl)) ?_
                 try go_wp2_with (first | ((with_reducible refine gate_dst (N := 12) rfl ?_); (try (refine gate_guard (by rfl) ?_; dsimp only)); refine box_event ?hg (N := 12) ?hd (cs := #[.int .i64 0, .int .i64 0]) (t := 49) ?hr ?_; (case hd => rfl); (case hg => rfl); (case hr => first | (go_simp; done) | (go_simp; rfl)); intro gb462 hg w44 hbox hb; have n0_ := Aside0.mk (Kd.R_below (pR HO_7.out) hb); have n1_ := Aside0.mk (Kd.R_below (Kd.R_elderB (pR HO_8.out) gb462 (Nat.le_of_eq hg.symm)) hb); have n2_ := Aside0.mk (bb BK454.out hb); have n3_ := Aside0.mk (below_step (pb HB.out GE454.out) hb); have n4_ := Aside0.mk (hbox); have n5_ := Aside0.mk ((by rw [hg]; exact (below_size (pb HB.out GE454.out)) : w.heap.size ≤ gb462)); have n6_ := Aside0.mk ((by rw [hg]; exact (below_size (pb HB.out GE454.out)) : w.heap.size ≤ gb462)); have n7_ := Aside0.mk ((by rw [hg]; exact Nat.ne_of_lt (blk_lt (g := gb454) (o := .cells #[.slice A0_0 l0_0.length c0_0, .slice A0_1 l0_1.length c0_1, .int .i64 a0_2] 25 (0, 0)) (pk BK454.out)) : gb454 ≠ gb462)); have n8_ := Aside0.mk ((by rw [hg]; exact Nat.ne_of_gt (blk_lt (g := gb454) (o := .cells #[.slice A0_0 l0_0.length c0_0, .slice A0_1 l0_1.length c0_1, .int .i64 a0_2] 25 (0, 0)) (pk BK454.out)) : gb462 ≠ gb454)); clear HO_7; clear HO_8; clear BK454; clear HB; have HO_7 := n0_; have HO_8 := n1_; have BK454 := n2_; have HB := n3_; have BK462 := n4_; have GW462 := n5_; have GE462 := n6_; have NB454_462 := n7_; have NB462_454 := n8_; clear n0_ n1_ n2_ n3_ n4_ n5_ n6_ n7_ n8_; clear hb hbox hg; have hnb45 := NB462_454.out; have hnc45 := NB454_462.out; obtain ⟨hcz46_0, hcz46_1, hfz46_0, hfz46_1⟩ := cz2 BK462.out) | ((with_reducible refine gate_builtin (b := .append) (xs := #[.tmp 90, .tmp 92]) rfl ?_); (try (refine gate_guard (by rfl) ?_; dsimp only)); at_builtin; refine Kd.R_append k49 (w0 := w) w.heap.size rfl (.tmp 90) (.tmp 92) 35 49 (.agg #[(.int .i64 0), (.int .i64 0)]) 16 rfl Tryd.underlying35 info49 rfl (by decide) (by omega) u8 x8_1 (⟨x11_3, 0⟩ : S49) [.int .i64 x11_3, .int .i64 0] (fun k_ => k_ ≠ gb462) (fun _ => False) rfl (by first | (go_simp; done) | (go_simp; rfl)) ?aP (fun _ hk => hk.elim) ?aF ?aO ?aB ?aS ?aL ?_; (case aP => exact k49_mkM _ _ _ (⟨x11_3, 0⟩ : S49)); (case aB => exact (pc HB.out GE454.out GE462.out)); (case aF => exact (fun k_ hk => Kd.freshB (g := gb462) (o := .cells #[.int .i64 x11_3, .int .i64 0] 49 (0, 0)) (by (with_reducible repeat (first | refine blk_drewN ?_ _ | refine blk_drew ?_ | refine blk_alloc ?_ _)); refine blk_put (cs := #[.int .i64 x11_3, .int .i64 0]) ?_ 1 _ rfl; (with_reducible repeat (first | refine blk_drewN ?_ _ | refine blk_drew ?_ | refine blk_alloc ?_ _)); refine blk_put (cs := #[.int .i64 0, .int .i64 0]) ?_ 0 _ rfl; (with_reducible repeat (first | refine blk_drewN ?_ _ | refine blk_drew ?_ | refine blk_alloc ?_ _)); exact BK462.out) k_ hk)); (case aO => exact (by (with_reducible repeat (first | apply Kd.R_alloc | apply Kd.R_drewN | apply Kd.R_drew)); exact Kd.R_mono (Kd.R_far (p := ⟨gb462, 1, none⟩) (Kd.R_far (p := ⟨gb462, 0, none⟩) (Kd.R_mono HO_8.out (fun k_ hk => (⟨hk, hk.2⟩ : _ ∧ k_ ≠ gb462))) (fun _ hk => hk.2) (.int .i64 x11_3)) (fun _ hk => hk.2) (.int .i64 0)) (fun _ hk => hk.1.2))); (case aS => exact (below_size (pc HB.out GE454.out GE462.out))); (case aL => have := LMc41.out; omega); intro v468 w47 ho hb hg hat; rw [← Ny467.out] at ho; replace HO_7 := Aside0.mk (Kd.R_over' (by (with_reducible repeat (first | apply Kd.R_alloc | apply Kd.R_drewN | apply Kd.R_drew)); exact (Kd.R_mono (Kd.R_far (p := ⟨gb462, 1, none⟩) (Kd.R_far (p := ⟨gb462, 0, none⟩) (Kd.R_types HO_7.out BK462.out (by decide)) (fun _ hk => hk.2) (.int .i64 x11_3)) (fun _ hk => hk.2) (.int .i64 0)) (fun _ h_ => h_.1))) (Kd.R_typed (by (with_reducible repeat (first | apply Kd.R_alloc | apply Kd.R_drewN | apply Kd.R_drew)); exact (Kd.R_mono (Kd.R_far (p := ⟨gb462, 1, none⟩) (Kd.R_far (p := ⟨gb462, 0, none⟩) (Kd.R_mono HO_8.out (fun k_ hk => (⟨hk, hk.2⟩ : _ ∧ k_ ≠ gb462))) (fun _ hk => hk.2) (.int .i64 x11_3)) (fun _ hk => hk.2) (.int .i64 0)) (fun _ h_ => h_.1)))) (by decide) hg); replace BK454 := Aside0.mk (blk_grown (g := gb454) (o := .cells #[.slice A0_0 l0_0.length c0_0, .slice A0_1 l0_1.length c0_1, .int .i64 a0_2] 25 (0, 0)) (by (with_reducible repeat (first | refine blk_drewN ?_ _ | refine blk_drew ?_ | refine blk_alloc ?_ _)); refine blk_far ?_ NB454_462.out _; (with_reducible repeat (first | refine blk_drewN ?_ _ | refine blk_drew ?_ | refine blk_alloc ?_ _)); refine blk_far ?_ NB454_462.out _; (with_reducible repeat (first | refine blk_drewN ?_ _ | refine blk_drew ?_ | refine blk_alloc ?_ _)); exact BK454.out) hg (Kd.R_ne HO_8.out BK454.out (by decide))); replace BK462 := Aside0.mk (blk_grown (g := gb462) (o := .cells #[.int .i64 x11_3, .int .i64 0] 49 (0, 0)) (by (with_reducible repeat (first | refine blk_drewN ?_ _ | refine blk_drew ?_ | refine blk_alloc ?_ _)); refine blk_put (cs := #[.int .i64 x11_3, .int .i64 0]) ?_ 1 _ rfl; (with_reducible repeat (first | refine blk_drewN ?_ _ | refine blk_drew ?_ | refine blk_alloc ?_ _)); refine blk_put (cs := #[.int .i64 0, .int .i64 0]) ?_ 0 _ rfl; (with_reducible repeat (first | refine blk_drewN ?_ _ | refine blk_drew ?_ | refine blk_alloc ?_ _)); exact BK462.out) hg (Kd.R_away HO_8.out (fun _ hk => hk.2))); replace HB := Aside0.mk (hb); have HO469 := Aside0.mk (ho); clear HO_8; clear ho hb hg hat))
                 go_roundg k3
                 case measure => have := HK1.out; have := HJ19.out; have := HK3.out; omega
                 case rel => exact ⟨(y467), (wrap64 (x9_1 + 1)), (x10_1), rr, rr, H', ⟨by have := HK1.out; have := HJ19.out; have := HK3.out; omega⟩, ⟨by (with_reducible repeat (first | apply Kd.R_alloc | apply Kd.R_drewN | apply Kd.R_drew)); exact HO_7.out⟩, ⟨by (with_reducible repeat (first | apply Kd.R_alloc | apply Kd.R_drewN | apply Kd.R_drew)); exact Kd.R_mono HO469.out (fun _ hk => trivial)⟩, ⟨by (with_reducible repeat (first | refine blk_drewN ?_ _ | refine blk_drew ?_ | refine blk_alloc ?_ _)); exact BK454.out⟩, ⟨pc HB.out GE454.out GE462.out⟩⟩
                ·
                 rw [if_neg c41] at H
                 exact absurd H (by simp)
               ·
                rw [if_neg c40] at H
                have c40b0 : (x11_3 == 2) = false := beq_eq_false_iff_ne.mpr c40
                have c40b1 : (x11_3 != 2) = true := bne_iff_ne.mpr c40
                by_cases c48 : x11_3 = 3
                ·
                 rw [if_pos c48] at H
                 have c48b0 : (x11_3 == 3) = true := beq_iff_eq.mpr c48
                 have c48b1 : (x11_3 != 3) = false := bne_eq_false_iff_eq.mpr c48
                 clear c48
                 by_cases c49 : 0 ≤ x10_1
                 ·
                  rw [if_pos c49] at H
                  have c49b0 : decide (0 ≤ x10_1) = true := decide_eq_true c49
                  clear c49
                  by_cases c50 : x10_1 < (l1.length : Int)
                  ·
                   rw [if_pos c50] at H
                   have c50b0 : decide (x10_1 < (l1.length : Int)) = true := decide_eq_true c50
                   clear c50
                   by_cases c51 : x8_1.length < 8796093022208
                   ·
                    rw [if_pos c51] at H
                    have LMc51 := Aside0.mk c51
                    clear c51
                    obtain ⟨y471, hy471⟩ : ∃ y_ : List (S49), y_ = (x8_1 ++ [(⟨x11_3, rd l1 x10_1⟩ : S49)]) := ⟨_, rfl⟩
                    replace H : (emendateref36_Align.l0 k3 l1 (wrap64 ((l1.length : Int) + 1)) t456 y471 x9_1 (wrap64 (x10_1 + 1)) l0_0 l0_1 a0_2) = some (r1, r2) := by first | (rw [hy471]; with_reducible exact H) | (have H2_ := (Option.bind_some _ _).symm.trans H; rw [hy471]; with_reducible exact H2_) | (have H2_ := (Option.bind_some _ _).symm.trans H; with_reducible exact H2_) | with_reducible exact H | (rw [hy471]; exact H) | exact H
                    have Ny471 := Aside0.mk hy471
                    clear hy471
                    have H' := Aside0.mk H
                    clear H
                    try go_wp2
                    replace HO_7 := Aside0.mk (Kd.R_drew HO_7.out)
                    replace HO_8 := Aside0.mk (Kd.R_drew HO_8.out)
                    replace BK454 := Aside0.mk (blk_drew BK454.out)
                    replace HB := Aside0.mk (below_drew1 HB.out)
                    have p461 : 0 ≤ ((ji26) : Int) := od
                    have q461 : (ji26) < (t456.length : Int) := od
                    obtain ⟨ad461, e461, hx461_0⟩ := Kd.at_int (Kd.R_reads' HO_7.out).2.2 (ji26) p461 q461
                    obtain rfl : ad459 = ad461 := (by injection e461)
                    replace p461 := eq_true p461
                    replace q461 := eq_true q461
                    refine start_ (n := 17) (S := fun w' => w'.cell? ⟨gb454, 0, none⟩ = some (.slice A0_0 l0_0.length c0_0) ∧ w'.cell? ⟨gb454, 1, none⟩ = some (.slice A0_1 l0_1.length c0_1) ∧ w'.cell? ⟨gb454, 2, none⟩ = some (.int .i64 a0_2) ∧ w'.cell? (ad459.add ((ji26)).toNat) = some (.int .i64 (rd t456 (ji26)))) (ds := []) #[ff,ff,ff,ff,ff,ff,ff,ff,ff,ff,ff,ff,ff,ff,ff,ff,ff] (by kernel_rfl) rfl rfl ⟨(blk_cell BK454.out 0).trans rfl, (blk_cell BK454.out 1).trans rfl, (blk_cell BK454.out 2).trans rfl, hx461_0⟩ (fun hHeld => ?_); refine with_tabW emendateref36_Align.tab11 emendateref36_Align.bits11 (fun HT_ HW_ => ?_)
                    generalize wr.drew = w52 at HO_7 HO_8 BK454 HB hx461_0 hHeld ⊢
                    refine pu 1 39 ?_
                    refine pu 2 40 ?_
                    refine pu 3 41 ?_
                    refine pu 4 42 ?_
                    refine pu 5 43 ?_
                    refine pu 6 44 ?_
                    refine pu 8 46 ?_
                    refine pu 9 47 ?_
                    refine pu 10 48 ?_
                    refine pu 11 49 ?_
                    refine pu 12 50 ?_
                    refine pu 13 51 ?_
                    refine pu 14 52 ?_
                    refine tu 0 38 hHeld ?_
                    refine tu 15 53 hHeld ?_
                    refine one_ (i := 7) (N := some 45) #[tt,tt,tt,tt,tt,tt,tt,tt,tt,tt,tt,tt,tt,tt,tt,tt,ff] rfl rfl (one_of HT_.out (by kernel_rfl)) (by decide) (fun K hK => ?_)
                    refine goes_ Tryd.func37 (by kernel_rfl) rfl #[.agg #[.slice A0_0 l0_0.length c0_0, .slice A0_1 l0_1.length c0_1, .int .i64 a0_2], .slice A1 l1.length c1, .slice (some ad459) t456.length co19, .int .i64 (wrap64 ((l1.length : Int) + 1)), .int .i64 x9_1, .int .i64 x10_1, .int .i64 x11_3] (by rfl) rfl rfl (by (try simp only [List.map_toArray, List.map_cons, List.map_nil]); first | done | rfl | (simp only [List.length_drop, List.length_take]; rfl)) ?_
                    with_reducible refine (emendateref36_step.calls k3 _ _ l0_0 _ _ l0_1 a0_2 _ _ l1 _ _ t456 (wrap64 ((l1.length : Int) + 1)) x9_1 x10_1 x11_3 t460 _ ?side1 ?side2 ?side3 ?side4 ?side5 ?side6 ?side7 ?side8 A25.out).mono ?_
                    (case side1 => exact sd (Kd.C_below HR0_0.out HB.out))
                    (case side2 => exact HC0_0.out)
                    (case side3 => exact sd (Kd.C_below HR0_1.out HB.out))
                    (case side4 => exact HC0_1.out)
                    (case side5 => exact sd (Kd.C_below HR1.out HB.out))
                    (case side6 => exact HC1.out)
                    (case side7 => exact sd (Kd.R_reads' HO_7.out).2.2)
                    (case side8 => exact (Kd.R_reads' HO_7.out).2.1)
                    rintro e w53 ⟨rfl, hb⟩
                    have HS3_ := (hb.cell (World.block_lt_of_cell? _ _ (hHeld.2.2.2))).trans (hHeld.2.2.2)
                    refine ⟨_, rfl, ?_⟩
                    replace HO_7 := Aside0.mk (Kd.R_below (pR HO_7.out) hb)
                    replace HO_8 := Aside0.mk (Kd.R_below (pR HO_8.out) hb)
                    replace BK454 := Aside0.mk (bb BK454.out hb)
                    replace HB := Aside0.mk (below_step (pb HB.out GE454.out) hb)
                    (try clear hb)
                    refine hK.out _ _ ⟨(blk_cell BK454.out 0).trans rfl, (blk_cell BK454.out 1).trans rfl, (blk_cell BK454.out 2).trans rfl, HS3_⟩ (fun hHeld => ?_)
                    clear hK K
                    refine norm_ (a' := ?_) ?_ ?_
                    rotate_left
                    ·
                     show Act.put _ (some 45) _ = _
                     simp only [nrm]
                     rfl
                    refine pu 16 54 ?_
                    refine done_ (done_of HT_.out (by kernel_rfl)) ?_
                    try go_wp2_with (first | ((with_reducible refine gate_dst (N := 12) rfl ?_); (try (refine gate_guard (by rfl) ?_; dsimp only)); refine box_event ?hg (N := 12) ?hd (cs := #[.int .i64 0, .int .i64 0]) (t := 49) ?hr ?_; (case hd => rfl); (case hg => rfl); (case hr => first | (go_simp; done) | (go_simp; rfl)); intro gb462 hg w54 hbox hb; have n0_ := Aside0.mk (Kd.R_below (pR HO_7.out) hb); have n1_ := Aside0.mk (Kd.R_below (Kd.R_elderB (pR HO_8.out) gb462 (Nat.le_of_eq hg.symm)) hb); have n2_ := Aside0.mk (bb BK454.out hb); have n3_ := Aside0.mk (below_step (pb HB.out GE454.out) hb); have n4_ := Aside0.mk (hbox); have n5_ := Aside0.mk ((by rw [hg]; exact (below_size (pb HB.out GE454.out)) : w.heap.size ≤ gb462)); have n6_ := Aside0.mk ((by rw [hg]; exact (below_size (pb HB.out GE454.out)) : w.heap.size ≤ gb462)); have n7_ := Aside0.mk ((by rw [hg]; exact Nat.ne_of_lt (blk_lt (g := gb454) (o := .cells #[.slice A0_0 l0_0.length c0_0, .slice A0_1 l0_1.length c0_1, .int .i64 a0_2] 25 (0, 0)) (pk BK454.out)) : gb454 ≠ gb462)); have n8_ := Aside0.mk ((by rw [hg]; exact Nat.ne_of_gt (blk_lt (g := gb454) (o := .cells #[.slice A0_0 l0_0.length c0_0, .slice A0_1 l0_1.length c0_1, .int .i64 a0_2] 25 (0, 0)) (pk BK454.out)) : gb462 ≠ gb454)); clear HO_7; clear HO_8; clear BK454; clear HB; have HO_7 := n0_; have HO_8 := n1_; have BK454 := n2_; have HB := n3_; have BK462 := n4_; have GW462 := n5_; have GE462 := n6_; have NB454_462 := n7_; have NB462_454 := n8_; clear n0_ n1_ n2_ n3_ n4_ n5_ n6_ n7_ n8_; clear hb hbox hg; have hnb55 := NB462_454.out; have hnc55 := NB454_462.out; obtain ⟨hcz56_0, hcz56_1, hfz56_0, hfz56_1⟩ := cz2 BK462.out; have p470 : 0 ≤ (x10_1 : Int) := od; have q470 : x10_1 < (l1.length : Int) := od; obtain ⟨ad470, e470, hx470_0⟩ := Kd.at_int HR1.out x10_1 p470 q470; cases e470; have hn470_0 : ad470.block ≠ gb462 := Nat.ne_of_lt (Nat.lt_of_lt_of_le (by have := World.block_lt_of_cell? _ _ hx470_0; first | rwa [add_block] at this | exact this) GW462.out); have hn470_1 : ad470.block ≠ gb462 := Nat.ne_of_lt (Nat.lt_of_lt_of_le (by have := World.block_lt_of_cell? _ _ hx470_0; first | rwa [add_block] at this | exact this) GW462.out); replace hx470_0 := bc HB.out hx470_0; replace hx470_0 := (cell_far (p := ⟨gb462, 0, none⟩) (by first | (rw [add_block]; exact hn470_0) | (show (Addr.add _ _).block ≠ _; rw [add_block]; exact hn470_0) | exact hn470_0) (.int .i64 x11_3)).trans hx470_0; replace hx470_0 := (cell_far (p := ⟨gb462, 1, none⟩) (by first | (rw [add_block]; exact hn470_1) | (show (Addr.add _ _).block ≠ _; rw [add_block]; exact hn470_1) | exact hn470_1) (.int .i64 0)).trans hx470_0; clear hn470_0; clear hn470_1; replace p470 := eq_true p470; replace q470 := eq_true q470; have hq1 := blk_put (cs' := #[.int .i64 x11_3, .int .i64 0]) BK462.out 0 (.int .i64 x11_3) rfl; have hq2 := blk_put (cs' := #[.int .i64 x11_3, .int .i64 0]) hq1 1 (.int .i64 0) rfl; have hq3 := blk_put (cs' := #[.int .i64 x11_3, .int .i64 (rd l1 x10_1)]) hq2 1 (.int .i64 (rd l1 x10_1)) rfl; have hqa := (blk_cell hq2 0).trans rfl; have hqb := (blk_cell hq2 1).trans rfl; have hqc := blk_frozen hq2 0; have hqd := blk_frozen hq2 1; have hqe := (blk_cell hq3 0).trans rfl; have hqf := (blk_cell hq3 1).trans rfl; have hqg := blk_frozen hq3 0; have hqh := blk_frozen hq3 1; clear hq1 hq2 hq3) | ((with_reducible refine gate_builtin (b := .append) (xs := #[.tmp 90, .tmp 92]) rfl ?_); (try (refine gate_guard (by rfl) ?_; dsimp only)); at_builtin; refine Kd.R_append k49 (w0 := w) w.heap.size rfl (.tmp 90) (.tmp 92) 35 49 (.agg #[(.int .i64 0), (.int .i64 0)]) 16 rfl Tryd.underlying35 info49 rfl (by decide) (by omega) u8 x8_1 (⟨x11_3, rd l1 x10_1⟩ : S49) [.int .i64 x11_3, .int .i64 (rd l1 x10_1)] (fun k_ => k_ ≠ gb462) (fun _ => False) rfl (by first | (go_simp; done) | (go_simp; rfl)) ?aP (fun _ hk => hk.elim) ?aF ?aO ?aB ?aS ?aL ?_; (case aP => exact k49_mkM _ _ _ (⟨x11_3, rd l1 x10_1⟩ : S49)); (case aB => exact (pc HB.out GE454.out GE462.out)); (case aF => exact (fun k_ hk => Kd.freshB (g := gb462) (o := .cells #[.int .i64 x11_3, .int .i64 (rd l1 x10_1)] 49 (0, 0)) (by (with_reducible repeat (first | refine blk_drewN ?_ _ | refine blk_drew ?_ | refine blk_alloc ?_ _)); refine blk_put (cs := #[.int .i64 x11_3, .int .i64 0]) ?_ 1 _ rfl; (with_reducible repeat (first | refine blk_drewN ?_ _ | refine blk_drew ?_ | refine blk_alloc ?_ _)); refine blk_put (cs := #[.int .i64 x11_3, .int .i64 0]) ?_ 1 _ rfl; (with_reducible repeat (first | refine blk_drewN ?_ _ | refine blk_drew ?_ | refine blk_alloc ?_ _)); refine blk_put (cs := #[.int .i64 0, .int .i64 0]) ?_ 0 _ rfl; (with_reducible repeat (first | refine blk_drewN ?_ _ | refine blk_drew ?_ | refine blk_alloc ?_ _)); exact BK462.out) k_ hk)); (case aO => exact (by (with_reducible repeat (first | apply Kd.R_alloc | apply Kd.R_drewN | apply Kd.R_drew)); exact Kd.R_mono (Kd.R_far (p := ⟨gb462, 1, none⟩) (Kd.R_far (p := ⟨gb462, 1, none⟩) (Kd.R_far (p := ⟨gb462, 0, none⟩) (Kd.R_mono HO_8.out (fun k_ hk => (⟨hk, hk.2⟩ : _ ∧ k_ ≠ gb462))) (fun _ hk => hk.2) (.int .i64 x11_3)) (fun _ hk => hk.2) (.int .i64 0)) (fun _ hk => hk.2) (.int .i64 (rd l1 x10_1))) (fun _ hk => hk.1.2))); (case aS => exact (below_size (pc HB.out GE454.out GE462.out))); (case aL => have := LMc51.out; omega); intro v472 w57 ho hb hg hat; rw [← Ny471.out] at ho; replace HO_7 := Aside0.mk (Kd.R_over' (by (with_reducible repeat (first | apply Kd.R_alloc | apply Kd.R_drewN | apply Kd.R_drew)); exact (Kd.R_mono (Kd.R_far (p := ⟨gb462, 1, none⟩) (Kd.R_far (p := ⟨gb462, 1, none⟩) (Kd.R_far (p := ⟨gb462, 0, none⟩) (Kd.R_types HO_7.out BK462.out (by decide)) (fun _ hk => hk.2) (.int .i64 x11_3)) (fun _ hk => hk.2) (.int .i64 0)) (fun _ hk => hk.2) (.int .i64 (rd l1 x10_1))) (fun _ h_ => h_.1))) (Kd.R_typed (by (with_reducible repeat (first | apply Kd.R_alloc | apply Kd.R_drewN | apply Kd.R_drew)); exact (Kd.R_mono (Kd.R_far (p := ⟨gb462, 1, none⟩) (Kd.R_far (p := ⟨gb462, 1, none⟩) (Kd.R_far (p := ⟨gb462, 0, none⟩) (Kd.R_mono HO_8.out (fun k_ hk => (⟨hk, hk.2⟩ : _ ∧ k_ ≠ gb462))) (fun _ hk => hk.2) (.int .i64 x11_3)) (fun _ hk => hk.2) (.int .i64 0)) (fun _ hk => hk.2) (.int .i64 (rd l1 x10_1))) (fun _ h_ => h_.1)))) (by decide) hg); replace BK454 := Aside0.mk (blk_grown (g := gb454) (o := .cells #[.slice A0_0 l0_0.length c0_0, .slice A0_1 l0_1.length c0_1, .int .i64 a0_2] 25 (0, 0)) (by (with_reducible repeat (first | refine blk_drewN ?_ _ | refine blk_drew ?_ | refine blk_alloc ?_ _)); refine blk_far ?_ NB454_462.out _; (with_reducible repeat (first | refine blk_drewN ?_ _ | refine blk_drew ?_ | refine blk_alloc ?_ _)); refine blk_far ?_ NB454_462.out _; (with_reducible repeat (first | refine blk_drewN ?_ _ | refine blk_drew ?_ | refine blk_alloc ?_ _)); refine blk_far ?_ NB454_462.out _; (with_reducible repeat (first | refine blk_drewN ?_ _ | refine blk_drew ?_ | refine blk_alloc ?_ _)); exact BK454.out) hg (Kd.R_ne HO_8.out BK454.out (by decide))); replace BK462 := Aside0.mk (blk_grown (g := gb462) (o := .cells #[.int .i64 x11_3, .int .i64 (rd l1 x10_1)] 49 (0, 0)) (by (with_reducible repeat (first | refine blk_drewN ?_ _ | refine blk_drew ?_ | refine blk_alloc ?_ _)); refine blk_put (cs := #[.int .i64 x11_3, .int .i64 0]) ?_ 1 _ rfl; (with_reducible repeat (first | refine blk_drewN ?_ _ | refine blk_drew ?_ | refine blk_alloc ?_ _)); refine blk_put (cs := #[.int .i64 x11_3, .int .i64 0]) ?_ 1 _ rfl; (with_reducible repeat (first | refine blk_drewN ?_ _ | refine blk_drew ?_ | refine blk_alloc ?_ _)); refine blk_put (cs := #[.int .i64 0, .int .i64 0]) ?_ 0 _ rfl; (with_reducible repeat (first | refine blk_drewN ?_ _ | refine blk_drew ?_ | refine blk_alloc ?_ _)); exact BK462.out) hg (Kd.R_away HO_8.out (fun _ hk => hk.2))); replace HB := Aside0.mk (hb); have HO473 := Aside0.mk (ho); clear HO_8; clear ho hb hg hat))
                    go_roundg k3
                    case measure => have := HK1.out; have := HJ19.out; have := HK3.out; omega
                    case rel => exact ⟨(y471), (x9_1), (wrap64 (x10_1 + 1)), rr, rr, H', ⟨by have := HK1.out; have := HJ19.out; have := HK3.out; omega⟩, ⟨by (with_reducible repeat (first | apply Kd.R_alloc | apply Kd.R_drewN | apply Kd.R_drew)); exact HO_7.out⟩, ⟨by (with_reducible repeat (first | apply Kd.R_alloc | apply Kd.R_drewN | apply Kd.R_drew)); exact Kd.R_mono HO473.out (fun _ hk => trivial)⟩, ⟨by (with_reducible repeat (first | refine blk_drewN ?_ _ | refine blk_drew ?_ | refine blk_alloc ?_ _)); exact BK454.out⟩, ⟨pc HB.out GE454.out GE462.out⟩⟩
                   ·
                    rw [if_neg c51] at H
                    exact absurd H (by simp)
                  ·
                   rw [if_neg c50] at H
                   exact absurd H (by simp)
                 ·
                  rw [if_neg c49] at H
                  exact absurd H (by simp)
                ·
                 rw [if_neg c48] at H
                 have c48b0 : (x11_3 == 3) = false := beq_eq_false_iff_ne.mpr c48
                 have c48b1 : (x11_3 != 3) = true := bne_iff_ne.mpr c48
                 by_cases c58 : x11_3 = 4
                 ·
                  rw [if_pos c58] at H
                  have c58b0 : (x11_3 == 4) = true := beq_iff_eq.mpr c58
                  have c58b1 : (x11_3 != 4) = false := bne_eq_false_iff_eq.mpr c58
                  clear c58
                  by_cases c59 : x8_1.length < 8796093022208
                  ·
                   rw [if_pos c59] at H
                   have LMc59 := Aside0.mk c59
                   clear c59
                   obtain ⟨y474, hy474⟩ : ∃ y_ : List (S49), y_ = (x8_1 ++ [(⟨x11_3, 0⟩ : S49)]) := ⟨_, rfl⟩
                   replace H : (emendateref36_Align.l0 k3 l1 (wrap64 ((l1.length : Int) + 1)) t456 y474 (wrap64 (x9_1 + 2)) (wrap64 (x10_1 + 2)) l0_0 l0_1 a0_2) = some (r1, r2) := by first | (rw [hy474]; with_reducible exact H) | (have H2_ := (Option.bind_some _ _).symm.trans H; rw [hy474]; with_reducible exact H2_) | (have H2_ := (Option.bind_some _ _).symm.trans H; with_reducible exact H2_) | with_reducible exact H | (rw [hy474]; exact H) | exact H
                   have Ny474 := Aside0.mk hy474
                   clear hy474
                   have H' := Aside0.mk H
                   clear H
                   try go_wp2
                   replace HO_7 := Aside0.mk (Kd.R_drew HO_7.out)
                   replace HO_8 := Aside0.mk (Kd.R_drew HO_8.out)
                   replace BK454 := Aside0.mk (blk_drew BK454.out)
                   replace HB := Aside0.mk (below_drew1 HB.out)
                   have p461 : 0 ≤ ((ji26) : Int) := od
                   have q461 : (ji26) < (t456.length : Int) := od
                   obtain ⟨ad461, e461, hx461_0⟩ := Kd.at_int (Kd.R_reads' HO_7.out).2.2 (ji26) p461 q461
                   obtain rfl : ad459 = ad461 := (by injection e461)
                   replace p461 := eq_true p461
                   replace q461 := eq_true q461
                   refine start_ (n := 17) (S := fun w' => w'.cell? ⟨gb454, 0, none⟩ = some (.slice A0_0 l0_0.length c0_0) ∧ w'.cell? ⟨gb454, 1, none⟩ = some (.slice A0_1 l0_1.length c0_1) ∧ w'.cell? ⟨gb454, 2, none⟩ = some (.int .i64 a0_2) ∧ w'.cell? (ad459.add ((ji26)).toNat) = some (.int .i64 (rd t456 (ji26)))) (ds := []) #[ff,ff,ff,ff,ff,ff,ff,ff,ff,ff,ff,ff,ff,ff,ff,ff,ff] (by kernel_rfl) rfl rfl ⟨(blk_cell BK454.out 0).trans rfl, (blk_cell BK454.out 1).trans rfl, (blk_cell BK454.out 2).trans rfl, hx461_0⟩ (fun hHeld => ?_); refine with_tabW emendateref36_Align.tab11 emendateref36_Align.bits11 (fun HT_ HW_ => ?_)
                   generalize wr.drew = w60 at HO_7 HO_8 BK454 HB hx461_0 hHeld ⊢
                   refine pu 1 39 ?_
                   refine pu 2 40 ?_
                   refine pu 3 41 ?_
                   refine pu 4 42 ?_
                   refine pu 5 43 ?_
                   refine pu 6 44 ?_
                   refine pu 8 46 ?_
                   refine pu 9 47 ?_
                   refine pu 10 48 ?_
                   refine pu 11 49 ?_
                   refine pu 12 50 ?_
                   refine pu 13 51 ?_
                   refine pu 14 52 ?_
                   refine tu 0 38 hHeld ?_
                   refine tu 15 53 hHeld ?_
                   refine one_ (i := 7) (N := some 45) #[tt,tt,tt,tt,tt,tt,tt,tt,tt,tt,tt,tt,tt,tt,tt,tt,ff] rfl rfl (one_of HT_.out (by kernel_rfl)) (by decide) (fun K hK => ?_)
                   refine goes_ Tryd.func37 (by kernel_rfl) rfl #[.agg #[.slice A0_0 l0_0.length c0_0, .slice A0_1 l0_1.length c0_1, .int .i64 a0_2], .slice A1 l1.length c1, .slice (some ad459) t456.length co19, .int .i64 (wrap64 ((l1.length : Int) + 1)), .int .i64 x9_1, .int .i64 x10_1, .int .i64 x11_3] (by rfl) rfl rfl (by (try simp only [List.map_toArray, List.map_cons, List.map_nil]); first | done | rfl | (simp only [List.length_drop, List.length_take]; rfl)) ?_
                   with_reducible refine (emendateref36_step.calls k3 _ _ l0_0 _ _ l0_1 a0_2 _ _ l1 _ _ t456 (wrap64 ((l1.length : Int) + 1)) x9_1 x10_1 x11_3 t460 _ ?side1 ?side2 ?side3 ?side4 ?side5 ?side6 ?side7 ?side8 A25.out).mono ?_
                   (case side1 => exact sd (Kd.C_below HR0_0.out HB.out))
                   (case side2 => exact HC0_0.out)
                   (case side3 => exact sd (Kd.C_below HR0_1.out HB.out))
                   (case side4 => exact HC0_1.out)
                   (case side5 => exact sd (Kd.C_below HR1.out HB.out))
                   (case side6 => exact HC1.out)
                   (case side7 => exact sd (Kd.R_reads' HO_7.out).2.2)
                   (case side8 => exact (Kd.R_reads' HO_7.out).2.1)
                   rintro e w61 ⟨rfl, hb⟩
                   have HS3_ := (hb.cell (World.block_lt_of_cell? _ _ (hHeld.2.2.2))).trans (hHeld.2.2.2)
                   refine ⟨_, rfl, ?_⟩
                   replace HO_7 := Aside0.mk (Kd.R_below (pR HO_7.out) hb)
                   replace HO_8 := Aside0.mk (Kd.R_below (pR HO_8.out) hb)
                   replace BK454 := Aside0.mk (bb BK454.out hb)
                   replace HB := Aside0.mk (below_step (pb HB.out GE454.out) hb)
                   (try clear hb)
                   refine hK.out _ _ ⟨(blk_cell BK454.out 0).trans rfl, (blk_cell BK454.out 1).trans rfl, (blk_cell BK454.out 2).trans rfl, HS3_⟩ (fun hHeld => ?_)
                   clear hK K
                   refine norm_ (a' := ?_) ?_ ?_
                   rotate_left
                   ·
                    show Act.put _ (some 45) _ = _
                    simp only [nrm]
                    rfl
                   refine pu 16 54 ?_
                   refine done_ (done_of HT_.out (by kernel_rfl)) ?_
                   try go_wp2_with (first | ((with_reducible refine gate_dst (N := 12) rfl ?_); (try (refine gate_guard (by rfl) ?_; dsimp only)); refine box_event ?hg (N := 12) ?hd (cs := #[.int .i64 0, .int .i64 0]) (t := 49) ?hr ?_; (case hd => rfl); (case hg => rfl); (case hr => first | (go_simp; done) | (go_simp; rfl)); intro gb462 hg w62 hbox hb; have n0_ := Aside0.mk (Kd.R_below (pR HO_7.out) hb); have n1_ := Aside0.mk (Kd.R_below (Kd.R_elderB (pR HO_8.out) gb462 (Nat.le_of_eq hg.symm)) hb); have n2_ := Aside0.mk (bb BK454.out hb); have n3_ := Aside0.mk (below_step (pb HB.out GE454.out) hb); have n4_ := Aside0.mk (hbox); have n5_ := Aside0.mk ((by rw [hg]; exact (below_size (pb HB.out GE454.out)) : w.heap.size ≤ gb462)); have n6_ := Aside0.mk ((by rw [hg]; exact (below_size (pb HB.out GE454.out)) : w.heap.size ≤ gb462)); have n7_ := Aside0.mk ((by rw [hg]; exact Nat.ne_of_lt (blk_lt (g := gb454) (o := .cells #[.slice A0_0 l0_0.length c0_0, .slice A0_1 l0_1.length c0_1, .int .i64 a0_2] 25 (0, 0)) (pk BK454.out)) : gb454 ≠ gb462)); have n8_ := Aside0.mk ((by rw [hg]; exact Nat.ne_of_gt (blk_lt (g := gb454) (o := .cells #[.slice A0_0 l0_0.length c0_0, .slice A0_1 l0_1.length c0_1, .int .i64 a0_2] 25 (0, 0)) (pk BK454.out)) : gb462 ≠ gb454)); clear HO_7; clear HO_8; clear BK454; clear HB; have HO_7 := n0_; have HO_8 := n1_; have BK454 := n2_; have HB := n3_; have BK462 := n4_; have GW462 := n5_; have GE462 := n6_; have NB454_462 := n7_; have NB462_454 := n8_; clear n0_ n1_ n2_ n3_ n4_ n5_ n6_ n7_ n8_; clear hb hbox hg; have hnb63 := NB462_454.out; have hnc63 := NB454_462.out; obtain ⟨hcz64_0, hcz64_1, hfz64_0, hfz64_1⟩ := cz2 BK462.out) | ((with_reducible refine gate_builtin (b := .append) (xs := #[.tmp 90, .tmp 92]) rfl ?_); (try (refine gate_guard (by rfl) ?_; dsimp only)); at_builtin; refine Kd.R_append k49 (w0 := w) w.heap.size rfl (.tmp 90) (.tmp 92) 35 49 (.agg #[(.int .i64 0), (.int .i64 0)]) 16 rfl Tryd.underlying35 info49 rfl (by decide) (by omega) u8 x8_1 (⟨x11_3, 0⟩ : S49) [.int .i64 x11_3, .int .i64 0] (fun k_ => k_ ≠ gb462) (fun _ => False) rfl (by first | (go_simp; done) | (go_simp; rfl)) ?aP (fun _ hk => hk.elim) ?aF ?aO ?aB ?aS ?aL ?_; (case aP => exact k49_mkM _ _ _ (⟨x11_3, 0⟩ : S49)); (case aB => exact (pc HB.out GE454.out GE462.out)); (case aF => exact (fun k_ hk => Kd.freshB (g := gb462) (o := .cells #[.int .i64 x11_3, .int .i64 0] 49 (0, 0)) (by (with_reducible repeat (first | refine blk_drewN ?_ _ | refine blk_drew ?_ | refine blk_alloc ?_ _)); refine blk_put (cs := #[.int .i64 x11_3, .int .i64 0]) ?_ 1 _ rfl; (with_reducible repeat (first | refine blk_drewN ?_ _ | refine blk_drew ?_ | refine blk_alloc ?_ _)); refine blk_put (cs := #[.int .i64 0, .int .i64 0]) ?_ 0 _ rfl; (with_reducible repeat (first | refine blk_drewN ?_ _ | refine blk_drew ?_ | refine blk_alloc ?_ _)); exact BK462.out) k_ hk)); (case aO => exact (by (with_reducible repeat (first | apply Kd.R_alloc | apply Kd.R_drewN | apply Kd.R_drew)); exact Kd.R_mono (Kd.R_far (p := ⟨gb462, 1, none⟩) (Kd.R_far (p := ⟨gb462, 0, none⟩) (Kd.R_mono HO_8.out (fun k_ hk => (⟨hk, hk.2⟩ : _ ∧ k_ ≠ gb462))) (fun _ hk => hk.2) (.int .i64 x11_3)) (fun _ hk => hk.2) (.int .i64 0)) (fun _ hk => hk.1.2))); (case aS => exact (below_size (pc HB.out GE454.out GE462.out))); (case aL => have := LMc59.out; omega); intro v475 w65 ho hb hg hat; rw [← Ny474.out] at ho; replace HO_7 := Aside0.mk (Kd.R_over' (by (with_reducible repeat (first | apply Kd.R_alloc | apply Kd.R_drewN | apply Kd.R_drew)); exact (Kd.R_mono (Kd.R_far (p := ⟨gb462, 1, none⟩) (Kd.R_far (p := ⟨gb462, 0, none⟩) (Kd.R_types HO_7.out BK462.out (by decide)) (fun _ hk => hk.2) (.int .i64 x11_3)) (fun _ hk => hk.2) (.int .i64 0)) (fun _ h_ => h_.1))) (Kd.R_typed (by (with_reducible repeat (first | apply Kd.R_alloc | apply Kd.R_drewN | apply Kd.R_drew)); exact (Kd.R_mono (Kd.R_far (p := ⟨gb462, 1, none⟩) (Kd.R_far (p := ⟨gb462, 0, none⟩) (Kd.R_mono HO_8.out (fun k_ hk => (⟨hk, hk.2⟩ : _ ∧ k_ ≠ gb462))) (fun _ hk => hk.2) (.int .i64 x11_3)) (fun _ hk => hk.2) (.int .i64 0)) (fun _ h_ => h_.1)))) (by decide) hg); replace BK454 := Aside0.mk (blk_grown (g := gb454) (o := .cells #[.slice A0_0 l0_0.length c0_0, .slice A0_1 l0_1.length c0_1, .int .i64 a0_2] 25 (0, 0)) (by (with_reducible repeat (first | refine blk_drewN ?_ _ | refine blk_drew ?_ | refine blk_alloc ?_ _)); refine blk_far ?_ NB454_462.out _; (with_reducible repeat (first | refine blk_drewN ?_ _ | refine blk_drew ?_ | refine blk_alloc ?_ _)); refine blk_far ?_ NB454_462.out _; (with_reducible repeat (first | refine blk_drewN ?_ _ | refine blk_drew ?_ | refine blk_alloc ?_ _)); exact BK454.out) hg (Kd.R_ne HO_8.out BK454.out (by decide))); replace BK462 := Aside0.mk (blk_grown (g := gb462) (o := .cells #[.int .i64 x11_3, .int .i64 0] 49 (0, 0)) (by (with_reducible repeat (first | refine blk_drewN ?_ _ | refine blk_drew ?_ | refine blk_alloc ?_ _)); refine blk_put (cs := #[.int .i64 x11_3, .int .i64 0]) ?_ 1 _ rfl; (with_reducible repeat (first | refine blk_drewN ?_ _ | refine blk_drew ?_ | refine blk_alloc ?_ _)); refine blk_put (cs := #[.int .i64 0, .int .i64 0]) ?_ 0 _ rfl; (with_reducible repeat (first | refine blk_drewN ?_ _ | refine blk_drew ?_ | refine blk_alloc ?_ _)); exact BK462.out) hg (Kd.R_away HO_8.out (fun _ hk => hk.2))); replace HB := Aside0.mk (hb); have HO476 := Aside0.mk (ho); clear HO_8; clear ho hb hg hat))
                   go_roundg k3
                   case measure => have := HK1.out; have := HJ19.out; have := HK3.out; omega
                   case rel => exact ⟨(y474), (wrap64 (x9_1 + 2)), (wrap64 (x10_1 + 2)), rr, rr, H', ⟨by have := HK1.out; have := HJ19.out; have := HK3.out; omega⟩, ⟨by (with_reducible repeat (first | apply Kd.R_alloc | apply Kd.R_drewN | apply Kd.R_drew)); exact HO_7.out⟩, ⟨by (with_reducible repeat (first | apply Kd.R_alloc | apply Kd.R_drewN | apply Kd.R_drew)); exact Kd.R_mono HO476.out (fun _ hk => trivial)⟩, ⟨by (with_reducible repeat (first | refine blk_drewN ?_ _ | refine blk_drew ?_ | refine blk_alloc ?_ _)); exact BK454.out⟩, ⟨pc HB.out GE454.out GE462.out⟩⟩
                  ·
                   rw [if_neg c59] at H
                   exact absurd H (by simp)
                 ·
                  rw [if_neg c58] at H
                  have c58b0 : (x11_3 == 4) = false := beq_eq_false_iff_ne.mpr c58
                  have c58b1 : (x11_3 != 4) = true := bne_iff_ne.mpr c58
                  by_cases c66 : x8_1.length < 8796093022208
                  ·
                   rw [if_pos c66] at H
                   have LMc66 := Aside0.mk c66
                   clear c66
                   obtain ⟨y477, hy477⟩ : ∃ y_ : List (S49), y_ = (x8_1 ++ [(⟨x11_3, 0⟩ : S49)]) := ⟨_, rfl⟩
                   replace H : (emendateref36_Align.l0 k3 l1 (wrap64 ((l1.length : Int) + 1)) t456 y477 x9_1 x10_1 l0_0 l0_1 a0_2) = some (r1, r2) := by first | (rw [hy477]; with_reducible exact H) | (have H2_ := (Option.bind_some _ _).symm.trans H; rw [hy477]; with_reducible exact H2_) | (have H2_ := (Option.bind_some _ _).symm.trans H; with_reducible exact H2_) | with_reducible exact H | (rw [hy477]; exact H) | exact H
                   have Ny477 := Aside0.mk hy477
                   clear hy477
                   have H' := Aside0.mk H
                   clear H
                   try go_wp2
                   replace HO_7 := Aside0.mk (Kd.R_drew HO_7.out)
                   replace HO_8 := Aside0.mk (Kd.R_drew HO_8.out)
                   replace BK454 := Aside0.mk (blk_drew BK454.out)
                   replace HB := Aside0.mk (below_drew1 HB.out)
                   have p461 : 0 ≤ ((ji26) : Int) := od
                   have q461 : (ji26) < (t456.length : Int) := od
                   obtain ⟨ad461, e461, hx461_0⟩ := Kd.at_int (Kd.R_reads' HO_7.out).2.2 (ji26) p461 q461
                   obtain rfl : ad459 = ad461 := (by injection e461)
                   replace p461 := eq_true p461
                   replace q461 := eq_true q461
                   refine start_ (n := 17) (S := fun w' => w'.cell? ⟨gb454, 0, none⟩ = some (.slice A0_0 l0_0.length c0_0) ∧ w'.cell? ⟨gb454, 1, none⟩ = some (.slice A0_1 l0_1.length c0_1) ∧ w'.cell? ⟨gb454, 2, none⟩ = some (.int .i64 a0_2) ∧ w'.cell? (ad459.add ((ji26)).toNat) = some (.int .i64 (rd t456 (ji26)))) (ds := []) #[ff,ff,ff,ff,ff,ff,ff,ff,ff,ff,ff,ff,ff,ff,ff,ff,ff] (by kernel_rfl) rfl rfl ⟨(blk_cell BK454.out 0).trans rfl, (blk_cell BK454.out 1).trans rfl, (blk_cell BK454.out 2).trans rfl, hx461_0⟩ (fun hHeld => ?_); refine with_tabW emendateref36_Align.tab11 emendateref36_Align.bits11 (fun HT_ HW_ => ?_)
                   generalize wr.drew = w67 at HO_7 HO_8 BK454 HB hx461_0 hHeld ⊢
                   refine pu 1 39 ?_
                   refine pu 2 40 ?_
                   refine pu 3 41 ?_
                   refine pu 4 42 ?_
                   refine pu 5 43 ?_
                   refine pu 6 44 ?_
                   refine pu 8 46 ?_
                   refine pu 9 47 ?_
                   refine pu 10 48 ?_
                   refine pu 11 49 ?_
                   refine pu 12 50 ?_
                   refine pu 13 51 ?_
                   refine pu 14 52 ?_
                   refine tu 0 38 hHeld ?_
                   refine tu 15 53 hHeld ?_
                   refine one_ (i := 7) (N := some 45) #[tt,tt,tt,tt,tt,tt,tt,tt,tt,tt,tt,tt,tt,tt,tt,tt,ff] rfl rfl (one_of HT_.out (by kernel_rfl)) (by decide) (fun K hK => ?_)
                   refine goes_ Tryd.func37 (by kernel_rfl) rfl #[.agg #[.slice A0_0 l0_0.length c0_0, .slice A0_1 l0_1.length c0_1, .int .i64 a0_2], .slice A1 l1.length c1, .slice (some ad459) t456.length co19, .int .i64 (wrap64 ((l1.length : Int) + 1)), .int .i64 x9_1, .int .i64 x10_1, .int .i64 x11_3] (by rfl) rfl rfl (by (try simp only [List.map_toArray, List.map_cons, List.map_nil]); first | done | rfl | (simp only [List.length_drop, List.length_take]; rfl)) ?_
                   with_reducible refine (emendateref36_step.calls k3 _ _ l0_0 _ _ l0_1 a0_2 _ _ l1 _ _ t456 (wrap64 ((l1.length : Int) + 1)) x9_1 x10_1 x11_3 t460 _ ?side1 ?side2 ?side3 ?side4 ?side5 ?side6 ?side7 ?side8 A25.out).mono ?_
                   (case side1 => exact sd (Kd.C_below HR0_0.out HB.out))
                   (case side2 => exact HC0_0.out)
                   (case side3 => exact sd (Kd.C_below HR0_1.out HB.out))
                   (case side4 => exact HC0_1.out)
                   (case side5 => exact sd (Kd.C_below HR1.out HB.out))
                   (case side6 => exact HC1.out)
                   (case side7 => exact sd (Kd.R_reads' HO_7.out).2.2)
                   (case side8 => exact (Kd.R_reads' HO_7.out).2.1)
                   rintro e w68 ⟨rfl, hb⟩
                   have HS3_ := (hb.cell (World.block_lt_of_cell? _ _ (hHeld.2.2.2))).trans (hHeld.2.2.2)
                   refine ⟨_, rfl, ?_⟩
                   replace HO_7 := Aside0.mk (Kd.R_below (pR HO_7.out) hb)
                   replace HO_8 := Aside0.mk (Kd.R_below (pR HO_8.out) hb)
                   replace BK454 := Aside0.mk (bb BK454.out hb)
                   replace HB := Aside0.mk (below_step (pb HB.out GE454.out) hb)
                   (try clear hb)
                   refine hK.out _ _ ⟨(blk_cell BK454.out 0).trans rfl, (blk_cell BK454.out 1).trans rfl, (blk_cell BK454.out 2).trans rfl, HS3_⟩ (fun hHeld => ?_)
                   clear hK K
                   refine norm_ (a' := ?_) ?_ ?_
                   rotate_left
                   ·
                    show Act.put _ (some 45) _ = _
                    simp only [nrm]
                    rfl
                   refine pu 16 54 ?_
                   refine done_ (done_of HT_.out (by kernel_rfl)) ?_
                   try go_wp2_with (first | ((with_reducible refine gate_dst (N := 12) rfl ?_); (try (refine gate_guard (by rfl) ?_; dsimp only)); refine box_event ?hg (N := 12) ?hd (cs := #[.int .i64 0, .int .i64 0]) (t := 49) ?hr ?_; (case hd => rfl); (case hg => rfl); (case hr => first | (go_simp; done) | (go_simp; rfl)); intro gb462 hg w69 hbox hb; have n0_ := Aside0.mk (Kd.R_below (pR HO_7.out) hb); have n1_ := Aside0.mk (Kd.R_below (Kd.R_elderB (pR HO_8.out) gb462 (Nat.le_of_eq hg.symm)) hb); have n2_ := Aside0.mk (bb BK454.out hb); have n3_ := Aside0.mk (below_step (pb HB.out GE454.out) hb); have n4_ := Aside0.mk (hbox); have n5_ := Aside0.mk ((by rw [hg]; exact (below_size (pb HB.out GE454.out)) : w.heap.size ≤ gb462)); have n6_ := Aside0.mk ((by rw [hg]; exact (below_size (pb HB.out GE454.out)) : w.heap.size ≤ gb462)); have n7_ := Aside0.mk ((by rw [hg]; exact Nat.ne_of_lt (blk_lt (g := gb454) (o := .cells #[.slice A0_0 l0_0.length c0_0, .slice A0_1 l0_1.length c0_1, .int .i64 a0_2] 25 (0, 0)) (pk BK454.out)) : gb454 ≠ gb462)); have n8_ := Aside0.mk ((by rw [hg]; exact Nat.ne_of_gt (blk_lt (g := gb454) (o := .cells #[.slice A0_0 l0_0.length c0_0, .slice A0_1 l0_1.length c0_1, .int .i64 a0_2] 25 (0, 0)) (pk BK454.out)) : gb462 ≠ gb454)); clear HO_7; clear HO_8; clear BK454; clear HB; have HO_7 := n0_; have HO_8 := n1_; have BK454 := n2_; have HB := n3_; have BK462 := n4_; have GW462 := n5_; have GE462 := n6_; have NB454_462 := n7_; have NB462_454 := n8_; clear n0_ n1_ n2_ n3_ n4_ n5_ n6_ n7_ n8_; clear hb hbox hg; have hnb70 := NB462_454.out; have hnc70 := NB454_462.out; obtain ⟨hcz71_0, hcz71_1, hfz71_0, hfz71_1⟩ := cz2 BK462.out) | ((with_reducible refine gate_builtin (b := .append) (xs := #[.tmp 90, .tmp 92]) rfl ?_); (try (refine gate_guard (by rfl) ?_; dsimp only)); at_builtin; refine Kd.R_append k49 (w0 := w) w.heap.size rfl (.tmp 90) (.tmp 92) 35 49 (.agg #[(.int .i64 0), (.int .i64 0)]) 16 rfl Tryd.underlying35 info49 rfl (by decide) (by omega) u8 x8_1 (⟨x11_3, 0⟩ : S49) [.int .i64 x11_3, .int .i64 0] (fun k_ => k_ ≠ gb462) (fun _ => False) rfl (by first | (go_simp; done) | (go_simp; rfl)) ?aP (fun _ hk => hk.elim) ?aF ?aO ?aB ?aS ?aL ?_; (case aP => exact k49_mkM _ _ _ (⟨x11_3, 0⟩ : S49)); (case aB => exact (pc HB.out GE454.out GE462.out)); (case aF => exact (fun k_ hk => Kd.freshB (g := gb462) (o := .cells #[.int .i64 x11_3, .int .i64 0] 49 (0, 0)) (by (with_reducible repeat (first | refine blk_drewN ?_ _ | refine blk_drew ?_ | refine blk_alloc ?_ _)); refine blk_put (cs := #[.int .i64 x11_3, .int .i64 0]) ?_ 1 _ rfl; (with_reducible repeat (first | refine blk_drewN ?_ _ | refine blk_drew ?_ | refine blk_alloc ?_ _)); refine blk_put (cs := #[.int .i64 0, .int .i64 0]) ?_ 0 _ rfl; (with_reducible repeat (first | refine blk_drewN ?_ _ | refine blk_drew ?_ | refine blk_alloc ?_ _)); exact BK462.out) k_ hk)); (case aO => exact (by (with_reducible repeat (first | apply Kd.R_alloc | apply Kd.R_drewN | apply Kd.R_drew)); exact Kd.R_mono (Kd.R_far (p := ⟨gb462, 1, none⟩) (Kd.R_far (p := ⟨gb462, 0, none⟩) (Kd.R_mono HO_8.out (fun k_ hk => (⟨hk, hk.2⟩ : _ ∧ k_ ≠ gb462))) (fun _ hk => hk.2) (.int .i64 x11_3)) (fun _ hk => hk.2) (.int .i64 0)) (fun _ hk => hk.1.2))); (case aS => exact (below_size (pc HB.out GE454.out GE462.out))); (case aL => have := LMc66.out; omega); intro v478 w72 ho hb hg hat; rw [← Ny477.out] at ho; replace HO_7 := Aside0.mk (Kd.R_over' (by (with_reducible repeat (first | apply Kd.R_alloc | apply Kd.R_drewN | apply Kd.R_drew)); exact (Kd.R_mono (Kd.R_far (p := ⟨gb462, 1, none⟩) (Kd.R_far (p := ⟨gb462, 0, none⟩) (Kd.R_types HO_7.out BK462.out (by decide)) (fun _ hk => hk.2) (.int .i64 x11_3)) (fun _ hk => hk.2) (.int .i64 0)) (fun _ h_ => h_.1))) (Kd.R_typed (by (with_reducible repeat (first | apply Kd.R_alloc | apply Kd.R_drewN | apply Kd.R_drew)); exact (Kd.R_mono (Kd.R_far (p := ⟨gb462, 1, none⟩) (Kd.R_far (p := ⟨gb462, 0, none⟩) (Kd.R_mono HO_8.out (fun k_ hk => (⟨hk, hk.2⟩ : _ ∧ k_ ≠ gb462))) (fun _ hk => hk.2) (.int .i64 x11_3)) (fun _ hk => hk.2) (.int .i64 0)) (fun _ h_ => h_.1)))) (by decide) hg); replace BK454 := Aside0.mk (blk_grown (g := gb454) (o := .cells #[.slice A0_0 l0_0.length c0_0, .slice A0_1 l0_1.length c0_1, .int .i64 a0_2] 25 (0, 0)) (by (with_reducible repeat (first | refine blk_drewN ?_ _ | refine blk_drew ?_ | refine blk_alloc ?_ _)); refine blk_far ?_ NB454_462.out _; (with_reducible repeat (first | refine blk_drewN ?_ _ | refine blk_drew ?_ | refine blk_alloc ?_ _)); refine blk_far ?_ NB454_462.out _; (with_reducible repeat (first | refine blk_drewN ?_ _ | refine blk_drew ?_ | refine blk_alloc ?_ _)); exact BK454.out) hg (Kd.R_ne HO_8.out BK454.out (by decide))); replace BK462 := Aside0.mk (blk_grown (g := gb462) (o := .cells #[.int .i64 x11_3, .int .i64 0] 49 (0, 0)) (by (with_reducible repeat (first | refine blk_drewN ?_ _ | refine blk_drew ?_ | refine blk_alloc ?_ _)); refine blk_put (cs := #[.int .i64 x11_3, .int .i64 0]) ?_ 1 _ rfl; (with_reducible repeat (first | refine blk_drewN ?_ _ | refine blk_drew ?_ | refine blk_alloc ?_ _)); refine blk_put (cs := #[.int .i64 0, .int .i64 0]) ?_ 0 _ rfl; (with_reducible repeat (first | refine blk_drewN ?_ _ | refine blk_drew ?_ | refine blk_alloc ?_ _)); exact BK462.out) hg (Kd.R_away HO_8.out (fun _ hk => hk.2))); replace HB := Aside0.mk (hb); have HO479 := Aside0.mk (ho); clear HO_8; clear ho hb hg hat))
                   go_roundg k3
                   case measure => have := HK1.out; have := HJ19.out; have := HK3.out; omega
                   case rel => exact ⟨(y477), (x9_1), (x10_1), rr, rr, H', ⟨by have := HK1.out; have := HJ19.out; have := HK3.out; omega⟩, ⟨by (with_reducible repeat (first | apply Kd.R_alloc | apply Kd.R_drewN | apply Kd.R_drew)); exact HO_7.out⟩, ⟨by (with_reducible repeat (first | apply Kd.R_alloc | apply Kd.R_drewN | apply Kd.R_drew)); exact Kd.R_mono HO479.out (fun _ hk => trivial)⟩, ⟨by (with_reducible repeat (first | refine blk_drewN ?_ _ | refine blk_drew ?_ | refine blk_alloc ?_ _)); exact BK454.out⟩, ⟨pc HB.out GE454.out GE462.out⟩⟩
                  ·
                   rw [if_neg c66] at H
                   exact absurd H (by simp)
             ·
              rw [if_neg c29] at H
              have c29b0 : (t460 == (rd t456 (ji26))) = false := beq_eq_false_iff_ne.mpr c29
              have c29b1 : (t460 != (rd t456 (ji26))) = true := bne_iff_ne.mpr c29
              have H' := Aside0.mk H
              clear H
              try go_wp2
              replace HO_7 := Aside0.mk (Kd.R_drew HO_7.out)
              replace HO_8 := Aside0.mk (Kd.R_drew HO_8.out)
              replace BK454 := Aside0.mk (blk_drew BK454.out)
              replace HB := Aside0.mk (below_drew1 HB.out)
              have p461 : 0 ≤ ((ji26) : Int) := od
              have q461 : (ji26) < (t456.length : Int) := od
              obtain ⟨ad461, e461, hx461_0⟩ := Kd.at_int (Kd.R_reads' HO_7.out).2.2 (ji26) p461 q461
              obtain rfl : ad459 = ad461 := (by injection e461)
              replace p461 := eq_true p461
              replace q461 := eq_true q461
              refine start_ (n := 17) (S := fun w' => w'.cell? ⟨gb454, 0, none⟩ = some (.slice A0_0 l0_0.length c0_0) ∧ w'.cell? ⟨gb454, 1, none⟩ = some (.slice A0_1 l0_1.length c0_1) ∧ w'.cell? ⟨gb454, 2, none⟩ = some (.int .i64 a0_2) ∧ w'.cell? (ad459.add ((ji26)).toNat) = some (.int .i64 (rd t456 (ji26)))) (ds := []) #[ff,ff,ff,ff,ff,ff,ff,ff,ff,ff,ff,ff,ff,ff,ff,ff,ff] (by kernel_rfl) rfl rfl ⟨(blk_cell BK454.out 0).trans rfl, (blk_cell BK454.out 1).trans rfl, (blk_cell BK454.out 2).trans rfl, hx461_0⟩ (fun hHeld => ?_); refine with_tabW emendateref36_Align.tab11 emendateref36_Align.bits11 (fun HT_ HW_ => ?_)
              generalize wr.drew = w73 at HO_7 HO_8 BK454 HB hx461_0 hHeld ⊢
              refine pu 1 39 ?_
              refine pu 2 40 ?_
              refine pu 3 41 ?_
              refine pu 4 42 ?_
              refine pu 5 43 ?_
              refine pu 6 44 ?_
              refine pu 8 46 ?_
              refine pu 9 47 ?_
              refine pu 10 48 ?_
              refine pu 11 49 ?_
              refine pu 12 50 ?_
              refine pu 13 51 ?_
              refine pu 14 52 ?_
              refine tu 0 38 hHeld ?_
              refine tu 15 53 hHeld ?_
              refine one_ (i := 7) (N := some 45) #[tt,tt,tt,tt,tt,tt,tt,tt,tt,tt,tt,tt,tt,tt,tt,tt,ff] rfl rfl (one_of HT_.out (by kernel_rfl)) (by decide) (fun K hK => ?_)
              refine goes_ Tryd.func37 (by kernel_rfl) rfl #[.agg #[.slice A0_0 l0_0.length c0_0, .slice A0_1 l0_1.length c0_1, .int .i64 a0_2], .slice A1 l1.length c1, .slice (some ad459) t456.length co19, .int .i64 (wrap64 ((l1.length : Int) + 1)), .int .i64 x9_1, .int .i64 x10_1, .int .i64 x11_3] (by rfl) rfl rfl (by (try simp only [List.map_toArray, List.map_cons, List.map_nil]); first | done | rfl | (simp only [List.length_drop, List.length_take]; rfl)) ?_
              with_reducible refine (emendateref36_step.calls k3 _ _ l0_0 _ _ l0_1 a0_2 _ _ l1 _ _ t456 (wrap64 ((l1.length : Int) + 1)) x9_1 x10_1 x11_3 t460 _ ?side1 ?side2 ?side3 ?side4 ?side5 ?side6 ?side7 ?side8 A25.out).mono ?_
              (case side1 => exact sd (Kd.C_below HR0_0.out HB.out))
              (case side2 => exact HC0_0.out)
              (case side3 => exact sd (Kd.C_below HR0_1.out HB.out))
              (case side4 => exact HC0_1.out)
              (case side5 => exact sd (Kd.C_below HR1.out HB.out))
              (case side6 => exact HC1.out)
              (case side7 => exact sd (Kd.R_reads' HO_7.out).2.2)
              (case side8 => exact (Kd.R_reads' HO_7.out).2.1)
              rintro e w74 ⟨rfl, hb⟩
              have HS3_ := (hb.cell (World.block_lt_of_cell? _ _ (hHeld.2.2.2))).trans (hHeld.2.2.2)
              refine ⟨_, rfl, ?_⟩
              replace HO_7 := Aside0.mk (Kd.R_below (pR HO_7.out) hb)
              replace HO_8 := Aside0.mk (Kd.R_below (pR HO_8.out) hb)
              replace BK454 := Aside0.mk (bb BK454.out hb)
              replace HB := Aside0.mk (below_step (pb HB.out GE454.out) hb)
              (try clear hb)
              refine hK.out _ _ ⟨(blk_cell BK454.out 0).trans rfl, (blk_cell BK454.out 1).trans rfl, (blk_cell BK454.out 2).trans rfl, HS3_⟩ (fun hHeld => ?_)
              clear hK K
              refine norm_ (a' := ?_) ?_ ?_
              rotate_left
              ·
               show Act.put _ (some 45) _ = _
               simp only [nrm]
               rfl
              refine pu 16 54 ?_
              refine done_ (done_of HT_.out (by kernel_rfl)) ?_
              try go_wp2
              go_roundg k3
              case measure => have := HK1.out; have := HJ19.out; have := HK3.out; omega
              case rel => exact ⟨(wrap64 (x11_3 + 1)), rr, H', ⟨by have := HK1.out; have := HJ19.out; have := HK3.out; omega⟩, ⟨by (with_reducible repeat (first | apply Kd.R_alloc | apply Kd.R_drewN | apply Kd.R_drew)); exact HO_7.out⟩, ⟨by (with_reducible repeat (first | apply Kd.R_alloc | apply Kd.R_drewN | apply Kd.R_drew)); exact HO_8.out⟩, ⟨by (with_reducible repeat (first | refine blk_drewN ?_ _ | refine blk_drew ?_ | refine blk_alloc ?_ _)); exact BK454.out⟩, ⟨pb HB.out GE454.out⟩⟩
            ·
             rw [if_neg c28] at H
             exact absurd H (by simp)
           ·
            rw [if_neg c27] at H
            exact absurd H (by simp)
        ·
         replace c24 := Bool.eq_false_iff.mpr c24
         subst c24
         have H1 : (some (x8_1, 0)) = some (r1, r2) := by rw [if_neg (show ¬ (false = true) by decide)] at H; exact H
         clear H
         have H := H1
         clear H1
         simp only [Option.some.injEq, Prod.mk.injEq] at H
         obtain ⟨rfl, rfl⟩ := H
         go_wp2
         go_ret2
         exact ⟨_, er, by (with_reducible repeat (first | apply Kd.R_alloc | apply Kd.R_drewN | apply Kd.R_drew)); exact HO_8.out, pb HB.out GE454.out⟩
  ·
   rw [if_neg c6] at H
   exact absurd H (by simp)
 ·
  replace c4 := Bool.eq_false_iff.mpr c4
  subst c4
  have H1 : (some (([] : List (S49)), 1)) = some (r1, r2) := by rw [if_neg (show ¬ (false = true) by decide)] at H; exact H
  clear H
  have H := H1
  clear H1
  simp only [Option.some.injEq, Prod.mk.injEq] at H
  obtain ⟨rfl, rfl⟩ := H
  go_enter Tryd.func23, Tryd.ntmps23
  go_wp2_with (first | ((with_reducible refine gate_dst (N := 2) rfl ?_); (try (refine gate_guard (by rfl) ?_; dsimp only)); refine box_event ?hg (N := 2) ?hd (cs := #[.slice A0_0 l0_0.length c0_0, .slice A0_1 l0_1.length c0_1, .int .i64 a0_2]) (t := 25) ?hr ?_; (case hd => rfl); (case hg => rfl); (case hr => first | (go_simp; done) | (go_simp; rfl)); intro gb454 hg w75 hbox hb; have n0_ := Aside0.mk (below_step (pB HB.out) hb); have n1_ := Aside0.mk (hbox); have n2_ := Aside0.mk ((by rw [hg]; exact (below_size (pB HB.out)) : w.heap.size ≤ gb454)); have n3_ := Aside0.mk ((by rw [hg]; exact (below_size (pB HB.out)) : w.heap.size ≤ gb454)); clear HB; have HB := n0_; have BK454 := n1_; have GW454 := n2_; have GE454 := n3_; clear n0_ n1_ n2_ n3_; clear hb hbox hg; obtain ⟨hcz76_0, hcz76_1, hcz76_2, hfz76_0, hfz76_1, hfz76_2⟩ := cz3 BK454.out) | ((with_reducible refine gate_callee (f := 22) rfl ?_); refine gl (some 15) Tryd.func22 #[.agg #[.slice A0_0 l0_0.length c0_0, .slice A0_1 l0_1.length c0_1, .int .i64 a0_2], .slice A1 l1.length c1] ?_; (with_reducible refine (emendateref36_Terminals.calls k _ _ l0_0 _ _ l0_1 a0_2 _ _ l1 false _ ?side1 ?side2 ?side3 ?side4 ?side5 ?side6 A3.out).mono ?_); (case side1 => exact sd (Kd.C_below HR0_0.out HB.out)); (case side2 => exact HC0_0.out); (case side3 => exact sd (Kd.C_below HR0_1.out HB.out)); (case side4 => exact HC0_1.out); (case side5 => exact sd (Kd.C_below HR1.out HB.out)); (case side6 => exact HC1.out); rintro e w77 ⟨rfl, hb⟩; refine ⟨_, rfl, ?_⟩; replace BK454 := Aside0.mk (bb BK454.out hb); replace HB := Aside0.mk (below_step (pb HB.out GE454.out) hb); (try clear hb)))
  go_ret2
  exact ⟨_, er, by first | exact Kd.R_nil _ _ _ _ _ | exact Kd.N_nil _ _ _ _ _ | exact Kd.V_nil _ _ _ _ _ | exact Kd.Q_nil _ _ _ _ _ | exact Kd.S_nil _ _ _ _ _, pb HB.out GE454.out⟩

end Go.Proofs.YtnddijafdphbnaaDoor.All
