-- Printed by wip/tools/wprint.py (a program of this session over the kit's printer). Not trusted: Lean checks it.
import Derived.Test.YtnddijafdphbnaaDoorAllSt
import Derived.Test.YtnddijafdphbnaaDoorAllx3
import Derived.Test.YtnddijafdphbnaaDoorAllx5
import Derived.Test.YtnddijafdphbnaaDoorAllx7
namespace Go.Proofs.YtnddijafdphbnaaDoor.All
open Go.RowKit Go.Proofs.YtnddijafdphbnaaDoorW.PrintWords Go.Proofs.YtnddijafdphbnaaDoorW.PrintLast Go.Proofs.YtnddijafdphbnaaDoorW.PrintMore
attribute [local go_sem] max2_int min2_int max_two min_two max_three min_three max_four min_four   -- for this text's walks alone
set_option linter.unusedVariables false
set_option linter.unusedSimpArgs false

/-! ### editscript_Align: function 21 -/
mutual
def editscript_Align.l0 : Nat → List Int → List (List Int) → List (S49) → Int → Int → List (S33) → List Int → Int → Option ((List (S49)) × Int)
 | 0, _, _, _, _, _, _, _, _ => none
 | k + 1, x1, x6, x7, x8, x9, x175000, x175001, x175002 => if x8 < (x175000.length : Int) then (editscript_Align.j1 k x1 x6 x7 x8 x9 true x175000 x175001 x175002) else (editscript_Align.j1 k x1 x6 x7 x8 x9 (decide (x9 < (x1.length : Int))) x175000 x175001 x175002)
def editscript_Align.j1 : Nat → List Int → List (List Int) → List (S49) → Int → Int → Bool → List (S33) → List Int → Int → Option ((List (S49)) × Int)
 | 0, _, _, _, _, _, _, _, _, _ => none
 | k + 1, x1, x6, x7, x8, x9, x35, x175000, x175001, x175002 => if x35 = true then ((editscript_steps.f k x175000 x175001 x175002 x1 x8 x9).bind fun t181 => (editscript_Align.l1 k x1 x6 x7 x8 x9 t181 (t181.length : Int) 0 x175000 x175001 x175002)) else (some (x7, 0))
def editscript_Align.l1 : Nat → List Int → List (List Int) → List (S49) → Int → Int → List (S64) → Int → Int → List (S33) → List Int → Int → Option ((List (S49)) × Int)
 | 0, _, _, _, _, _, _, _, _, _, _, _ => none
 | k + 1, x1, x6, x7, x8, x9, x40, x41, x42, x175000, x175001, x175002 => if x42 < x41 then (if 0 ≤ x42 then (if x42 < (x40.length : Int) then (if 0 ≤ (wrap64 (x8 + ((rd_T64 x40 x42).f2))) then (if (wrap64 (x8 + ((rd_T64 x40 x42).f2))) < (x6.length : Int) then (if 0 ≤ (wrap64 (x9 + ((rd_T64 x40 x42).f3))) then (if (wrap64 (x9 + ((rd_T64 x40 x42).f3))) < ((rd_L1 x6 (wrap64 (x8 + ((rd_T64 x40 x42).f2)))).length : Int) then ((editscript_add.f ((rd_T64 x40 x42).f1) (rd (rd_L1 x6 (wrap64 (x8 + ((rd_T64 x40 x42).f2)))) (wrap64 (x9 + ((rd_T64 x40 x42).f3))))).bind fun t188 => (if 0 ≤ x8 then (if x8 < (x6.length : Int) then (if 0 ≤ x9 then (if x9 < ((rd_L1 x6 x8).length : Int) then (if t188 = (rd (rd_L1 x6 x8) x9) then (if x7.length < 8796093022208 then (editscript_Align.l0 k x1 x6 (x7 ++ [(⟨(rd_T64 x40 x42).f0.f0, (rd_T64 x40 x42).f0.f1⟩ : S49)]) (wrap64 (x8 + ((rd_T64 x40 x42).f2))) (wrap64 (x9 + ((rd_T64 x40 x42).f3))) x175000 x175001 x175002) else (none)) else (editscript_Align.l1 k x1 x6 x7 x8 x9 x40 x41 (wrap64 (x42 + 1)) x175000 x175001 x175002)) else (none)) else (none)) else (none)) else (none))) else (none)) else (none)) else (none)) else (none)) else (none)) else (none)) else (editscript_Align.l0 k x1 x6 x7 x8 x9 x175000 x175001 x175002)
end
def editscript_Align.f (k : Nat) (l0_0 : List (S33)) (l0_1 : List Int) (a0_2 : Int) (l1 : List Int) : Option ((List (S49)) × Int) := (editscript_proper.f k l0_0 l0_1 a0_2 l1).bind fun t175 => (if t175 = true then ((editscript_table.f k l0_0 l0_1 a0_2 l1).bind fun t176 => (if 0 < (t176.length : Int) then (if 0 < ((rd_L1 t176 0).length : Int) then (if (rd (rd_L1 t176 0) 0) ≥ 1099511627776 then (some (([] : List (S49)), 6)) else (editscript_Align.l0 k l1 t176 ([] : List (S49)) 0 0 l0_0 l0_1 a0_2)) else (none)) else (none))) else (some (([] : List (S49)), 1)))
theorem editscript_Align.mono_l : ∀ k, (∀ y0 y1 y2 y3 y4 y5 y6 y7, LeO (editscript_Align.l0 k y0 y1 y2 y3 y4 y5 y6 y7) (editscript_Align.l0 (k + 1) y0 y1 y2 y3 y4 y5 y6 y7)) ∧ (∀ y0 y1 y2 y3 y4 y5 y6 y7 y8, LeO (editscript_Align.j1 k y0 y1 y2 y3 y4 y5 y6 y7 y8) (editscript_Align.j1 (k + 1) y0 y1 y2 y3 y4 y5 y6 y7 y8)) ∧ (∀ y0 y1 y2 y3 y4 y5 y6 y7 y8 y9 y10, LeO (editscript_Align.l1 k y0 y1 y2 y3 y4 y5 y6 y7 y8 y9 y10) (editscript_Align.l1 (k + 1) y0 y1 y2 y3 y4 y5 y6 y7 y8 y9 y10))
 | 0 => ⟨fun _ _ _ _ _ _ _ _ r h => by simp [editscript_Align.l0] at h, fun _ _ _ _ _ _ _ _ _ r h => by simp [editscript_Align.j1] at h, fun _ _ _ _ _ _ _ _ _ _ _ r h => by simp [editscript_Align.l1] at h⟩
 | k + 1 => by
  obtain ⟨ih0, ih1, ih2⟩ := editscript_Align.mono_l k
  refine ⟨?_, ?_, ?_⟩
  ·
   intro y0 y1 y2 y3 y4 y5 y6 y7
   unfold editscript_Align.l0
   repeat' first
   | (with_reducible exact ih0 _ _ _ _ _ _ _ _)
   | (with_reducible exact ih1 _ _ _ _ _ _ _ _ _)
   | (with_reducible exact ih2 _ _ _ _ _ _ _ _ _ _ _)
   | (with_reducible exact editscript_proper.mono _ _ _ _ _)
   | (with_reducible exact editscript_steps.mono _ _ _ _ _ _ _)
   | (with_reducible exact editscript_table.mono _ _ _ _ _)
   | (with_reducible exact LeO.refl _)
   | (with_reducible exact LeO.none _)
   | (with_reducible refine LeO.ite ?_ ?_)
   | (with_reducible refine LeO.bind ?_ (fun _ => ?_))
   | exact ih0 _ _ _ _ _ _ _ _
   | exact ih1 _ _ _ _ _ _ _ _ _
   | exact ih2 _ _ _ _ _ _ _ _ _ _ _
   | exact editscript_proper.mono _ _ _ _ _
   | exact editscript_steps.mono _ _ _ _ _ _ _
   | exact editscript_table.mono _ _ _ _ _
   | exact LeO.none _
   | refine LeO.ite ?_ ?_
   | refine LeO.bind ?_ (fun _ => ?_)
  ·
   intro y0 y1 y2 y3 y4 y5 y6 y7 y8
   unfold editscript_Align.j1
   repeat' first
   | (with_reducible exact ih0 _ _ _ _ _ _ _ _)
   | (with_reducible exact ih1 _ _ _ _ _ _ _ _ _)
   | (with_reducible exact ih2 _ _ _ _ _ _ _ _ _ _ _)
   | (with_reducible exact editscript_proper.mono _ _ _ _ _)
   | (with_reducible exact editscript_steps.mono _ _ _ _ _ _ _)
   | (with_reducible exact editscript_table.mono _ _ _ _ _)
   | (with_reducible exact LeO.refl _)
   | (with_reducible exact LeO.none _)
   | (with_reducible refine LeO.ite ?_ ?_)
   | (with_reducible refine LeO.bind ?_ (fun _ => ?_))
   | exact ih0 _ _ _ _ _ _ _ _
   | exact ih1 _ _ _ _ _ _ _ _ _
   | exact ih2 _ _ _ _ _ _ _ _ _ _ _
   | exact editscript_proper.mono _ _ _ _ _
   | exact editscript_steps.mono _ _ _ _ _ _ _
   | exact editscript_table.mono _ _ _ _ _
   | exact LeO.none _
   | refine LeO.ite ?_ ?_
   | refine LeO.bind ?_ (fun _ => ?_)
  ·
   intro y0 y1 y2 y3 y4 y5 y6 y7 y8 y9 y10
   unfold editscript_Align.l1
   repeat' first
   | (with_reducible exact ih0 _ _ _ _ _ _ _ _)
   | (with_reducible exact ih1 _ _ _ _ _ _ _ _ _)
   | (with_reducible exact ih2 _ _ _ _ _ _ _ _ _ _ _)
   | (with_reducible exact editscript_proper.mono _ _ _ _ _)
   | (with_reducible exact editscript_steps.mono _ _ _ _ _ _ _)
   | (with_reducible exact editscript_table.mono _ _ _ _ _)
   | (with_reducible exact LeO.refl _)
   | (with_reducible exact LeO.none _)
   | (with_reducible refine LeO.ite ?_ ?_)
   | (with_reducible refine LeO.bind ?_ (fun _ => ?_))
   | exact ih0 _ _ _ _ _ _ _ _
   | exact ih1 _ _ _ _ _ _ _ _ _
   | exact ih2 _ _ _ _ _ _ _ _ _ _ _
   | exact editscript_proper.mono _ _ _ _ _
   | exact editscript_steps.mono _ _ _ _ _ _ _
   | exact editscript_table.mono _ _ _ _ _
   | exact LeO.none _
   | refine LeO.ite ?_ ?_
   | refine LeO.bind ?_ (fun _ => ?_)
theorem editscript_Align.mono : ∀ a0 a1 a2 a3 k, LeO (editscript_Align.f k a0 a1 a2 a3) (editscript_Align.f (k + 1) a0 a1 a2 a3) := by
 intro a0 a1 a2 a3 k
 obtain ⟨ih0, ih1, ih2⟩ := editscript_Align.mono_l k
 unfold editscript_Align.f
 repeat' first
   | (with_reducible exact ih0 _ _ _ _ _ _ _ _)
   | (with_reducible exact ih1 _ _ _ _ _ _ _ _ _)
   | (with_reducible exact ih2 _ _ _ _ _ _ _ _ _ _ _)
   | (with_reducible exact editscript_proper.mono _ _ _ _ _)
   | (with_reducible exact editscript_steps.mono _ _ _ _ _ _ _)
   | (with_reducible exact editscript_table.mono _ _ _ _ _)
   | (with_reducible exact LeO.refl _)
   | (with_reducible exact LeO.none _)
   | (with_reducible refine LeO.ite ?_ ?_)
   | (with_reducible refine LeO.bind ?_ (fun _ => ?_))
   | exact ih0 _ _ _ _ _ _ _ _
   | exact ih1 _ _ _ _ _ _ _ _ _
   | exact ih2 _ _ _ _ _ _ _ _ _ _ _
   | exact editscript_proper.mono _ _ _ _ _
   | exact editscript_steps.mono _ _ _ _ _ _ _
   | exact editscript_table.mono _ _ _ _ _
   | exact LeO.none _
   | refine LeO.ite ?_ ?_
   | refine LeO.bind ?_ (fun _ => ?_)
def editscript_Align.T12 : Bool × List (List Nat × List Nat) := (true, [([], []), ([0], [0]), ([], []), ([], []), ([], []), ([4], [4]), ([3, 5], [3, 5]), ([2, 6], [2, 6]), ([7], [7]), ([], []), ([], []), ([10], [10]), ([9, 11], [9, 11]), ([8, 12], [8, 12]), ([13], [13]), ([1, 14], [1, 14]), ([], []), ([], []), ([16, 17], [16, 17]), ([18], [18]), ([], []), ([19, 20], [19, 20]), ([21], [21]), ([15, 22], [15, 22])])
def editscript_Align.B12 : List Nat := [0, 1, 0, 0, 0, 16, 56, 124, 252, 0, 0, 1024, 3584, 8188, 16380, 32767, 0, 0, 196608, 458752, 0, 2031616, 4128768, 8388607]
theorem editscript_Align.tab12 : rtab .any (opsOf Tryd.f21 12) = editscript_Align.T12 := by kernel_rfl
theorem editscript_Align.bits12 : waitsOk editscript_Align.T12.2 editscript_Align.B12 = true := by kernel_rfl
def editscript_Align.T14 : Bool × List (List Nat × List Nat) := (true, [([], []), ([], []), ([1], [1]), ([0, 2], [0, 2]), ([], []), ([], []), ([5], [5]), ([4, 6], [4, 6]), ([3, 0, 1, 2, 3], [0, 3]), ([7, 8, 0, 1, 2, 3, 4, 5, 6, 7, 8], [4, 7])])
def editscript_Align.B14 : List Nat := [0, 0, 2, 7, 0, 0, 32, 112, 15, 511]
theorem editscript_Align.tab14 : rtab .any (opsOf Tryd.f21 14) = editscript_Align.T14 := by kernel_rfl
theorem editscript_Align.bits14 : waitsOk editscript_Align.T14.2 editscript_Align.B14 = true := by kernel_rfl
set_option maxHeartbeats 8000000 in
set_option maxRecDepth 100000 in
theorem editscript_Align.calls (k : Nat) (A0_0 : Option Addr) (c0_0 : Nat) (l0_0 : List (S33)) (A0_1 : Option Addr) (c0_1 : Nat) (l0_1 : List Int) (a0_2 : Int) (A1 : Option Addr) (c1 : Nat) (l1 : List Int) (r1 : List (S49)) (r2 : Int) (w : World) (hr0_0 : Kd.C k33 w A0_0 l0_0.length l0_0) (hc0_0 : l0_0.length ≤ c0_0) (hr0_1 : Kd.C (Kd.int .i64) w A0_1 l0_1.length l0_1) (hc0_1 : l0_1.length ≤ c0_1) (hr1 : Kd.C (Kd.int .i64) w A1 l1.length l1) (hc1 : l1.length ≤ c1) (h : editscript_Align.f k l0_0 l0_1 a0_2 l1 = some (r1, r2)) :
  Calls Tryd.prog 21 #[.agg #[.slice A0_0 l0_0.length c0_0, .slice A0_1 l0_1.length c0_1, .int .i64 a0_2], .slice A1 l1.length c1] w fun e w' => ∃ v0_ : Value, e = .returned (.tuple #[v0_, .int .i64 r2]) ∧ Kd.R k49 49 w' w.heap.size (fun _ => True) v0_ r1 ∧ Below w.heap.size w w' := by
 have hu25 := Tryd.underlying25
 have hu64 := Tryd.underlying64
 have hu49 := Tryd.underlying49
 have HR0_0 := Aside0.mk hr0_0
 have HC0_0 := Aside0.mk hc0_0
 clear hr0_0 hc0_0
 have HR0_1 := Aside0.mk hr0_1
 have HC0_1 := Aside0.mk hc0_1
 clear hr0_1 hc0_1
 have HR1 := Aside0.mk hr1
 have HC1 := Aside0.mk hc1
 clear hr1 hc1
 have HB := Aside0.mk (Below.refl w.heap.size w)
 have H : ((editscript_proper.f k l0_0 l0_1 a0_2 l1).bind fun t175 => (if t175 = true then ((editscript_table.f k l0_0 l0_1 a0_2 l1).bind fun t176 => (if 0 < (t176.length : Int) then (if 0 < ((rd_L1 t176 0).length : Int) then (if (rd (rd_L1 t176 0) 0) ≥ 1099511627776 then (some (([] : List (S49)), 6)) else (editscript_Align.l0 k l1 t176 ([] : List (S49)) 0 0 l0_0 l0_1 a0_2)) else (none)) else (none))) else (some (([] : List (S49)), 1)))) = some (r1, r2) := h
 clear h
 replace H := Option.bind_eq_some_iff.mp H
 obtain ⟨t175, A30, H⟩ := H
 replace H : (if t175 = true then ((editscript_table.f k l0_0 l0_1 a0_2 l1).bind fun t176 => (if 0 < (t176.length : Int) then (if 0 < ((rd_L1 t176 0).length : Int) then (if (rd (rd_L1 t176 0) 0) ≥ 1099511627776 then (some (([] : List (S49)), 6)) else (editscript_Align.l0 k l1 t176 ([] : List (S49)) 0 0 l0_0 l0_1 a0_2)) else (none)) else (none))) else (some (([] : List (S49)), 1))) = some (r1, r2) := H
 have A3 := Aside0.mk A30
 clear A30
 by_cases c4 : t175 = true
 ·
  subst c4
  have H1 : ((editscript_table.f k l0_0 l0_1 a0_2 l1).bind fun t176 => (if 0 < (t176.length : Int) then (if 0 < ((rd_L1 t176 0).length : Int) then (if (rd (rd_L1 t176 0) 0) ≥ 1099511627776 then (some (([] : List (S49)), 6)) else (editscript_Align.l0 k l1 t176 ([] : List (S49)) 0 0 l0_0 l0_1 a0_2)) else (none)) else (none))) = some (r1, r2) := by rw [if_pos rfl] at H; exact H
  clear H
  have H := H1
  clear H1
  replace H := Option.bind_eq_some_iff.mp H
  obtain ⟨t176, A50, H⟩ := H
  replace H : (if 0 < (t176.length : Int) then (if 0 < ((rd_L1 t176 0).length : Int) then (if (rd (rd_L1 t176 0) 0) ≥ 1099511627776 then (some (([] : List (S49)), 6)) else (editscript_Align.l0 k l1 t176 ([] : List (S49)) 0 0 l0_0 l0_1 a0_2)) else (none)) else (none)) = some (r1, r2) := H
  have A5 := Aside0.mk A50
  clear A50
  by_cases c6 : 0 < (t176.length : Int)
  ·
   rw [if_pos c6] at H
   have c6b0 : decide (0 < (t176.length : Int)) = true := decide_eq_true c6
   have c6b1 : decide (0 < t176.length) = true := decide_eq_true (by omega)
   clear c6
   by_cases c7 : 0 < ((rd_L1 t176 0).length : Int)
   ·
    rw [if_pos c7] at H
    have c7b0 : decide (0 < ((rd_L1 t176 0).length : Int)) = true := decide_eq_true c7
    have c7b1 : decide (0 < (rd_L1 t176 0).length) = true := decide_eq_true (by omega)
    clear c7
    by_cases c8 : (rd (rd_L1 t176 0) 0) ≥ 1099511627776
    ·
     rw [if_pos c8] at H
     have c8b0 : decide (1099511627776 ≤ (rd (rd_L1 t176 0) 0)) = true := decide_eq_true c8
     clear c8
     simp only [Option.some.injEq, Prod.mk.injEq] at H
     obtain ⟨rfl, rfl⟩ := H
     go_enter Tryd.func21, Tryd.ntmps21
     go_wp2_with (first | ((with_reducible refine gate_dst (N := 2) rfl ?_); (try (refine gate_guard (by rfl) ?_; dsimp only)); refine box_event ?hg (N := 2) ?hd (cs := #[.slice A0_0 l0_0.length c0_0, .slice A0_1 l0_1.length c0_1, .int .i64 a0_2]) (t := 25) ?hr ?_; (case hd => rfl); (case hg => rfl); (case hr => first | (go_simp; done) | (go_simp; rfl)); intro gb174 hg w9 hbox hb; have n0_ := Aside0.mk (below_step (pB HB.out) hb); have n1_ := Aside0.mk (hbox); have n2_ := Aside0.mk ((by rw [hg]; exact (below_size (pB HB.out)) : w.heap.size ≤ gb174)); have n3_ := Aside0.mk ((by rw [hg]; exact (below_size (pB HB.out)) : w.heap.size ≤ gb174)); clear HB; have HB := n0_; have BK174 := n1_; have GW174 := n2_; have GE174 := n3_; clear n0_ n1_ n2_ n3_; clear hb hbox hg; obtain ⟨hcz10_0, hcz10_1, hcz10_2, hfz10_0, hfz10_1, hfz10_2⟩ := cz3 BK174.out) | ((with_reducible refine gate_callee (f := 29) rfl ?_); refine gl (some 14) Tryd.func29 #[.agg #[.slice A0_0 l0_0.length c0_0, .slice A0_1 l0_1.length c0_1, .int .i64 a0_2], .slice A1 l1.length c1] ?_; (with_reducible refine (editscript_proper.calls k _ _ l0_0 _ _ l0_1 a0_2 _ _ l1 true _ ?side1 ?side2 ?side3 ?side4 ?side5 ?side6 A3.out).mono ?_); (case side1 => exact sd (Kd.C_below HR0_0.out HB.out)); (case side2 => exact HC0_0.out); (case side3 => exact sd (Kd.C_below HR0_1.out HB.out)); (case side4 => exact HC0_1.out); (case side5 => exact sd (Kd.C_below HR1.out HB.out)); (case side6 => exact HC1.out); rintro e w11 ⟨rfl, hb⟩; refine ⟨_, rfl, ?_⟩; replace BK174 := Aside0.mk (bb BK174.out hb); replace HB := Aside0.mk (below_step (pb HB.out GE174.out) hb); (try clear hb); obtain ⟨hcz12_0, hcz12_1, hcz12_2, hfz12_0, hfz12_1, hfz12_2⟩ := cz3 BK174.out) | ((with_reducible refine gate_callee (f := 30) rfl ?_); refine gl (some 18) Tryd.func30 #[.agg #[.slice A0_0 l0_0.length c0_0, .slice A0_1 l0_1.length c0_1, .int .i64 a0_2], .slice A1 l1.length c1] ?_; (with_reducible refine (editscript_table.calls k _ _ l0_0 _ _ l0_1 a0_2 _ _ l1 t176 _ ?side1 ?side2 ?side3 ?side4 ?side5 ?side6 A5.out).mono ?_); (case side1 => exact sd (Kd.C_below HR0_0.out HB.out)); (case side2 => exact HC0_0.out); (case side3 => exact sd (Kd.C_below HR0_1.out HB.out)); (case side4 => exact HC0_1.out); (case side5 => exact sd (Kd.C_below HR1.out HB.out)); (case side6 => exact HC1.out); rintro e w13 ⟨v177, rfl, ho0, hb⟩; refine ⟨_, rfl, ?_⟩; have HO178 := Aside0.mk (Kd.S_lower ho0 (below_size (pb HB.out GE174.out))); replace BK174 := Aside0.mk (bb BK174.out hb); replace HB := Aside0.mk (below_step (pb HB.out GE174.out) hb); (try clear hb); (try clear ho0); obtain ⟨Ao14, co14, eo14⟩ := Kd.S_slice HO178.out; subst eo14; have p179 : 0 ≤ (0 : Int) := (by omega); have q179 : 0 < (t176.length : Int) := od; obtain ⟨ad179, A179_0, c179_0, e179, hx179_0, hl179_0, hi179_0⟩ := at_L1 (Kd.S_reads' HO178.out).2.2 0 p179 q179; cases e179; obtain ⟨ce179, hce179, hMe179, hcc179⟩ := Kd.S_get HO178.out [] 0 p179 (by first | exact q179 | exact od | (have e_ := (Kd.S_reads' HO178.out).1; omega)); obtain ⟨ve179_0, rfl, ge179_0⟩ := hMe179; have hv179_0 := hcc179 0 _ rfl; rw [Nat.add_zero, show ((Kd.slice 3 (Kd.int .i64))).sz = 1 from rfl, Nat.mul_one] at hv179_0; replace hv179_0 := Option.some.inj (hv179_0.symm.trans hx179_0); rw [hv179_0] at ge179_0; have HL179_0 := Aside0.mk (show Kd.R (Kd.int .i64) 3 _ _ _ _ (rd_L1 t176 0) from ge179_0); clear hv179_0 ge179_0; clear hcc179 hce179; have qi179 : (0 < t176.length) = True := eq_true (by omega); (try rw [show ((0 : Int)).toNat = 0 from rfl] at hx179_0); (try rw [Addr.add_zero'] at hx179_0); have HR179_0 := Aside0.mk hi179_0; have HC179_0 := Aside0.mk hl179_0; clear hi179_0 hl179_0; replace p179 := eq_true p179; replace q179 := eq_true q179; have p180 : 0 ≤ (0 : Int) := (by omega); have q180 : 0 < ((rd_L1 t176 0).length : Int) := od; obtain ⟨ad180, e180, hx180_0⟩ := Kd.at_int (by repeat (first | (with_reducible exact HR179_0.out) | (with_reducible refine Kd.C_alloc ?_ _) | (with_reducible refine Kd.C_drewN ?_ _) | (with_reducible refine Kd.C_drew ?_) | exact HR179_0.out)) 0 p180 q180; cases e180; have qi180 : (0 < (rd_L1 t176 0).length) = True := eq_true (by omega); (try rw [show ((0 : Int)).toNat = 0 from rfl] at hx180_0); (try rw [Addr.add_zero'] at hx180_0); replace p180 := eq_true p180; replace q180 := eq_true q180))
     go_ret2
     exact ⟨_, er, by first | exact Kd.R_nil _ _ _ _ _ | exact Kd.N_nil _ _ _ _ _ | exact Kd.V_nil _ _ _ _ _ | exact Kd.Q_nil _ _ _ _ _ | exact Kd.S_nil _ _ _ _ _, pb HB.out GE174.out⟩
    ·
     rw [if_neg c8] at H
     have c8b0 : decide (1099511627776 ≤ (rd (rd_L1 t176 0) 0)) = false := decide_eq_false c8
     clear c8
     have H' := Aside0.mk H
     clear H
     go_enter Tryd.func21, Tryd.ntmps21
     go_wp2_with (first | ((with_reducible refine gate_dst (N := 2) rfl ?_); (try (refine gate_guard (by rfl) ?_; dsimp only)); refine box_event ?hg (N := 2) ?hd (cs := #[.slice A0_0 l0_0.length c0_0, .slice A0_1 l0_1.length c0_1, .int .i64 a0_2]) (t := 25) ?hr ?_; (case hd => rfl); (case hg => rfl); (case hr => first | (go_simp; done) | (go_simp; rfl)); intro gb174 hg w15 hbox hb; have n0_ := Aside0.mk (below_step (pB HB.out) hb); have n1_ := Aside0.mk (hbox); have n2_ := Aside0.mk ((by rw [hg]; exact (below_size (pB HB.out)) : w.heap.size ≤ gb174)); have n3_ := Aside0.mk ((by rw [hg]; exact (below_size (pB HB.out)) : w.heap.size ≤ gb174)); clear HB; have HB := n0_; have BK174 := n1_; have GW174 := n2_; have GE174 := n3_; clear n0_ n1_ n2_ n3_; clear hb hbox hg; obtain ⟨hcz16_0, hcz16_1, hcz16_2, hfz16_0, hfz16_1, hfz16_2⟩ := cz3 BK174.out) | ((with_reducible refine gate_callee (f := 29) rfl ?_); refine gl (some 14) Tryd.func29 #[.agg #[.slice A0_0 l0_0.length c0_0, .slice A0_1 l0_1.length c0_1, .int .i64 a0_2], .slice A1 l1.length c1] ?_; (with_reducible refine (editscript_proper.calls k _ _ l0_0 _ _ l0_1 a0_2 _ _ l1 true _ ?side1 ?side2 ?side3 ?side4 ?side5 ?side6 A3.out).mono ?_); (case side1 => exact sd (Kd.C_below HR0_0.out HB.out)); (case side2 => exact HC0_0.out); (case side3 => exact sd (Kd.C_below HR0_1.out HB.out)); (case side4 => exact HC0_1.out); (case side5 => exact sd (Kd.C_below HR1.out HB.out)); (case side6 => exact HC1.out); rintro e w17 ⟨rfl, hb⟩; refine ⟨_, rfl, ?_⟩; replace BK174 := Aside0.mk (bb BK174.out hb); replace HB := Aside0.mk (below_step (pb HB.out GE174.out) hb); (try clear hb); obtain ⟨hcz18_0, hcz18_1, hcz18_2, hfz18_0, hfz18_1, hfz18_2⟩ := cz3 BK174.out) | ((with_reducible refine gate_callee (f := 30) rfl ?_); refine gl (some 18) Tryd.func30 #[.agg #[.slice A0_0 l0_0.length c0_0, .slice A0_1 l0_1.length c0_1, .int .i64 a0_2], .slice A1 l1.length c1] ?_; (with_reducible refine (editscript_table.calls k _ _ l0_0 _ _ l0_1 a0_2 _ _ l1 t176 _ ?side1 ?side2 ?side3 ?side4 ?side5 ?side6 A5.out).mono ?_); (case side1 => exact sd (Kd.C_below HR0_0.out HB.out)); (case side2 => exact HC0_0.out); (case side3 => exact sd (Kd.C_below HR0_1.out HB.out)); (case side4 => exact HC0_1.out); (case side5 => exact sd (Kd.C_below HR1.out HB.out)); (case side6 => exact HC1.out); rintro e w19 ⟨v177, rfl, ho0, hb⟩; refine ⟨_, rfl, ?_⟩; have HO178 := Aside0.mk (Kd.S_lower ho0 (below_size (pb HB.out GE174.out))); replace BK174 := Aside0.mk (bb BK174.out hb); replace HB := Aside0.mk (below_step (pb HB.out GE174.out) hb); (try clear hb); (try clear ho0); obtain ⟨Ao20, co20, eo20⟩ := Kd.S_slice HO178.out; subst eo20; have p179 : 0 ≤ (0 : Int) := (by omega); have q179 : 0 < (t176.length : Int) := od; obtain ⟨ad179, A179_0, c179_0, e179, hx179_0, hl179_0, hi179_0⟩ := at_L1 (Kd.S_reads' HO178.out).2.2 0 p179 q179; cases e179; obtain ⟨ce179, hce179, hMe179, hcc179⟩ := Kd.S_get HO178.out [] 0 p179 (by first | exact q179 | exact od | (have e_ := (Kd.S_reads' HO178.out).1; omega)); obtain ⟨ve179_0, rfl, ge179_0⟩ := hMe179; have hv179_0 := hcc179 0 _ rfl; rw [Nat.add_zero, show ((Kd.slice 3 (Kd.int .i64))).sz = 1 from rfl, Nat.mul_one] at hv179_0; replace hv179_0 := Option.some.inj (hv179_0.symm.trans hx179_0); rw [hv179_0] at ge179_0; have HL179_0 := Aside0.mk (show Kd.R (Kd.int .i64) 3 _ _ _ _ (rd_L1 t176 0) from ge179_0); clear hv179_0 ge179_0; clear hcc179 hce179; have qi179 : (0 < t176.length) = True := eq_true (by omega); (try rw [show ((0 : Int)).toNat = 0 from rfl] at hx179_0); (try rw [Addr.add_zero'] at hx179_0); have HR179_0 := Aside0.mk hi179_0; have HC179_0 := Aside0.mk hl179_0; clear hi179_0 hl179_0; replace p179 := eq_true p179; replace q179 := eq_true q179; have p180 : 0 ≤ (0 : Int) := (by omega); have q180 : 0 < ((rd_L1 t176 0).length : Int) := od; obtain ⟨ad180, e180, hx180_0⟩ := Kd.at_int (by repeat (first | (with_reducible exact HR179_0.out) | (with_reducible refine Kd.C_alloc ?_ _) | (with_reducible refine Kd.C_drewN ?_ _) | (with_reducible refine Kd.C_drew ?_) | exact HR179_0.out)) 0 p180 q180; cases e180; have qi180 : (0 < (rd_L1 t176 0).length) = True := eq_true (by omega); (try rw [show ((0 : Int)).toNat = 0 from rfl] at hx180_0); (try rw [Addr.add_zero'] at hx180_0); replace p180 := eq_true p180; replace q180 := eq_true q180))
     go_loopg [7, 8, 9] k (fun kq v7 v8 v9 w' => ∃ (x7_1 : List (S49)) (x8_1 : Int) (x9_1 : Int), v8 = .int .i64 x8_1 ∧ v9 = .int .i64 x9_1 ∧ Aside0 (editscript_Align.l0 kq l1 t176 x7_1 x8_1 x9_1 l0_0 l0_1 a0_2 = some (r1, r2)) ∧ Aside0 (kq ≤ k) ∧ Aside0 (Kd.S (Kd.slice 3 (Kd.int .i64)) 23 w' w.heap.size (fun _ => True) (.slice (some ad179) t176.length co20) t176) ∧ Aside0 (Kd.R k49 49 w' w.heap.size (fun _ => True) v7 x7_1) ∧ Aside0 (w'.heap[gb174]? = some (.cells #[(.slice A0_0 l0_0.length c0_0), (.slice A0_1 l0_1.length c0_1), .int .i64 a0_2] 25 (0, 0))) ∧ Aside0 (Below w.heap.size w w'))
     case atStart => exact ⟨(([] : List (S49))), (0), (0), rr, rr, H', ⟨Nat.le_refl _⟩, ⟨by (with_reducible repeat (first | apply Kd.S_alloc | apply Kd.S_drewN | apply Kd.S_drew)); exact HO178.out⟩, ⟨by first | exact Kd.R_nil _ _ _ _ _ | exact Kd.N_nil _ _ _ _ _ | exact Kd.V_nil _ _ _ _ _ | exact Kd.Q_nil _ _ _ _ _ | exact Kd.S_nil _ _ _ _ _⟩, ⟨by (with_reducible repeat (first | refine blk_drewN ?_ _ | refine blk_drew ?_ | refine blk_alloc ?_ _)); exact BK174.out⟩, ⟨pb HB.out GE174.out⟩⟩
     case round =>
      clear H'
      try clear c1
      try clear c4
      try clear c6
      try clear c6b0
      try clear c6b1
      try clear c7
      try clear c7b0
      try clear c7b1
      try clear c8
      try clear c8b0
      try clear hcz16_0
      try clear hcz16_1
      try clear hcz16_2
      try clear hcz18_0
      try clear hcz18_1
      try clear hcz18_2
      try clear hfz16_0
      try clear hfz16_1
      try clear hfz16_2
      try clear hfz18_0
      try clear hfz18_1
      try clear hfz18_2
      try clear hx179_0
      try clear hx180_0
      try clear p179
      try clear p180
      try clear q179
      try clear q180
      obtain ⟨x7_1, x8_1, x9_1, rfl, rfl, HA, HK1, HO_6, HO_7, BK174, HB⟩ := hrel
      cases gk with
      | zero => exact absurd HA.out (by simp [editscript_Align.l0])
      | succ k1 =>
       have H := HA.out
       clear HA
       simp only [editscript_Align.l0] at H
       have HC21 := Aside0.mk H
       clear H
       go_upto_region 8 with (fail)
       go_cut [35] (fun v35 wc => ∃ (kq : Nat) (x35_20 : Bool), v35 = .bool x35_20 ∧ Aside0 (editscript_Align.j1 kq l1 t176 x7_1 x8_1 x9_1 x35_20 l0_0 l0_1 a0_2 = some (r1, r2)) ∧ Aside0 (kq ≤ k1) ∧ Aside0 (Kd.S (Kd.slice 3 (Kd.int .i64)) 23 wc w.heap.size (fun _ => True) (.slice (some ad179) t176.length co20) t176) ∧ Aside0 (Kd.R k49 49 wc w.heap.size (fun _ => True) u7 x7_1) ∧ Aside0 (wc.heap[gb174]? = some (.cells #[(.slice A0_0 l0_0.length c0_0), (.slice A0_1 l0_1.length c0_1), .int .i64 a0_2] 25 (0, 0))) ∧ Aside0 (Below w.heap.size w wc))
       case first =>
        have H := HC21.out
        clear HC21
        by_cases c22 : x8_1 < (l0_0.length : Int)
        ·
         rw [if_pos c22] at H
         have c22b0 : decide (x8_1 < (l0_0.length : Int)) = true := decide_eq_true c22
         clear c22
         (first | rw [c22b0] | (simp only [i64_w, i32_w]; rw [c22b0]) | skip)
         have H' := Aside0.mk H
         clear H
         obtain ⟨hcz23_0, hcz23_1, hcz23_2, hfz23_0, hfz23_1, hfz23_2⟩ := cz3 BK174.out
         go_wp2
         go_meet
         case rel => exact ⟨_, (true), rr, H', ⟨by have := HK1.out; first | omega | exact Nat.le_refl _⟩, ⟨by (with_reducible repeat (first | apply Kd.S_alloc | apply Kd.S_drewN | apply Kd.S_drew)); exact HO_6.out⟩, ⟨by (with_reducible repeat (first | apply Kd.R_alloc | apply Kd.R_drewN | apply Kd.R_drew)); exact HO_7.out⟩, ⟨by (with_reducible repeat (first | refine blk_drewN ?_ _ | refine blk_drew ?_ | refine blk_alloc ?_ _)); exact BK174.out⟩, ⟨pb HB.out GE174.out⟩⟩
        ·
         rw [if_neg c22] at H
         have c22b0 : decide (x8_1 < (l0_0.length : Int)) = false := decide_eq_false c22
         clear c22
         (first | rw [c22b0] | (simp only [i64_w, i32_w]; rw [c22b0]) | skip)
         have H' := Aside0.mk H
         clear H
         obtain ⟨hcz24_0, hcz24_1, hcz24_2, hfz24_0, hfz24_1, hfz24_2⟩ := cz3 BK174.out
         go_wp2
         go_meet
         case rel => exact ⟨_, (decide (x9_1 < (l1.length : Int))), rr, H', ⟨by have := HK1.out; first | omega | exact Nat.le_refl _⟩, ⟨by (with_reducible repeat (first | apply Kd.S_alloc | apply Kd.S_drewN | apply Kd.S_drew)); exact HO_6.out⟩, ⟨by (with_reducible repeat (first | apply Kd.R_alloc | apply Kd.R_drewN | apply Kd.R_drew)); exact HO_7.out⟩, ⟨by (with_reducible repeat (first | refine blk_drewN ?_ _ | refine blk_drew ?_ | refine blk_alloc ?_ _)); exact BK174.out⟩, ⟨pb HB.out GE174.out⟩⟩
       case rest =>
        clear HC21
        try clear c1
        try clear c4
        try clear c6
        try clear c6b0
        try clear c6b1
        try clear c7
        try clear c7b0
        try clear c7b1
        try clear c8
        try clear c8b0
        try clear hcz16_0
        try clear hcz16_1
        try clear hcz16_2
        try clear hcz18_0
        try clear hcz18_1
        try clear hcz18_2
        try clear hfz16_0
        try clear hfz16_1
        try clear hfz16_2
        try clear hfz18_0
        try clear hfz18_1
        try clear hfz18_2
        try clear hx179_0
        try clear hx180_0
        try clear p179
        try clear p180
        try clear q179
        try clear q180
        obtain ⟨kq, x35_20, rfl, HA, HJ20, HO_6, HO_7, BK174, HB⟩ := hcut
        cases kq with
        | zero => exact absurd HA.out (by simp [editscript_Align.j1])
        | succ kj20 =>
         have H := HA.out
         clear HA
         simp only [editscript_Align.j1] at H
         by_cases c25 : x35_20 = true
         ·
          subst c25
          have H1 : ((editscript_steps.f kj20 l0_0 l0_1 a0_2 l1 x8_1 x9_1).bind fun t181 => (editscript_Align.l1 kj20 l1 t176 x7_1 x8_1 x9_1 t181 (t181.length : Int) 0 l0_0 l0_1 a0_2)) = some (r1, r2) := by rw [if_pos rfl] at H; exact H
          clear H
          have H := H1
          clear H1
          replace H := Option.bind_eq_some_iff.mp H
          obtain ⟨t181, A260, H⟩ := H
          replace H : (editscript_Align.l1 kj20 l1 t176 x7_1 x8_1 x9_1 t181 (t181.length : Int) 0 l0_0 l0_1 a0_2) = some (r1, r2) := H
          have A26 := Aside0.mk A260
          clear A260
          have H' := Aside0.mk H
          clear H
          obtain ⟨hcz27_0, hcz27_1, hcz27_2, hfz27_0, hfz27_1, hfz27_2⟩ := cz3 BK174.out
          go_wp2_with (first | ((with_reducible refine gate_callee (f := 35) rfl ?_); refine gl (some 40) Tryd.func35 #[.agg #[.slice A0_0 l0_0.length c0_0, .slice A0_1 l0_1.length c0_1, .int .i64 a0_2], .slice A1 l1.length c1, .int .i64 x8_1, .int .i64 x9_1] ?_; (with_reducible refine (editscript_steps.calls kj20 _ _ l0_0 _ _ l0_1 a0_2 _ _ l1 x8_1 x9_1 t181 _ ?side1 ?side2 ?side3 ?side4 ?side5 ?side6 A26.out).mono ?_); (case side1 => exact sd (Kd.C_below HR0_0.out HB.out)); (case side2 => exact HC0_0.out); (case side3 => exact sd (Kd.C_below HR0_1.out HB.out)); (case side4 => exact HC0_1.out); (case side5 => exact sd (Kd.C_below HR1.out HB.out)); (case side6 => exact HC1.out); rintro e w28 ⟨v182, rfl, ho0, hb⟩; refine ⟨_, rfl, ?_⟩; replace HO_6 := Aside0.mk (Kd.S_below (pS HO_6.out) hb); replace HO_7 := Aside0.mk (Kd.R_below (pR HO_7.out) hb); have HO183 := Aside0.mk (Kd.R_lower ho0 (below_size (pb HB.out GE174.out))); replace BK174 := Aside0.mk (bb BK174.out hb); replace HB := Aside0.mk (below_step (pb HB.out GE174.out) hb); (try clear hb); (try clear ho0); obtain ⟨Ao29, co29, eo29⟩ := Kd.R_slice HO183.out; subst eo29))
          go_loopg [7, 8, 9, 42] kj20 (fun kq v7 v8 v9 v42 w' => ∃ (x7_3 : List (S49)) (x8_3 : Int) (x9_3 : Int) (x42_3 : Int), v8 = .int .i64 x8_3 ∧ v9 = .int .i64 x9_3 ∧ v42 = .int .i64 x42_3 ∧ Aside0 (editscript_Align.l1 kq l1 t176 x7_3 x8_3 x9_3 t181 (t181.length : Int) x42_3 l0_0 l0_1 a0_2 = some (r1, r2)) ∧ Aside0 (kq ≤ kj20) ∧ Aside0 (Kd.S (Kd.slice 3 (Kd.int .i64)) 23 w' w.heap.size (fun _ => True) (.slice (some ad179) t176.length co20) t176) ∧ Aside0 (Kd.R k49 49 w' w.heap.size (fun _ => True) v7 x7_3) ∧ Aside0 (Kd.R k64 64 w' w.heap.size (fun _ => True) (.slice Ao29 t181.length co29) t181) ∧ Aside0 (w'.heap[gb174]? = some (.cells #[(.slice A0_0 l0_0.length c0_0), (.slice A0_1 l0_1.length c0_1), .int .i64 a0_2] 25 (0, 0))) ∧ Aside0 (Below w.heap.size w w'))
          case atStart => exact ⟨(x7_1), (x8_1), (x9_1), (0), rr, rr, rr, H', ⟨Nat.le_refl _⟩, ⟨by (with_reducible repeat (first | apply Kd.S_alloc | apply Kd.S_drewN | apply Kd.S_drew)); exact HO_6.out⟩, ⟨by (with_reducible repeat (first | apply Kd.R_alloc | apply Kd.R_drewN | apply Kd.R_drew)); exact HO_7.out⟩, ⟨by (with_reducible repeat (first | apply Kd.R_alloc | apply Kd.R_drewN | apply Kd.R_drew)); exact HO183.out⟩, ⟨by (with_reducible repeat (first | refine blk_drewN ?_ _ | refine blk_drew ?_ | refine blk_alloc ?_ _)); exact BK174.out⟩, ⟨pb HB.out GE174.out⟩⟩
          case round =>
           clear H'
           try clear c1
           try clear c4
           try clear c6
           try clear c6b0
           try clear c6b1
           try clear c7
           try clear c7b0
           try clear c7b1
           try clear c8
           try clear c8b0
           try clear c25
           try clear hcz16_0
           try clear hcz16_1
           try clear hcz16_2
           try clear hcz18_0
           try clear hcz18_1
           try clear hcz18_2
           try clear hcz27_0
           try clear hcz27_1
           try clear hcz27_2
           try clear hfz16_0
           try clear hfz16_1
           try clear hfz16_2
           try clear hfz18_0
           try clear hfz18_1
           try clear hfz18_2
           try clear hfz27_0
           try clear hfz27_1
           try clear hfz27_2
           try clear hx179_0
           try clear hx180_0
           try clear p179
           try clear p180
           try clear q179
           try clear q180
           obtain ⟨x7_3, x8_3, x9_3, x42_3, rfl, rfl, rfl, HA, HK3, HO_6, HO_7, HO_40, BK174, HB⟩ := hrel
           cases gk with
           | zero => exact absurd HA.out (by simp [editscript_Align.l1])
           | succ k3 =>
            have H := HA.out
            clear HA
            simp only [editscript_Align.l1] at H
            by_cases c30 : x42_3 < (t181.length : Int)
            ·
             rw [if_pos c30] at H
             have c30b0 : decide (x42_3 < (t181.length : Int)) = true := decide_eq_true c30
             clear c30
             by_cases c31 : 0 ≤ x42_3
             ·
              rw [if_pos c31] at H
              have c31b0 : decide (0 ≤ x42_3) = true := decide_eq_true c31
              clear c31
              by_cases c32 : x42_3 < (t181.length : Int)
              ·
               rw [if_pos c32] at H
               have c32b0 : decide (x42_3 < (t181.length : Int)) = true := decide_eq_true c32
               clear c32
               obtain ⟨ji33, hji33⟩ : ∃ j_ : Int, (wrap64 (x8_3 + ((rd_T64 t181 x42_3).f2))) = j_ := ⟨_, rfl⟩
               replace H : (if 0 ≤ (ji33) then (if (ji33) < (t176.length : Int) then (if 0 ≤ (wrap64 (x9_3 + ((rd_T64 t181 x42_3).f3))) then (if (wrap64 (x9_3 + ((rd_T64 t181 x42_3).f3))) < ((rd_L1 t176 (ji33)).length : Int) then ((editscript_add.f ((rd_T64 t181 x42_3).f1) (rd (rd_L1 t176 (ji33)) (wrap64 (x9_3 + ((rd_T64 t181 x42_3).f3))))).bind fun t188 => (if 0 ≤ x8_3 then (if x8_3 < (t176.length : Int) then (if 0 ≤ x9_3 then (if x9_3 < ((rd_L1 t176 x8_3).length : Int) then (if t188 = (rd (rd_L1 t176 x8_3) x9_3) then (if x7_3.length < 8796093022208 then (editscript_Align.l0 k3 l1 t176 (x7_3 ++ [(⟨(rd_T64 t181 x42_3).f0.f0, (rd_T64 t181 x42_3).f0.f1⟩ : S49)]) ji33 (wrap64 (x9_3 + ((rd_T64 t181 x42_3).f3))) l0_0 l0_1 a0_2) else (none)) else (editscript_Align.l1 k3 l1 t176 x7_3 x8_3 x9_3 t181 (t181.length : Int) (wrap64 (x42_3 + 1)) l0_0 l0_1 a0_2)) else (none)) else (none)) else (none)) else (none))) else (none)) else (none)) else (none)) else (none)) = some (r1, r2) := by first | (rw [hji33] at H; exact H) | (simp only [hji33] at H ⊢; exact H)
               have hji33w : (IntKind.i64.wrap (x8_3 + ((rd_T64 t181 x42_3).f2))) = ji33 := (i64_w _).trans hji33
               by_cases c34 : 0 ≤ (ji33)
               ·
                rw [if_pos c34] at H
                have c34b0 : decide (0 ≤ (ji33)) = true := decide_eq_true c34
                clear c34
                by_cases c35 : (ji33) < (t176.length : Int)
                ·
                 rw [if_pos c35] at H
                 have c35b0 : decide ((ji33) < (t176.length : Int)) = true := decide_eq_true c35
                 clear c35
                 obtain ⟨ji36, hji36⟩ : ∃ j_ : Int, (wrap64 (x9_3 + ((rd_T64 t181 x42_3).f3))) = j_ := ⟨_, rfl⟩
                 replace H : (if 0 ≤ (ji36) then (if (ji36) < ((rd_L1 t176 (ji33)).length : Int) then ((editscript_add.f ((rd_T64 t181 x42_3).f1) (rd (rd_L1 t176 (ji33)) (ji36))).bind fun t188 => (if 0 ≤ x8_3 then (if x8_3 < (t176.length : Int) then (if 0 ≤ x9_3 then (if x9_3 < ((rd_L1 t176 x8_3).length : Int) then (if t188 = (rd (rd_L1 t176 x8_3) x9_3) then (if x7_3.length < 8796093022208 then (editscript_Align.l0 k3 l1 t176 (x7_3 ++ [(⟨(rd_T64 t181 x42_3).f0.f0, (rd_T64 t181 x42_3).f0.f1⟩ : S49)]) ji33 ji36 l0_0 l0_1 a0_2) else (none)) else (editscript_Align.l1 k3 l1 t176 x7_3 x8_3 x9_3 t181 (t181.length : Int) (wrap64 (x42_3 + 1)) l0_0 l0_1 a0_2)) else (none)) else (none)) else (none)) else (none))) else (none)) else (none)) = some (r1, r2) := by first | (rw [hji36] at H; exact H) | (simp only [hji36] at H ⊢; exact H)
                 have hji36w : (IntKind.i64.wrap (x9_3 + ((rd_T64 t181 x42_3).f3))) = ji36 := (i64_w _).trans hji36
                 by_cases c37 : 0 ≤ (ji36)
                 ·
                  rw [if_pos c37] at H
                  have c37b0 : decide (0 ≤ (ji36)) = true := decide_eq_true c37
                  clear c37
                  by_cases c38 : (ji36) < ((rd_L1 t176 (ji33)).length : Int)
                  ·
                   rw [if_pos c38] at H
                   have c38b0 : decide ((ji36) < ((rd_L1 t176 (ji33)).length : Int)) = true := decide_eq_true c38
                   clear c38
                   replace H := Option.bind_eq_some_iff.mp H
                   obtain ⟨t188, A390, H⟩ := H
                   replace H : (if 0 ≤ x8_3 then (if x8_3 < (t176.length : Int) then (if 0 ≤ x9_3 then (if x9_3 < ((rd_L1 t176 x8_3).length : Int) then (if t188 = (rd (rd_L1 t176 x8_3) x9_3) then (if x7_3.length < 8796093022208 then (editscript_Align.l0 k3 l1 t176 (x7_3 ++ [(⟨(rd_T64 t181 x42_3).f0.f0, (rd_T64 t181 x42_3).f0.f1⟩ : S49)]) ji33 ji36 l0_0 l0_1 a0_2) else (none)) else (editscript_Align.l1 k3 l1 t176 x7_3 x8_3 x9_3 t181 (t181.length : Int) (wrap64 (x42_3 + 1)) l0_0 l0_1 a0_2)) else (none)) else (none)) else (none)) else (none)) = some (r1, r2) := H
                   have A39 := Aside0.mk A390
                   clear A390
                   by_cases c40 : 0 ≤ x8_3
                   ·
                    rw [if_pos c40] at H
                    have c40b0 : decide (0 ≤ x8_3) = true := decide_eq_true c40
                    clear c40
                    by_cases c41 : x8_3 < (t176.length : Int)
                    ·
                     rw [if_pos c41] at H
                     have c41b0 : decide (x8_3 < (t176.length : Int)) = true := decide_eq_true c41
                     clear c41
                     by_cases c42 : 0 ≤ x9_3
                     ·
                      rw [if_pos c42] at H
                      have c42b0 : decide (0 ≤ x9_3) = true := decide_eq_true c42
                      clear c42
                      by_cases c43 : x9_3 < ((rd_L1 t176 x8_3).length : Int)
                      ·
                       rw [if_pos c43] at H
                       have c43b0 : decide (x9_3 < ((rd_L1 t176 x8_3).length : Int)) = true := decide_eq_true c43
                       clear c43
                       by_cases c44 : t188 = (rd (rd_L1 t176 x8_3) x9_3)
                       ·
                        rw [if_pos c44] at H
                        have c44b0 : (t188 == (rd (rd_L1 t176 x8_3) x9_3)) = true := beq_iff_eq.mpr c44
                        have c44b1 : (t188 != (rd (rd_L1 t176 x8_3) x9_3)) = false := bne_eq_false_iff_eq.mpr c44
                        clear c44
                        by_cases c45 : x7_3.length < 8796093022208
                        ·
                         rw [if_pos c45] at H
                         have LMc45 := Aside0.mk c45
                         clear c45
                         obtain ⟨y191, hy191⟩ : ∃ y_ : List (S49), y_ = (x7_3 ++ [(⟨(rd_T64 t181 x42_3).f0.f0, (rd_T64 t181 x42_3).f0.f1⟩ : S49)]) := ⟨_, rfl⟩
                         replace H : (editscript_Align.l0 k3 l1 t176 y191 ji33 ji36 l0_0 l0_1 a0_2) = some (r1, r2) := by first | (rw [hy191]; with_reducible exact H) | (have H2_ := (Option.bind_some _ _).symm.trans H; rw [hy191]; with_reducible exact H2_) | (have H2_ := (Option.bind_some _ _).symm.trans H; with_reducible exact H2_) | with_reducible exact H | (rw [hy191]; exact H) | exact H
                         have Ny191 := Aside0.mk hy191
                         clear hy191
                         have H' := Aside0.mk H
                         clear H
                         have p184 : 0 ≤ (x42_3 : Int) := od
                         have q184 : x42_3 < (t181.length : Int) := od
                         obtain ⟨ad184, e184, hx184_0, hx184_1, hx184_2, hx184_3, hx184_4⟩ := at_T64 (Kd.R_reads' HO_40.out).2.2 x42_3 p184 q184
                         cases e184
                         replace p184 := eq_true p184
                         replace q184 := eq_true q184
                         try go_wp2_with (first | ((with_reducible refine gate_dst (N := 11) rfl ?_); (try (refine gate_guard (by rfl) ?_; dsimp only)); refine box_event ?hg (N := 11) ?hd (cs := #[.int .i64 0, .int .i64 0, .int .i64 0, .int .i64 0, .int .i64 0]) (t := 64) ?hr ?_; (case hd => rfl); (case hg => rfl); (case hr => first | (go_simp; done) | (go_simp; rfl)); intro gb185 hg w46 hbox hb; have n0_ := Aside0.mk (Kd.S_below (pS HO_6.out) hb); have n1_ := Aside0.mk (Kd.R_below (pR HO_7.out) hb); have n2_ := Aside0.mk (Kd.R_below (Kd.R_elderB (pR HO_40.out) gb185 (Nat.le_of_eq hg.symm)) hb); have n3_ := Aside0.mk (bb BK174.out hb); have n4_ := Aside0.mk (below_step (pb HB.out GE174.out) hb); have n5_ := Aside0.mk (hbox); have n6_ := Aside0.mk ((by rw [hg]; exact (below_size (pb HB.out GE174.out)) : w.heap.size ≤ gb185)); have n7_ := Aside0.mk ((by rw [hg]; exact (below_size (pb HB.out GE174.out)) : w.heap.size ≤ gb185)); have n8_ := Aside0.mk ((by rw [hg]; exact Nat.ne_of_lt (blk_lt (g := gb174) (o := .cells #[.slice A0_0 l0_0.length c0_0, .slice A0_1 l0_1.length c0_1, .int .i64 a0_2] 25 (0, 0)) (pk BK174.out)) : gb174 ≠ gb185)); have n9_ := Aside0.mk ((by rw [hg]; exact Nat.ne_of_gt (blk_lt (g := gb174) (o := .cells #[.slice A0_0 l0_0.length c0_0, .slice A0_1 l0_1.length c0_1, .int .i64 a0_2] 25 (0, 0)) (pk BK174.out)) : gb185 ≠ gb174)); clear HO_6; clear HO_7; clear HO_40; clear BK174; clear HB; have HO_6 := n0_; have HO_7 := n1_; have HO_40 := n2_; have BK174 := n3_; have HB := n4_; have BK185 := n5_; have GW185 := n6_; have GE185 := n7_; have NB174_185 := n8_; have NB185_174 := n9_; clear n0_ n1_ n2_ n3_ n4_ n5_ n6_ n7_ n8_ n9_; clear hb hbox hg; have hnb47 := NB185_174.out; have hnc47 := NB174_185.out; obtain ⟨hcz48_0, hcz48_1, hcz48_2, hcz48_3, hcz48_4, hfz48_0, hfz48_1, hfz48_2, hfz48_3, hfz48_4⟩ := cz5 BK185.out))
                         have n0_ : Aside0 (Kd.S (Kd.slice 3 (Kd.int .i64)) 23 (((((w46.setCell ⟨gb185, 0, none⟩ (.int .i64 ((rd_T64 t181 x42_3).f0.f0))).setCell ⟨gb185, 1, none⟩ (.int .i64 ((rd_T64 t181 x42_3).f0.f1))).setCell ⟨gb185, 2, none⟩ (.int .i64 ((rd_T64 t181 x42_3).f1))).setCell ⟨gb185, 3, none⟩ (.int .i64 ((rd_T64 t181 x42_3).f2))).setCell ⟨gb185, 4, none⟩ (.int .i64 ((rd_T64 t181 x42_3).f3))) w.heap.size (fun _ => True) (.slice (some ad179) t176.length co20) t176) := ⟨by (with_reducible repeat (first | apply Kd.S_alloc | apply Kd.S_drewN | apply Kd.S_drew)); exact Kd.S_mono (Kd.S_far (p := ⟨gb185, 4, none⟩) (Kd.S_far (p := ⟨gb185, 3, none⟩) (Kd.S_far (p := ⟨gb185, 2, none⟩) (Kd.S_far (p := ⟨gb185, 1, none⟩) (Kd.S_far (p := ⟨gb185, 0, none⟩) (Kd.S_types HO_6.out BK185.out (by decide)) (fun _ hk => hk.2) (.int .i64 ((rd_T64 t181 x42_3).f0.f0))) (fun _ hk => hk.2) (.int .i64 ((rd_T64 t181 x42_3).f0.f1))) (fun _ hk => hk.2) (.int .i64 ((rd_T64 t181 x42_3).f1))) (fun _ hk => hk.2) (.int .i64 ((rd_T64 t181 x42_3).f2))) (fun _ hk => hk.2) (.int .i64 ((rd_T64 t181 x42_3).f3))) (fun _ hk => trivial)⟩
                         have n1_ : Aside0 (Kd.R k49 49 (((((w46.setCell ⟨gb185, 0, none⟩ (.int .i64 ((rd_T64 t181 x42_3).f0.f0))).setCell ⟨gb185, 1, none⟩ (.int .i64 ((rd_T64 t181 x42_3).f0.f1))).setCell ⟨gb185, 2, none⟩ (.int .i64 ((rd_T64 t181 x42_3).f1))).setCell ⟨gb185, 3, none⟩ (.int .i64 ((rd_T64 t181 x42_3).f2))).setCell ⟨gb185, 4, none⟩ (.int .i64 ((rd_T64 t181 x42_3).f3))) w.heap.size (fun _ => True) u7 x7_3) := ⟨by (with_reducible repeat (first | apply Kd.R_alloc | apply Kd.R_drewN | apply Kd.R_drew)); exact Kd.R_mono (Kd.R_far (p := ⟨gb185, 4, none⟩) (Kd.R_far (p := ⟨gb185, 3, none⟩) (Kd.R_far (p := ⟨gb185, 2, none⟩) (Kd.R_far (p := ⟨gb185, 1, none⟩) (Kd.R_far (p := ⟨gb185, 0, none⟩) (Kd.R_types HO_7.out BK185.out (by decide)) (fun _ hk => hk.2) (.int .i64 ((rd_T64 t181 x42_3).f0.f0))) (fun _ hk => hk.2) (.int .i64 ((rd_T64 t181 x42_3).f0.f1))) (fun _ hk => hk.2) (.int .i64 ((rd_T64 t181 x42_3).f1))) (fun _ hk => hk.2) (.int .i64 ((rd_T64 t181 x42_3).f2))) (fun _ hk => hk.2) (.int .i64 ((rd_T64 t181 x42_3).f3))) (fun _ hk => trivial)⟩
                         have n2_ : Aside0 (Kd.R k64 64 (((((w46.setCell ⟨gb185, 0, none⟩ (.int .i64 ((rd_T64 t181 x42_3).f0.f0))).setCell ⟨gb185, 1, none⟩ (.int .i64 ((rd_T64 t181 x42_3).f0.f1))).setCell ⟨gb185, 2, none⟩ (.int .i64 ((rd_T64 t181 x42_3).f1))).setCell ⟨gb185, 3, none⟩ (.int .i64 ((rd_T64 t181 x42_3).f2))).setCell ⟨gb185, 4, none⟩ (.int .i64 ((rd_T64 t181 x42_3).f3))) w.heap.size (fun k_ => k_ ≠ gb185) (.slice (some ad184) t181.length co29) t181) := ⟨by (with_reducible repeat (first | apply Kd.R_alloc | apply Kd.R_drewN | apply Kd.R_drew)); exact Kd.R_mono (Kd.R_far (p := ⟨gb185, 4, none⟩) (Kd.R_far (p := ⟨gb185, 3, none⟩) (Kd.R_far (p := ⟨gb185, 2, none⟩) (Kd.R_far (p := ⟨gb185, 1, none⟩) (Kd.R_far (p := ⟨gb185, 0, none⟩) (Kd.R_mono HO_40.out (fun k_ hk => (⟨hk, hk.2⟩ : _ ∧ k_ ≠ gb185))) (fun _ hk => hk.2) (.int .i64 ((rd_T64 t181 x42_3).f0.f0))) (fun _ hk => hk.2) (.int .i64 ((rd_T64 t181 x42_3).f0.f1))) (fun _ hk => hk.2) (.int .i64 ((rd_T64 t181 x42_3).f1))) (fun _ hk => hk.2) (.int .i64 ((rd_T64 t181 x42_3).f2))) (fun _ hk => hk.2) (.int .i64 ((rd_T64 t181 x42_3).f3))) (fun _ hk => hk.1.2)⟩
                         have n3_ : Aside0 ((((((w46.setCell ⟨gb185, 0, none⟩ (.int .i64 ((rd_T64 t181 x42_3).f0.f0))).setCell ⟨gb185, 1, none⟩ (.int .i64 ((rd_T64 t181 x42_3).f0.f1))).setCell ⟨gb185, 2, none⟩ (.int .i64 ((rd_T64 t181 x42_3).f1))).setCell ⟨gb185, 3, none⟩ (.int .i64 ((rd_T64 t181 x42_3).f2))).setCell ⟨gb185, 4, none⟩ (.int .i64 ((rd_T64 t181 x42_3).f3))).heap[gb174]? = some (.cells #[.slice A0_0 l0_0.length c0_0, .slice A0_1 l0_1.length c0_1, .int .i64 a0_2] 25 (0, 0))) := ⟨by (with_reducible repeat (first | refine blk_drewN ?_ _ | refine blk_drew ?_ | refine blk_alloc ?_ _)); refine blk_far ?_ NB174_185.out _; (with_reducible repeat (first | refine blk_drewN ?_ _ | refine blk_drew ?_ | refine blk_alloc ?_ _)); refine blk_far ?_ NB174_185.out _; (with_reducible repeat (first | refine blk_drewN ?_ _ | refine blk_drew ?_ | refine blk_alloc ?_ _)); refine blk_far ?_ NB174_185.out _; (with_reducible repeat (first | refine blk_drewN ?_ _ | refine blk_drew ?_ | refine blk_alloc ?_ _)); refine blk_far ?_ NB174_185.out _; (with_reducible repeat (first | refine blk_drewN ?_ _ | refine blk_drew ?_ | refine blk_alloc ?_ _)); refine blk_far ?_ NB174_185.out _; (with_reducible repeat (first | refine blk_drewN ?_ _ | refine blk_drew ?_ | refine blk_alloc ?_ _)); exact BK174.out⟩
                         have n4_ : Aside0 ((((((w46.setCell ⟨gb185, 0, none⟩ (.int .i64 ((rd_T64 t181 x42_3).f0.f0))).setCell ⟨gb185, 1, none⟩ (.int .i64 ((rd_T64 t181 x42_3).f0.f1))).setCell ⟨gb185, 2, none⟩ (.int .i64 ((rd_T64 t181 x42_3).f1))).setCell ⟨gb185, 3, none⟩ (.int .i64 ((rd_T64 t181 x42_3).f2))).setCell ⟨gb185, 4, none⟩ (.int .i64 ((rd_T64 t181 x42_3).f3))).heap[gb185]? = some (.cells #[.int .i64 ((rd_T64 t181 x42_3).f0.f0), .int .i64 ((rd_T64 t181 x42_3).f0.f1), .int .i64 ((rd_T64 t181 x42_3).f1), .int .i64 ((rd_T64 t181 x42_3).f2), .int .i64 ((rd_T64 t181 x42_3).f3)] 64 (0, 0))) := ⟨by (with_reducible repeat (first | refine blk_drewN ?_ _ | refine blk_drew ?_ | refine blk_alloc ?_ _)); refine blk_put (cs := #[.int .i64 ((rd_T64 t181 x42_3).f0.f0), .int .i64 ((rd_T64 t181 x42_3).f0.f1), .int .i64 ((rd_T64 t181 x42_3).f1), .int .i64 ((rd_T64 t181 x42_3).f2), .int .i64 0]) ?_ 4 _ rfl; (with_reducible repeat (first | refine blk_drewN ?_ _ | refine blk_drew ?_ | refine blk_alloc ?_ _)); refine blk_put (cs := #[.int .i64 ((rd_T64 t181 x42_3).f0.f0), .int .i64 ((rd_T64 t181 x42_3).f0.f1), .int .i64 ((rd_T64 t181 x42_3).f1), .int .i64 0, .int .i64 0]) ?_ 3 _ rfl; (with_reducible repeat (first | refine blk_drewN ?_ _ | refine blk_drew ?_ | refine blk_alloc ?_ _)); refine blk_put (cs := #[.int .i64 ((rd_T64 t181 x42_3).f0.f0), .int .i64 ((rd_T64 t181 x42_3).f0.f1), .int .i64 0, .int .i64 0, .int .i64 0]) ?_ 2 _ rfl; (with_reducible repeat (first | refine blk_drewN ?_ _ | refine blk_drew ?_ | refine blk_alloc ?_ _)); refine blk_put (cs := #[.int .i64 ((rd_T64 t181 x42_3).f0.f0), .int .i64 0, .int .i64 0, .int .i64 0, .int .i64 0]) ?_ 1 _ rfl; (with_reducible repeat (first | refine blk_drewN ?_ _ | refine blk_drew ?_ | refine blk_alloc ?_ _)); refine blk_put (cs := #[.int .i64 0, .int .i64 0, .int .i64 0, .int .i64 0, .int .i64 0]) ?_ 0 _ rfl; (with_reducible repeat (first | refine blk_drewN ?_ _ | refine blk_drew ?_ | refine blk_alloc ?_ _)); exact BK185.out⟩
                         have n5_ : Aside0 (Below w.heap.size w (((((w46.setCell ⟨gb185, 0, none⟩ (.int .i64 ((rd_T64 t181 x42_3).f0.f0))).setCell ⟨gb185, 1, none⟩ (.int .i64 ((rd_T64 t181 x42_3).f0.f1))).setCell ⟨gb185, 2, none⟩ (.int .i64 ((rd_T64 t181 x42_3).f1))).setCell ⟨gb185, 3, none⟩ (.int .i64 ((rd_T64 t181 x42_3).f2))).setCell ⟨gb185, 4, none⟩ (.int .i64 ((rd_T64 t181 x42_3).f3)))) := ⟨pc HB.out GE174.out GE185.out⟩
                         (try clear HO_6)
                         (try clear HO_7)
                         (try clear HO_40)
                         (try clear BK174)
                         (try clear BK185)
                         (try clear HB)
                         generalize (((((w46.setCell ⟨gb185, 0, none⟩ (.int .i64 ((rd_T64 t181 x42_3).f0.f0))).setCell ⟨gb185, 1, none⟩ (.int .i64 ((rd_T64 t181 x42_3).f0.f1))).setCell ⟨gb185, 2, none⟩ (.int .i64 ((rd_T64 t181 x42_3).f1))).setCell ⟨gb185, 3, none⟩ (.int .i64 ((rd_T64 t181 x42_3).f2))).setCell ⟨gb185, 4, none⟩ (.int .i64 ((rd_T64 t181 x42_3).f3))) = w49 at n0_ n1_ n2_ n3_ n4_ n5_ ⊢
                         have HO_6 := n0_
                         have HO_7 := n1_
                         have HO_40 := n2_
                         have BK174 := n3_
                         have BK185 := n4_
                         have HB := n5_
                         clear n0_ n1_ n2_ n3_ n4_ n5_
                         replace HO_6 := Aside0.mk (Kd.S_drew HO_6.out)
                         replace HO_7 := Aside0.mk (Kd.R_drew HO_7.out)
                         replace HO_40 := Aside0.mk (Kd.R_drew HO_40.out)
                         replace BK174 := Aside0.mk (blk_drew BK174.out)
                         replace BK185 := Aside0.mk (blk_drew BK185.out)
                         replace HB := Aside0.mk (below_drew1 HB.out)
                         have p186 : 0 ≤ ((ji33) : Int) := od
                         have q186 : (ji33) < (t176.length : Int) := od
                         obtain ⟨ad186, A186_0, c186_0, e186, hx186_0, hl186_0, hi186_0⟩ := at_L1 (Kd.S_reads' HO_6.out).2.2 (ji33) p186 q186
                         obtain rfl : ad179 = ad186 := (by injection e186)
                         obtain ⟨ce186, hce186, hMe186, hcc186⟩ := Kd.S_get HO_6.out [] (ji33) p186 (by first | exact q186 | exact od | (have e_ := (Kd.S_reads' HO_6.out).1; omega))
                         obtain ⟨ve186_0, rfl, ge186_0⟩ := hMe186
                         have hv186_0 := hcc186 0 _ rfl
                         rw [Nat.add_zero, show ((Kd.slice 3 (Kd.int .i64))).sz = 1 from rfl, Nat.mul_one] at hv186_0
                         replace hv186_0 := Option.some.inj (hv186_0.symm.trans hx186_0)
                         rw [hv186_0] at ge186_0
                         have HL186_0 := Aside0.mk (show Kd.R (Kd.int .i64) 3 _ _ _ _ (rd_L1 t176 (ji33)) from ge186_0)
                         clear hv186_0 ge186_0
                         clear hcc186 hce186
                         have HR186_0 := Aside0.mk hi186_0
                         have HC186_0 := Aside0.mk hl186_0
                         clear hi186_0 hl186_0
                         replace p186 := eq_true p186
                         replace q186 := eq_true q186
                         have p187 : 0 ≤ ((ji36) : Int) := od
                         have q187 : (ji36) < ((rd_L1 t176 (ji33)).length : Int) := od
                         obtain ⟨ad187, e187, hx187_0⟩ := Kd.at_int (by repeat (first | (with_reducible exact HR186_0.out) | (with_reducible refine Kd.C_alloc ?_ _) | (with_reducible refine Kd.C_drewN ?_ _) | (with_reducible refine Kd.C_drew ?_) | exact HR186_0.out)) (ji36) p187 q187
                         cases e187
                         replace p187 := eq_true p187
                         replace q187 := eq_true q187
                         have p189 : 0 ≤ (x8_3 : Int) := od
                         have q189 : x8_3 < (t176.length : Int) := od
                         obtain ⟨ad189, A189_0, c189_0, e189, hx189_0, hl189_0, hi189_0⟩ := at_L1 (Kd.S_reads' HO_6.out).2.2 x8_3 p189 q189
                         obtain rfl : ad179 = ad189 := (by injection e189)
                         obtain ⟨ce189, hce189, hMe189, hcc189⟩ := Kd.S_get HO_6.out [] x8_3 p189 (by first | exact q189 | exact od | (have e_ := (Kd.S_reads' HO_6.out).1; omega))
                         obtain ⟨ve189_0, rfl, ge189_0⟩ := hMe189
                         have hv189_0 := hcc189 0 _ rfl
                         rw [Nat.add_zero, show ((Kd.slice 3 (Kd.int .i64))).sz = 1 from rfl, Nat.mul_one] at hv189_0
                         replace hv189_0 := Option.some.inj (hv189_0.symm.trans hx189_0)
                         rw [hv189_0] at ge189_0
                         have HL189_0 := Aside0.mk (show Kd.R (Kd.int .i64) 3 _ _ _ _ (rd_L1 t176 x8_3) from ge189_0)
                         clear hv189_0 ge189_0
                         clear hcc189 hce189
                         have HR189_0 := Aside0.mk hi189_0
                         have HC189_0 := Aside0.mk hl189_0
                         clear hi189_0 hl189_0
                         replace p189 := eq_true p189
                         replace q189 := eq_true q189
                         have p190 : 0 ≤ (x9_3 : Int) := od
                         have q190 : x9_3 < ((rd_L1 t176 x8_3).length : Int) := od
                         obtain ⟨ad190, e190, hx190_0⟩ := Kd.at_int (by repeat (first | (with_reducible exact HR189_0.out) | (with_reducible refine Kd.C_alloc ?_ _) | (with_reducible refine Kd.C_drewN ?_ _) | (with_reducible refine Kd.C_drew ?_) | exact HR189_0.out)) x9_3 p190 q190
                         cases e190
                         replace p190 := eq_true p190
                         replace q190 := eq_true q190
                         refine start_ (n := 24) (S := fun w' => w'.cell? ⟨gb185, 0, none⟩ = some (.int .i64 ((rd_T64 t181 x42_3).f0.f0)) ∧ w'.cell? ⟨gb185, 1, none⟩ = some (.int .i64 ((rd_T64 t181 x42_3).f0.f1)) ∧ w'.cell? ⟨gb185, 2, none⟩ = some (.int .i64 ((rd_T64 t181 x42_3).f1)) ∧ w'.cell? ⟨gb185, 3, none⟩ = some (.int .i64 ((rd_T64 t181 x42_3).f2)) ∧ w'.cell? ⟨gb185, 4, none⟩ = some (.int .i64 ((rd_T64 t181 x42_3).f3)) ∧ w'.cell? (ad179.add ((ji33)).toNat) = some (.slice (some ad187) (rd_L1 t176 (ji33)).length c186_0) ∧ w'.cell? (ad187.add ((ji36)).toNat) = some (.int .i64 (rd (rd_L1 t176 (ji33)) (ji36))) ∧ w'.cell? (ad179.add (x8_3).toNat) = some (.slice (some ad190) (rd_L1 t176 x8_3).length c189_0) ∧ w'.cell? (ad190.add (x9_3).toNat) = some (.int .i64 (rd (rd_L1 t176 x8_3) x9_3))) (ds := []) #[ff,ff,ff,ff,ff,ff,ff,ff,ff,ff,ff,ff,ff,ff,ff,ff,ff,ff,ff,ff,ff,ff,ff,ff] (by kernel_rfl) rfl rfl ⟨(blk_cell BK185.out 0).trans rfl, (blk_cell BK185.out 1).trans rfl, (blk_cell BK185.out 2).trans rfl, (blk_cell BK185.out 3).trans rfl, (blk_cell BK185.out 4).trans rfl, hx186_0, hx187_0, hx189_0, hx190_0⟩ (fun hHeld => ?_); refine with_tabW editscript_Align.tab12 editscript_Align.bits12 (fun HT_ HW_ => ?_)
                         generalize w49.drew = w50 at HO_6 HO_7 HO_40 BK174 BK185 HB HL186_0 HL189_0 HR186_0 HR189_0 hx186_0 hx187_0 hx189_0 hx190_0 hHeld ⊢
                         refine pu 0 46 ?_
                         refine pu 2 48 ?_
                         refine pu 3 49 ?_
                         refine pu 4 50 ?_
                         refine pu 9 55 ?_
                         refine pu 10 56 ?_
                         refine pu 16 62 ?_
                         refine pu 17 63 ?_
                         refine pu 18 64 ?_
                         refine pu 20 66 ?_
                         refine tu 1 47 hHeld ?_
                         refine tu 5 51 hHeld ?_
                         refine pu 6 52 ?_
                         refine pu 7 53 ?_
                         refine tu 8 54 hHeld ?_
                         refine tu 11 57 hHeld ?_
                         refine pu 12 58 ?_
                         refine pu 13 59 ?_
                         refine tu 14 60 hHeld ?_
                         refine tu 19 65 hHeld ?_
                         refine pu 21 67 ?_
                         refine tu 22 68 hHeld ?_
                         refine one_ (i := 15) (N := some 61) #[tt,tt,tt,tt,tt,tt,tt,tt,tt,tt,tt,tt,tt,tt,tt,tt,tt,tt,tt,tt,tt,tt,tt,ff] rfl rfl (one_of HT_.out (by kernel_rfl)) (by decide) (fun K hK => ?_)
                         refine goes_ Tryd.func36 (by kernel_rfl) rfl #[.int .i64 ((rd_T64 t181 x42_3).f1), .int .i64 (rd (rd_L1 t176 (ji33)) (ji36))] (by rfl) rfl rfl (by (try simp only [List.map_toArray, List.map_cons, List.map_nil]); first | done | (simp only [hji33, hji36]; rfl) | rfl | (simp only [List.length_drop, List.length_take]; rfl)) ?_
                         with_reducible refine (editscript_add.calls ((rd_T64 t181 x42_3).f1) (rd (rd_L1 t176 (ji33)) (ji36)) t188 _ A39.out).mono ?_
                         rintro e w51 ⟨rfl, hb⟩
                         have HS5_ := (hb.cell (World.block_lt_of_cell? _ _ (hHeld.2.2.2.2.2.1))).trans (hHeld.2.2.2.2.2.1)
                         have HS6_ := (hb.cell (World.block_lt_of_cell? _ _ (hHeld.2.2.2.2.2.2.1))).trans (hHeld.2.2.2.2.2.2.1)
                         have HS7_ := (hb.cell (World.block_lt_of_cell? _ _ (hHeld.2.2.2.2.2.2.2.1))).trans (hHeld.2.2.2.2.2.2.2.1)
                         have HS8_ := (hb.cell (World.block_lt_of_cell? _ _ (hHeld.2.2.2.2.2.2.2.2))).trans (hHeld.2.2.2.2.2.2.2.2)
                         refine ⟨_, rfl, ?_⟩
                         replace HO_6 := Aside0.mk (Kd.S_below (pS HO_6.out) hb)
                         replace HO_7 := Aside0.mk (Kd.R_below (pR HO_7.out) hb)
                         replace HO_40 := Aside0.mk (Kd.R_below (pR HO_40.out) hb)
                         replace HL186_0 := Aside0.mk (Kd.R_below (pR HL186_0.out) hb)
                         replace HL189_0 := Aside0.mk (Kd.R_below (pR HL189_0.out) hb)
                         replace BK174 := Aside0.mk (bb BK174.out hb)
                         replace BK185 := Aside0.mk (bb BK185.out hb)
                         replace HR186_0 := Aside0.mk (Kd.C_below (by repeat (first | (with_reducible exact HR186_0.out) | (with_reducible refine Kd.C_alloc ?_ _) | (with_reducible refine Kd.C_drewN ?_ _) | (with_reducible refine Kd.C_drew ?_) | exact HR186_0.out)) hb)
                         replace HR189_0 := Aside0.mk (Kd.C_below (by repeat (first | (with_reducible exact HR189_0.out) | (with_reducible refine Kd.C_alloc ?_ _) | (with_reducible refine Kd.C_drewN ?_ _) | (with_reducible refine Kd.C_drew ?_) | exact HR189_0.out)) hb)
                         replace HB := Aside0.mk (below_step (pc HB.out GE174.out GE185.out) hb)
                         (try clear hb)
                         (try clear hk)
                         refine hK.out _ _ ⟨(blk_cell BK185.out 0).trans rfl, (blk_cell BK185.out 1).trans rfl, (blk_cell BK185.out 2).trans rfl, (blk_cell BK185.out 3).trans rfl, (blk_cell BK185.out 4).trans rfl, HS5_, HS6_, HS7_, HS8_⟩ (fun hHeld => ?_)
                         clear hK K
                         refine norm_ (a' := ?_) ?_ ?_
                         rotate_left
                         ·
                          show Act.put _ (some 61) _ = _
                          simp only [nrm]
                          rfl
                         refine pu 23 69 ?_
                         refine done_ (done_of HT_.out (by kernel_rfl)) ?_
                         obtain ⟨hcz52_0, hcz52_1, hcz52_2, hcz52_3, hcz52_4, hfz52_0, hfz52_1, hfz52_2, hfz52_3, hfz52_4⟩ := cz5 BK185.out
                         try go_wp2_with (first | ((with_reducible refine gate_builtin (b := .append) (xs := #[.tmp 70, .tmp 73]) rfl ?_); (try (refine gate_guard (by rfl) ?_; dsimp only)); at_builtin; refine Kd.R_append k49 (w0 := w) w.heap.size rfl (.tmp 70) (.tmp 73) 35 49 (.agg #[(.int .i64 0), (.int .i64 0)]) 16 rfl Tryd.underlying35 info49 rfl (by decide) (by omega) u7 x7_3 (⟨(rd_T64 t181 x42_3).f0.f0, (rd_T64 t181 x42_3).f0.f1⟩ : S49) [.int .i64 ((rd_T64 t181 x42_3).f0.f0), .int .i64 ((rd_T64 t181 x42_3).f0.f1)] (fun _ => True) (fun _ => False) rfl rfl ?aP (fun _ hk => hk.elim) ?aF ?aO ?aB ?aS ?aL ?_; (case aP => exact k49_mkM _ _ _ (⟨(rd_T64 t181 x42_3).f0.f0, (rd_T64 t181 x42_3).f0.f1⟩ : S49)); (case aB => exact (pc HB.out GE174.out GE185.out)); (case aF => exact (fun _ _ => trivial)); (case aO => exact (pR HO_7.out)); (case aS => exact (below_size (pc HB.out GE174.out GE185.out))); (case aL => have := LMc45.out; omega); intro v192 w53 ho hb hg hat; rw [← Ny191.out] at ho; replace HO_6 := Aside0.mk (Kd.S_over' (pS HO_6.out) (Kd.R_typed (pR HO_7.out)) (by decide) hg); replace HO_40 := Aside0.mk (Kd.R_over' (pR HO_40.out) (Kd.R_typed (pR HO_7.out)) (by decide) hg); replace BK174 := Aside0.mk (blk_grown (g := gb174) (o := .cells #[.slice A0_0 l0_0.length c0_0, .slice A0_1 l0_1.length c0_1, .int .i64 a0_2] 25 (0, 0)) (pk BK174.out) hg (Kd.R_ne HO_7.out BK174.out (by decide))); replace BK185 := Aside0.mk (blk_grown (g := gb185) (o := .cells #[.int .i64 ((rd_T64 t181 x42_3).f0.f0), .int .i64 ((rd_T64 t181 x42_3).f0.f1), .int .i64 ((rd_T64 t181 x42_3).f1), .int .i64 ((rd_T64 t181 x42_3).f2), .int .i64 ((rd_T64 t181 x42_3).f3)] 64 (0, 0)) (pk BK185.out) hg (Kd.R_ne HO_7.out BK185.out (by decide))); replace HL186_0 := Aside0.mk (Kd.R_over' (pR HL186_0.out) (Kd.R_typed (pR HO_7.out)) (by decide) hg); replace HL189_0 := Aside0.mk (Kd.R_over' (pR HL189_0.out) (Kd.R_typed (pR HO_7.out)) (by decide) hg); replace HB := Aside0.mk (hb); have HO193 := Aside0.mk (ho); clear HO_7; clear ho hb hg hat))
                         replace HO_6 := Aside0.mk (Kd.S_drew HO_6.out)
                         replace HO_40 := Aside0.mk (Kd.R_drew HO_40.out)
                         replace HL186_0 := Aside0.mk (Kd.R_drew HL186_0.out)
                         replace HL189_0 := Aside0.mk (Kd.R_drew HL189_0.out)
                         replace HO193 := Aside0.mk (Kd.R_drew HO193.out)
                         replace BK174 := Aside0.mk (blk_drew BK174.out)
                         replace BK185 := Aside0.mk (blk_drew BK185.out)
                         replace HB := Aside0.mk (below_drew1 HB.out)
                         refine start_ (n := 10) (S := fun w' => w'.cell? ⟨gb185, 0, none⟩ = some (.int .i64 ((rd_T64 t181 x42_3).f0.f0)) ∧ w'.cell? ⟨gb185, 1, none⟩ = some (.int .i64 ((rd_T64 t181 x42_3).f0.f1)) ∧ w'.cell? ⟨gb185, 2, none⟩ = some (.int .i64 ((rd_T64 t181 x42_3).f1)) ∧ w'.cell? ⟨gb185, 3, none⟩ = some (.int .i64 ((rd_T64 t181 x42_3).f2)) ∧ w'.cell? ⟨gb185, 4, none⟩ = some (.int .i64 ((rd_T64 t181 x42_3).f3))) (ds := []) #[ff,ff,ff,ff,ff,ff,ff,ff,ff,ff] (by kernel_rfl) rfl rfl ⟨(blk_cell BK185.out 0).trans rfl, (blk_cell BK185.out 1).trans rfl, (blk_cell BK185.out 2).trans rfl, (blk_cell BK185.out 3).trans rfl, (blk_cell BK185.out 4).trans rfl⟩ (fun hHeld => ?_); refine with_tabW editscript_Align.tab14 editscript_Align.bits14 (fun HT_ HW_ => ?_)
                         generalize w53.drew = w54 at HO_6 HO_40 HL186_0 HL189_0 HO193 BK174 BK185 HB hHeld ⊢
                         refine pu 0 75 ?_
                         refine pu 1 76 ?_
                         refine pu 4 79 ?_
                         refine pu 5 80 ?_
                         refine tu 2 77 hHeld ?_
                         refine pu 3 78 ?_
                         refine pu 8 8 ?_
                         refine tu 6 81 hHeld ?_
                         refine pu 7 82 ?_
                         refine pu 9 9 ?_
                         refine done_ (done_of HT_.out (by kernel_rfl)) ?_
                         try go_wp2
                         go_roundg k3
                         case measure => have := HK1.out; have := HJ20.out; have := HK3.out; omega
                         case rel => exact ⟨(y191), (ji33), (ji36), (by first | rfl | (simp; done) | (simp only [← hji33] <;> (first | rfl | simp)) | (simp [*]; done)), (by first | rfl | (simp; done) | (simp only [← hji36] <;> (first | rfl | simp)) | (simp [*]; done)), H', ⟨by have := HK1.out; have := HJ20.out; have := HK3.out; omega⟩, ⟨by (with_reducible repeat (first | apply Kd.S_alloc | apply Kd.S_drewN | apply Kd.S_drew)); exact HO_6.out⟩, ⟨by (with_reducible repeat (first | apply Kd.R_alloc | apply Kd.R_drewN | apply Kd.R_drew)); exact HO193.out⟩, ⟨by (with_reducible repeat (first | refine blk_drewN ?_ _ | refine blk_drew ?_ | refine blk_alloc ?_ _)); exact BK174.out⟩, ⟨pc HB.out GE174.out GE185.out⟩⟩
                        ·
                         rw [if_neg c45] at H
                         exact absurd H (by simp)
                       ·
                        rw [if_neg c44] at H
                        have c44b0 : (t188 == (rd (rd_L1 t176 x8_3) x9_3)) = false := beq_eq_false_iff_ne.mpr c44
                        have c44b1 : (t188 != (rd (rd_L1 t176 x8_3) x9_3)) = true := bne_iff_ne.mpr c44
                        have H' := Aside0.mk H
                        clear H
                        have p184 : 0 ≤ (x42_3 : Int) := od
                        have q184 : x42_3 < (t181.length : Int) := od
                        obtain ⟨ad184, e184, hx184_0, hx184_1, hx184_2, hx184_3, hx184_4⟩ := at_T64 (Kd.R_reads' HO_40.out).2.2 x42_3 p184 q184
                        cases e184
                        replace p184 := eq_true p184
                        replace q184 := eq_true q184
                        try go_wp2_with (first | ((with_reducible refine gate_dst (N := 11) rfl ?_); (try (refine gate_guard (by rfl) ?_; dsimp only)); refine box_event ?hg (N := 11) ?hd (cs := #[.int .i64 0, .int .i64 0, .int .i64 0, .int .i64 0, .int .i64 0]) (t := 64) ?hr ?_; (case hd => rfl); (case hg => rfl); (case hr => first | (go_simp; done) | (go_simp; rfl)); intro gb185 hg w55 hbox hb; have n0_ := Aside0.mk (Kd.S_below (pS HO_6.out) hb); have n1_ := Aside0.mk (Kd.R_below (pR HO_7.out) hb); have n2_ := Aside0.mk (Kd.R_below (Kd.R_elderB (pR HO_40.out) gb185 (Nat.le_of_eq hg.symm)) hb); have n3_ := Aside0.mk (bb BK174.out hb); have n4_ := Aside0.mk (below_step (pb HB.out GE174.out) hb); have n5_ := Aside0.mk (hbox); have n6_ := Aside0.mk ((by rw [hg]; exact (below_size (pb HB.out GE174.out)) : w.heap.size ≤ gb185)); have n7_ := Aside0.mk ((by rw [hg]; exact (below_size (pb HB.out GE174.out)) : w.heap.size ≤ gb185)); have n8_ := Aside0.mk ((by rw [hg]; exact Nat.ne_of_lt (blk_lt (g := gb174) (o := .cells #[.slice A0_0 l0_0.length c0_0, .slice A0_1 l0_1.length c0_1, .int .i64 a0_2] 25 (0, 0)) (pk BK174.out)) : gb174 ≠ gb185)); have n9_ := Aside0.mk ((by rw [hg]; exact Nat.ne_of_gt (blk_lt (g := gb174) (o := .cells #[.slice A0_0 l0_0.length c0_0, .slice A0_1 l0_1.length c0_1, .int .i64 a0_2] 25 (0, 0)) (pk BK174.out)) : gb185 ≠ gb174)); clear HO_6; clear HO_7; clear HO_40; clear BK174; clear HB; have HO_6 := n0_; have HO_7 := n1_; have HO_40 := n2_; have BK174 := n3_; have HB := n4_; have BK185 := n5_; have GW185 := n6_; have GE185 := n7_; have NB174_185 := n8_; have NB185_174 := n9_; clear n0_ n1_ n2_ n3_ n4_ n5_ n6_ n7_ n8_ n9_; clear hb hbox hg; have hnb56 := NB185_174.out; have hnc56 := NB174_185.out; obtain ⟨hcz57_0, hcz57_1, hcz57_2, hcz57_3, hcz57_4, hfz57_0, hfz57_1, hfz57_2, hfz57_3, hfz57_4⟩ := cz5 BK185.out))
                        have n0_ : Aside0 (Kd.S (Kd.slice 3 (Kd.int .i64)) 23 (((((w55.setCell ⟨gb185, 0, none⟩ (.int .i64 ((rd_T64 t181 x42_3).f0.f0))).setCell ⟨gb185, 1, none⟩ (.int .i64 ((rd_T64 t181 x42_3).f0.f1))).setCell ⟨gb185, 2, none⟩ (.int .i64 ((rd_T64 t181 x42_3).f1))).setCell ⟨gb185, 3, none⟩ (.int .i64 ((rd_T64 t181 x42_3).f2))).setCell ⟨gb185, 4, none⟩ (.int .i64 ((rd_T64 t181 x42_3).f3))) w.heap.size (fun _ => True) (.slice (some ad179) t176.length co20) t176) := ⟨by (with_reducible repeat (first | apply Kd.S_alloc | apply Kd.S_drewN | apply Kd.S_drew)); exact Kd.S_mono (Kd.S_far (p := ⟨gb185, 4, none⟩) (Kd.S_far (p := ⟨gb185, 3, none⟩) (Kd.S_far (p := ⟨gb185, 2, none⟩) (Kd.S_far (p := ⟨gb185, 1, none⟩) (Kd.S_far (p := ⟨gb185, 0, none⟩) (Kd.S_types HO_6.out BK185.out (by decide)) (fun _ hk => hk.2) (.int .i64 ((rd_T64 t181 x42_3).f0.f0))) (fun _ hk => hk.2) (.int .i64 ((rd_T64 t181 x42_3).f0.f1))) (fun _ hk => hk.2) (.int .i64 ((rd_T64 t181 x42_3).f1))) (fun _ hk => hk.2) (.int .i64 ((rd_T64 t181 x42_3).f2))) (fun _ hk => hk.2) (.int .i64 ((rd_T64 t181 x42_3).f3))) (fun _ hk => trivial)⟩
                        have n1_ : Aside0 (Kd.R k49 49 (((((w55.setCell ⟨gb185, 0, none⟩ (.int .i64 ((rd_T64 t181 x42_3).f0.f0))).setCell ⟨gb185, 1, none⟩ (.int .i64 ((rd_T64 t181 x42_3).f0.f1))).setCell ⟨gb185, 2, none⟩ (.int .i64 ((rd_T64 t181 x42_3).f1))).setCell ⟨gb185, 3, none⟩ (.int .i64 ((rd_T64 t181 x42_3).f2))).setCell ⟨gb185, 4, none⟩ (.int .i64 ((rd_T64 t181 x42_3).f3))) w.heap.size (fun _ => True) u7 x7_3) := ⟨by (with_reducible repeat (first | apply Kd.R_alloc | apply Kd.R_drewN | apply Kd.R_drew)); exact Kd.R_mono (Kd.R_far (p := ⟨gb185, 4, none⟩) (Kd.R_far (p := ⟨gb185, 3, none⟩) (Kd.R_far (p := ⟨gb185, 2, none⟩) (Kd.R_far (p := ⟨gb185, 1, none⟩) (Kd.R_far (p := ⟨gb185, 0, none⟩) (Kd.R_types HO_7.out BK185.out (by decide)) (fun _ hk => hk.2) (.int .i64 ((rd_T64 t181 x42_3).f0.f0))) (fun _ hk => hk.2) (.int .i64 ((rd_T64 t181 x42_3).f0.f1))) (fun _ hk => hk.2) (.int .i64 ((rd_T64 t181 x42_3).f1))) (fun _ hk => hk.2) (.int .i64 ((rd_T64 t181 x42_3).f2))) (fun _ hk => hk.2) (.int .i64 ((rd_T64 t181 x42_3).f3))) (fun _ hk => trivial)⟩
                        have n2_ : Aside0 (Kd.R k64 64 (((((w55.setCell ⟨gb185, 0, none⟩ (.int .i64 ((rd_T64 t181 x42_3).f0.f0))).setCell ⟨gb185, 1, none⟩ (.int .i64 ((rd_T64 t181 x42_3).f0.f1))).setCell ⟨gb185, 2, none⟩ (.int .i64 ((rd_T64 t181 x42_3).f1))).setCell ⟨gb185, 3, none⟩ (.int .i64 ((rd_T64 t181 x42_3).f2))).setCell ⟨gb185, 4, none⟩ (.int .i64 ((rd_T64 t181 x42_3).f3))) w.heap.size (fun k_ => k_ ≠ gb185) (.slice (some ad184) t181.length co29) t181) := ⟨by (with_reducible repeat (first | apply Kd.R_alloc | apply Kd.R_drewN | apply Kd.R_drew)); exact Kd.R_mono (Kd.R_far (p := ⟨gb185, 4, none⟩) (Kd.R_far (p := ⟨gb185, 3, none⟩) (Kd.R_far (p := ⟨gb185, 2, none⟩) (Kd.R_far (p := ⟨gb185, 1, none⟩) (Kd.R_far (p := ⟨gb185, 0, none⟩) (Kd.R_mono HO_40.out (fun k_ hk => (⟨hk, hk.2⟩ : _ ∧ k_ ≠ gb185))) (fun _ hk => hk.2) (.int .i64 ((rd_T64 t181 x42_3).f0.f0))) (fun _ hk => hk.2) (.int .i64 ((rd_T64 t181 x42_3).f0.f1))) (fun _ hk => hk.2) (.int .i64 ((rd_T64 t181 x42_3).f1))) (fun _ hk => hk.2) (.int .i64 ((rd_T64 t181 x42_3).f2))) (fun _ hk => hk.2) (.int .i64 ((rd_T64 t181 x42_3).f3))) (fun _ hk => hk.1.2)⟩
                        have n3_ : Aside0 ((((((w55.setCell ⟨gb185, 0, none⟩ (.int .i64 ((rd_T64 t181 x42_3).f0.f0))).setCell ⟨gb185, 1, none⟩ (.int .i64 ((rd_T64 t181 x42_3).f0.f1))).setCell ⟨gb185, 2, none⟩ (.int .i64 ((rd_T64 t181 x42_3).f1))).setCell ⟨gb185, 3, none⟩ (.int .i64 ((rd_T64 t181 x42_3).f2))).setCell ⟨gb185, 4, none⟩ (.int .i64 ((rd_T64 t181 x42_3).f3))).heap[gb174]? = some (.cells #[.slice A0_0 l0_0.length c0_0, .slice A0_1 l0_1.length c0_1, .int .i64 a0_2] 25 (0, 0))) := ⟨by (with_reducible repeat (first | refine blk_drewN ?_ _ | refine blk_drew ?_ | refine blk_alloc ?_ _)); refine blk_far ?_ NB174_185.out _; (with_reducible repeat (first | refine blk_drewN ?_ _ | refine blk_drew ?_ | refine blk_alloc ?_ _)); refine blk_far ?_ NB174_185.out _; (with_reducible repeat (first | refine blk_drewN ?_ _ | refine blk_drew ?_ | refine blk_alloc ?_ _)); refine blk_far ?_ NB174_185.out _; (with_reducible repeat (first | refine blk_drewN ?_ _ | refine blk_drew ?_ | refine blk_alloc ?_ _)); refine blk_far ?_ NB174_185.out _; (with_reducible repeat (first | refine blk_drewN ?_ _ | refine blk_drew ?_ | refine blk_alloc ?_ _)); refine blk_far ?_ NB174_185.out _; (with_reducible repeat (first | refine blk_drewN ?_ _ | refine blk_drew ?_ | refine blk_alloc ?_ _)); exact BK174.out⟩
                        have n4_ : Aside0 ((((((w55.setCell ⟨gb185, 0, none⟩ (.int .i64 ((rd_T64 t181 x42_3).f0.f0))).setCell ⟨gb185, 1, none⟩ (.int .i64 ((rd_T64 t181 x42_3).f0.f1))).setCell ⟨gb185, 2, none⟩ (.int .i64 ((rd_T64 t181 x42_3).f1))).setCell ⟨gb185, 3, none⟩ (.int .i64 ((rd_T64 t181 x42_3).f2))).setCell ⟨gb185, 4, none⟩ (.int .i64 ((rd_T64 t181 x42_3).f3))).heap[gb185]? = some (.cells #[.int .i64 ((rd_T64 t181 x42_3).f0.f0), .int .i64 ((rd_T64 t181 x42_3).f0.f1), .int .i64 ((rd_T64 t181 x42_3).f1), .int .i64 ((rd_T64 t181 x42_3).f2), .int .i64 ((rd_T64 t181 x42_3).f3)] 64 (0, 0))) := ⟨by (with_reducible repeat (first | refine blk_drewN ?_ _ | refine blk_drew ?_ | refine blk_alloc ?_ _)); refine blk_put (cs := #[.int .i64 ((rd_T64 t181 x42_3).f0.f0), .int .i64 ((rd_T64 t181 x42_3).f0.f1), .int .i64 ((rd_T64 t181 x42_3).f1), .int .i64 ((rd_T64 t181 x42_3).f2), .int .i64 0]) ?_ 4 _ rfl; (with_reducible repeat (first | refine blk_drewN ?_ _ | refine blk_drew ?_ | refine blk_alloc ?_ _)); refine blk_put (cs := #[.int .i64 ((rd_T64 t181 x42_3).f0.f0), .int .i64 ((rd_T64 t181 x42_3).f0.f1), .int .i64 ((rd_T64 t181 x42_3).f1), .int .i64 0, .int .i64 0]) ?_ 3 _ rfl; (with_reducible repeat (first | refine blk_drewN ?_ _ | refine blk_drew ?_ | refine blk_alloc ?_ _)); refine blk_put (cs := #[.int .i64 ((rd_T64 t181 x42_3).f0.f0), .int .i64 ((rd_T64 t181 x42_3).f0.f1), .int .i64 0, .int .i64 0, .int .i64 0]) ?_ 2 _ rfl; (with_reducible repeat (first | refine blk_drewN ?_ _ | refine blk_drew ?_ | refine blk_alloc ?_ _)); refine blk_put (cs := #[.int .i64 ((rd_T64 t181 x42_3).f0.f0), .int .i64 0, .int .i64 0, .int .i64 0, .int .i64 0]) ?_ 1 _ rfl; (with_reducible repeat (first | refine blk_drewN ?_ _ | refine blk_drew ?_ | refine blk_alloc ?_ _)); refine blk_put (cs := #[.int .i64 0, .int .i64 0, .int .i64 0, .int .i64 0, .int .i64 0]) ?_ 0 _ rfl; (with_reducible repeat (first | refine blk_drewN ?_ _ | refine blk_drew ?_ | refine blk_alloc ?_ _)); exact BK185.out⟩
                        have n5_ : Aside0 (Below w.heap.size w (((((w55.setCell ⟨gb185, 0, none⟩ (.int .i64 ((rd_T64 t181 x42_3).f0.f0))).setCell ⟨gb185, 1, none⟩ (.int .i64 ((rd_T64 t181 x42_3).f0.f1))).setCell ⟨gb185, 2, none⟩ (.int .i64 ((rd_T64 t181 x42_3).f1))).setCell ⟨gb185, 3, none⟩ (.int .i64 ((rd_T64 t181 x42_3).f2))).setCell ⟨gb185, 4, none⟩ (.int .i64 ((rd_T64 t181 x42_3).f3)))) := ⟨pc HB.out GE174.out GE185.out⟩
                        (try clear HO_6)
                        (try clear HO_7)
                        (try clear HO_40)
                        (try clear BK174)
                        (try clear BK185)
                        (try clear HB)
                        generalize (((((w55.setCell ⟨gb185, 0, none⟩ (.int .i64 ((rd_T64 t181 x42_3).f0.f0))).setCell ⟨gb185, 1, none⟩ (.int .i64 ((rd_T64 t181 x42_3).f0.f1))).setCell ⟨gb185, 2, none⟩ (.int .i64 ((rd_T64 t181 x42_3).f1))).setCell ⟨gb185, 3, none⟩ (.int .i64 ((rd_T64 t181 x42_3).f2))).setCell ⟨gb185, 4, none⟩ (.int .i64 ((rd_T64 t181 x42_3).f3))) = w58 at n0_ n1_ n2_ n3_ n4_ n5_ ⊢
                        have HO_6 := n0_
                        have HO_7 := n1_
                        have HO_40 := n2_
                        have BK174 := n3_
                        have BK185 := n4_
                        have HB := n5_
                        clear n0_ n1_ n2_ n3_ n4_ n5_
                        replace HO_6 := Aside0.mk (Kd.S_drew HO_6.out)
                        replace HO_7 := Aside0.mk (Kd.R_drew HO_7.out)
                        replace HO_40 := Aside0.mk (Kd.R_drew HO_40.out)
                        replace BK174 := Aside0.mk (blk_drew BK174.out)
                        replace BK185 := Aside0.mk (blk_drew BK185.out)
                        replace HB := Aside0.mk (below_drew1 HB.out)
                        have p186 : 0 ≤ ((ji33) : Int) := od
                        have q186 : (ji33) < (t176.length : Int) := od
                        obtain ⟨ad186, A186_0, c186_0, e186, hx186_0, hl186_0, hi186_0⟩ := at_L1 (Kd.S_reads' HO_6.out).2.2 (ji33) p186 q186
                        obtain rfl : ad179 = ad186 := (by injection e186)
                        obtain ⟨ce186, hce186, hMe186, hcc186⟩ := Kd.S_get HO_6.out [] (ji33) p186 (by first | exact q186 | exact od | (have e_ := (Kd.S_reads' HO_6.out).1; omega))
                        obtain ⟨ve186_0, rfl, ge186_0⟩ := hMe186
                        have hv186_0 := hcc186 0 _ rfl
                        rw [Nat.add_zero, show ((Kd.slice 3 (Kd.int .i64))).sz = 1 from rfl, Nat.mul_one] at hv186_0
                        replace hv186_0 := Option.some.inj (hv186_0.symm.trans hx186_0)
                        rw [hv186_0] at ge186_0
                        have HL186_0 := Aside0.mk (show Kd.R (Kd.int .i64) 3 _ _ _ _ (rd_L1 t176 (ji33)) from ge186_0)
                        clear hv186_0 ge186_0
                        clear hcc186 hce186
                        have HR186_0 := Aside0.mk hi186_0
                        have HC186_0 := Aside0.mk hl186_0
                        clear hi186_0 hl186_0
                        replace p186 := eq_true p186
                        replace q186 := eq_true q186
                        have p187 : 0 ≤ ((ji36) : Int) := od
                        have q187 : (ji36) < ((rd_L1 t176 (ji33)).length : Int) := od
                        obtain ⟨ad187, e187, hx187_0⟩ := Kd.at_int (by repeat (first | (with_reducible exact HR186_0.out) | (with_reducible refine Kd.C_alloc ?_ _) | (with_reducible refine Kd.C_drewN ?_ _) | (with_reducible refine Kd.C_drew ?_) | exact HR186_0.out)) (ji36) p187 q187
                        cases e187
                        replace p187 := eq_true p187
                        replace q187 := eq_true q187
                        have p189 : 0 ≤ (x8_3 : Int) := od
                        have q189 : x8_3 < (t176.length : Int) := od
                        obtain ⟨ad189, A189_0, c189_0, e189, hx189_0, hl189_0, hi189_0⟩ := at_L1 (Kd.S_reads' HO_6.out).2.2 x8_3 p189 q189
                        obtain rfl : ad179 = ad189 := (by injection e189)
                        obtain ⟨ce189, hce189, hMe189, hcc189⟩ := Kd.S_get HO_6.out [] x8_3 p189 (by first | exact q189 | exact od | (have e_ := (Kd.S_reads' HO_6.out).1; omega))
                        obtain ⟨ve189_0, rfl, ge189_0⟩ := hMe189
                        have hv189_0 := hcc189 0 _ rfl
                        rw [Nat.add_zero, show ((Kd.slice 3 (Kd.int .i64))).sz = 1 from rfl, Nat.mul_one] at hv189_0
                        replace hv189_0 := Option.some.inj (hv189_0.symm.trans hx189_0)
                        rw [hv189_0] at ge189_0
                        have HL189_0 := Aside0.mk (show Kd.R (Kd.int .i64) 3 _ _ _ _ (rd_L1 t176 x8_3) from ge189_0)
                        clear hv189_0 ge189_0
                        clear hcc189 hce189
                        have HR189_0 := Aside0.mk hi189_0
                        have HC189_0 := Aside0.mk hl189_0
                        clear hi189_0 hl189_0
                        replace p189 := eq_true p189
                        replace q189 := eq_true q189
                        have p190 : 0 ≤ (x9_3 : Int) := od
                        have q190 : x9_3 < ((rd_L1 t176 x8_3).length : Int) := od
                        obtain ⟨ad190, e190, hx190_0⟩ := Kd.at_int (by repeat (first | (with_reducible exact HR189_0.out) | (with_reducible refine Kd.C_alloc ?_ _) | (with_reducible refine Kd.C_drewN ?_ _) | (with_reducible refine Kd.C_drew ?_) | exact HR189_0.out)) x9_3 p190 q190
                        cases e190
                        replace p190 := eq_true p190
                        replace q190 := eq_true q190
                        refine start_ (n := 24) (S := fun w' => w'.cell? ⟨gb185, 0, none⟩ = some (.int .i64 ((rd_T64 t181 x42_3).f0.f0)) ∧ w'.cell? ⟨gb185, 1, none⟩ = some (.int .i64 ((rd_T64 t181 x42_3).f0.f1)) ∧ w'.cell? ⟨gb185, 2, none⟩ = some (.int .i64 ((rd_T64 t181 x42_3).f1)) ∧ w'.cell? ⟨gb185, 3, none⟩ = some (.int .i64 ((rd_T64 t181 x42_3).f2)) ∧ w'.cell? ⟨gb185, 4, none⟩ = some (.int .i64 ((rd_T64 t181 x42_3).f3)) ∧ w'.cell? (ad179.add ((ji33)).toNat) = some (.slice (some ad187) (rd_L1 t176 (ji33)).length c186_0) ∧ w'.cell? (ad187.add ((ji36)).toNat) = some (.int .i64 (rd (rd_L1 t176 (ji33)) (ji36))) ∧ w'.cell? (ad179.add (x8_3).toNat) = some (.slice (some ad190) (rd_L1 t176 x8_3).length c189_0) ∧ w'.cell? (ad190.add (x9_3).toNat) = some (.int .i64 (rd (rd_L1 t176 x8_3) x9_3))) (ds := []) #[ff,ff,ff,ff,ff,ff,ff,ff,ff,ff,ff,ff,ff,ff,ff,ff,ff,ff,ff,ff,ff,ff,ff,ff] (by kernel_rfl) rfl rfl ⟨(blk_cell BK185.out 0).trans rfl, (blk_cell BK185.out 1).trans rfl, (blk_cell BK185.out 2).trans rfl, (blk_cell BK185.out 3).trans rfl, (blk_cell BK185.out 4).trans rfl, hx186_0, hx187_0, hx189_0, hx190_0⟩ (fun hHeld => ?_); refine with_tabW editscript_Align.tab12 editscript_Align.bits12 (fun HT_ HW_ => ?_)
                        generalize w58.drew = w59 at HO_6 HO_7 HO_40 BK174 BK185 HB HL186_0 HL189_0 HR186_0 HR189_0 hx186_0 hx187_0 hx189_0 hx190_0 hHeld ⊢
                        refine pu 0 46 ?_
                        refine pu 2 48 ?_
                        refine pu 3 49 ?_
                        refine pu 4 50 ?_
                        refine pu 9 55 ?_
                        refine pu 10 56 ?_
                        refine pu 16 62 ?_
                        refine pu 17 63 ?_
                        refine pu 18 64 ?_
                        refine pu 20 66 ?_
                        refine tu 1 47 hHeld ?_
                        refine tu 5 51 hHeld ?_
                        refine pu 6 52 ?_
                        refine pu 7 53 ?_
                        refine tu 8 54 hHeld ?_
                        refine tu 11 57 hHeld ?_
                        refine pu 12 58 ?_
                        refine pu 13 59 ?_
                        refine tu 14 60 hHeld ?_
                        refine tu 19 65 hHeld ?_
                        refine pu 21 67 ?_
                        refine tu 22 68 hHeld ?_
                        refine one_ (i := 15) (N := some 61) #[tt,tt,tt,tt,tt,tt,tt,tt,tt,tt,tt,tt,tt,tt,tt,tt,tt,tt,tt,tt,tt,tt,tt,ff] rfl rfl (one_of HT_.out (by kernel_rfl)) (by decide) (fun K hK => ?_)
                        refine goes_ Tryd.func36 (by kernel_rfl) rfl #[.int .i64 ((rd_T64 t181 x42_3).f1), .int .i64 (rd (rd_L1 t176 (ji33)) (ji36))] (by rfl) rfl rfl (by (try simp only [List.map_toArray, List.map_cons, List.map_nil]); first | done | (simp only [hji33, hji36]; rfl) | rfl | (simp only [List.length_drop, List.length_take]; rfl)) ?_
                        with_reducible refine (editscript_add.calls ((rd_T64 t181 x42_3).f1) (rd (rd_L1 t176 (ji33)) (ji36)) t188 _ A39.out).mono ?_
                        rintro e w60 ⟨rfl, hb⟩
                        have HS5_ := (hb.cell (World.block_lt_of_cell? _ _ (hHeld.2.2.2.2.2.1))).trans (hHeld.2.2.2.2.2.1)
                        have HS6_ := (hb.cell (World.block_lt_of_cell? _ _ (hHeld.2.2.2.2.2.2.1))).trans (hHeld.2.2.2.2.2.2.1)
                        have HS7_ := (hb.cell (World.block_lt_of_cell? _ _ (hHeld.2.2.2.2.2.2.2.1))).trans (hHeld.2.2.2.2.2.2.2.1)
                        have HS8_ := (hb.cell (World.block_lt_of_cell? _ _ (hHeld.2.2.2.2.2.2.2.2))).trans (hHeld.2.2.2.2.2.2.2.2)
                        refine ⟨_, rfl, ?_⟩
                        replace HO_6 := Aside0.mk (Kd.S_below (pS HO_6.out) hb)
                        replace HO_7 := Aside0.mk (Kd.R_below (pR HO_7.out) hb)
                        replace HO_40 := Aside0.mk (Kd.R_below (pR HO_40.out) hb)
                        replace HL186_0 := Aside0.mk (Kd.R_below (pR HL186_0.out) hb)
                        replace HL189_0 := Aside0.mk (Kd.R_below (pR HL189_0.out) hb)
                        replace BK174 := Aside0.mk (bb BK174.out hb)
                        replace BK185 := Aside0.mk (bb BK185.out hb)
                        replace HR186_0 := Aside0.mk (Kd.C_below (by repeat (first | (with_reducible exact HR186_0.out) | (with_reducible refine Kd.C_alloc ?_ _) | (with_reducible refine Kd.C_drewN ?_ _) | (with_reducible refine Kd.C_drew ?_) | exact HR186_0.out)) hb)
                        replace HR189_0 := Aside0.mk (Kd.C_below (by repeat (first | (with_reducible exact HR189_0.out) | (with_reducible refine Kd.C_alloc ?_ _) | (with_reducible refine Kd.C_drewN ?_ _) | (with_reducible refine Kd.C_drew ?_) | exact HR189_0.out)) hb)
                        replace HB := Aside0.mk (below_step (pc HB.out GE174.out GE185.out) hb)
                        (try clear hb)
                        (try clear hk)
                        refine hK.out _ _ ⟨(blk_cell BK185.out 0).trans rfl, (blk_cell BK185.out 1).trans rfl, (blk_cell BK185.out 2).trans rfl, (blk_cell BK185.out 3).trans rfl, (blk_cell BK185.out 4).trans rfl, HS5_, HS6_, HS7_, HS8_⟩ (fun hHeld => ?_)
                        clear hK K
                        refine norm_ (a' := ?_) ?_ ?_
                        rotate_left
                        ·
                         show Act.put _ (some 61) _ = _
                         simp only [nrm]
                         rfl
                        refine pu 23 69 ?_
                        refine done_ (done_of HT_.out (by kernel_rfl)) ?_
                        try go_wp2
                        go_roundg k3
                        case measure => have := HK1.out; have := HJ20.out; have := HK3.out; omega
                        case rel => exact ⟨(x7_3), (x8_3), (x9_3), (wrap64 (x42_3 + 1)), rr, rr, rr, H', ⟨by have := HK1.out; have := HJ20.out; have := HK3.out; omega⟩, ⟨by (with_reducible repeat (first | apply Kd.S_alloc | apply Kd.S_drewN | apply Kd.S_drew)); exact HO_6.out⟩, ⟨by (with_reducible repeat (first | apply Kd.R_alloc | apply Kd.R_drewN | apply Kd.R_drew)); exact HO_7.out⟩, ⟨by (with_reducible repeat (first | apply Kd.R_alloc | apply Kd.R_drewN | apply Kd.R_drew)); exact Kd.R_mono HO_40.out (fun _ hk => trivial)⟩, ⟨by (with_reducible repeat (first | refine blk_drewN ?_ _ | refine blk_drew ?_ | refine blk_alloc ?_ _)); exact BK174.out⟩, ⟨pc HB.out GE174.out GE185.out⟩⟩
                      ·
                       rw [if_neg c43] at H
                       exact absurd H (by simp)
                     ·
                      rw [if_neg c42] at H
                      exact absurd H (by simp)
                    ·
                     rw [if_neg c41] at H
                     exact absurd H (by simp)
                   ·
                    rw [if_neg c40] at H
                    exact absurd H (by simp)
                  ·
                   rw [if_neg c38] at H
                   exact absurd H (by simp)
                 ·
                  rw [if_neg c37] at H
                  exact absurd H (by simp)
                ·
                 rw [if_neg c35] at H
                 exact absurd H (by simp)
               ·
                rw [if_neg c34] at H
                exact absurd H (by simp)
              ·
               rw [if_neg c32] at H
               exact absurd H (by simp)
             ·
              rw [if_neg c31] at H
              exact absurd H (by simp)
            ·
             rw [if_neg c30] at H
             have c30b0 : decide (x42_3 < (t181.length : Int)) = false := decide_eq_false c30
             clear c30
             have H' := Aside0.mk H
             clear H
             go_wp2
             go_roundg k3
             case measure => have := HK1.out; have := HJ20.out; have := HK3.out; omega
             case rel => exact ⟨(x7_3), (x8_3), (x9_3), rr, rr, H', ⟨by have := HK1.out; have := HJ20.out; have := HK3.out; omega⟩, ⟨by (with_reducible repeat (first | apply Kd.S_alloc | apply Kd.S_drewN | apply Kd.S_drew)); exact HO_6.out⟩, ⟨by (with_reducible repeat (first | apply Kd.R_alloc | apply Kd.R_drewN | apply Kd.R_drew)); exact HO_7.out⟩, ⟨by (with_reducible repeat (first | refine blk_drewN ?_ _ | refine blk_drew ?_ | refine blk_alloc ?_ _)); exact BK174.out⟩, ⟨pb HB.out GE174.out⟩⟩
         ·
          replace c25 := Bool.eq_false_iff.mpr c25
          subst c25
          have H1 : (some (x7_1, 0)) = some (r1, r2) := by rw [if_neg (show ¬ (false = true) by decide)] at H; exact H
          clear H
          have H := H1
          clear H1
          simp only [Option.some.injEq, Prod.mk.injEq] at H
          obtain ⟨rfl, rfl⟩ := H
          go_wp2
          go_ret2
          exact ⟨_, er, by (with_reducible repeat (first | apply Kd.R_alloc | apply Kd.R_drewN | apply Kd.R_drew)); exact HO_7.out, pb HB.out GE174.out⟩
   ·
    rw [if_neg c7] at H
    exact absurd H (by simp)
  ·
   rw [if_neg c6] at H
   exact absurd H (by simp)
 ·
  replace c4 := Bool.eq_false_iff.mpr c4
  subst c4
  have H1 : (some (([] : List (S49)), 1)) = some (r1, r2) := by rw [if_neg (show ¬ (false = true) by decide)] at H; exact H
  clear H
  have H := H1
  clear H1
  simp only [Option.some.injEq, Prod.mk.injEq] at H
  obtain ⟨rfl, rfl⟩ := H
  go_enter Tryd.func21, Tryd.ntmps21
  go_wp2_with (first | ((with_reducible refine gate_dst (N := 2) rfl ?_); (try (refine gate_guard (by rfl) ?_; dsimp only)); refine box_event ?hg (N := 2) ?hd (cs := #[.slice A0_0 l0_0.length c0_0, .slice A0_1 l0_1.length c0_1, .int .i64 a0_2]) (t := 25) ?hr ?_; (case hd => rfl); (case hg => rfl); (case hr => first | (go_simp; done) | (go_simp; rfl)); intro gb174 hg w61 hbox hb; have n0_ := Aside0.mk (below_step (pB HB.out) hb); have n1_ := Aside0.mk (hbox); have n2_ := Aside0.mk ((by rw [hg]; exact (below_size (pB HB.out)) : w.heap.size ≤ gb174)); have n3_ := Aside0.mk ((by rw [hg]; exact (below_size (pB HB.out)) : w.heap.size ≤ gb174)); clear HB; have HB := n0_; have BK174 := n1_; have GW174 := n2_; have GE174 := n3_; clear n0_ n1_ n2_ n3_; clear hb hbox hg; obtain ⟨hcz62_0, hcz62_1, hcz62_2, hfz62_0, hfz62_1, hfz62_2⟩ := cz3 BK174.out) | ((with_reducible refine gate_callee (f := 29) rfl ?_); refine gl (some 14) Tryd.func29 #[.agg #[.slice A0_0 l0_0.length c0_0, .slice A0_1 l0_1.length c0_1, .int .i64 a0_2], .slice A1 l1.length c1] ?_; (with_reducible refine (editscript_proper.calls k _ _ l0_0 _ _ l0_1 a0_2 _ _ l1 false _ ?side1 ?side2 ?side3 ?side4 ?side5 ?side6 A3.out).mono ?_); (case side1 => exact sd (Kd.C_below HR0_0.out HB.out)); (case side2 => exact HC0_0.out); (case side3 => exact sd (Kd.C_below HR0_1.out HB.out)); (case side4 => exact HC0_1.out); (case side5 => exact sd (Kd.C_below HR1.out HB.out)); (case side6 => exact HC1.out); rintro e w63 ⟨rfl, hb⟩; refine ⟨_, rfl, ?_⟩; replace BK174 := Aside0.mk (bb BK174.out hb); replace HB := Aside0.mk (below_step (pb HB.out GE174.out) hb); (try clear hb)))
  go_ret2
  exact ⟨_, er, by first | exact Kd.R_nil _ _ _ _ _ | exact Kd.N_nil _ _ _ _ _ | exact Kd.V_nil _ _ _ _ _ | exact Kd.Q_nil _ _ _ _ _ | exact Kd.S_nil _ _ _ _ _, pb HB.out GE174.out⟩

end Go.Proofs.YtnddijafdphbnaaDoor.All
