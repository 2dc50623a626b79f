-- Printed by wip/tools/wprint.py (a program of this session over the kit's printer). Not trusted: Lean checks it.
import Derived.Test.YthbdgmahjpgfiaaAllx0
import Derived.Test.YthbdgmahjpgfiaaAllx7
namespace Go.Proofs.Ythbdgmahjpgfiaa.All
open Go.RowKit Go.Proofs.YthbdgmahjpgfiaaW.PrintWords Go.Proofs.YthbdgmahjpgfiaaW.PrintLast Go.Proofs.YthbdgmahjpgfiaaW.PrintMore
attribute [local go_sem] max2_int min2_int max_two min_two max_three min_three max_four min_four   -- for this text's walks alone
set_option linter.unusedVariables false
set_option linter.unusedSimpArgs false

/-! ### emendateref15_Apply: function 14 -/
mutual
def emendateref15_Apply.l0 : Nat → List (S33) → ByteArray → Int → List (S33) → List Int → Int → Option ((List (S33)))
  | 0, _, _, _, _, _, _ => none
  | k + 1, x0, x1, x2, x7, x8, x9 => if x9 < (x0.length : Int) then (if 0 ≤ x9 then ((emendateref15_Start.f k x1 ((rd_T33 x0 x9).f1)).bind fun t115 => (if x9 = 0 then (emendateref15_Apply.j1 k x0 x1 x2 x7 x8 x9 ((rd_T33 x0 x9).f1) t115 true) else (if 0 ≤ (wrap64 (x9 - 1)) then (if (wrap64 (x9 - 1)) < (x0.length : Int) then ((emendateref15_Start.f k x1 ((rd_T33 x0 (wrap64 (x9 - 1))).f1)).bind fun t117 => (emendateref15_Apply.j1 k x0 x1 x2 x7 x8 x9 ((rd_T33 x0 x9).f1) t115 (t117 != t115))) else (none)) else (none)))) else (none)) else (if (x0.length : Int) > 0 then (if x7.length < 3518437208883 then (emendateref15_Apply.l2 k x1 x2 (x7 ++ [(⟨x2, (x1.size : Int), (⟨#[]⟩ : ByteArray), 0⟩ : S33)]) x8 1) else (none)) else (some x7))
def emendateref15_Apply.j1 : Nat → List (S33) → ByteArray → Int → List (S33) → List Int → Int → Int → Int → Bool → Option ((List (S33)))
  | 0, _, _, _, _, _, _, _, _, _ => none
  | k + 1, x0, x1, x2, x7, x8, x9, x10, x11, x42 => if x42 = true then (if 0 ≤ (wrap64 ((x8.length : Int) - 1)) then (if (wrap64 ((x8.length : Int) - 1)) < (x8.length : Int) then (if (wrap64 (x10 - x11)) > (rd x8 (wrap64 ((x8.length : Int) - 1))) then (if x8.length < 17592186044416 then (if x7.length < 3518437208883 then ((some (x7 ++ [(⟨wrap64 (x2 + 1), x10, (⟨#[]⟩ : ByteArray), 0⟩ : S33)] : List (S33))).bind fun y122 => (if 0 ≤ x9 then (if x9 < (x0.length : Int) then (if y122.length < 3518437208883 then (emendateref15_Apply.l0 k x0 x1 x2 (y122 ++ [(⟨(rd_T33 x0 x9).f0, (rd_T33 x0 x9).f1, (rd_T33 x0 x9).f2, (rd_T33 x0 x9).f3⟩ : S33)]) (x8 ++ [wrap64 (x10 - x11)]) (wrap64 (x9 + 1))) else (none)) else (none)) else (none))) else (none)) else (none)) else (if x9 > 0 then (if x7.length < 3518437208883 then (emendateref15_Apply.j2 k x0 x1 x2 (x7 ++ [(⟨x2, x10, (⟨#[]⟩ : ByteArray), 0⟩ : S33)]) x8 x9 x10 (wrap64 (x10 - x11))) else (none)) else (emendateref15_Apply.j2 k x0 x1 x2 x7 x8 x9 x10 (wrap64 (x10 - x11))))) else (none)) else (none)) else (if 0 ≤ x9 then (if x9 < (x0.length : Int) then (if x7.length < 3518437208883 then (emendateref15_Apply.l0 k x0 x1 x2 (x7 ++ [(⟨(rd_T33 x0 x9).f0, (rd_T33 x0 x9).f1, (rd_T33 x0 x9).f2, (rd_T33 x0 x9).f3⟩ : S33)]) x8 (wrap64 (x9 + 1))) else (none)) else (none)) else (none))
def emendateref15_Apply.j2 : Nat → List (S33) → ByteArray → Int → List (S33) → List Int → Int → Int → Int → Option ((List (S33)))
  | 0, _, _, _, _, _, _, _, _ => none
  | k + 1, x0, x1, x2, x7, x8, x9, x10, x12 => emendateref15_Apply.l1 k x0 x1 x2 x7 x8 x9 x10 x12
def emendateref15_Apply.l1 : Nat → List (S33) → ByteArray → Int → List (S33) → List Int → Int → Int → Int → Option ((List (S33)))
  | 0, _, _, _, _, _, _, _, _ => none
  | k + 1, x0, x1, x2, x7, x8, x9, x10, x12 => if (x8.length : Int) > 1 then (if 0 ≤ (wrap64 ((x8.length : Int) - 2)) then (if (wrap64 ((x8.length : Int) - 2)) < (x8.length : Int) then (if (rd x8 (wrap64 ((x8.length : Int) - 2))) ≥ x12 then (if 0 ≤ (wrap64 ((x8.length : Int) - 1)) then (if (wrap64 ((x8.length : Int) - 1)) ≤ (x8.length : Int) then (if x7.length < 3518437208883 then (emendateref15_Apply.l1 k x0 x1 x2 (x7 ++ [(⟨wrap64 (x2 + 2), x10, (⟨#[]⟩ : ByteArray), 0⟩ : S33)]) (x8.take ((wrap64 ((x8.length : Int) - 1)) : Int).toNat) x9 x10 x12) else (none)) else (none)) else (none)) else (if 0 ≤ x9 then (if x9 < (x0.length : Int) then (if x7.length < 3518437208883 then (emendateref15_Apply.l0 k x0 x1 x2 (x7 ++ [(⟨(rd_T33 x0 x9).f0, (rd_T33 x0 x9).f1, (rd_T33 x0 x9).f2, (rd_T33 x0 x9).f3⟩ : S33)]) x8 (wrap64 (x9 + 1))) else (none)) else (none)) else (none))) else (none)) else (none)) else (if 0 ≤ x9 then (if x9 < (x0.length : Int) then (if x7.length < 3518437208883 then (emendateref15_Apply.l0 k x0 x1 x2 (x7 ++ [(⟨(rd_T33 x0 x9).f0, (rd_T33 x0 x9).f1, (rd_T33 x0 x9).f2, (rd_T33 x0 x9).f3⟩ : S33)]) x8 (wrap64 (x9 + 1))) else (none)) else (none)) else (none))
def emendateref15_Apply.l2 : Nat → ByteArray → Int → List (S33) → List Int → Int → Option ((List (S33)))
  | 0, _, _, _, _, _ => none
  | k + 1, x1, x2, x7, x8, x13 => if x13 < (x8.length : Int) then (if x7.length < 3518437208883 then (emendateref15_Apply.l2 k x1 x2 (x7 ++ [(⟨wrap64 (x2 + 2), (x1.size : Int), (⟨#[]⟩ : ByteArray), 0⟩ : S33)]) x8 (wrap64 (x13 + 1))) else (none)) else (some x7)
end
def emendateref15_Apply.f (k : Nat) (l0 : List (S33)) (a1 : ByteArray) (a2 : Int) : Option ((List (S33))) := emendateref15_Apply.l0 k l0 a1 a2 ([] : List (S33)) (([0] : List Int)) 0
theorem emendateref15_Apply.mono_l : ∀ k, (∀ y0 y1 y2 y3 y4 y5, LeO (emendateref15_Apply.l0 k y0 y1 y2 y3 y4 y5) (emendateref15_Apply.l0 (k + 1) y0 y1 y2 y3 y4 y5)) ∧ (∀ y0 y1 y2 y3 y4 y5 y6 y7 y8, LeO (emendateref15_Apply.j1 k y0 y1 y2 y3 y4 y5 y6 y7 y8) (emendateref15_Apply.j1 (k + 1) y0 y1 y2 y3 y4 y5 y6 y7 y8)) ∧ (∀ y0 y1 y2 y3 y4 y5 y6 y7, LeO (emendateref15_Apply.j2 k y0 y1 y2 y3 y4 y5 y6 y7) (emendateref15_Apply.j2 (k + 1) y0 y1 y2 y3 y4 y5 y6 y7)) ∧ (∀ y0 y1 y2 y3 y4 y5 y6 y7, LeO (emendateref15_Apply.l1 k y0 y1 y2 y3 y4 y5 y6 y7) (emendateref15_Apply.l1 (k + 1) y0 y1 y2 y3 y4 y5 y6 y7)) ∧ (∀ y0 y1 y2 y3 y4, LeO (emendateref15_Apply.l2 k y0 y1 y2 y3 y4) (emendateref15_Apply.l2 (k + 1) y0 y1 y2 y3 y4))
  | 0 => ⟨fun _ _ _ _ _ _ r h => by simp [emendateref15_Apply.l0] at h, fun _ _ _ _ _ _ _ _ _ r h => by simp [emendateref15_Apply.j1] at h, fun _ _ _ _ _ _ _ _ r h => by simp [emendateref15_Apply.j2] at h, fun _ _ _ _ _ _ _ _ r h => by simp [emendateref15_Apply.l1] at h, fun _ _ _ _ _ r h => by simp [emendateref15_Apply.l2] at h⟩
  | k + 1 => by
    obtain ⟨ih0, ih1, ih2, ih3, ih4⟩ := emendateref15_Apply.mono_l k
    refine ⟨?_, ?_, ?_, ?_, ?_⟩
    · intro y0 y1 y2 y3 y4 y5
      unfold emendateref15_Apply.l0
      repeat' first
      | (with_reducible exact ih0 _ _ _ _ _ _)
      | (with_reducible exact ih1 _ _ _ _ _ _ _ _ _)
      | (with_reducible exact ih2 _ _ _ _ _ _ _ _)
      | (with_reducible exact ih3 _ _ _ _ _ _ _ _)
      | (with_reducible exact ih4 _ _ _ _ _)
      | (with_reducible exact emendateref15_Start.mono _ _ _)
      | (with_reducible exact LeO.refl _)
      | (with_reducible exact LeO.none _)
      | (with_reducible refine LeO.ite ?_ ?_)
      | (with_reducible refine LeO.bind ?_ (fun _ => ?_))
      | exact ih0 _ _ _ _ _ _
      | exact ih1 _ _ _ _ _ _ _ _ _
      | exact ih2 _ _ _ _ _ _ _ _
      | exact ih3 _ _ _ _ _ _ _ _
      | exact ih4 _ _ _ _ _
      | exact emendateref15_Start.mono _ _ _
      | exact LeO.none _
      | refine LeO.ite ?_ ?_
      | refine LeO.bind ?_ (fun _ => ?_)
    · intro y0 y1 y2 y3 y4 y5 y6 y7 y8
      unfold emendateref15_Apply.j1
      repeat' first
      | (with_reducible exact ih0 _ _ _ _ _ _)
      | (with_reducible exact ih1 _ _ _ _ _ _ _ _ _)
      | (with_reducible exact ih2 _ _ _ _ _ _ _ _)
      | (with_reducible exact ih3 _ _ _ _ _ _ _ _)
      | (with_reducible exact ih4 _ _ _ _ _)
      | (with_reducible exact emendateref15_Start.mono _ _ _)
      | (with_reducible exact LeO.refl _)
      | (with_reducible exact LeO.none _)
      | (with_reducible refine LeO.ite ?_ ?_)
      | (with_reducible refine LeO.bind ?_ (fun _ => ?_))
      | exact ih0 _ _ _ _ _ _
      | exact ih1 _ _ _ _ _ _ _ _ _
      | exact ih2 _ _ _ _ _ _ _ _
      | exact ih3 _ _ _ _ _ _ _ _
      | exact ih4 _ _ _ _ _
      | exact emendateref15_Start.mono _ _ _
      | exact LeO.none _
      | refine LeO.ite ?_ ?_
      | refine LeO.bind ?_ (fun _ => ?_)
    · intro y0 y1 y2 y3 y4 y5 y6 y7
      unfold emendateref15_Apply.j2
      repeat' first
      | (with_reducible exact ih0 _ _ _ _ _ _)
      | (with_reducible exact ih1 _ _ _ _ _ _ _ _ _)
      | (with_reducible exact ih2 _ _ _ _ _ _ _ _)
      | (with_reducible exact ih3 _ _ _ _ _ _ _ _)
      | (with_reducible exact ih4 _ _ _ _ _)
      | (with_reducible exact emendateref15_Start.mono _ _ _)
      | (with_reducible exact LeO.refl _)
      | (with_reducible exact LeO.none _)
      | (with_reducible refine LeO.ite ?_ ?_)
      | (with_reducible refine LeO.bind ?_ (fun _ => ?_))
      | exact ih0 _ _ _ _ _ _
      | exact ih1 _ _ _ _ _ _ _ _ _
      | exact ih2 _ _ _ _ _ _ _ _
      | exact ih3 _ _ _ _ _ _ _ _
      | exact ih4 _ _ _ _ _
      | exact emendateref15_Start.mono _ _ _
      | exact LeO.none _
      | refine LeO.ite ?_ ?_
      | refine LeO.bind ?_ (fun _ => ?_)
    · intro y0 y1 y2 y3 y4 y5 y6 y7
      unfold emendateref15_Apply.l1
      repeat' first
      | (with_reducible exact ih0 _ _ _ _ _ _)
      | (with_reducible exact ih1 _ _ _ _ _ _ _ _ _)
      | (with_reducible exact ih2 _ _ _ _ _ _ _ _)
      | (with_reducible exact ih3 _ _ _ _ _ _ _ _)
      | (with_reducible exact ih4 _ _ _ _ _)
      | (with_reducible exact emendateref15_Start.mono _ _ _)
      | (with_reducible exact LeO.refl _)
      | (with_reducible exact LeO.none _)
      | (with_reducible refine LeO.ite ?_ ?_)
      | (with_reducible refine LeO.bind ?_ (fun _ => ?_))
      | exact ih0 _ _ _ _ _ _
      | exact ih1 _ _ _ _ _ _ _ _ _
      | exact ih2 _ _ _ _ _ _ _ _
      | exact ih3 _ _ _ _ _ _ _ _
      | exact ih4 _ _ _ _ _
      | exact emendateref15_Start.mono _ _ _
      | exact LeO.none _
      | refine LeO.ite ?_ ?_
      | refine LeO.bind ?_ (fun _ => ?_)
    · intro y0 y1 y2 y3 y4
      unfold emendateref15_Apply.l2
      repeat' first
      | (with_reducible exact ih0 _ _ _ _ _ _)
      | (with_reducible exact ih1 _ _ _ _ _ _ _ _ _)
      | (with_reducible exact ih2 _ _ _ _ _ _ _ _)
      | (with_reducible exact ih3 _ _ _ _ _ _ _ _)
      | (with_reducible exact ih4 _ _ _ _ _)
      | (with_reducible exact emendateref15_Start.mono _ _ _)
      | (with_reducible exact LeO.refl _)
      | (with_reducible exact LeO.none _)
      | (with_reducible refine LeO.ite ?_ ?_)
      | (with_reducible refine LeO.bind ?_ (fun _ => ?_))
      | exact ih0 _ _ _ _ _ _
      | exact ih1 _ _ _ _ _ _ _ _ _
      | exact ih2 _ _ _ _ _ _ _ _
      | exact ih3 _ _ _ _ _ _ _ _
      | exact ih4 _ _ _ _ _
      | exact emendateref15_Start.mono _ _ _
      | exact LeO.none _
      | refine LeO.ite ?_ ?_
      | refine LeO.bind ?_ (fun _ => ?_)
theorem emendateref15_Apply.mono : ∀ a0 a1 a2 k, LeO (emendateref15_Apply.f k a0 a1 a2) (emendateref15_Apply.f (k + 1) a0 a1 a2) := by
  intro a0 a1 a2 k
  obtain ⟨ih0, ih1, ih2, ih3, ih4⟩ := emendateref15_Apply.mono_l k
  unfold emendateref15_Apply.f
  repeat' first
      | (with_reducible exact ih0 _ _ _ _ _ _)
      | (with_reducible exact ih1 _ _ _ _ _ _ _ _ _)
      | (with_reducible exact ih2 _ _ _ _ _ _ _ _)
      | (with_reducible exact ih3 _ _ _ _ _ _ _ _)
      | (with_reducible exact ih4 _ _ _ _ _)
      | (with_reducible exact emendateref15_Start.mono _ _ _)
      | (with_reducible exact LeO.refl _)
      | (with_reducible exact LeO.none _)
      | (with_reducible refine LeO.ite ?_ ?_)
      | (with_reducible refine LeO.bind ?_ (fun _ => ?_))
      | exact ih0 _ _ _ _ _ _
      | exact ih1 _ _ _ _ _ _ _ _ _
      | exact ih2 _ _ _ _ _ _ _ _
      | exact ih3 _ _ _ _ _ _ _ _
      | exact ih4 _ _ _ _ _
      | exact emendateref15_Start.mono _ _ _
      | exact LeO.none _
      | refine LeO.ite ?_ ?_
      | refine LeO.bind ?_ (fun _ => ?_)
set_option maxHeartbeats 8000000 in
set_option maxRecDepth 100000 in
theorem emendateref15_Apply.calls (k : Nat) (A0 : Option Addr) (c0 : Nat) (l0 : List (S33)) (a1 : ByteArray) (a2 : Int) (r : List (S33)) (w : World) (hr0 : Kd.C k33 w A0 l0.length l0) (hc0 : l0.length ≤ c0) (h : emendateref15_Apply.f k l0 a1 a2 = some r) :
    Calls Try.prog 14 #[.slice A0 l0.length c0, .string a1, .int .i64 a2] w fun e w' => ∃ v0_ : Value, e = .returned (v0_) ∧ Kd.R k33 33 w' w.heap.size (fun _ => True) v0_ r ∧ Below w.heap.size w w' := by
  have hu33 := Try.underlying33
  have HR0 := Aside0.mk hr0
  have HC0 := Aside0.mk hc0
  clear hr0 hc0
  have HB := Aside0.mk (Below.refl w.heap.size w)
  have H : (emendateref15_Apply.l0 k l0 a1 a2 ([] : List (S33)) (([0] : List Int)) 0) = some r := h
  clear h
  obtain ⟨y111, hy111⟩ : ∃ y_ : List Int, y_ = (([0] : List Int)) := ⟨_, rfl⟩
  replace H : (emendateref15_Apply.l0 k l0 a1 a2 ([] : List (S33)) y111 0) = some r := by first | (rw [hy111]; with_reducible exact H) | (have H2_ := (Option.bind_some _ _).symm.trans H; rw [hy111]; with_reducible exact H2_) | (have H2_ := (Option.bind_some _ _).symm.trans H; with_reducible exact H2_) | with_reducible exact H | (rw [hy111]; exact H) | exact H
  have Ny111 := Aside0.mk hy111
  clear hy111
  have H' := Aside0.mk H
  clear H
  go_enter Try.func14, Try.ntmps14
  go_wp2_with (first | ((with_reducible refine gate_dst (N := 14) rfl ?_); (try (refine gate_guard (by rfl) ?_; dsimp only)); refine Kd.R_lit (Kd.int .i64) _ 3 ?hg (N := 14) ?hd (xs := ([0] : List Int)) (inner := [.int .i64 0]) (ok := fun _ => True) (okp := fun _ => True) ?hr ?hp (fun _ hk => hk) trivial (Below.refl _ _) (Nat.le_refl _) (by simp) ?_; (case hd => rfl); (case hg => rfl); (case hr => first | (go_simp; done) | (go_simp; rfl)); (case hp => exact (Reps.one (show Kd.M (Kd.int .i64) _ _ _ 0 [.int .i64 0] from rfl) (Reps.none _ _))); intro v112 w4 ho5 hb hg_ hnew_; clear hg_ hnew_; (first | rw [← Ny111.out] at ho5 | (simp only [Int.reduceToNat] at ho5; rw [← Ny111.out] at ho5)); have n0_ := Aside0.mk (Kd.R_lower ho5 (below_size (by repeat (first | (with_reducible first | exact HB.out | apply below_alloc | apply pw_below_drewN | apply below_drew1) | exact HB.out)))); have n1_ := Aside0.mk (below_step (by repeat (first | (with_reducible first | exact HB.out | apply below_alloc | apply pw_below_drewN | apply below_drew1) | exact HB.out)) hb); clear HB; have HO113 := n0_; have HB := n1_; clear n0_ n1_; clear hb ho5))
  go_loopg [7, 8, 9] k (fun kq v7 v8 v9 w' => ∃ (x7_1 : List (S33)) (x8_1 : List Int) (x9_1 : Int), v9 = .int .i64 x9_1 ∧ Aside0 (emendateref15_Apply.l0 kq l0 a1 a2 x7_1 x8_1 x9_1 = some r) ∧ Aside0 (kq ≤ k) ∧ Aside0 (Kd.R k33 33 w' w.heap.size (fun _ => True) v7 x7_1) ∧ Aside0 (Kd.R (Kd.int .i64) 3 w' w.heap.size (fun _ => True) v8 x8_1) ∧ Aside0 (Below w.heap.size w w'))
  case atStart => exact ⟨(([] : List (S33))), (y111), (0), (by first | rfl | (simp; done) | (simp [*]; done)), H', ⟨Nat.le_refl _⟩, ⟨by first | exact Kd.R_nil _ _ _ _ _ | exact Kd.N_nil _ _ _ _ _ | exact Kd.V_nil _ _ _ _ _ | exact Kd.Q_nil _ _ _ _ _ | exact Kd.S_nil _ _ _ _ _⟩, ⟨by (with_reducible repeat (first | apply Kd.R_alloc | apply Kd.R_drewN | apply Kd.R_drew)); exact HO113.out⟩, ⟨by repeat (first | (with_reducible first | exact HB.out | apply below_alloc | apply pw_below_drewN | apply below_drew1) | exact HB.out)⟩⟩
  case round =>
    clear H'
    try clear c1
    try clear p2
    obtain ⟨x7_1, x8_1, x9_1, rfl, HA, HK1, HO_7, HO_8, HB⟩ := hrel
    cases gk with
    | zero => exact absurd HA.out (by simp [emendateref15_Apply.l0])
    | succ k1 =>
      have H := HA.out
      clear HA
      simp only [emendateref15_Apply.l0] at H
      by_cases c6 : x9_1 < (l0.length : Int)
      · rw [if_pos c6] at H
        have c6b0 : decide (x9_1 < (l0.length : Int)) = true := decide_eq_true c6
        clear c6
        by_cases c7 : 0 ≤ x9_1
        · rw [if_pos c7] at H
          have c7b0 : decide (0 ≤ x9_1) = true := decide_eq_true c7
          clear c7
          replace H := Option.bind_eq_some_iff.mp H
          obtain ⟨t115, A80, H⟩ := H
          replace H : (if x9_1 = 0 then (emendateref15_Apply.j1 k1 l0 a1 a2 x7_1 x8_1 x9_1 ((rd_T33 l0 x9_1).f1) t115 true) else (if 0 ≤ (wrap64 (x9_1 - 1)) then (if (wrap64 (x9_1 - 1)) < (l0.length : Int) then ((emendateref15_Start.f k1 a1 ((rd_T33 l0 (wrap64 (x9_1 - 1))).f1)).bind fun t117 => (emendateref15_Apply.j1 k1 l0 a1 a2 x7_1 x8_1 x9_1 ((rd_T33 l0 x9_1).f1) t115 (t117 != t115))) else (none)) else (none))) = some r := H
          have A8 := Aside0.mk A80
          clear A80
          have HC9 := Aside0.mk H
          clear H
          have p114 : 0 ≤ (x9_1 : Int) := of_decide_eq_true (by first | (with_reducible assumption) | assumption)
          have q114 : x9_1 < (l0.length : Int) := of_decide_eq_true (by first | (with_reducible assumption) | assumption)
          obtain ⟨ad114, e114, hx114_0, hx114_1, hx114_2, hx114_3⟩ := at_T33 HR0.out x9_1 p114 q114
          cases e114
          replace hx114_0 := (HB.out.cell (World.block_lt_of_cell? w _ hx114_0)).trans hx114_0
          replace hx114_1 := (HB.out.cell (World.block_lt_of_cell? w _ hx114_1)).trans hx114_1
          replace hx114_2 := (HB.out.cell (World.block_lt_of_cell? w _ hx114_2)).trans hx114_2
          replace hx114_3 := (HB.out.cell (World.block_lt_of_cell? w _ hx114_3)).trans hx114_3
          replace p114 := eq_true p114
          replace q114 := eq_true q114
          go_upto_region 8 with (first | ((with_reducible refine gate_callee (f := 20) rfl ?_); refine goesL_ (some 28) rfl rfl Try.func20 (by kernel_rfl) rfl #[.string a1, .int .i64 ((rd_T33 l0 x9_1).f1)] rfl (by (try simp only [List.map_toArray, List.map_cons, List.map_nil]); first | done | rfl | (simp only [List.length_drop, List.length_take]; rfl)) ?_; (with_reducible refine (emendateref15_Start.calls k1 a1 ((rd_T33 l0 x9_1).f1) t115 _ A8.out).mono ?_); rintro e w' ⟨rfl, ⟨nd, rfl⟩⟩; refine ⟨_, rfl, ?_⟩))
          (try simp only [Act.put, List.setIfInBounds_toArray, List.set_cons_zero, List.set_cons_succ])
          go_cut [42] (fun v42 wc => ∃ (kq : Nat) (x42_8 : Bool), v42 = .bool x42_8 ∧ Aside0 (emendateref15_Apply.j1 kq l0 a1 a2 x7_1 x8_1 x9_1 ((rd_T33 l0 x9_1).f1) t115 x42_8 = some r) ∧ Aside0 (kq ≤ k1) ∧ Aside0 (Kd.R k33 33 wc w.heap.size (fun _ => True) u7 x7_1) ∧ Aside0 (Kd.R (Kd.int .i64) 3 wc w.heap.size (fun _ => True) u8 x8_1) ∧ Aside0 (Below w.heap.size w wc))
          case first =>
            have H := HC9.out
            clear HC9
            by_cases c10 : x9_1 = 0
            · rw [if_pos c10] at H
              have c10b0 : (x9_1 == 0) = true := beq_iff_eq.mpr c10
              have c10b1 : (x9_1 != 0) = false := bne_eq_false_iff_eq.mpr c10
              clear c10
              (first | rw [c10b0] | (simp only [i64_w, i32_w]; rw [c10b0]) | skip)
              have H' := Aside0.mk H
              clear H
              go_wp2
              go_meet
              case rel => exact ⟨_, (true), (by first | rfl | (simp; done) | (simp [*]; done)), H', ⟨by have := HK1.out; first | omega | exact Nat.le_refl _⟩, ⟨by (with_reducible repeat (first | apply Kd.R_alloc | apply Kd.R_drewN | apply Kd.R_drew)); exact HO_7.out⟩, ⟨by (with_reducible repeat (first | apply Kd.R_alloc | apply Kd.R_drewN | apply Kd.R_drew)); exact HO_8.out⟩, ⟨by repeat (first | (with_reducible first | exact HB.out | apply below_alloc | apply pw_below_drewN | apply below_drew1) | exact HB.out)⟩⟩
            · rw [if_neg c10] at H
              have c10b0 : (x9_1 == 0) = false := beq_eq_false_iff_ne.mpr c10
              have c10b1 : (x9_1 != 0) = true := bne_iff_ne.mpr c10
              (first | rw [c10b0] | (simp only [i64_w, i32_w]; rw [c10b0]) | skip)
              obtain ⟨ji11, hji11⟩ : ∃ j_ : Int, (wrap64 (x9_1 - 1)) = j_ := ⟨_, rfl⟩
              replace H : (if 0 ≤ (ji11) then (if (ji11) < (l0.length : Int) then ((emendateref15_Start.f k1 a1 ((rd_T33 l0 (ji11)).f1)).bind fun t117 => (emendateref15_Apply.j1 k1 l0 a1 a2 x7_1 x8_1 x9_1 ((rd_T33 l0 x9_1).f1) t115 (t117 != t115))) else (none)) else (none)) = some r := by first | (rw [hji11] at H; exact H) | (simp only [hji11] at H ⊢; exact H)
              have hji11w : (IntKind.i64.wrap (x9_1 - 1)) = ji11 := (i64_w _).trans hji11
              by_cases c12 : 0 ≤ (ji11)
              · rw [if_pos c12] at H
                have c12b0 : decide (0 ≤ (ji11)) = true := decide_eq_true c12
                clear c12
                by_cases c13 : (ji11) < (l0.length : Int)
                · rw [if_pos c13] at H
                  have c13b0 : decide ((ji11) < (l0.length : Int)) = true := decide_eq_true c13
                  clear c13
                  replace H := Option.bind_eq_some_iff.mp H
                  obtain ⟨t117, A140, H⟩ := H
                  replace H : (emendateref15_Apply.j1 k1 l0 a1 a2 x7_1 x8_1 x9_1 ((rd_T33 l0 x9_1).f1) t115 (t117 != t115)) = some r := H
                  have A14 := Aside0.mk A140
                  clear A140
                  have H' := Aside0.mk H
                  clear H
                  have p116 : 0 ≤ ((ji11) : Int) := of_decide_eq_true (by first | (with_reducible assumption) | assumption)
                  have q116 : (ji11) < (l0.length : Int) := of_decide_eq_true (by first | (with_reducible assumption) | assumption)
                  obtain ⟨ad116, e116, hx116_0, hx116_1, hx116_2, hx116_3⟩ := at_T33 HR0.out (ji11) p116 q116
                  obtain rfl : ad114 = ad116 := (by injection e116)
                  replace hx116_0 := (HB.out.cell (World.block_lt_of_cell? w _ hx116_0)).trans hx116_0
                  replace hx116_1 := (HB.out.cell (World.block_lt_of_cell? w _ hx116_1)).trans hx116_1
                  replace hx116_2 := (HB.out.cell (World.block_lt_of_cell? w _ hx116_2)).trans hx116_2
                  replace hx116_3 := (HB.out.cell (World.block_lt_of_cell? w _ hx116_3)).trans hx116_3
                  replace p116 := eq_true p116
                  replace q116 := eq_true q116
                  go_wp2_with (first | (go_at_call 20; (with_reducible refine (emendateref15_Start.calls k1 a1 ((rd_T33 l0 (ji11)).f1) t117 _ A14.out).mono ?_); rintro e w' ⟨rfl, ⟨nd, rfl⟩⟩))
                  go_meet
                  case rel => exact ⟨_, ((t117 != t115)), (by first | rfl | (simp; done) | (simp [*]; done)), H', ⟨by have := HK1.out; first | omega | exact Nat.le_refl _⟩, ⟨by (with_reducible repeat (first | apply Kd.R_alloc | apply Kd.R_drewN | apply Kd.R_drew)); exact HO_7.out⟩, ⟨by (with_reducible repeat (first | apply Kd.R_alloc | apply Kd.R_drewN | apply Kd.R_drew)); exact HO_8.out⟩, ⟨by repeat (first | (with_reducible first | exact HB.out | apply below_alloc | apply pw_below_drewN | apply below_drew1) | exact HB.out)⟩⟩
                · rw [if_neg c13] at H
                  exact absurd H (by simp)
              · rw [if_neg c12] at H
                exact absurd H (by simp)
          case rest =>
            clear HC9
            try clear c1
            try clear p1
            try clear q1
            try clear hx1
            try clear c2
            try clear p2
            try clear c6
            try clear c6b0
            try clear p6
            try clear c7
            try clear c7b0
            try clear c10
            try clear c10b0
            try clear c10b1
            try clear p11
            try clear q11
            try clear hx11
            try clear c12
            try clear c12b0
            try clear c13
            try clear c13b0
            try clear c14
            try clear hx114_0
            try clear hx114_1
            try clear hx114_2
            try clear hx114_3
            try clear hx116_0
            try clear hx116_1
            try clear hx116_2
            try clear hx116_3
            try clear p114
            try clear p116
            try clear p2
            try clear q114
            try clear q116
            obtain ⟨kq, x42_8, rfl, HA, HJ8, HO_7, HO_8, HB⟩ := hcut
            cases kq with
            | zero => exact absurd HA.out (by simp [emendateref15_Apply.j1])
            | succ kj8 =>
              have H := HA.out
              clear HA
              simp only [emendateref15_Apply.j1] at H
              by_cases c15 : x42_8 = true
              · subst c15
                have H1 : (if 0 ≤ (wrap64 ((x8_1.length : Int) - 1)) then (if (wrap64 ((x8_1.length : Int) - 1)) < (x8_1.length : Int) then (if (wrap64 (((rd_T33 l0 x9_1).f1) - t115)) > (rd x8_1 (wrap64 ((x8_1.length : Int) - 1))) then (if x8_1.length < 17592186044416 then (if x7_1.length < 3518437208883 then ((some (x7_1 ++ [(⟨wrap64 (a2 + 1), ((rd_T33 l0 x9_1).f1), (⟨#[]⟩ : ByteArray), 0⟩ : S33)] : List (S33))).bind fun y122 => (if 0 ≤ x9_1 then (if x9_1 < (l0.length : Int) then (if y122.length < 3518437208883 then (emendateref15_Apply.l0 kj8 l0 a1 a2 (y122 ++ [(⟨(rd_T33 l0 x9_1).f0, (rd_T33 l0 x9_1).f1, (rd_T33 l0 x9_1).f2, (rd_T33 l0 x9_1).f3⟩ : S33)]) (x8_1 ++ [wrap64 (((rd_T33 l0 x9_1).f1) - t115)]) (wrap64 (x9_1 + 1))) else (none)) else (none)) else (none))) else (none)) else (none)) else (if x9_1 > 0 then (if x7_1.length < 3518437208883 then (emendateref15_Apply.j2 kj8 l0 a1 a2 (x7_1 ++ [(⟨a2, ((rd_T33 l0 x9_1).f1), (⟨#[]⟩ : ByteArray), 0⟩ : S33)]) x8_1 x9_1 ((rd_T33 l0 x9_1).f1) (wrap64 (((rd_T33 l0 x9_1).f1) - t115))) else (none)) else (emendateref15_Apply.j2 kj8 l0 a1 a2 x7_1 x8_1 x9_1 ((rd_T33 l0 x9_1).f1) (wrap64 (((rd_T33 l0 x9_1).f1) - t115))))) else (none)) else (none)) = some r := by rw [if_pos rfl] at H; exact H
                clear H
                have H := H1
                clear H1
                obtain ⟨ji16, hji16⟩ : ∃ j_ : Int, (wrap64 ((x8_1.length : Int) - 1)) = j_ := ⟨_, rfl⟩
                replace H : (if 0 ≤ (ji16) then (if (ji16) < (x8_1.length : Int) then (if (wrap64 (((rd_T33 l0 x9_1).f1) - t115)) > (rd x8_1 (ji16)) then (if x8_1.length < 17592186044416 then (if x7_1.length < 3518437208883 then ((some (x7_1 ++ [(⟨wrap64 (a2 + 1), ((rd_T33 l0 x9_1).f1), (⟨#[]⟩ : ByteArray), 0⟩ : S33)] : List (S33))).bind fun y122 => (if 0 ≤ x9_1 then (if x9_1 < (l0.length : Int) then (if y122.length < 3518437208883 then (emendateref15_Apply.l0 kj8 l0 a1 a2 (y122 ++ [(⟨(rd_T33 l0 x9_1).f0, (rd_T33 l0 x9_1).f1, (rd_T33 l0 x9_1).f2, (rd_T33 l0 x9_1).f3⟩ : S33)]) (x8_1 ++ [wrap64 (((rd_T33 l0 x9_1).f1) - t115)]) (wrap64 (x9_1 + 1))) else (none)) else (none)) else (none))) else (none)) else (none)) else (if x9_1 > 0 then (if x7_1.length < 3518437208883 then (emendateref15_Apply.j2 kj8 l0 a1 a2 (x7_1 ++ [(⟨a2, ((rd_T33 l0 x9_1).f1), (⟨#[]⟩ : ByteArray), 0⟩ : S33)]) x8_1 x9_1 ((rd_T33 l0 x9_1).f1) (wrap64 (((rd_T33 l0 x9_1).f1) - t115))) else (none)) else (emendateref15_Apply.j2 kj8 l0 a1 a2 x7_1 x8_1 x9_1 ((rd_T33 l0 x9_1).f1) (wrap64 (((rd_T33 l0 x9_1).f1) - t115))))) else (none)) else (none)) = some r := by first | (rw [hji16] at H; exact H) | (simp only [hji16] at H ⊢; exact H)
                have hji16w : (IntKind.i64.wrap ((x8_1.length : Int) - 1)) = ji16 := (i64_w _).trans hji16
                by_cases c17 : 0 ≤ (ji16)
                · rw [if_pos c17] at H
                  have c17b0 : decide (0 ≤ (ji16)) = true := decide_eq_true c17
                  clear c17
                  by_cases c18 : (ji16) < (x8_1.length : Int)
                  · rw [if_pos c18] at H
                    have c18b0 : decide ((ji16) < (x8_1.length : Int)) = true := decide_eq_true c18
                    clear c18
                    by_cases c19 : (wrap64 (((rd_T33 l0 x9_1).f1) - t115)) > (rd x8_1 (ji16))
                    · rw [if_pos c19] at H
                      have c19b0 : decide ((rd x8_1 (ji16)) < (wrap64 (((rd_T33 l0 x9_1).f1) - t115))) = true := decide_eq_true c19
                      clear c19
                      by_cases c20 : x8_1.length < 17592186044416
                      · rw [if_pos c20] at H
                        have LMc20 := Aside0.mk c20
                        clear c20
                        obtain ⟨y119, hy119⟩ : ∃ y_ : List Int, y_ = (x8_1 ++ [wrap64 (((rd_T33 l0 x9_1).f1) - t115)]) := ⟨_, rfl⟩
                        replace H : (if x7_1.length < 3518437208883 then ((some (x7_1 ++ [(⟨wrap64 (a2 + 1), ((rd_T33 l0 x9_1).f1), (⟨#[]⟩ : ByteArray), 0⟩ : S33)] : List (S33))).bind fun y122 => (if 0 ≤ x9_1 then (if x9_1 < (l0.length : Int) then (if y122.length < 3518437208883 then (emendateref15_Apply.l0 kj8 l0 a1 a2 (y122 ++ [(⟨(rd_T33 l0 x9_1).f0, (rd_T33 l0 x9_1).f1, (rd_T33 l0 x9_1).f2, (rd_T33 l0 x9_1).f3⟩ : S33)]) y119 (wrap64 (x9_1 + 1))) else (none)) else (none)) else (none))) else (none)) = some r := by first | (rw [hy119]; with_reducible exact H) | (have H2_ := (Option.bind_some _ _).symm.trans H; rw [hy119]; with_reducible exact H2_) | (have H2_ := (Option.bind_some _ _).symm.trans H; with_reducible exact H2_) | with_reducible exact H | (rw [hy119]; exact H) | exact H
                        have Ny119 := Aside0.mk hy119
                        clear hy119
                        by_cases c21 : x7_1.length < 3518437208883
                        · rw [if_pos c21] at H
                          have LMc21 := Aside0.mk c21
                          clear c21
                          obtain ⟨y122, hy122⟩ : ∃ y_ : List (S33), y_ = (x7_1 ++ [(⟨wrap64 (a2 + 1), ((rd_T33 l0 x9_1).f1), (⟨#[]⟩ : ByteArray), 0⟩ : S33)]) := ⟨_, rfl⟩
                          replace H : (if 0 ≤ x9_1 then (if x9_1 < (l0.length : Int) then (if y122.length < 3518437208883 then (emendateref15_Apply.l0 kj8 l0 a1 a2 (y122 ++ [(⟨(rd_T33 l0 x9_1).f0, (rd_T33 l0 x9_1).f1, (rd_T33 l0 x9_1).f2, (rd_T33 l0 x9_1).f3⟩ : S33)]) y119 (wrap64 (x9_1 + 1))) else (none)) else (none)) else (none)) = some r := by first | (rw [hy122]; with_reducible exact H) | (have H2_ := (Option.bind_some _ _).symm.trans H; rw [hy122]; with_reducible exact H2_) | (have H2_ := (Option.bind_some _ _).symm.trans H; with_reducible exact H2_) | with_reducible exact H | (rw [hy122]; exact H) | exact H
                          have Ny122 := Aside0.mk hy122
                          clear hy122
                          by_cases c22 : 0 ≤ x9_1
                          · rw [if_pos c22] at H
                            have c22b0 : decide (0 ≤ x9_1) = true := decide_eq_true c22
                            clear c22
                            by_cases c23 : x9_1 < (l0.length : Int)
                            · rw [if_pos c23] at H
                              have c23b0 : decide (x9_1 < (l0.length : Int)) = true := decide_eq_true c23
                              clear c23
                              by_cases c24 : y122.length < 3518437208883
                              · rw [if_pos c24] at H
                                have LMc24 := Aside0.mk c24
                                clear c24
                                obtain ⟨y126, hy126⟩ : ∃ y_ : List (S33), y_ = (y122 ++ [(⟨(rd_T33 l0 x9_1).f0, (rd_T33 l0 x9_1).f1, (rd_T33 l0 x9_1).f2, (rd_T33 l0 x9_1).f3⟩ : S33)]) := ⟨_, rfl⟩
                                replace H : (emendateref15_Apply.l0 kj8 l0 a1 a2 y126 y119 (wrap64 (x9_1 + 1))) = some r := by first | (rw [hy126]; with_reducible exact H) | (have H2_ := (Option.bind_some _ _).symm.trans H; rw [hy126]; with_reducible exact H2_) | (have H2_ := (Option.bind_some _ _).symm.trans H; with_reducible exact H2_) | with_reducible exact H | (rw [hy126]; exact H) | exact H
                                have Ny126 := Aside0.mk hy126
                                clear hy126
                                have H' := Aside0.mk H
                                clear H
                                obtain ⟨Ao25, co25, eo25⟩ := Kd.R_slice HO_8.out
                                subst eo25
                                have p118 : 0 ≤ ((ji16) : Int) := of_decide_eq_true (by first | (with_reducible assumption) | assumption)
                                have q118 : (ji16) < (x8_1.length : Int) := of_decide_eq_true (by first | (with_reducible assumption) | assumption)
                                obtain ⟨ad118, e118, hx118_0⟩ := Kd.at_int (Kd.R_reads' HO_8.out).2.2 (ji16) p118 q118
                                cases e118
                                replace p118 := eq_true p118
                                replace q118 := eq_true q118
                                go_wp2_with (first | ((with_reducible refine gate_builtin (b := .append) (xs := #[.tmp 54, .tmp 56]) rfl ?_); (try (refine gate_guard (by rfl) ?_; dsimp only)); at_builtin; refine Kd.R_append (Kd.int .i64) (w0 := w) w.heap.size rfl (.tmp 54) (.tmp 56) 35 3 (.int .i64 0) 8 rfl Try.underlying35 info3 rfl (by decide) (by omega) (.slice (some ad118) x8_1.length co25) x8_1 (wrap64 (((rd_T33 l0 x9_1).f1) - t115)) [.int .i64 (wrap64 (((rd_T33 l0 x9_1).f1) - t115))] (fun _ => True) (fun _ => False) rfl rfl ?aP (fun _ hk => hk.elim) ?aF ?aO ?aB ?aS ?aL ?_; (case aP => exact rfl); (case aB => exact (by repeat (first | (with_reducible first | exact HB.out | apply below_alloc | apply pw_below_drewN | apply below_drew1) | exact HB.out))); (case aF => exact (fun _ _ => trivial)); (case aO => exact (by (with_reducible repeat (first | apply Kd.R_alloc | apply Kd.R_drewN | apply Kd.R_drew)); exact HO_8.out)); (case aS => exact (below_size (by repeat (first | (with_reducible first | exact HB.out | apply below_alloc | apply pw_below_drewN | apply below_drew1) | exact HB.out)))); (case aL => have := LMc20.out; omega); intro v120 w26 ho hb hg hat; rw [← Ny119.out] at ho; have n0_ := Aside0.mk (Kd.R_over' (by (with_reducible repeat (first | apply Kd.R_alloc | apply Kd.R_drewN | apply Kd.R_drew)); exact HO_7.out) (Kd.R_typed (by (with_reducible repeat (first | apply Kd.R_alloc | apply Kd.R_drewN | apply Kd.R_drew)); exact HO_8.out)) (by decide) hg); have n1_ := Aside0.mk (hb); have n2_ := Aside0.mk (ho); clear HO_7; clear HB; clear HO_8; have HO_7 := n0_; have HB := n1_; have HO121 := n2_; clear n0_ n1_ n2_; clear ho hb hg hat) | ((with_reducible refine gate_builtin (b := .append) (xs := #[.tmp 58, .tmp 63]) rfl ?_); (try (refine gate_guard (by rfl) ?_; dsimp only)); at_builtin; refine Kd.R_append k33 (w0 := w) w.heap.size rfl (.tmp 58) (.tmp 63) 22 33 (.agg #[(.int .i64 0), (.int .i64 0), (.string ⟨#[]⟩), (.int .i64 0)]) 40 rfl Try.underlying22 info33 rfl (by decide) (by omega) u7 x7_1 (⟨wrap64 (a2 + 1), ((rd_T33 l0 x9_1).f1), (⟨#[]⟩ : ByteArray), 0⟩ : S33) [.int .i64 (wrap64 (a2 + 1)), .int .i64 ((rd_T33 l0 x9_1).f1), .string (⟨#[]⟩ : ByteArray), .int .i64 0] (fun _ => True) (fun _ => False) rfl rfl ?aP (fun _ hk => hk.elim) ?aF ?aO ?aB ?aS ?aL ?_; (case aP => exact k33_mkM _ _ _ (⟨wrap64 (a2 + 1), ((rd_T33 l0 x9_1).f1), (⟨#[]⟩ : ByteArray), 0⟩ : S33)); (case aB => exact (by repeat (first | (with_reducible first | exact HB.out | apply below_alloc | apply pw_below_drewN | apply below_drew1) | exact HB.out))); (case aF => exact (fun _ _ => trivial)); (case aO => exact (by (with_reducible repeat (first | apply Kd.R_alloc | apply Kd.R_drewN | apply Kd.R_drew)); exact HO_7.out)); (case aS => exact (below_size (by repeat (first | (with_reducible first | exact HB.out | apply below_alloc | apply pw_below_drewN | apply below_drew1) | exact HB.out)))); (case aL => have := LMc21.out; omega); intro v123 w27 ho hb hg hat; rw [← Ny122.out] at ho; have n0_ := Aside0.mk (Kd.R_over' (by (with_reducible repeat (first | apply Kd.R_alloc | apply Kd.R_drewN | apply Kd.R_drew)); exact HO121.out) (Kd.R_typed (by (with_reducible repeat (first | apply Kd.R_alloc | apply Kd.R_drewN | apply Kd.R_drew)); exact HO_7.out)) (by decide) hg); have n1_ := Aside0.mk (hb); have n2_ := Aside0.mk (ho); clear HO121; clear HB; clear HO_7; have HO121 := n0_; have HB := n1_; have HO124 := n2_; clear n0_ n1_ n2_; clear ho hb hg hat; have p125 : 0 ≤ (x9_1 : Int) := of_decide_eq_true (by first | (with_reducible assumption) | assumption); have q125 : x9_1 < (l0.length : Int) := of_decide_eq_true (by first | (with_reducible assumption) | assumption); obtain ⟨ad125, e125, hx125_0, hx125_1, hx125_2, hx125_3⟩ := at_T33 HR0.out x9_1 p125 q125; obtain rfl : ad114 = ad125 := (by injection e125); replace hx125_0 := (HB.out.cell (World.block_lt_of_cell? w _ hx125_0)).trans hx125_0; replace hx125_1 := (HB.out.cell (World.block_lt_of_cell? w _ hx125_1)).trans hx125_1; replace hx125_2 := (HB.out.cell (World.block_lt_of_cell? w _ hx125_2)).trans hx125_2; replace hx125_3 := (HB.out.cell (World.block_lt_of_cell? w _ hx125_3)).trans hx125_3; replace p125 := eq_true p125; replace q125 := eq_true q125) | ((with_reducible refine gate_builtin (b := .append) (xs := #[.tmp 98, .tmp 103]) rfl ?_); (try (refine gate_guard (by rfl) ?_; dsimp only)); at_builtin; refine Kd.R_append k33 (w0 := w) w.heap.size rfl (.tmp 98) (.tmp 103) 22 33 (.agg #[(.int .i64 0), (.int .i64 0), (.string ⟨#[]⟩), (.int .i64 0)]) 40 rfl Try.underlying22 info33 rfl (by decide) (by omega) v123 y122 (⟨(rd_T33 l0 x9_1).f0, (rd_T33 l0 x9_1).f1, (rd_T33 l0 x9_1).f2, (rd_T33 l0 x9_1).f3⟩ : S33) [.int .i64 ((rd_T33 l0 x9_1).f0), .int .i64 ((rd_T33 l0 x9_1).f1), .string ((rd_T33 l0 x9_1).f2), .int .i64 ((rd_T33 l0 x9_1).f3)] (fun _ => True) (fun _ => False) rfl rfl ?aP (fun _ hk => hk.elim) ?aF ?aO ?aB ?aS ?aL ?_; (case aP => exact k33_mkM _ _ _ (⟨(rd_T33 l0 x9_1).f0, (rd_T33 l0 x9_1).f1, (rd_T33 l0 x9_1).f2, (rd_T33 l0 x9_1).f3⟩ : S33)); (case aB => exact (by repeat (first | (with_reducible first | exact HB.out | apply below_alloc | apply pw_below_drewN | apply below_drew1) | exact HB.out))); (case aF => exact (fun _ _ => trivial)); (case aO => exact (by (with_reducible repeat (first | apply Kd.R_alloc | apply Kd.R_drewN | apply Kd.R_drew)); exact HO124.out)); (case aS => exact (below_size (by repeat (first | (with_reducible first | exact HB.out | apply below_alloc | apply pw_below_drewN | apply below_drew1) | exact HB.out)))); (case aL => have := LMc24.out; omega); intro v127 w28 ho hb hg hat; rw [← Ny126.out] at ho; have n0_ := Aside0.mk (Kd.R_over' (by (with_reducible repeat (first | apply Kd.R_alloc | apply Kd.R_drewN | apply Kd.R_drew)); exact HO121.out) (Kd.R_typed (by (with_reducible repeat (first | apply Kd.R_alloc | apply Kd.R_drewN | apply Kd.R_drew)); exact HO124.out)) (by decide) hg); have n1_ := Aside0.mk (hb); have n2_ := Aside0.mk (ho); clear HO121; clear HB; clear HO124; have HO121 := n0_; have HB := n1_; have HO128 := n2_; clear n0_ n1_ n2_; clear ho hb hg hat))
                                go_roundg kj8
                                case measure => have := HK1.out; have := HJ8.out; omega
                                case rel => exact ⟨(y126), (y119), (wrap64 (x9_1 + 1)), (by first | rfl | (simp; done) | (simp [*]; done)), H', ⟨by have := HK1.out; have := HJ8.out; omega⟩, ⟨by (with_reducible repeat (first | apply Kd.R_alloc | apply Kd.R_drewN | apply Kd.R_drew)); exact HO128.out⟩, ⟨by (with_reducible repeat (first | apply Kd.R_alloc | apply Kd.R_drewN | apply Kd.R_drew)); exact HO121.out⟩, ⟨by repeat (first | (with_reducible first | exact HB.out | apply below_alloc | apply pw_below_drewN | apply below_drew1) | exact HB.out)⟩⟩
                              · rw [if_neg c24] at H
                                exact absurd H (by simp)
                            · rw [if_neg c23] at H
                              exact absurd H (by simp)
                          · rw [if_neg c22] at H
                            exact absurd H (by simp)
                        · rw [if_neg c21] at H
                          exact absurd H (by simp)
                      · rw [if_neg c20] at H
                        exact absurd H (by simp)
                    · rw [if_neg c19] at H
                      have c19b0 : decide ((rd x8_1 (ji16)) < (wrap64 (((rd_T33 l0 x9_1).f1) - t115))) = false := decide_eq_false c19
                      clear c19
                      have HC29 := Aside0.mk H
                      clear H
                      obtain ⟨Ao30, co30, eo30⟩ := Kd.R_slice HO_8.out
                      subst eo30
                      have p118 : 0 ≤ ((ji16) : Int) := of_decide_eq_true (by first | (with_reducible assumption) | assumption)
                      have q118 : (ji16) < (x8_1.length : Int) := of_decide_eq_true (by first | (with_reducible assumption) | assumption)
                      obtain ⟨ad118, e118, hx118_0⟩ := Kd.at_int (Kd.R_reads' HO_8.out).2.2 (ji16) p118 q118
                      cases e118
                      replace p118 := eq_true p118
                      replace q118 := eq_true q118
                      go_upto_if 66 with (fail)
                      go_cut [7] (fun v7 wc => ∃ (kq : Nat) (x7_28 : List (S33)), Aside0 (emendateref15_Apply.j2 kq l0 a1 a2 x7_28 x8_1 x9_1 ((rd_T33 l0 x9_1).f1) (wrap64 (((rd_T33 l0 x9_1).f1) - t115)) = some r) ∧ Aside0 (kq ≤ kj8) ∧ Aside0 (Kd.R k33 33 wc w.heap.size (fun _ => True) v7 x7_28) ∧ Aside0 (Kd.R (Kd.int .i64) 3 wc w.heap.size (fun _ => True) (.slice (some ad118) x8_1.length co30) x8_1) ∧ Aside0 (Below w.heap.size w wc))
                      case first =>
                        have H := HC29.out
                        clear HC29
                        by_cases c31 : x9_1 > 0
                        · rw [if_pos c31] at H
                          have c31b0 : decide (0 < x9_1) = true := decide_eq_true c31
                          clear c31
                          (first | rw [c31b0] | (simp only [i64_w, i32_w]; rw [c31b0]) | skip)
                          by_cases c32 : x7_1.length < 3518437208883
                          · rw [if_pos c32] at H
                            have LMc32 := Aside0.mk c32
                            clear c32
                            obtain ⟨y129, hy129⟩ : ∃ y_ : List (S33), y_ = (x7_1 ++ [(⟨a2, ((rd_T33 l0 x9_1).f1), (⟨#[]⟩ : ByteArray), 0⟩ : S33)]) := ⟨_, rfl⟩
                            replace H : (emendateref15_Apply.j2 kj8 l0 a1 a2 y129 x8_1 x9_1 ((rd_T33 l0 x9_1).f1) (wrap64 (((rd_T33 l0 x9_1).f1) - t115))) = some r := by first | (rw [hy129]; with_reducible exact H) | (have H2_ := (Option.bind_some _ _).symm.trans H; rw [hy129]; with_reducible exact H2_) | (have H2_ := (Option.bind_some _ _).symm.trans H; with_reducible exact H2_) | with_reducible exact H | (rw [hy129]; exact H) | exact H
                            have Ny129 := Aside0.mk hy129
                            clear hy129
                            have H' := Aside0.mk H
                            clear H
                            go_wp2_with (first | ((with_reducible refine gate_builtin (b := .append) (xs := #[.tmp 67, .tmp 71]) rfl ?_); (try (refine gate_guard (by rfl) ?_; dsimp only)); at_builtin; refine Kd.R_append k33 (w0 := w) w.heap.size rfl (.tmp 67) (.tmp 71) 22 33 (.agg #[(.int .i64 0), (.int .i64 0), (.string ⟨#[]⟩), (.int .i64 0)]) 40 rfl Try.underlying22 info33 rfl (by decide) (by omega) u7 x7_1 (⟨a2, ((rd_T33 l0 x9_1).f1), (⟨#[]⟩ : ByteArray), 0⟩ : S33) [.int .i64 a2, .int .i64 ((rd_T33 l0 x9_1).f1), .string (⟨#[]⟩ : ByteArray), .int .i64 0] (fun _ => True) (fun _ => False) rfl rfl ?aP (fun _ hk => hk.elim) ?aF ?aO ?aB ?aS ?aL ?_; (case aP => exact k33_mkM _ _ _ (⟨a2, ((rd_T33 l0 x9_1).f1), (⟨#[]⟩ : ByteArray), 0⟩ : S33)); (case aB => exact (by repeat (first | (with_reducible first | exact HB.out | apply below_alloc | apply pw_below_drewN | apply below_drew1) | exact HB.out))); (case aF => exact (fun _ _ => trivial)); (case aO => exact (by (with_reducible repeat (first | apply Kd.R_alloc | apply Kd.R_drewN | apply Kd.R_drew)); exact HO_7.out)); (case aS => exact (below_size (by repeat (first | (with_reducible first | exact HB.out | apply below_alloc | apply pw_below_drewN | apply below_drew1) | exact HB.out)))); (case aL => have := LMc32.out; omega); intro v130 w33 ho hb hg hat; rw [← Ny129.out] at ho; have n0_ := Aside0.mk (Kd.R_over' (by (with_reducible repeat (first | apply Kd.R_alloc | apply Kd.R_drewN | apply Kd.R_drew)); exact HO_8.out) (Kd.R_typed (by (with_reducible repeat (first | apply Kd.R_alloc | apply Kd.R_drewN | apply Kd.R_drew)); exact HO_7.out)) (by decide) hg); have n1_ := Aside0.mk (hb); have n2_ := Aside0.mk (ho); clear HO_8; clear HB; clear HO_7; have HO_8 := n0_; have HB := n1_; have HO131 := n2_; clear n0_ n1_ n2_; clear ho hb hg hat))
                            go_meet
                            case rel => exact ⟨_, (y129), H', ⟨by have := HK1.out; have := HJ8.out; first | omega | exact Nat.le_refl _⟩, ⟨by (with_reducible repeat (first | apply Kd.R_alloc | apply Kd.R_drewN | apply Kd.R_drew)); exact HO131.out⟩, ⟨by (with_reducible repeat (first | apply Kd.R_alloc | apply Kd.R_drewN | apply Kd.R_drew)); exact HO_8.out⟩, ⟨by repeat (first | (with_reducible first | exact HB.out | apply below_alloc | apply pw_below_drewN | apply below_drew1) | exact HB.out)⟩⟩
                          · rw [if_neg c32] at H
                            exact absurd H (by simp)
                        · rw [if_neg c31] at H
                          have c31b0 : decide (0 < x9_1) = false := decide_eq_false c31
                          clear c31
                          (first | rw [c31b0] | (simp only [i64_w, i32_w]; rw [c31b0]) | skip)
                          have H' := Aside0.mk H
                          clear H
                          go_wp2
                          go_meet
                          case rel => exact ⟨_, (x7_1), H', ⟨by have := HK1.out; have := HJ8.out; first | omega | exact Nat.le_refl _⟩, ⟨by (with_reducible repeat (first | apply Kd.R_alloc | apply Kd.R_drewN | apply Kd.R_drew)); exact HO_7.out⟩, ⟨by (with_reducible repeat (first | apply Kd.R_alloc | apply Kd.R_drewN | apply Kd.R_drew)); exact HO_8.out⟩, ⟨by repeat (first | (with_reducible first | exact HB.out | apply below_alloc | apply pw_below_drewN | apply below_drew1) | exact HB.out)⟩⟩
                      case rest =>
                        clear HC29
                        try clear c1
                        try clear p1
                        try clear q1
                        try clear hx1
                        try clear c2
                        try clear p2
                        try clear c3
                        try clear c6
                        try clear c6b0
                        try clear p6
                        try clear c7
                        try clear c7b0
                        try clear c10
                        try clear c10b0
                        try clear c10b1
                        try clear p11
                        try clear q11
                        try clear hx11
                        try clear c12
                        try clear c12b0
                        try clear p12
                        try clear q12
                        try clear hx12
                        try clear c13
                        try clear c13b0
                        try clear c14
                        try clear c15
                        try clear c17
                        try clear c17b0
                        try clear c18
                        try clear c18b0
                        try clear c19
                        try clear c19b0
                        try clear c20
                        try clear c21
                        try clear c22
                        try clear c22b0
                        try clear c23
                        try clear c23b0
                        try clear c24
                        try clear c31
                        try clear c31b0
                        try clear c32
                        try clear hx114_0
                        try clear hx114_1
                        try clear hx114_2
                        try clear hx114_3
                        try clear hx116_0
                        try clear hx116_1
                        try clear hx116_2
                        try clear hx116_3
                        try clear hx118_0
                        try clear hx125_0
                        try clear hx125_1
                        try clear hx125_2
                        try clear hx125_3
                        try clear p1
                        try clear p11
                        try clear p114
                        try clear p116
                        try clear p118
                        try clear p125
                        try clear p2
                        try clear p6
                        try clear q1
                        try clear q11
                        try clear q114
                        try clear q116
                        try clear q118
                        try clear q125
                        obtain ⟨kq, x7_28, HA, HJ28, HO_7, HO_8, HB⟩ := hcut
                        cases kq with
                        | zero => exact absurd HA.out (by simp [emendateref15_Apply.j2])
                        | succ kj28 =>
                          have H := HA.out
                          clear HA
                          simp only [emendateref15_Apply.j2] at H
                          have H' := Aside0.mk H
                          clear H
                          go_wp2
                          go_loopg [7, 8] kj28 (fun kq v7 v8 w' => ∃ (x7_4 : List (S33)) (x8_4 : List Int), Aside0 (emendateref15_Apply.l1 kq l0 a1 a2 x7_4 x8_4 x9_1 ((rd_T33 l0 x9_1).f1) (wrap64 (((rd_T33 l0 x9_1).f1) - t115)) = some r) ∧ Aside0 (kq ≤ kj28) ∧ Aside0 (Kd.R k33 33 w' w.heap.size (fun _ => True) v7 x7_4) ∧ Aside0 (Kd.R (Kd.int .i64) 3 w' w.heap.size (fun _ => True) v8 x8_4) ∧ Aside0 (Below w.heap.size w w'))
                          case atStart => exact ⟨(x7_28), (x8_1), H', ⟨Nat.le_refl _⟩, ⟨by (with_reducible repeat (first | apply Kd.R_alloc | apply Kd.R_drewN | apply Kd.R_drew)); exact HO_7.out⟩, ⟨by (with_reducible repeat (first | apply Kd.R_alloc | apply Kd.R_drewN | apply Kd.R_drew)); exact HO_8.out⟩, ⟨by repeat (first | (with_reducible first | exact HB.out | apply below_alloc | apply pw_below_drewN | apply below_drew1) | exact HB.out)⟩⟩
                          case round =>
                            clear H'
                            try clear c1
                            try clear p1
                            try clear q1
                            try clear hx1
                            try clear c2
                            try clear p2
                            try clear c3
                            try clear c6
                            try clear c6b0
                            try clear p6
                            try clear c7
                            try clear c7b0
                            try clear c10
                            try clear c10b0
                            try clear c10b1
                            try clear p11
                            try clear q11
                            try clear hx11
                            try clear c12
                            try clear c12b0
                            try clear p12
                            try clear q12
                            try clear hx12
                            try clear c13
                            try clear c13b0
                            try clear c14
                            try clear c15
                            try clear c17
                            try clear c17b0
                            try clear c18
                            try clear c18b0
                            try clear c19
                            try clear c19b0
                            try clear c20
                            try clear c21
                            try clear c22
                            try clear c22b0
                            try clear c23
                            try clear c23b0
                            try clear c24
                            try clear c31
                            try clear c31b0
                            try clear c32
                            try clear hx114_0
                            try clear hx114_1
                            try clear hx114_2
                            try clear hx114_3
                            try clear hx116_0
                            try clear hx116_1
                            try clear hx116_2
                            try clear hx116_3
                            try clear hx118_0
                            try clear hx125_0
                            try clear hx125_1
                            try clear hx125_2
                            try clear hx125_3
                            try clear p1
                            try clear p11
                            try clear p114
                            try clear p116
                            try clear p118
                            try clear p12
                            try clear p125
                            try clear p2
                            try clear p6
                            try clear q1
                            try clear q11
                            try clear q114
                            try clear q116
                            try clear q118
                            try clear q12
                            try clear q125
                            obtain ⟨x7_4, x8_4, HA, HK4, HO_7, HO_8, HB⟩ := hrel
                            cases gk with
                            | zero => exact absurd HA.out (by simp [emendateref15_Apply.l1])
                            | succ k4 =>
                              have H := HA.out
                              clear HA
                              simp only [emendateref15_Apply.l1] at H
                              by_cases c34 : (x8_4.length : Int) > 1
                              · rw [if_pos c34] at H
                                have c34b0 : decide (1 < (x8_4.length : Int)) = true := decide_eq_true c34
                                have c34b1 : decide (1 < x8_4.length) = true := decide_eq_true (by omega)
                                clear c34
                                obtain ⟨ji35, hji35⟩ : ∃ j_ : Int, (wrap64 ((x8_4.length : Int) - 2)) = j_ := ⟨_, rfl⟩
                                replace H : (if 0 ≤ (ji35) then (if (ji35) < (x8_4.length : Int) then (if (rd x8_4 (ji35)) ≥ (wrap64 (((rd_T33 l0 x9_1).f1) - t115)) then (if 0 ≤ (wrap64 ((x8_4.length : Int) - 1)) then (if (wrap64 ((x8_4.length : Int) - 1)) ≤ (x8_4.length : Int) then (if x7_4.length < 3518437208883 then (emendateref15_Apply.l1 k4 l0 a1 a2 (x7_4 ++ [(⟨wrap64 (a2 + 2), ((rd_T33 l0 x9_1).f1), (⟨#[]⟩ : ByteArray), 0⟩ : S33)]) (x8_4.take ((wrap64 ((x8_4.length : Int) - 1)) : Int).toNat) x9_1 ((rd_T33 l0 x9_1).f1) (wrap64 (((rd_T33 l0 x9_1).f1) - t115))) else (none)) else (none)) else (none)) else (if 0 ≤ x9_1 then (if x9_1 < (l0.length : Int) then (if x7_4.length < 3518437208883 then (emendateref15_Apply.l0 k4 l0 a1 a2 (x7_4 ++ [(⟨(rd_T33 l0 x9_1).f0, (rd_T33 l0 x9_1).f1, (rd_T33 l0 x9_1).f2, (rd_T33 l0 x9_1).f3⟩ : S33)]) x8_4 (wrap64 (x9_1 + 1))) else (none)) else (none)) else (none))) else (none)) else (none)) = some r := by first | (rw [hji35] at H; exact H) | (simp only [hji35] at H ⊢; exact H)
                                have hji35w : (IntKind.i64.wrap ((x8_4.length : Int) - 2)) = ji35 := (i64_w _).trans hji35
                                by_cases c36 : 0 ≤ (ji35)
                                · rw [if_pos c36] at H
                                  have c36b0 : decide (0 ≤ (ji35)) = true := decide_eq_true c36
                                  clear c36
                                  by_cases c37 : (ji35) < (x8_4.length : Int)
                                  · rw [if_pos c37] at H
                                    have c37b0 : decide ((ji35) < (x8_4.length : Int)) = true := decide_eq_true c37
                                    clear c37
                                    by_cases c38 : (rd x8_4 (ji35)) ≥ (wrap64 (((rd_T33 l0 x9_1).f1) - t115))
                                    · rw [if_pos c38] at H
                                      have c38b0 : decide ((wrap64 (((rd_T33 l0 x9_1).f1) - t115)) ≤ (rd x8_4 (ji35))) = true := decide_eq_true c38
                                      clear c38
                                      obtain ⟨ji39, hji39⟩ : ∃ j_ : Int, (wrap64 ((x8_4.length : Int) - 1)) = j_ := ⟨_, rfl⟩
                                      replace H : (if 0 ≤ (ji39) then (if (ji39) ≤ (x8_4.length : Int) then (if x7_4.length < 3518437208883 then (emendateref15_Apply.l1 k4 l0 a1 a2 (x7_4 ++ [(⟨wrap64 (a2 + 2), ((rd_T33 l0 x9_1).f1), (⟨#[]⟩ : ByteArray), 0⟩ : S33)]) (x8_4.take ((ji39) : Int).toNat) x9_1 ((rd_T33 l0 x9_1).f1) (wrap64 (((rd_T33 l0 x9_1).f1) - t115))) else (none)) else (none)) else (none)) = some r := by first | (rw [hji39] at H; exact H) | (simp only [hji39] at H ⊢; exact H)
                                      have hji39w : (IntKind.i64.wrap ((x8_4.length : Int) - 1)) = ji39 := (i64_w _).trans hji39
                                      by_cases c40 : 0 ≤ (ji39)
                                      · rw [if_pos c40] at H
                                        have c40b0 := eq_true c40
                                        have c40b1 : decide (0 ≤ (ji39)) = true := decide_eq_true c40
                                        clear c40
                                        by_cases c41 : (ji39) ≤ (x8_4.length : Int)
                                        · rw [if_pos c41] at H
                                          have c41b0 := eq_true c41
                                          have c41b1 : decide ((ji39) ≤ (x8_4.length : Int)) = true := decide_eq_true c41
                                          clear c41
                                          obtain ⟨y133, hy133⟩ : ∃ y_ : List Int, y_ = (x8_4.take ((ji39) : Int).toNat) := ⟨_, rfl⟩
                                          replace H : (if x7_4.length < 3518437208883 then (emendateref15_Apply.l1 k4 l0 a1 a2 (x7_4 ++ [(⟨wrap64 (a2 + 2), ((rd_T33 l0 x9_1).f1), (⟨#[]⟩ : ByteArray), 0⟩ : S33)]) y133 x9_1 ((rd_T33 l0 x9_1).f1) (wrap64 (((rd_T33 l0 x9_1).f1) - t115))) else (none)) = some r := by first | (rw [hy133]; with_reducible exact H) | (have H2_ := (Option.bind_some _ _).symm.trans H; rw [hy133]; with_reducible exact H2_) | (have H2_ := (Option.bind_some _ _).symm.trans H; with_reducible exact H2_) | with_reducible exact H | (rw [hy133]; exact H) | exact H
                                          have Ny133 := Aside0.mk hy133
                                          clear hy133
                                          by_cases c42 : x7_4.length < 3518437208883
                                          · rw [if_pos c42] at H
                                            have LMc42 := Aside0.mk c42
                                            clear c42
                                            obtain ⟨y136, hy136⟩ : ∃ y_ : List (S33), y_ = (x7_4 ++ [(⟨wrap64 (a2 + 2), ((rd_T33 l0 x9_1).f1), (⟨#[]⟩ : ByteArray), 0⟩ : S33)]) := ⟨_, rfl⟩
                                            replace H : (emendateref15_Apply.l1 k4 l0 a1 a2 y136 y133 x9_1 ((rd_T33 l0 x9_1).f1) (wrap64 (((rd_T33 l0 x9_1).f1) - t115))) = some r := by first | (rw [hy136]; with_reducible exact H) | (have H2_ := (Option.bind_some _ _).symm.trans H; rw [hy136]; with_reducible exact H2_) | (have H2_ := (Option.bind_some _ _).symm.trans H; with_reducible exact H2_) | with_reducible exact H | (rw [hy136]; exact H) | exact H
                                            have Ny136 := Aside0.mk hy136
                                            clear hy136
                                            have H' := Aside0.mk H
                                            clear H
                                            obtain ⟨Ao43, co43, eo43⟩ := Kd.R_slice HO_8.out
                                            subst eo43
                                            have p132 : 0 ≤ ((ji35) : Int) := of_decide_eq_true (by first | (with_reducible assumption) | assumption)
                                            have q132 : (ji35) < (x8_4.length : Int) := of_decide_eq_true (by first | (with_reducible assumption) | assumption)
                                            obtain ⟨ad132, e132, hx132_0⟩ := Kd.at_int (Kd.R_reads' HO_8.out).2.2 (ji35) p132 q132
                                            cases e132
                                            replace p132 := eq_true p132
                                            replace q132 := eq_true q132
                                            have q44 : ((ji39) : Int) ≤ ((x8_4.length : Int) : Int) := of_decide_eq_true (by first | (with_reducible assumption) | assumption)
                                            obtain ⟨i044, hi044, _, hsz44, _⟩ := info_parts info3
                                            have hcut44 := cut_to (P := Try.prog) 35 3 .i64 Try.underlying35 hi044 (some ad132) x8_4.length co43 (ji39) (of_decide_eq_true (by first | (with_reducible assumption) | assumption)) q44 (Kd.R_reads' HO_8.out).2.1
                                            have hr44 := Kd.R_take (m := ((ji39) : Int).toNat) HO_8.out (by omega)
                                            have hy44 : y133.length = ((ji39) : Int).toNat := (by rw [Ny133.out, List.length_take]; omega)
                                            rw [← Ny133.out] at hr44
                                            rw [← hy44] at hr44 hcut44
                                            clear hy44 hi044 hsz44 HO_8
                                            have HO135 := Aside0.mk hr44
                                            clear hr44
                                            replace q44 := eq_true q44
                                            go_wp2_with (first | ((with_reducible refine gate_builtin (b := .append) (xs := #[.tmp 91, .tmp 96]) rfl ?_); (try (refine gate_guard (by rfl) ?_; dsimp only)); at_builtin; refine Kd.R_append k33 (w0 := w) w.heap.size rfl (.tmp 91) (.tmp 96) 22 33 (.agg #[(.int .i64 0), (.int .i64 0), (.string ⟨#[]⟩), (.int .i64 0)]) 40 rfl Try.underlying22 info33 rfl (by decide) (by omega) u7 x7_4 (⟨wrap64 (a2 + 2), ((rd_T33 l0 x9_1).f1), (⟨#[]⟩ : ByteArray), 0⟩ : S33) [.int .i64 (wrap64 (a2 + 2)), .int .i64 ((rd_T33 l0 x9_1).f1), .string (⟨#[]⟩ : ByteArray), .int .i64 0] (fun _ => True) (fun _ => False) rfl rfl ?aP (fun _ hk => hk.elim) ?aF ?aO ?aB ?aS ?aL ?_; (case aP => exact k33_mkM _ _ _ (⟨wrap64 (a2 + 2), ((rd_T33 l0 x9_1).f1), (⟨#[]⟩ : ByteArray), 0⟩ : S33)); (case aB => exact (by repeat (first | (with_reducible first | exact HB.out | apply below_alloc | apply pw_below_drewN | apply below_drew1) | exact HB.out))); (case aF => exact (fun _ _ => trivial)); (case aO => exact (by (with_reducible repeat (first | apply Kd.R_alloc | apply Kd.R_drewN | apply Kd.R_drew)); exact HO_7.out)); (case aS => exact (below_size (by repeat (first | (with_reducible first | exact HB.out | apply below_alloc | apply pw_below_drewN | apply below_drew1) | exact HB.out)))); (case aL => have := LMc42.out; omega); intro v137 w45 ho hb hg hat; rw [← Ny136.out] at ho; have n0_ := Aside0.mk (Kd.R_over' (by (with_reducible repeat (first | apply Kd.R_alloc | apply Kd.R_drewN | apply Kd.R_drew)); exact HO135.out) (Kd.R_typed (by (with_reducible repeat (first | apply Kd.R_alloc | apply Kd.R_drewN | apply Kd.R_drew)); exact HO_7.out)) (by decide) hg); have n1_ := Aside0.mk (hb); have n2_ := Aside0.mk (ho); clear HO135; clear HB; clear HO_7; have HO135 := n0_; have HB := n1_; have HO138 := n2_; clear n0_ n1_ n2_; clear ho hb hg hat))
                                            go_roundg k4
                                            case measure => have := HK1.out; have := HJ8.out; have := HJ28.out; have := HK4.out; omega
                                            case rel => exact ⟨(y136), (y133), H', ⟨by have := HK1.out; have := HJ8.out; have := HJ28.out; have := HK4.out; omega⟩, ⟨by (with_reducible repeat (first | apply Kd.R_alloc | apply Kd.R_drewN | apply Kd.R_drew)); exact HO138.out⟩, ⟨by (with_reducible repeat (first | apply Kd.R_alloc | apply Kd.R_drewN | apply Kd.R_drew)); exact HO135.out⟩, ⟨by repeat (first | (with_reducible first | exact HB.out | apply below_alloc | apply pw_below_drewN | apply below_drew1) | exact HB.out)⟩⟩
                                          · rw [if_neg c42] at H
                                            exact absurd H (by simp)
                                        · rw [if_neg c41] at H
                                          exact absurd H (by simp)
                                      · rw [if_neg c40] at H
                                        exact absurd H (by simp)
                                    · rw [if_neg c38] at H
                                      have c38b0 : decide ((wrap64 (((rd_T33 l0 x9_1).f1) - t115)) ≤ (rd x8_4 (ji35))) = false := decide_eq_false c38
                                      clear c38
                                      by_cases c46 : 0 ≤ x9_1
                                      · rw [if_pos c46] at H
                                        have c46b0 : decide (0 ≤ x9_1) = true := decide_eq_true c46
                                        clear c46
                                        by_cases c47 : x9_1 < (l0.length : Int)
                                        · rw [if_pos c47] at H
                                          have c47b0 : decide (x9_1 < (l0.length : Int)) = true := decide_eq_true c47
                                          clear c47
                                          by_cases c48 : x7_4.length < 3518437208883
                                          · rw [if_pos c48] at H
                                            have LMc48 := Aside0.mk c48
                                            clear c48
                                            obtain ⟨y140, hy140⟩ : ∃ y_ : List (S33), y_ = (x7_4 ++ [(⟨(rd_T33 l0 x9_1).f0, (rd_T33 l0 x9_1).f1, (rd_T33 l0 x9_1).f2, (rd_T33 l0 x9_1).f3⟩ : S33)]) := ⟨_, rfl⟩
                                            replace H : (emendateref15_Apply.l0 k4 l0 a1 a2 y140 x8_4 (wrap64 (x9_1 + 1))) = some r := by first | (rw [hy140]; with_reducible exact H) | (have H2_ := (Option.bind_some _ _).symm.trans H; rw [hy140]; with_reducible exact H2_) | (have H2_ := (Option.bind_some _ _).symm.trans H; with_reducible exact H2_) | with_reducible exact H | (rw [hy140]; exact H) | exact H
                                            have Ny140 := Aside0.mk hy140
                                            clear hy140
                                            have H' := Aside0.mk H
                                            clear H
                                            obtain ⟨Ao49, co49, eo49⟩ := Kd.R_slice HO_8.out
                                            subst eo49
                                            have p132 : 0 ≤ ((ji35) : Int) := of_decide_eq_true (by first | (with_reducible assumption) | assumption)
                                            have q132 : (ji35) < (x8_4.length : Int) := of_decide_eq_true (by first | (with_reducible assumption) | assumption)
                                            obtain ⟨ad132, e132, hx132_0⟩ := Kd.at_int (Kd.R_reads' HO_8.out).2.2 (ji35) p132 q132
                                            cases e132
                                            replace p132 := eq_true p132
                                            replace q132 := eq_true q132
                                            have p139 : 0 ≤ (x9_1 : Int) := of_decide_eq_true (by first | (with_reducible assumption) | assumption)
                                            have q139 : x9_1 < (l0.length : Int) := of_decide_eq_true (by first | (with_reducible assumption) | assumption)
                                            obtain ⟨ad139, e139, hx139_0, hx139_1, hx139_2, hx139_3⟩ := at_T33 HR0.out x9_1 p139 q139
                                            obtain rfl : ad114 = ad139 := (by injection e139)
                                            replace hx139_0 := (HB.out.cell (World.block_lt_of_cell? w _ hx139_0)).trans hx139_0
                                            replace hx139_1 := (HB.out.cell (World.block_lt_of_cell? w _ hx139_1)).trans hx139_1
                                            replace hx139_2 := (HB.out.cell (World.block_lt_of_cell? w _ hx139_2)).trans hx139_2
                                            replace hx139_3 := (HB.out.cell (World.block_lt_of_cell? w _ hx139_3)).trans hx139_3
                                            replace p139 := eq_true p139
                                            replace q139 := eq_true q139
                                            go_wp2_with (first | ((with_reducible refine gate_builtin (b := .append) (xs := #[.tmp 98, .tmp 103]) rfl ?_); (try (refine gate_guard (by rfl) ?_; dsimp only)); at_builtin; refine Kd.R_append k33 (w0 := w) w.heap.size rfl (.tmp 98) (.tmp 103) 22 33 (.agg #[(.int .i64 0), (.int .i64 0), (.string ⟨#[]⟩), (.int .i64 0)]) 40 rfl Try.underlying22 info33 rfl (by decide) (by omega) u7 x7_4 (⟨(rd_T33 l0 x9_1).f0, (rd_T33 l0 x9_1).f1, (rd_T33 l0 x9_1).f2, (rd_T33 l0 x9_1).f3⟩ : S33) [.int .i64 ((rd_T33 l0 x9_1).f0), .int .i64 ((rd_T33 l0 x9_1).f1), .string ((rd_T33 l0 x9_1).f2), .int .i64 ((rd_T33 l0 x9_1).f3)] (fun _ => True) (fun _ => False) rfl rfl ?aP (fun _ hk => hk.elim) ?aF ?aO ?aB ?aS ?aL ?_; (case aP => exact k33_mkM _ _ _ (⟨(rd_T33 l0 x9_1).f0, (rd_T33 l0 x9_1).f1, (rd_T33 l0 x9_1).f2, (rd_T33 l0 x9_1).f3⟩ : S33)); (case aB => exact (by repeat (first | (with_reducible first | exact HB.out | apply below_alloc | apply pw_below_drewN | apply below_drew1) | exact HB.out))); (case aF => exact (fun _ _ => trivial)); (case aO => exact (by (with_reducible repeat (first | apply Kd.R_alloc | apply Kd.R_drewN | apply Kd.R_drew)); exact HO_7.out)); (case aS => exact (below_size (by repeat (first | (with_reducible first | exact HB.out | apply below_alloc | apply pw_below_drewN | apply below_drew1) | exact HB.out)))); (case aL => have := LMc48.out; omega); intro v141 w50 ho hb hg hat; rw [← Ny140.out] at ho; have n0_ := Aside0.mk (Kd.R_over' (by (with_reducible repeat (first | apply Kd.R_alloc | apply Kd.R_drewN | apply Kd.R_drew)); exact HO_8.out) (Kd.R_typed (by (with_reducible repeat (first | apply Kd.R_alloc | apply Kd.R_drewN | apply Kd.R_drew)); exact HO_7.out)) (by decide) hg); have n1_ := Aside0.mk (hb); have n2_ := Aside0.mk (ho); clear HO_8; clear HB; clear HO_7; have HO_8 := n0_; have HB := n1_; have HO142 := n2_; clear n0_ n1_ n2_; clear ho hb hg hat))
                                            go_roundg k4
                                            case measure => have := HK1.out; have := HJ8.out; have := HJ28.out; have := HK4.out; omega
                                            case rel => exact ⟨(y140), (x8_4), (wrap64 (x9_1 + 1)), (by first | rfl | (simp; done) | (simp [*]; done)), H', ⟨by have := HK1.out; have := HJ8.out; have := HJ28.out; have := HK4.out; omega⟩, ⟨by (with_reducible repeat (first | apply Kd.R_alloc | apply Kd.R_drewN | apply Kd.R_drew)); exact HO142.out⟩, ⟨by (with_reducible repeat (first | apply Kd.R_alloc | apply Kd.R_drewN | apply Kd.R_drew)); exact HO_8.out⟩, ⟨by repeat (first | (with_reducible first | exact HB.out | apply below_alloc | apply pw_below_drewN | apply below_drew1) | exact HB.out)⟩⟩
                                          · rw [if_neg c48] at H
                                            exact absurd H (by simp)
                                        · rw [if_neg c47] at H
                                          exact absurd H (by simp)
                                      · rw [if_neg c46] at H
                                        exact absurd H (by simp)
                                  · rw [if_neg c37] at H
                                    exact absurd H (by simp)
                                · rw [if_neg c36] at H
                                  exact absurd H (by simp)
                              · rw [if_neg c34] at H
                                have c34b0 : decide (1 < (x8_4.length : Int)) = false := decide_eq_false c34
                                have c34b1 : decide (1 < x8_4.length) = false := decide_eq_false (by omega)
                                clear c34
                                by_cases c51 : 0 ≤ x9_1
                                · rw [if_pos c51] at H
                                  have c51b0 : decide (0 ≤ x9_1) = true := decide_eq_true c51
                                  clear c51
                                  by_cases c52 : x9_1 < (l0.length : Int)
                                  · rw [if_pos c52] at H
                                    have c52b0 : decide (x9_1 < (l0.length : Int)) = true := decide_eq_true c52
                                    clear c52
                                    by_cases c53 : x7_4.length < 3518437208883
                                    · rw [if_pos c53] at H
                                      have LMc53 := Aside0.mk c53
                                      clear c53
                                      obtain ⟨y144, hy144⟩ : ∃ y_ : List (S33), y_ = (x7_4 ++ [(⟨(rd_T33 l0 x9_1).f0, (rd_T33 l0 x9_1).f1, (rd_T33 l0 x9_1).f2, (rd_T33 l0 x9_1).f3⟩ : S33)]) := ⟨_, rfl⟩
                                      replace H : (emendateref15_Apply.l0 k4 l0 a1 a2 y144 x8_4 (wrap64 (x9_1 + 1))) = some r := by first | (rw [hy144]; with_reducible exact H) | (have H2_ := (Option.bind_some _ _).symm.trans H; rw [hy144]; with_reducible exact H2_) | (have H2_ := (Option.bind_some _ _).symm.trans H; with_reducible exact H2_) | with_reducible exact H | (rw [hy144]; exact H) | exact H
                                      have Ny144 := Aside0.mk hy144
                                      clear hy144
                                      have H' := Aside0.mk H
                                      clear H
                                      obtain ⟨Ao54, co54, eo54⟩ := Kd.R_slice HO_8.out
                                      subst eo54
                                      have p143 : 0 ≤ (x9_1 : Int) := of_decide_eq_true (by first | (with_reducible assumption) | assumption)
                                      have q143 : x9_1 < (l0.length : Int) := of_decide_eq_true (by first | (with_reducible assumption) | assumption)
                                      obtain ⟨ad143, e143, hx143_0, hx143_1, hx143_2, hx143_3⟩ := at_T33 HR0.out x9_1 p143 q143
                                      obtain rfl : ad114 = ad143 := (by injection e143)
                                      replace hx143_0 := (HB.out.cell (World.block_lt_of_cell? w _ hx143_0)).trans hx143_0
                                      replace hx143_1 := (HB.out.cell (World.block_lt_of_cell? w _ hx143_1)).trans hx143_1
                                      replace hx143_2 := (HB.out.cell (World.block_lt_of_cell? w _ hx143_2)).trans hx143_2
                                      replace hx143_3 := (HB.out.cell (World.block_lt_of_cell? w _ hx143_3)).trans hx143_3
                                      replace p143 := eq_true p143
                                      replace q143 := eq_true q143
                                      go_wp2_with (first | ((with_reducible refine gate_builtin (b := .append) (xs := #[.tmp 98, .tmp 103]) rfl ?_); (try (refine gate_guard (by rfl) ?_; dsimp only)); at_builtin; refine Kd.R_append k33 (w0 := w) w.heap.size rfl (.tmp 98) (.tmp 103) 22 33 (.agg #[(.int .i64 0), (.int .i64 0), (.string ⟨#[]⟩), (.int .i64 0)]) 40 rfl Try.underlying22 info33 rfl (by decide) (by omega) u7 x7_4 (⟨(rd_T33 l0 x9_1).f0, (rd_T33 l0 x9_1).f1, (rd_T33 l0 x9_1).f2, (rd_T33 l0 x9_1).f3⟩ : S33) [.int .i64 ((rd_T33 l0 x9_1).f0), .int .i64 ((rd_T33 l0 x9_1).f1), .string ((rd_T33 l0 x9_1).f2), .int .i64 ((rd_T33 l0 x9_1).f3)] (fun _ => True) (fun _ => False) rfl rfl ?aP (fun _ hk => hk.elim) ?aF ?aO ?aB ?aS ?aL ?_; (case aP => exact k33_mkM _ _ _ (⟨(rd_T33 l0 x9_1).f0, (rd_T33 l0 x9_1).f1, (rd_T33 l0 x9_1).f2, (rd_T33 l0 x9_1).f3⟩ : S33)); (case aB => exact (by repeat (first | (with_reducible first | exact HB.out | apply below_alloc | apply pw_below_drewN | apply below_drew1) | exact HB.out))); (case aF => exact (fun _ _ => trivial)); (case aO => exact (by (with_reducible repeat (first | apply Kd.R_alloc | apply Kd.R_drewN | apply Kd.R_drew)); exact HO_7.out)); (case aS => exact (below_size (by repeat (first | (with_reducible first | exact HB.out | apply below_alloc | apply pw_below_drewN | apply below_drew1) | exact HB.out)))); (case aL => have := LMc53.out; omega); intro v145 w55 ho hb hg hat; rw [← Ny144.out] at ho; have n0_ := Aside0.mk (Kd.R_over' (by (with_reducible repeat (first | apply Kd.R_alloc | apply Kd.R_drewN | apply Kd.R_drew)); exact HO_8.out) (Kd.R_typed (by (with_reducible repeat (first | apply Kd.R_alloc | apply Kd.R_drewN | apply Kd.R_drew)); exact HO_7.out)) (by decide) hg); have n1_ := Aside0.mk (hb); have n2_ := Aside0.mk (ho); clear HO_8; clear HB; clear HO_7; have HO_8 := n0_; have HB := n1_; have HO146 := n2_; clear n0_ n1_ n2_; clear ho hb hg hat))
                                      go_roundg k4
                                      case measure => have := HK1.out; have := HJ8.out; have := HJ28.out; have := HK4.out; omega
                                      case rel => exact ⟨(y144), (x8_4), (wrap64 (x9_1 + 1)), (by first | rfl | (simp; done) | (simp [*]; done)), H', ⟨by have := HK1.out; have := HJ8.out; have := HJ28.out; have := HK4.out; omega⟩, ⟨by (with_reducible repeat (first | apply Kd.R_alloc | apply Kd.R_drewN | apply Kd.R_drew)); exact HO146.out⟩, ⟨by (with_reducible repeat (first | apply Kd.R_alloc | apply Kd.R_drewN | apply Kd.R_drew)); exact HO_8.out⟩, ⟨by repeat (first | (with_reducible first | exact HB.out | apply below_alloc | apply pw_below_drewN | apply below_drew1) | exact HB.out)⟩⟩
                                    · rw [if_neg c53] at H
                                      exact absurd H (by simp)
                                  · rw [if_neg c52] at H
                                    exact absurd H (by simp)
                                · rw [if_neg c51] at H
                                  exact absurd H (by simp)
                  · rw [if_neg c18] at H
                    exact absurd H (by simp)
                · rw [if_neg c17] at H
                  exact absurd H (by simp)
              · replace c15 := Bool.eq_false_iff.mpr c15
                subst c15
                have H1 : (if 0 ≤ x9_1 then (if x9_1 < (l0.length : Int) then (if x7_1.length < 3518437208883 then (emendateref15_Apply.l0 kj8 l0 a1 a2 (x7_1 ++ [(⟨(rd_T33 l0 x9_1).f0, (rd_T33 l0 x9_1).f1, (rd_T33 l0 x9_1).f2, (rd_T33 l0 x9_1).f3⟩ : S33)]) x8_1 (wrap64 (x9_1 + 1))) else (none)) else (none)) else (none)) = some r := by rw [if_neg (show ¬ (false = true) by decide)] at H; exact H
                clear H
                have H := H1
                clear H1
                by_cases c56 : 0 ≤ x9_1
                · rw [if_pos c56] at H
                  have c56b0 : decide (0 ≤ x9_1) = true := decide_eq_true c56
                  clear c56
                  by_cases c57 : x9_1 < (l0.length : Int)
                  · rw [if_pos c57] at H
                    have c57b0 : decide (x9_1 < (l0.length : Int)) = true := decide_eq_true c57
                    clear c57
                    by_cases c58 : x7_1.length < 3518437208883
                    · rw [if_pos c58] at H
                      have LMc58 := Aside0.mk c58
                      clear c58
                      obtain ⟨y148, hy148⟩ : ∃ y_ : List (S33), y_ = (x7_1 ++ [(⟨(rd_T33 l0 x9_1).f0, (rd_T33 l0 x9_1).f1, (rd_T33 l0 x9_1).f2, (rd_T33 l0 x9_1).f3⟩ : S33)]) := ⟨_, rfl⟩
                      replace H : (emendateref15_Apply.l0 kj8 l0 a1 a2 y148 x8_1 (wrap64 (x9_1 + 1))) = some r := by first | (rw [hy148]; with_reducible exact H) | (have H2_ := (Option.bind_some _ _).symm.trans H; rw [hy148]; with_reducible exact H2_) | (have H2_ := (Option.bind_some _ _).symm.trans H; with_reducible exact H2_) | with_reducible exact H | (rw [hy148]; exact H) | exact H
                      have Ny148 := Aside0.mk hy148
                      clear hy148
                      have H' := Aside0.mk H
                      clear H
                      have p147 : 0 ≤ (x9_1 : Int) := of_decide_eq_true (by first | (with_reducible assumption) | assumption)
                      have q147 : x9_1 < (l0.length : Int) := of_decide_eq_true (by first | (with_reducible assumption) | assumption)
                      obtain ⟨ad147, e147, hx147_0, hx147_1, hx147_2, hx147_3⟩ := at_T33 HR0.out x9_1 p147 q147
                      obtain rfl : ad114 = ad147 := (by injection e147)
                      replace hx147_0 := (HB.out.cell (World.block_lt_of_cell? w _ hx147_0)).trans hx147_0
                      replace hx147_1 := (HB.out.cell (World.block_lt_of_cell? w _ hx147_1)).trans hx147_1
                      replace hx147_2 := (HB.out.cell (World.block_lt_of_cell? w _ hx147_2)).trans hx147_2
                      replace hx147_3 := (HB.out.cell (World.block_lt_of_cell? w _ hx147_3)).trans hx147_3
                      replace p147 := eq_true p147
                      replace q147 := eq_true q147
                      go_wp2_with (first | ((with_reducible refine gate_builtin (b := .append) (xs := #[.tmp 98, .tmp 103]) rfl ?_); (try (refine gate_guard (by rfl) ?_; dsimp only)); at_builtin; refine Kd.R_append k33 (w0 := w) w.heap.size rfl (.tmp 98) (.tmp 103) 22 33 (.agg #[(.int .i64 0), (.int .i64 0), (.string ⟨#[]⟩), (.int .i64 0)]) 40 rfl Try.underlying22 info33 rfl (by decide) (by omega) u7 x7_1 (⟨(rd_T33 l0 x9_1).f0, (rd_T33 l0 x9_1).f1, (rd_T33 l0 x9_1).f2, (rd_T33 l0 x9_1).f3⟩ : S33) [.int .i64 ((rd_T33 l0 x9_1).f0), .int .i64 ((rd_T33 l0 x9_1).f1), .string ((rd_T33 l0 x9_1).f2), .int .i64 ((rd_T33 l0 x9_1).f3)] (fun _ => True) (fun _ => False) rfl rfl ?aP (fun _ hk => hk.elim) ?aF ?aO ?aB ?aS ?aL ?_; (case aP => exact k33_mkM _ _ _ (⟨(rd_T33 l0 x9_1).f0, (rd_T33 l0 x9_1).f1, (rd_T33 l0 x9_1).f2, (rd_T33 l0 x9_1).f3⟩ : S33)); (case aB => exact (by repeat (first | (with_reducible first | exact HB.out | apply below_alloc | apply pw_below_drewN | apply below_drew1) | exact HB.out))); (case aF => exact (fun _ _ => trivial)); (case aO => exact (by (with_reducible repeat (first | apply Kd.R_alloc | apply Kd.R_drewN | apply Kd.R_drew)); exact HO_7.out)); (case aS => exact (below_size (by repeat (first | (with_reducible first | exact HB.out | apply below_alloc | apply pw_below_drewN | apply below_drew1) | exact HB.out)))); (case aL => have := LMc58.out; omega); intro v149 w59 ho hb hg hat; rw [← Ny148.out] at ho; have n0_ := Aside0.mk (Kd.R_over' (by (with_reducible repeat (first | apply Kd.R_alloc | apply Kd.R_drewN | apply Kd.R_drew)); exact HO_8.out) (Kd.R_typed (by (with_reducible repeat (first | apply Kd.R_alloc | apply Kd.R_drewN | apply Kd.R_drew)); exact HO_7.out)) (by decide) hg); have n1_ := Aside0.mk (hb); have n2_ := Aside0.mk (ho); clear HO_8; clear HB; clear HO_7; have HO_8 := n0_; have HB := n1_; have HO150 := n2_; clear n0_ n1_ n2_; clear ho hb hg hat))
                      go_roundg kj8
                      case measure => have := HK1.out; have := HJ8.out; omega
                      case rel => exact ⟨(y148), (x8_1), (wrap64 (x9_1 + 1)), (by first | rfl | (simp; done) | (simp [*]; done)), H', ⟨by have := HK1.out; have := HJ8.out; omega⟩, ⟨by (with_reducible repeat (first | apply Kd.R_alloc | apply Kd.R_drewN | apply Kd.R_drew)); exact HO150.out⟩, ⟨by (with_reducible repeat (first | apply Kd.R_alloc | apply Kd.R_drewN | apply Kd.R_drew)); exact HO_8.out⟩, ⟨by repeat (first | (with_reducible first | exact HB.out | apply below_alloc | apply pw_below_drewN | apply below_drew1) | exact HB.out)⟩⟩
                    · rw [if_neg c58] at H
                      exact absurd H (by simp)
                  · rw [if_neg c57] at H
                    exact absurd H (by simp)
                · rw [if_neg c56] at H
                  exact absurd H (by simp)
        · rw [if_neg c7] at H
          exact absurd H (by simp)
      · rw [if_neg c6] at H
        have c6b0 : decide (x9_1 < (l0.length : Int)) = false := decide_eq_false c6
        clear c6
        by_cases c60 : (l0.length : Int) > 0
        · rw [if_pos c60] at H
          have c60b0 : decide (0 < (l0.length : Int)) = true := decide_eq_true c60
          have c60b1 : decide (0 < l0.length) = true := decide_eq_true (by omega)
          clear c60
          by_cases c61 : x7_1.length < 3518437208883
          · rw [if_pos c61] at H
            have LMc61 := Aside0.mk c61
            clear c61
            obtain ⟨y151, hy151⟩ : ∃ y_ : List (S33), y_ = (x7_1 ++ [(⟨a2, (a1.size : Int), (⟨#[]⟩ : ByteArray), 0⟩ : S33)]) := ⟨_, rfl⟩
            replace H : (emendateref15_Apply.l2 k1 a1 a2 y151 x8_1 1) = some r := by first | (rw [hy151]; with_reducible exact H) | (have H2_ := (Option.bind_some _ _).symm.trans H; rw [hy151]; with_reducible exact H2_) | (have H2_ := (Option.bind_some _ _).symm.trans H; with_reducible exact H2_) | with_reducible exact H | (rw [hy151]; exact H) | exact H
            have Ny151 := Aside0.mk hy151
            clear hy151
            have H' := Aside0.mk H
            clear H
            go_wp2_with (first | ((with_reducible refine gate_builtin (b := .append) (xs := #[.tmp 108, .tmp 113]) rfl ?_); (try (refine gate_guard (by rfl) ?_; dsimp only)); at_builtin; refine Kd.R_append k33 (w0 := w) w.heap.size rfl (.tmp 108) (.tmp 113) 22 33 (.agg #[(.int .i64 0), (.int .i64 0), (.string ⟨#[]⟩), (.int .i64 0)]) 40 rfl Try.underlying22 info33 rfl (by decide) (by omega) u7 x7_1 (⟨a2, (a1.size : Int), (⟨#[]⟩ : ByteArray), 0⟩ : S33) [.int .i64 a2, .int .i64 (a1.size : Int), .string (⟨#[]⟩ : ByteArray), .int .i64 0] (fun _ => True) (fun _ => False) rfl rfl ?aP (fun _ hk => hk.elim) ?aF ?aO ?aB ?aS ?aL ?_; (case aP => exact k33_mkM _ _ _ (⟨a2, (a1.size : Int), (⟨#[]⟩ : ByteArray), 0⟩ : S33)); (case aB => exact (by repeat (first | (with_reducible first | exact HB.out | apply below_alloc | apply pw_below_drewN | apply below_drew1) | exact HB.out))); (case aF => exact (fun _ _ => trivial)); (case aO => exact (by (with_reducible repeat (first | apply Kd.R_alloc | apply Kd.R_drewN | apply Kd.R_drew)); exact HO_7.out)); (case aS => exact (below_size (by repeat (first | (with_reducible first | exact HB.out | apply below_alloc | apply pw_below_drewN | apply below_drew1) | exact HB.out)))); (case aL => have := LMc61.out; omega); intro v152 w62 ho hb hg hat; rw [← Ny151.out] at ho; have n0_ := Aside0.mk (Kd.R_over' (by (with_reducible repeat (first | apply Kd.R_alloc | apply Kd.R_drewN | apply Kd.R_drew)); exact HO_8.out) (Kd.R_typed (by (with_reducible repeat (first | apply Kd.R_alloc | apply Kd.R_drewN | apply Kd.R_drew)); exact HO_7.out)) (by decide) hg); have n1_ := Aside0.mk (hb); have n2_ := Aside0.mk (ho); clear HO_8; clear HB; clear HO_7; have HO_8 := n0_; have HB := n1_; have HO153 := n2_; clear n0_ n1_ n2_; clear ho hb hg hat))
            go_loopg [7, 13] k1 (fun kq v7 v13 w' => ∃ (x7_2 : List (S33)) (x13_2 : Int), v13 = .int .i64 x13_2 ∧ Aside0 (emendateref15_Apply.l2 kq a1 a2 x7_2 x8_1 x13_2 = some r) ∧ Aside0 (kq ≤ k1) ∧ Aside0 (Kd.R k33 33 w' w.heap.size (fun _ => True) v7 x7_2) ∧ Aside0 (Kd.R (Kd.int .i64) 3 w' w.heap.size (fun _ => True) u8 x8_1) ∧ Aside0 (Below w.heap.size w w'))
            case atStart => exact ⟨(y151), (1), (by first | rfl | (simp; done) | (simp [*]; done)), H', ⟨Nat.le_refl _⟩, ⟨by (with_reducible repeat (first | apply Kd.R_alloc | apply Kd.R_drewN | apply Kd.R_drew)); exact HO153.out⟩, ⟨by (with_reducible repeat (first | apply Kd.R_alloc | apply Kd.R_drewN | apply Kd.R_drew)); exact HO_8.out⟩, ⟨by repeat (first | (with_reducible first | exact HB.out | apply below_alloc | apply pw_below_drewN | apply below_drew1) | exact HB.out)⟩⟩
            case round =>
              clear H'
              try clear c1
              try clear p1
              try clear q1
              try clear hx1
              try clear c2
              try clear p2
              try clear c3
              try clear c4
              try clear q4
              try clear c5
              try clear c6
              try clear c6b0
              try clear p6
              try clear c7
              try clear c7b0
              try clear c10
              try clear c10b0
              try clear c10b1
              try clear p11
              try clear q11
              try clear hx11
              try clear c12
              try clear c12b0
              try clear p12
              try clear q12
              try clear hx12
              try clear c13
              try clear c13b0
              try clear p13
              try clear q13
              try clear hx13
              try clear c14
              try clear p14
              try clear q14
              try clear hx14
              try clear c15
              try clear c17
              try clear c17b0
              try clear c18
              try clear c18b0
              try clear c19
              try clear c19b0
              try clear c20
              try clear c21
              try clear c22
              try clear c22b0
              try clear c23
              try clear c23b0
              try clear c24
              try clear c31
              try clear c31b0
              try clear c32
              try clear c34
              try clear c34b0
              try clear c34b1
              try clear c36
              try clear c36b0
              try clear c37
              try clear c37b0
              try clear c38
              try clear c38b0
              try clear c40
              try clear c40b0
              try clear c40b1
              try clear c41
              try clear c41b0
              try clear c41b1
              try clear c42
              try clear q44
              try clear c46
              try clear c46b0
              try clear c47
              try clear c47b0
              try clear c48
              try clear c51
              try clear c51b0
              try clear c52
              try clear c52b0
              try clear c53
              try clear c56
              try clear c56b0
              try clear c57
              try clear c57b0
              try clear c58
              try clear c60
              try clear c60b0
              try clear c60b1
              try clear c61
              try clear hx114_0
              try clear hx114_1
              try clear hx114_2
              try clear hx114_3
              try clear hx116_0
              try clear hx116_1
              try clear hx116_2
              try clear hx116_3
              try clear hx118_0
              try clear hx125_0
              try clear hx125_1
              try clear hx125_2
              try clear hx125_3
              try clear hx132_0
              try clear hx139_0
              try clear hx139_1
              try clear hx139_2
              try clear hx139_3
              try clear hx143_0
              try clear hx143_1
              try clear hx143_2
              try clear hx143_3
              try clear hx147_0
              try clear hx147_1
              try clear hx147_2
              try clear hx147_3
              try clear p1
              try clear p11
              try clear p114
              try clear p116
              try clear p118
              try clear p12
              try clear p125
              try clear p132
              try clear p139
              try clear p143
              try clear p147
              try clear p2
              try clear p6
              try clear q1
              try clear q11
              try clear q114
              try clear q116
              try clear q118
              try clear q12
              try clear q125
              try clear q132
              try clear q139
              try clear q143
              try clear q147
              try clear q44
              obtain ⟨x7_2, x13_2, rfl, HA, HK2, HO_7, HO_8, HB⟩ := hrel
              cases gk with
              | zero => exact absurd HA.out (by simp [emendateref15_Apply.l2])
              | succ k2 =>
                have H := HA.out
                clear HA
                simp only [emendateref15_Apply.l2] at H
                by_cases c63 : x13_2 < (x8_1.length : Int)
                · rw [if_pos c63] at H
                  have c63b0 : decide (x13_2 < (x8_1.length : Int)) = true := decide_eq_true c63
                  clear c63
                  by_cases c64 : x7_2.length < 3518437208883
                  · rw [if_pos c64] at H
                    have LMc64 := Aside0.mk c64
                    clear c64
                    obtain ⟨y154, hy154⟩ : ∃ y_ : List (S33), y_ = (x7_2 ++ [(⟨wrap64 (a2 + 2), (a1.size : Int), (⟨#[]⟩ : ByteArray), 0⟩ : S33)]) := ⟨_, rfl⟩
                    replace H : (emendateref15_Apply.l2 k2 a1 a2 y154 x8_1 (wrap64 (x13_2 + 1))) = some r := by first | (rw [hy154]; with_reducible exact H) | (have H2_ := (Option.bind_some _ _).symm.trans H; rw [hy154]; with_reducible exact H2_) | (have H2_ := (Option.bind_some _ _).symm.trans H; with_reducible exact H2_) | with_reducible exact H | (rw [hy154]; exact H) | exact H
                    have Ny154 := Aside0.mk hy154
                    clear hy154
                    have H' := Aside0.mk H
                    clear H
                    obtain ⟨Ao65, co65, eo65⟩ := Kd.R_slice HO_8.out
                    subst eo65
                    go_wp2_with (first | ((with_reducible refine gate_builtin (b := .append) (xs := #[.tmp 121, .tmp 127]) rfl ?_); (try (refine gate_guard (by rfl) ?_; dsimp only)); at_builtin; refine Kd.R_append k33 (w0 := w) w.heap.size rfl (.tmp 121) (.tmp 127) 22 33 (.agg #[(.int .i64 0), (.int .i64 0), (.string ⟨#[]⟩), (.int .i64 0)]) 40 rfl Try.underlying22 info33 rfl (by decide) (by omega) u7 x7_2 (⟨wrap64 (a2 + 2), (a1.size : Int), (⟨#[]⟩ : ByteArray), 0⟩ : S33) [.int .i64 (wrap64 (a2 + 2)), .int .i64 (a1.size : Int), .string (⟨#[]⟩ : ByteArray), .int .i64 0] (fun _ => True) (fun _ => False) rfl rfl ?aP (fun _ hk => hk.elim) ?aF ?aO ?aB ?aS ?aL ?_; (case aP => exact k33_mkM _ _ _ (⟨wrap64 (a2 + 2), (a1.size : Int), (⟨#[]⟩ : ByteArray), 0⟩ : S33)); (case aB => exact (by repeat (first | (with_reducible first | exact HB.out | apply below_alloc | apply pw_below_drewN | apply below_drew1) | exact HB.out))); (case aF => exact (fun _ _ => trivial)); (case aO => exact (by (with_reducible repeat (first | apply Kd.R_alloc | apply Kd.R_drewN | apply Kd.R_drew)); exact HO_7.out)); (case aS => exact (below_size (by repeat (first | (with_reducible first | exact HB.out | apply below_alloc | apply pw_below_drewN | apply below_drew1) | exact HB.out)))); (case aL => have := LMc64.out; omega); intro v155 w66 ho hb hg hat; rw [← Ny154.out] at ho; have n0_ := Aside0.mk (Kd.R_over' (by (with_reducible repeat (first | apply Kd.R_alloc | apply Kd.R_drewN | apply Kd.R_drew)); exact HO_8.out) (Kd.R_typed (by (with_reducible repeat (first | apply Kd.R_alloc | apply Kd.R_drewN | apply Kd.R_drew)); exact HO_7.out)) (by decide) hg); have n1_ := Aside0.mk (hb); have n2_ := Aside0.mk (ho); clear HO_8; clear HB; clear HO_7; have HO_8 := n0_; have HB := n1_; have HO156 := n2_; clear n0_ n1_ n2_; clear ho hb hg hat))
                    go_roundg k2
                    case measure => have := HK1.out; have := HK2.out; omega
                    case rel => exact ⟨(y154), (wrap64 (x13_2 + 1)), (by first | rfl | (simp; done) | (simp [*]; done)), H', ⟨by have := HK1.out; have := HK2.out; omega⟩, ⟨by (with_reducible repeat (first | apply Kd.R_alloc | apply Kd.R_drewN | apply Kd.R_drew)); exact HO156.out⟩, ⟨by (with_reducible repeat (first | apply Kd.R_alloc | apply Kd.R_drewN | apply Kd.R_drew)); exact HO_8.out⟩, ⟨by repeat (first | (with_reducible first | exact HB.out | apply below_alloc | apply pw_below_drewN | apply below_drew1) | exact HB.out)⟩⟩
                  · rw [if_neg c64] at H
                    exact absurd H (by simp)
                · rw [if_neg c63] at H
                  have c63b0 : decide (x13_2 < (x8_1.length : Int)) = false := decide_eq_false c63
                  clear c63
                  obtain rfl := Option.some.inj H
                  obtain ⟨Ao67, co67, eo67⟩ := Kd.R_slice HO_8.out
                  subst eo67
                  go_wp2
                  go_ret
                  exact ⟨_, by first | rfl | (simp [errW_none, errW_some] <;> rfl) | (simp [*, errW_none, errW_some] <;> rfl), by (with_reducible repeat (first | apply Kd.R_alloc | apply Kd.R_drewN | apply Kd.R_drew)); exact HO_7.out, by repeat (first | (with_reducible first | exact HB.out | apply below_alloc | apply pw_below_drewN | apply below_drew1) | exact HB.out)⟩
          · rw [if_neg c61] at H
            exact absurd H (by simp)
        · rw [if_neg c60] at H
          have c60b0 : decide (0 < (l0.length : Int)) = false := decide_eq_false c60
          have c60b1 : decide (0 < l0.length) = false := decide_eq_false (by omega)
          clear c60
          obtain rfl := Option.some.inj H
          go_wp2
          go_ret
          exact ⟨_, by first | rfl | (simp [errW_none, errW_some] <;> rfl) | (simp [*, errW_none, errW_some] <;> rfl), by (with_reducible repeat (first | apply Kd.R_alloc | apply Kd.R_drewN | apply Kd.R_drew)); exact HO_7.out, by repeat (first | (with_reducible first | exact HB.out | apply below_alloc | apply pw_below_drewN | apply below_drew1) | exact HB.out)⟩

end Go.Proofs.Ythbdgmahjpgfiaa.All
