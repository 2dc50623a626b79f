-- Printed by wip/tools/wprint.py (a program of this session over the kit's printer). Not trusted: Lean checks it.
import Derived.Test.YtnddijafdphbnaaDoorAllSt
import Derived.Test.YtnddijafdphbnaaDoorAllx5
namespace Go.Proofs.YtnddijafdphbnaaDoor.All
open Go.RowKit Go.Proofs.YtnddijafdphbnaaDoorW.PrintWords Go.Proofs.YtnddijafdphbnaaDoorW.PrintLast Go.Proofs.YtnddijafdphbnaaDoorW.PrintMore
attribute [local go_sem] max2_int min2_int max_two min_two max_three min_three max_four min_four   -- for this text's walks alone
set_option linter.unusedVariables false
set_option linter.unusedSimpArgs false

/-! ### editscript_table: function 30 -/
mutual
def editscript_table.l0 : Nat → List Int → Int → Int → List (List Int) → Int → List (S33) → List Int → Int → Option ((List (List Int)))
 | 0, _, _, _, _, _, _, _, _ => none
 | k + 1, x1, x5, x6, x7, x8, x147000, x147001, x147002 => if x8 ≥ 0 then (if 0 ≤ (wrap64 (x6 + 1)) then (if (wrap64 (x6 + 1) : Int).toNat ≤ 35184372088832 then (if 0 ≤ x8 then (if x8 < (x7.length : Int) then (editscript_table.l1 k x1 x5 x6 (x7.set (x8 : Int).toNat (List.replicate (wrap64 (x6 + 1) : Int).toNat 0)) x8 x6 x147000 x147001 x147002) else (none)) else (none)) else (none)) else (none)) else (some x7)
def editscript_table.l1 : Nat → List Int → Int → Int → List (List Int) → Int → Int → List (S33) → List Int → Int → Option ((List (List Int)))
 | 0, _, _, _, _, _, _, _, _, _ => none
 | k + 1, x1, x5, x6, x7, x8, x9, x147000, x147001, x147002 => if x9 ≥ 0 then (if x8 = x5 then (editscript_table.j2 k x1 x5 x6 x7 x8 x9 (x9 == x6) x147000 x147001 x147002) else (editscript_table.j2 k x1 x5 x6 x7 x8 x9 false x147000 x147001 x147002)) else (editscript_table.l0 k x1 x5 x6 x7 (wrap64 (x8 - 1)) x147000 x147001 x147002)
def editscript_table.j2 : Nat → List Int → Int → Int → List (List Int) → Int → Int → Bool → List (S33) → List Int → Int → Option ((List (List Int)))
 | 0, _, _, _, _, _, _, _, _, _, _ => none
 | k + 1, x1, x5, x6, x7, x8, x9, x44, x147000, x147001, x147002 => if x44 = true then (editscript_table.l1 k x1 x5 x6 x7 x8 (wrap64 (x9 - 1)) x147000 x147001 x147002) else ((editscript_steps.f k x147000 x147001 x147002 x1 x8 x9).bind fun t154 => (editscript_table.l2 k x1 x5 x6 x7 x8 x9 1099511627776 t154 (t154.length : Int) 0 x147000 x147001 x147002))
def editscript_table.l2 : Nat → List Int → Int → Int → List (List Int) → Int → Int → Int → List (S64) → Int → Int → List (S33) → List Int → Int → Option ((List (List Int)))
 | 0, _, _, _, _, _, _, _, _, _, _, _, _, _ => none
 | k + 1, x1, x5, x6, x7, x8, x9, x10, x49, x50, x51, x147000, x147001, x147002 => if x51 < x50 then (if 0 ≤ x51 then (if x51 < (x49.length : Int) then (if 0 ≤ (wrap64 (x8 + ((rd_T64 x49 x51).f2))) then (if (wrap64 (x8 + ((rd_T64 x49 x51).f2))) < (x7.length : Int) then (if 0 ≤ (wrap64 (x9 + ((rd_T64 x49 x51).f3))) then (if (wrap64 (x9 + ((rd_T64 x49 x51).f3))) < ((rd_L1 x7 (wrap64 (x8 + ((rd_T64 x49 x51).f2)))).length : Int) then ((editscript_add.f ((rd_T64 x49 x51).f1) (rd (rd_L1 x7 (wrap64 (x8 + ((rd_T64 x49 x51).f2)))) (wrap64 (x9 + ((rd_T64 x49 x51).f3))))).bind fun t161 => (editscript_table.l2 k x1 x5 x6 x7 x8 x9 (mn x10 t161) x49 x50 (wrap64 (x51 + 1)) x147000 x147001 x147002)) else (none)) else (none)) else (none)) else (none)) else (none)) else (none)) else (if 0 ≤ x8 then (if x8 < (x7.length : Int) then (if 0 ≤ x9 then (if x9 < ((rd_L1 x7 x8).length : Int) then (editscript_table.l1 k x1 x5 x6 (x7.set (x8 : Int).toNat ((rd_L1 x7 x8).set (x9 : Int).toNat x10)) x8 (wrap64 (x9 - 1)) x147000 x147001 x147002) else (none)) else (none)) else (none)) else (none))
end
def editscript_table.f (k : Nat) (l0_0 : List (S33)) (l0_1 : List Int) (a0_2 : Int) (l1 : List Int) : Option ((List (List Int))) := if 0 ≤ (wrap64 ((l0_0.length : Int) + 1)) then (if (wrap64 ((l0_0.length : Int) + 1) : Int).toNat ≤ 11728124029610 then (editscript_table.l0 k l1 (l0_0.length : Int) (l1.length : Int) (List.replicate (wrap64 ((l0_0.length : Int) + 1) : Int).toNat []) (l0_0.length : Int) l0_0 l0_1 a0_2) else (none)) else (none)
theorem editscript_table.mono_l : ∀ k, (∀ y0 y1 y2 y3 y4 y5 y6 y7, LeO (editscript_table.l0 k y0 y1 y2 y3 y4 y5 y6 y7) (editscript_table.l0 (k + 1) y0 y1 y2 y3 y4 y5 y6 y7)) ∧ (∀ y0 y1 y2 y3 y4 y5 y6 y7 y8, LeO (editscript_table.l1 k y0 y1 y2 y3 y4 y5 y6 y7 y8) (editscript_table.l1 (k + 1) y0 y1 y2 y3 y4 y5 y6 y7 y8)) ∧ (∀ y0 y1 y2 y3 y4 y5 y6 y7 y8 y9, LeO (editscript_table.j2 k y0 y1 y2 y3 y4 y5 y6 y7 y8 y9) (editscript_table.j2 (k + 1) y0 y1 y2 y3 y4 y5 y6 y7 y8 y9)) ∧ (∀ y0 y1 y2 y3 y4 y5 y6 y7 y8 y9 y10 y11 y12, LeO (editscript_table.l2 k y0 y1 y2 y3 y4 y5 y6 y7 y8 y9 y10 y11 y12) (editscript_table.l2 (k + 1) y0 y1 y2 y3 y4 y5 y6 y7 y8 y9 y10 y11 y12))
 | 0 => ⟨fun _ _ _ _ _ _ _ _ r h => by simp [editscript_table.l0] at h, fun _ _ _ _ _ _ _ _ _ r h => by simp [editscript_table.l1] at h, fun _ _ _ _ _ _ _ _ _ _ r h => by simp [editscript_table.j2] at h, fun _ _ _ _ _ _ _ _ _ _ _ _ _ r h => by simp [editscript_table.l2] at h⟩
 | k + 1 => by
  obtain ⟨ih0, ih1, ih2, ih3⟩ := editscript_table.mono_l k
  refine ⟨?_, ?_, ?_, ?_⟩
  ·
   intro y0 y1 y2 y3 y4 y5 y6 y7
   unfold editscript_table.l0
   repeat' first
   | (with_reducible exact ih0 _ _ _ _ _ _ _ _)
   | (with_reducible exact ih1 _ _ _ _ _ _ _ _ _)
   | (with_reducible exact ih2 _ _ _ _ _ _ _ _ _ _)
   | (with_reducible exact ih3 _ _ _ _ _ _ _ _ _ _ _ _ _)
   | (with_reducible exact editscript_steps.mono _ _ _ _ _ _ _)
   | (with_reducible exact LeO.refl _)
   | (with_reducible exact LeO.none _)
   | (with_reducible refine LeO.ite ?_ ?_)
   | (with_reducible refine LeO.bind ?_ (fun _ => ?_))
   | exact ih0 _ _ _ _ _ _ _ _
   | exact ih1 _ _ _ _ _ _ _ _ _
   | exact ih2 _ _ _ _ _ _ _ _ _ _
   | exact ih3 _ _ _ _ _ _ _ _ _ _ _ _ _
   | exact editscript_steps.mono _ _ _ _ _ _ _
   | exact LeO.none _
   | refine LeO.ite ?_ ?_
   | refine LeO.bind ?_ (fun _ => ?_)
  ·
   intro y0 y1 y2 y3 y4 y5 y6 y7 y8
   unfold editscript_table.l1
   repeat' first
   | (with_reducible exact ih0 _ _ _ _ _ _ _ _)
   | (with_reducible exact ih1 _ _ _ _ _ _ _ _ _)
   | (with_reducible exact ih2 _ _ _ _ _ _ _ _ _ _)
   | (with_reducible exact ih3 _ _ _ _ _ _ _ _ _ _ _ _ _)
   | (with_reducible exact editscript_steps.mono _ _ _ _ _ _ _)
   | (with_reducible exact LeO.refl _)
   | (with_reducible exact LeO.none _)
   | (with_reducible refine LeO.ite ?_ ?_)
   | (with_reducible refine LeO.bind ?_ (fun _ => ?_))
   | exact ih0 _ _ _ _ _ _ _ _
   | exact ih1 _ _ _ _ _ _ _ _ _
   | exact ih2 _ _ _ _ _ _ _ _ _ _
   | exact ih3 _ _ _ _ _ _ _ _ _ _ _ _ _
   | exact editscript_steps.mono _ _ _ _ _ _ _
   | exact LeO.none _
   | refine LeO.ite ?_ ?_
   | refine LeO.bind ?_ (fun _ => ?_)
  ·
   intro y0 y1 y2 y3 y4 y5 y6 y7 y8 y9
   unfold editscript_table.j2
   repeat' first
   | (with_reducible exact ih0 _ _ _ _ _ _ _ _)
   | (with_reducible exact ih1 _ _ _ _ _ _ _ _ _)
   | (with_reducible exact ih2 _ _ _ _ _ _ _ _ _ _)
   | (with_reducible exact ih3 _ _ _ _ _ _ _ _ _ _ _ _ _)
   | (with_reducible exact editscript_steps.mono _ _ _ _ _ _ _)
   | (with_reducible exact LeO.refl _)
   | (with_reducible exact LeO.none _)
   | (with_reducible refine LeO.ite ?_ ?_)
   | (with_reducible refine LeO.bind ?_ (fun _ => ?_))
   | exact ih0 _ _ _ _ _ _ _ _
   | exact ih1 _ _ _ _ _ _ _ _ _
   | exact ih2 _ _ _ _ _ _ _ _ _ _
   | exact ih3 _ _ _ _ _ _ _ _ _ _ _ _ _
   | exact editscript_steps.mono _ _ _ _ _ _ _
   | exact LeO.none _
   | refine LeO.ite ?_ ?_
   | refine LeO.bind ?_ (fun _ => ?_)
  ·
   intro y0 y1 y2 y3 y4 y5 y6 y7 y8 y9 y10 y11 y12
   unfold editscript_table.l2
   repeat' first
   | (with_reducible exact ih0 _ _ _ _ _ _ _ _)
   | (with_reducible exact ih1 _ _ _ _ _ _ _ _ _)
   | (with_reducible exact ih2 _ _ _ _ _ _ _ _ _ _)
   | (with_reducible exact ih3 _ _ _ _ _ _ _ _ _ _ _ _ _)
   | (with_reducible exact editscript_steps.mono _ _ _ _ _ _ _)
   | (with_reducible exact LeO.refl _)
   | (with_reducible exact LeO.none _)
   | (with_reducible refine LeO.ite ?_ ?_)
   | (with_reducible refine LeO.bind ?_ (fun _ => ?_))
   | exact ih0 _ _ _ _ _ _ _ _
   | exact ih1 _ _ _ _ _ _ _ _ _
   | exact ih2 _ _ _ _ _ _ _ _ _ _
   | exact ih3 _ _ _ _ _ _ _ _ _ _ _ _ _
   | exact editscript_steps.mono _ _ _ _ _ _ _
   | exact LeO.none _
   | refine LeO.ite ?_ ?_
   | refine LeO.bind ?_ (fun _ => ?_)
theorem editscript_table.mono : ∀ a0 a1 a2 a3 k, LeO (editscript_table.f k a0 a1 a2 a3) (editscript_table.f (k + 1) a0 a1 a2 a3) := by
 intro a0 a1 a2 a3 k
 obtain ⟨ih0, ih1, ih2, ih3⟩ := editscript_table.mono_l k
 unfold editscript_table.f
 repeat' first
   | (with_reducible exact ih0 _ _ _ _ _ _ _ _)
   | (with_reducible exact ih1 _ _ _ _ _ _ _ _ _)
   | (with_reducible exact ih2 _ _ _ _ _ _ _ _ _ _)
   | (with_reducible exact ih3 _ _ _ _ _ _ _ _ _ _ _ _ _)
   | (with_reducible exact editscript_steps.mono _ _ _ _ _ _ _)
   | (with_reducible exact LeO.refl _)
   | (with_reducible exact LeO.none _)
   | (with_reducible refine LeO.ite ?_ ?_)
   | (with_reducible refine LeO.bind ?_ (fun _ => ?_))
   | exact ih0 _ _ _ _ _ _ _ _
   | exact ih1 _ _ _ _ _ _ _ _ _
   | exact ih2 _ _ _ _ _ _ _ _ _ _
   | exact ih3 _ _ _ _ _ _ _ _ _ _ _ _ _
   | exact editscript_steps.mono _ _ _ _ _ _ _
   | exact LeO.none _
   | refine LeO.ite ?_ ?_
   | refine LeO.bind ?_ (fun _ => ?_)
def editscript_table.T15 : Bool × List (List Nat × List Nat) := (true, [([], []), ([], []), ([1], [1]), ([], []), ([], []), ([], []), ([5], [5]), ([4, 6], [4, 6]), ([3, 7], [3, 7]), ([8], [8]), ([], []), ([], []), ([11], [11]), ([10, 12], [10, 12]), ([9, 13], [9, 13]), ([14], [14]), ([2, 15], [2, 15]), ([0, 16], [0, 16]), ([17, 16, 0, 1, 2, 3, 4, 5, 6, 7, 8, 9, 10, 11, 12, 13, 14, 15, 16, 17], [0, 17])])
def editscript_table.B15 : List Nat := [0, 0, 2, 0, 0, 0, 32, 112, 248, 504, 0, 0, 2048, 7168, 16376, 32760, 65534, 131071, 262143]
theorem editscript_table.tab15 : rtab .any (opsOf Tryd.f30 15) = editscript_table.T15 := by kernel_rfl
theorem editscript_table.bits15 : waitsOk editscript_table.T15.2 editscript_table.B15 = true := by kernel_rfl
set_option maxHeartbeats 8000000 in
set_option maxRecDepth 100000 in
theorem editscript_table.calls (k : Nat) (A0_0 : Option Addr) (c0_0 : Nat) (l0_0 : List (S33)) (A0_1 : Option Addr) (c0_1 : Nat) (l0_1 : List Int) (a0_2 : Int) (A1 : Option Addr) (c1 : Nat) (l1 : List Int) (r : List (List Int)) (w : World) (hr0_0 : Kd.C k33 w A0_0 l0_0.length l0_0) (hc0_0 : l0_0.length ≤ c0_0) (hr0_1 : Kd.C (Kd.int .i64) w A0_1 l0_1.length l0_1) (hc0_1 : l0_1.length ≤ c0_1) (hr1 : Kd.C (Kd.int .i64) w A1 l1.length l1) (hc1 : l1.length ≤ c1) (h : editscript_table.f k l0_0 l0_1 a0_2 l1 = some r) :
  Calls Tryd.prog 30 #[.agg #[.slice A0_0 l0_0.length c0_0, .slice A0_1 l0_1.length c0_1, .int .i64 a0_2], .slice A1 l1.length c1] w fun e w' => ∃ v0_ : Value, e = .returned (v0_) ∧ Kd.S (Kd.slice 3 (Kd.int .i64)) 23 w' w.heap.size (fun _ => True) v0_ r ∧ Below w.heap.size w w' := by
 have hu25 := Tryd.underlying25
 have hu64 := Tryd.underlying64
 have HR0_0 := Aside0.mk hr0_0
 have HC0_0 := Aside0.mk hc0_0
 clear hr0_0 hc0_0
 have HR0_1 := Aside0.mk hr0_1
 have HC0_1 := Aside0.mk hc0_1
 clear hr0_1 hc0_1
 have HR1 := Aside0.mk hr1
 have HC1 := Aside0.mk hc1
 clear hr1 hc1
 have HB := Aside0.mk (Below.refl w.heap.size w)
 have H : (if 0 ≤ (wrap64 ((l0_0.length : Int) + 1)) then (if (wrap64 ((l0_0.length : Int) + 1) : Int).toNat ≤ 11728124029610 then (editscript_table.l0 k l1 (l0_0.length : Int) (l1.length : Int) (List.replicate (wrap64 ((l0_0.length : Int) + 1) : Int).toNat []) (l0_0.length : Int) l0_0 l0_1 a0_2) else (none)) else (none)) = some r := h
 clear h
 obtain ⟨ji3, hji3⟩ : ∃ j_ : Int, (wrap64 ((l0_0.length : Int) + 1)) = j_ := ⟨_, rfl⟩
 replace H : (if 0 ≤ (ji3) then (if (ji3 : Int).toNat ≤ 11728124029610 then (editscript_table.l0 k l1 (l0_0.length : Int) (l1.length : Int) (List.replicate (ji3 : Int).toNat []) (l0_0.length : Int) l0_0 l0_1 a0_2) else (none)) else (none)) = some r := by first | (rw [hji3] at H; exact H) | (simp only [hji3] at H ⊢; exact H)
 have hji3w : (IntKind.i64.wrap ((l0_0.length : Int) + 1)) = ji3 := (i64_w _).trans hji3
 by_cases c4 : 0 ≤ (ji3)
 ·
  rw [if_pos c4] at H
  have c4b0 := eq_true c4
  have c4b1 : decide (0 ≤ (ji3)) = true := decide_eq_true c4
  clear c4
  by_cases c5 : (ji3 : Int).toNat ≤ 11728124029610
  ·
   rw [if_pos c5] at H
   have c5b0 := eq_true c5
   have c5b1 : decide ((ji3 : Int).toNat ≤ 11728124029610) = true := decide_eq_true c5
   clear c5
   obtain ⟨y147, hy147⟩ : ∃ y_ : List (List Int), y_ = (List.replicate (ji3 : Int).toNat []) := ⟨_, rfl⟩
   replace H : (editscript_table.l0 k l1 (l0_0.length : Int) (l1.length : Int) y147 (l0_0.length : Int) l0_0 l0_1 a0_2) = some r := by first | (rw [hy147]; with_reducible exact H) | (have H2_ := (Option.bind_some _ _).symm.trans H; rw [hy147]; with_reducible exact H2_) | (have H2_ := (Option.bind_some _ _).symm.trans H; with_reducible exact H2_) | with_reducible exact H | (rw [hy147]; exact H) | exact H
   have Ny147 := Aside0.mk hy147
   clear hy147
   have H' := Aside0.mk H
   clear H
   go_enter Tryd.func30, Tryd.ntmps30
   go_wp2_with (first | ((with_reducible refine gate_dst (N := 2) rfl ?_); refine box_event ?hg (N := 2) ?hd (cs := #[.slice A0_0 l0_0.length c0_0, .slice A0_1 l0_1.length c0_1, .int .i64 a0_2]) (t := 25) ?hr ?_; (case hd => rfl); (case hg => rfl); (case hr => first | (go_simp; done) | (go_simp; rfl)); intro gb146 hg w6 hbox hb; have n0_ := Aside0.mk (below_step (pB HB.out) hb); have n1_ := Aside0.mk (hbox); have n2_ := Aside0.mk ((by rw [hg]; exact (below_size (pB HB.out)) : w.heap.size ≤ gb146)); have n3_ := Aside0.mk ((by rw [hg]; exact (below_size (pB HB.out)) : w.heap.size ≤ gb146)); clear HB; have HB := n0_; have BK146 := n1_; have GW146 := n2_; have GE146 := n3_; clear n0_ n1_ n2_ n3_; clear hb hbox hg; obtain ⟨hcz7_0, hcz7_1, hcz7_2, hfz7_0, hfz7_1, hfz7_2⟩ := cz3 BK146.out) | ((with_reducible refine gate_dst (N := 20) rfl ?_); refine Kd.S_make (Kd.slice 3 (Kd.int .i64)) _ 23 rfl (N := 20) rfl 52 _ _ rfl ji3 rfl rfl Tryd.underlying52 (.slice none 0 0) 24 info23 rfl (by decide) (by omega) [] (ok := fun _ => True) (okp := fun _ => True) ⟨_, rfl, Kd.R_nil _ _ _ _ _⟩ (fun _ hk => hk) trivial (od) (Nat.le_trans (Nat.mul_le_mul_right _ (od : ji3.toNat ≤ 11728124029610)) (by omega)) (Below.refl _ _) (Nat.le_refl _) ?_; intro v148 w8 ho9 hb hg_ hnew_; clear hg_ hnew_; (first | rw [← Ny147.out] at ho9 | (simp only [Int.reduceToNat] at ho9; rw [← Ny147.out] at ho9)); have HO149 := Aside0.mk (Kd.S_lower ho9 (below_size (pb HB.out GE146.out))); replace BK146 := Aside0.mk (bb BK146.out hb); replace HB := Aside0.mk (below_step (pb HB.out GE146.out) hb); clear hb ho9))
   go_loopg [8] k (fun kq v8 w' => ∃ (x7_1 : List (List Int)) (x8_1 : Int), v8 = .int .i64 x8_1 ∧ Aside0 (editscript_table.l0 kq l1 (l0_0.length : Int) (l1.length : Int) x7_1 x8_1 l0_0 l0_1 a0_2 = some r) ∧ Aside0 (kq ≤ k) ∧ Aside0 (Kd.S (Kd.slice 3 (Kd.int .i64)) 23 w' w.heap.size (fun _ => True) v148 x7_1) ∧ Aside0 (w'.heap[gb146]? = some (.cells #[(.slice A0_0 l0_0.length c0_0), (.slice A0_1 l0_1.length c0_1), .int .i64 a0_2] 25 (0, 0))) ∧ Aside0 (Below w.heap.size w w'))
   case atStart => exact ⟨(y147), ((l0_0.length : Int)), rr, H', ⟨Nat.le_refl _⟩, ⟨by (with_reducible repeat (first | apply Kd.S_alloc | apply Kd.S_drewN | apply Kd.S_drew)); exact HO149.out⟩, ⟨by (with_reducible repeat (first | refine blk_drewN ?_ _ | refine blk_drew ?_ | refine blk_alloc ?_ _)); exact BK146.out⟩, ⟨pb HB.out GE146.out⟩⟩
   case round =>
    clear H'
    try clear c1
    try clear c4
    try clear c4b0
    try clear c4b1
    try clear c5
    try clear c5b0
    try clear c5b1
    try clear hcz7_0
    try clear hcz7_1
    try clear hcz7_2
    try clear hfz7_0
    try clear hfz7_1
    try clear hfz7_2
    obtain ⟨x7_1, x8_1, rfl, HA, HK1, HO_7, BK146, HB⟩ := hrel
    cases gk with
    | zero => exact absurd HA.out (by simp [editscript_table.l0])
    | succ k1 =>
     have H := HA.out
     clear HA
     simp only [editscript_table.l0] at H
     by_cases c10 : x8_1 ≥ 0
     ·
      rw [if_pos c10] at H
      have c10b0 : decide (0 ≤ x8_1) = true := decide_eq_true c10
      clear c10
      obtain ⟨ji11, hji11⟩ : ∃ j_ : Int, (wrap64 ((l1.length : Int) + 1)) = j_ := ⟨_, rfl⟩
      replace H : (if 0 ≤ (ji11) then (if (ji11 : Int).toNat ≤ 35184372088832 then (if 0 ≤ x8_1 then (if x8_1 < (x7_1.length : Int) then (editscript_table.l1 k1 l1 (l0_0.length : Int) (l1.length : Int) (x7_1.set (x8_1 : Int).toNat (List.replicate (ji11 : Int).toNat 0)) x8_1 (l1.length : Int) l0_0 l0_1 a0_2) else (none)) else (none)) else (none)) else (none)) = some r := by first | (rw [hji11] at H; exact H) | (simp only [hji11] at H ⊢; exact H)
      have hji11w : (IntKind.i64.wrap ((l1.length : Int) + 1)) = ji11 := (i64_w _).trans hji11
      by_cases c12 : 0 ≤ (ji11)
      ·
       rw [if_pos c12] at H
       have c12b0 := eq_true c12
       have c12b1 : decide (0 ≤ (ji11)) = true := decide_eq_true c12
       clear c12
       by_cases c13 : (ji11 : Int).toNat ≤ 35184372088832
       ·
        rw [if_pos c13] at H
        have c13b0 := eq_true c13
        have c13b1 : decide ((ji11 : Int).toNat ≤ 35184372088832) = true := decide_eq_true c13
        clear c13
        obtain ⟨y150, hy150⟩ : ∃ y_ : List Int, y_ = (List.replicate (ji11 : Int).toNat 0) := ⟨_, rfl⟩
        replace H : (if 0 ≤ x8_1 then (if x8_1 < (x7_1.length : Int) then (editscript_table.l1 k1 l1 (l0_0.length : Int) (l1.length : Int) (x7_1.set (x8_1 : Int).toNat y150) x8_1 (l1.length : Int) l0_0 l0_1 a0_2) else (none)) else (none)) = some r := by first | (rw [hy150]; with_reducible exact H) | (have H2_ := (Option.bind_some _ _).symm.trans H; rw [hy150]; with_reducible exact H2_) | (have H2_ := (Option.bind_some _ _).symm.trans H; with_reducible exact H2_) | with_reducible exact H | (rw [hy150]; exact H) | exact H
        have Ny150 := Aside0.mk hy150
        clear hy150
        by_cases c14 : 0 ≤ x8_1
        ·
         rw [if_pos c14] at H
         have c14b0 : decide (0 ≤ x8_1) = true := decide_eq_true c14
         clear c14
         by_cases c15 : x8_1 < (x7_1.length : Int)
         ·
          rw [if_pos c15] at H
          have c15b0 : decide (x8_1 < (x7_1.length : Int)) = true := decide_eq_true c15
          clear c15
          obtain ⟨y153, hy153⟩ : ∃ y_ : List (List Int), y_ = (x7_1.set (x8_1 : Int).toNat y150) := ⟨_, rfl⟩
          replace H : (editscript_table.l1 k1 l1 (l0_0.length : Int) (l1.length : Int) y153 x8_1 (l1.length : Int) l0_0 l0_1 a0_2) = some r := by first | (rw [hy153]; with_reducible exact H) | (have H2_ := (Option.bind_some _ _).symm.trans H; rw [hy153]; with_reducible exact H2_) | (have H2_ := (Option.bind_some _ _).symm.trans H; with_reducible exact H2_) | with_reducible exact H | (rw [hy153]; exact H) | exact H
          have Ny153 := Aside0.mk hy153
          clear hy153
          have H' := Aside0.mk H
          clear H
          go_wp2_with (first | ((with_reducible refine gate_dst (N := 30) rfl ?_); refine Kd.R_make (Kd.int .i64) _ 3 rfl (N := 30) rfl 23 _ _ rfl ji11 rfl rfl Tryd.underlying23 (.int .i64 0) 8 info3 rfl (by decide) (by omega) 0 (ok := fun _ => True) (okp := fun _ => True) rfl (fun _ hk => hk) trivial (od) (Nat.le_trans (Nat.mul_le_mul_right _ (od : ji11.toNat ≤ 35184372088832)) (by omega)) (Below.refl _ _) (Nat.le_refl _) ?_; intro v151 w17 ho18 hb hg_ hnew_; clear hg_ hnew_; (first | rw [← Ny150.out] at ho18 | (simp only [Int.reduceToNat] at ho18; rw [← Ny150.out] at ho18)); replace HO_7 := Aside0.mk (Kd.S_elder' (pS HO_7.out) (Kd.R_base ho18) hb); have HO152 := Aside0.mk (Kd.R_lower ho18 (below_size (pb HB.out GE146.out))); replace BK146 := Aside0.mk (bb BK146.out hb); replace HB := Aside0.mk (below_step (pb HB.out GE146.out) hb); clear hb ho18; have p16 : 0 ≤ (x8_1 : Int) := od; have q16 : (x8_1 : Int) < ((x7_1.length : Int) : Int) := od; obtain ⟨go16, co16, eo16, gb16, gl16, cl16, HG16⟩ := Kd.S_form HO_7.out (by omega); (first | cases eo16 | (injection eo16 with ea_ en_ ec_; (first | subst ea_ | (injection ea_ with ea_; subst ea_)); subst ec_; clear en_)); have GB16 := Aside0.mk gb16; have GG16 := Aside0.mk HG16; clear gb16 gl16 HG16; obtain ⟨_, ce16, hcl16, hM16, hcc16, hfr16, _, _⟩ := Kd.S_elem HO_7.out [] (x8_1 : Int) p16 q16; obtain ⟨ve16_0, rfl, ge16_0⟩ := hM16; have hx16_0 := hcc16 0 _ rfl; have hf16_0 := hfr16 0; (try simp only [show ((Kd.slice 3 (Kd.int .i64))).sz = 1 from rfl, Nat.mul_one, Nat.add_zero] at hx16_0); (try simp only [show ((Kd.slice 3 (Kd.int .i64))).sz = 1 from rfl, Nat.mul_one, Nat.add_zero] at hf16_0); clear hcl16 hcc16 hfr16; (try clear hM16); replace p16 := eq_true p16; replace q16 := eq_true q16; have n_ := Aside0.mk (Kd.S_mono (ok' := (fun k_ => some k_ ≠ (v151 : Value).ownBlock)) HO_7.out (fun k_ hk => hk.2)); clear HO_7; have HO_7 := n_; clear n_; have HX19 := Aside0.mk (show Kd.S (Kd.slice 3 (Kd.int .i64)) 23 w17 w.heap.size (fun k_ => ((fun _ => True)) k_ ∧ ¬ ((fun k_ => some k_ = (v151 : Value).ownBlock)) k_) (.slice (some ⟨go16, 0, none⟩) x7_1.length co16) x7_1 from (by (with_reducible repeat (first | apply Kd.S_alloc | apply Kd.S_drewN | apply Kd.S_drew)); exact Kd.S_mono HO_7.out (fun k_ hk => ⟨trivial, fun e_ => hk e_⟩))); obtain ⟨oki19, ce19, hcl19, hM19, hcc19, hfr19, hoki19, hH19⟩ := Kd.S_elem HX19.out [] (x8_1 : Int) (od) (by have h_ : (x8_1 : Int) < ((x7_1.length : Int) : Int) := od; first | exact h_ | (have e_ := (Kd.S_reads' HO_7.out).1; omega) | simpa using h_); obtain ⟨ve19_0, rfl, ge19_0⟩ := hM19; have HP19 := Kd.S_seg hH19 (od) (by have h_ : (x8_1 : Int) < ((x7_1.length : Int) : Int) := od; first | exact h_ | (have e_ := (Kd.S_reads' HO_7.out).1; omega) | simpa using h_) (seg := [v151]) (j := 0) (show 1 ≤ 1 from by decide) (x' := y150) (Kd.M_row (Kd.R_mono (Kd.R_tight rfl (Kd.R_mono (ok' := fun k_ => ((fun _ => True)) k_ ∧ k_ ≠ go16) (Kd.R_apart' (HO152.out) (Kd.S_typed HO_7.out) (by decide)) (fun k_ hk => ⟨trivial, fun e_ => (hk.2) (by rw [e_]; rfl)⟩))) (fun _ h_ => Or.inr (h_)))) (fun _ hk => hk) (fun k_ hk_ => ((Kd.R_mono (ok' := fun k_ => ((fun _ => True)) k_ ∧ k_ ≠ go16) (Kd.R_apart' (HO152.out) (Kd.S_typed HO_7.out) (by decide)) (fun k_ hk => ⟨trivial, fun e_ => (hk.2) (by rw [e_]; rfl)⟩))).1 k_ hk_.symm); have hx19_0 := hcc19 0 _ rfl; (try simp only [show ((Kd.slice 3 (Kd.int .i64))).sz = 1 from rfl, Nat.mul_one, Nat.add_zero] at hx19_0); have hf19_0 := hfr19 0; (try simp only [show ((Kd.slice 3 (Kd.int .i64))).sz = 1 from rfl, Nat.mul_one, Nat.add_zero] at hf19_0); clear hcl19 hcc19 hfr19 hoki19 hH19; (try clear hM19); (try simp only [show ((Kd.slice 3 (Kd.int .i64))).sz = 1 from rfl, Nat.mul_one, Nat.add_zero] at HP19)) | ((with_reducible refine gate_store (t := 23) (p := 31) rfl ?_); refine store_event (t := 23) (p := 31) (v := ?vo_w20) (w1 := (w17.setCell ⟨go16, (x8_1 : Int).toNat, none⟩ (v151))) ?hg ?ho ?hn ?hr ?_; (case ho => rfl); (case hg => rfl); (case hn => rfl); (case hr => (obtain ⟨Av_, cv_, ev_⟩ := Kd.R_slice HO152.out; rw [ev_]; first | (go_simp; done) | (go_simp; rfl))); intro w20 hw; have hg : w17.grownBy w20 (some go16) := (by rw [hw]; exact HP19.2); have hp_ : Kd.S (Kd.slice 3 (Kd.int .i64)) 23 w20 w.heap.size (fun _ => True) (.slice (some ⟨go16, 0, none⟩) x7_1.length co16) y153 := (by rw [hw, Ny153.out]; exact HP19.1); clear HP19; have n0_ := Aside0.mk (hp_); have n1_ := Aside0.mk (blk_grown (g := gb146) (o := .cells #[.slice A0_0 l0_0.length c0_0, .slice A0_1 l0_1.length c0_1, .int .i64 a0_2] 25 (0, 0)) (pk BK146.out) hg (Kd.S_ne HO_7.out BK146.out (by decide))); have n2_ := Aside0.mk ((by rw [hw]; exact below_set (HB.out) GB16.out : Below w.heap.size w w20)); clear HO_7; clear BK146; clear HB; clear HO152; have HO_7 := n0_; have BK146 := n1_; have HB := n2_; clear n0_ n1_ n2_; clear hg hw hp_))
          go_loopg [9] k1 (fun kq v9 w' => ∃ (x7_2 : List (List Int)) (x9_2 : Int), v9 = .int .i64 x9_2 ∧ Aside0 (editscript_table.l1 kq l1 (l0_0.length : Int) (l1.length : Int) x7_2 x8_1 x9_2 l0_0 l0_1 a0_2 = some r) ∧ Aside0 (kq ≤ k1) ∧ Aside0 (Kd.S (Kd.slice 3 (Kd.int .i64)) 23 w' w.heap.size (fun _ => True) (.slice (some ⟨go16, 0, none⟩) x7_1.length co16) x7_2) ∧ Aside0 (w'.heap[gb146]? = some (.cells #[(.slice A0_0 l0_0.length c0_0), (.slice A0_1 l0_1.length c0_1), .int .i64 a0_2] 25 (0, 0))) ∧ Aside0 (Below w.heap.size w w'))
          case atStart => exact ⟨(y153), ((l1.length : Int)), rr, H', ⟨Nat.le_refl _⟩, ⟨by (with_reducible repeat (first | apply Kd.S_alloc | apply Kd.S_drewN | apply Kd.S_drew)); exact HO_7.out⟩, ⟨by (with_reducible repeat (first | refine blk_drewN ?_ _ | refine blk_drew ?_ | refine blk_alloc ?_ _)); exact BK146.out⟩, ⟨pb HB.out GE146.out⟩⟩
          case round =>
           clear H'
           try clear c1
           try clear c4
           try clear c4b0
           try clear c4b1
           try clear c5
           try clear c5b0
           try clear c5b1
           try clear c10
           try clear c10b0
           try clear c12
           try clear c12b0
           try clear c12b1
           try clear c13
           try clear c13b0
           try clear c13b1
           try clear c14
           try clear c14b0
           try clear c15
           try clear c15b0
           try clear p16
           try clear q16
           try clear hcz7_0
           try clear hcz7_1
           try clear hcz7_2
           try clear hfz7_0
           try clear hfz7_1
           try clear hfz7_2
           try clear hx16_0
           try clear hx19_0
           try clear p16
           try clear q16
           obtain ⟨x7_2, x9_2, rfl, HA, HK2, HO_7, BK146, HB⟩ := hrel
           have hl7_2 := (Kd.S_reads' HO_7.out).1
           rw [hl7_2] at HO_7
           (try simp only [hl7_2])
           (try simp only [hl7_2] at BK146)
           cases gk with
           | zero => exact absurd HA.out (by simp [editscript_table.l1])
           | succ k2 =>
            have H := HA.out
            clear HA
            simp only [editscript_table.l1] at H
            by_cases c21 : x9_2 ≥ 0
            ·
             rw [if_pos c21] at H
             have c21b0 : decide (0 ≤ x9_2) = true := decide_eq_true c21
             clear c21
             have HC22 := Aside0.mk H
             clear H
             go_upto_region 10 with (fail)
             go_cut [44] (fun v44 wc => ∃ (kq : Nat) (x44_21 : Bool), v44 = .bool x44_21 ∧ Aside0 (editscript_table.j2 kq l1 (l0_0.length : Int) (l1.length : Int) x7_2 x8_1 x9_2 x44_21 l0_0 l0_1 a0_2 = some r) ∧ Aside0 (kq ≤ k2) ∧ Aside0 (Kd.S (Kd.slice 3 (Kd.int .i64)) 23 wc w.heap.size (fun _ => True) (.slice (some ⟨go16, 0, none⟩) x7_2.length co16) x7_2) ∧ Aside0 (wc.heap[gb146]? = some (.cells #[(.slice A0_0 l0_0.length c0_0), (.slice A0_1 l0_1.length c0_1), .int .i64 a0_2] 25 (0, 0))) ∧ Aside0 (Below w.heap.size w wc))
             case first =>
              have H := HC22.out
              clear HC22
              by_cases c23 : x8_1 = (l0_0.length : Int)
              ·
               rw [if_pos c23] at H
               have c23b0 : (x8_1 == (l0_0.length : Int)) = true := beq_iff_eq.mpr c23
               have c23b1 : (x8_1 != (l0_0.length : Int)) = false := bne_eq_false_iff_eq.mpr c23
               clear c23
               (first | rw [c23b0] | (simp only [i64_w, i32_w]; rw [c23b0]) | skip)
               have H' := Aside0.mk H
               clear H
               go_wp2
               go_meet
               case rel => exact ⟨_, ((x9_2 == (l1.length : Int))), rr, H', ⟨by have := HK1.out; have := HK2.out; first | omega | exact Nat.le_refl _⟩, ⟨by (try simp only [hl7_2]); (with_reducible repeat (first | apply Kd.S_alloc | apply Kd.S_drewN | apply Kd.S_drew)); exact HO_7.out⟩, ⟨by (try simp only [hl7_2]); (with_reducible repeat (first | refine blk_drewN ?_ _ | refine blk_drew ?_ | refine blk_alloc ?_ _)); exact BK146.out⟩, ⟨pb HB.out GE146.out⟩⟩
              ·
               rw [if_neg c23] at H
               have c23b0 : (x8_1 == (l0_0.length : Int)) = false := beq_eq_false_iff_ne.mpr c23
               have c23b1 : (x8_1 != (l0_0.length : Int)) = true := bne_iff_ne.mpr c23
               (first | rw [c23b0] | (simp only [i64_w, i32_w]; rw [c23b0]) | skip)
               have H' := Aside0.mk H
               clear H
               go_wp2
               go_meet
               case rel => exact ⟨_, (false), rr, H', ⟨by have := HK1.out; have := HK2.out; first | omega | exact Nat.le_refl _⟩, ⟨by (try simp only [hl7_2]); (with_reducible repeat (first | apply Kd.S_alloc | apply Kd.S_drewN | apply Kd.S_drew)); exact HO_7.out⟩, ⟨by (try simp only [hl7_2]); (with_reducible repeat (first | refine blk_drewN ?_ _ | refine blk_drew ?_ | refine blk_alloc ?_ _)); exact BK146.out⟩, ⟨pb HB.out GE146.out⟩⟩
             case rest =>
              clear HC22
              try clear c1
              try clear c4
              try clear c4b0
              try clear c4b1
              try clear c5
              try clear c5b0
              try clear c5b1
              try clear c10
              try clear c10b0
              try clear c12
              try clear c12b0
              try clear c12b1
              try clear c13
              try clear c13b0
              try clear c13b1
              try clear c14
              try clear c14b0
              try clear c15
              try clear c15b0
              try clear p16
              try clear q16
              try clear c21
              try clear c21b0
              try clear hcz7_0
              try clear hcz7_1
              try clear hcz7_2
              try clear hfz7_0
              try clear hfz7_1
              try clear hfz7_2
              try clear hx16_0
              try clear hx19_0
              try clear p16
              try clear q16
              obtain ⟨kq, x44_21, rfl, HA, HJ21, HO_7, BK146, HB⟩ := hcut
              cases kq with
              | zero => exact absurd HA.out (by simp [editscript_table.j2])
              | succ kj21 =>
               have H := HA.out
               clear HA
               simp only [editscript_table.j2] at H
               by_cases c24 : x44_21 = true
               ·
                subst c24
                have H1 : (editscript_table.l1 kj21 l1 (l0_0.length : Int) (l1.length : Int) x7_2 x8_1 (wrap64 (x9_2 - 1)) l0_0 l0_1 a0_2) = some r := by rw [if_pos rfl] at H; exact H
                clear H
                have H := H1
                clear H1
                have H' := Aside0.mk H
                clear H
                go_wp2
                (try simp only [← hl7_2])
                go_roundg kj21
                case measure => have := HK1.out; have := HK2.out; have := HJ21.out; omega
                case rel => exact ⟨(x7_2), (wrap64 (x9_2 - 1)), rr, H', ⟨by have := HK1.out; have := HK2.out; have := HJ21.out; omega⟩, ⟨by (try simp only [hl7_2]); (with_reducible repeat (first | apply Kd.S_alloc | apply Kd.S_drewN | apply Kd.S_drew)); exact HO_7.out⟩, ⟨by (try simp only [hl7_2]); (with_reducible repeat (first | refine blk_drewN ?_ _ | refine blk_drew ?_ | refine blk_alloc ?_ _)); exact BK146.out⟩, ⟨pb HB.out GE146.out⟩⟩
               ·
                replace c24 := Bool.eq_false_iff.mpr c24
                subst c24
                have H1 : ((editscript_steps.f kj21 l0_0 l0_1 a0_2 l1 x8_1 x9_2).bind fun t154 => (editscript_table.l2 kj21 l1 (l0_0.length : Int) (l1.length : Int) x7_2 x8_1 x9_2 1099511627776 t154 (t154.length : Int) 0 l0_0 l0_1 a0_2)) = some r := by rw [if_neg (show ¬ (false = true) by decide)] at H; exact H
                clear H
                have H := H1
                clear H1
                replace H := Option.bind_eq_some_iff.mp H
                obtain ⟨t154, A250, H⟩ := H
                replace H : (editscript_table.l2 kj21 l1 (l0_0.length : Int) (l1.length : Int) x7_2 x8_1 x9_2 1099511627776 t154 (t154.length : Int) 0 l0_0 l0_1 a0_2) = some r := H
                have A25 := Aside0.mk A250
                clear A250
                have H' := Aside0.mk H
                clear H
                obtain ⟨hcz26_0, hcz26_1, hcz26_2, hfz26_0, hfz26_1, hfz26_2⟩ := cz3 BK146.out
                go_wp2_with (first | ((with_reducible refine gate_callee (f := 35) rfl ?_); refine gl (some 49) Tryd.func35 #[.agg #[.slice A0_0 l0_0.length c0_0, .slice A0_1 l0_1.length c0_1, .int .i64 a0_2], .slice A1 l1.length c1, .int .i64 x8_1, .int .i64 x9_2] ?_; (with_reducible refine (editscript_steps.calls kj21 _ _ l0_0 _ _ l0_1 a0_2 _ _ l1 x8_1 x9_2 t154 _ ?side1 ?side2 ?side3 ?side4 ?side5 ?side6 A25.out).mono ?_); (case side1 => exact sd (Kd.C_below HR0_0.out HB.out)); (case side2 => exact HC0_0.out); (case side3 => exact sd (Kd.C_below HR0_1.out HB.out)); (case side4 => exact HC0_1.out); (case side5 => exact sd (Kd.C_below HR1.out HB.out)); (case side6 => exact HC1.out); rintro e w27 ⟨v155, rfl, ho0, hb⟩; refine ⟨_, rfl, ?_⟩; replace HO_7 := Aside0.mk (Kd.S_below (pS HO_7.out) hb); have HO156 := Aside0.mk (Kd.R_lower ho0 (below_size (pb HB.out GE146.out))); replace BK146 := Aside0.mk (bb BK146.out hb); replace HB := Aside0.mk (below_step (pb HB.out GE146.out) hb); (try clear hb); (try clear ho0); obtain ⟨Ao28, co28, eo28⟩ := Kd.R_slice HO156.out; subst eo28))
                go_loopg [10, 51] kj21 (fun kq v10 v51 w' => ∃ (x10_4 : Int) (x51_4 : Int), v10 = .int .i64 x10_4 ∧ v51 = .int .i64 x51_4 ∧ Aside0 (editscript_table.l2 kq l1 (l0_0.length : Int) (l1.length : Int) x7_2 x8_1 x9_2 x10_4 t154 (t154.length : Int) x51_4 l0_0 l0_1 a0_2 = some r) ∧ Aside0 (kq ≤ kj21) ∧ Aside0 (Kd.S (Kd.slice 3 (Kd.int .i64)) 23 w' w.heap.size (fun _ => True) (.slice (some ⟨go16, 0, none⟩) x7_2.length co16) x7_2) ∧ Aside0 (Kd.R k64 64 w' w.heap.size (fun _ => True) (.slice Ao28 t154.length co28) t154) ∧ Aside0 (w'.heap[gb146]? = some (.cells #[(.slice A0_0 l0_0.length c0_0), (.slice A0_1 l0_1.length c0_1), .int .i64 a0_2] 25 (0, 0))) ∧ Aside0 (Below w.heap.size w w'))
                case atStart => exact ⟨(1099511627776), (0), rr, rr, H', ⟨Nat.le_refl _⟩, ⟨by (try simp only [hl7_2]); (with_reducible repeat (first | apply Kd.S_alloc | apply Kd.S_drewN | apply Kd.S_drew)); exact HO_7.out⟩, ⟨by (try simp only [hl7_2]); (with_reducible repeat (first | apply Kd.R_alloc | apply Kd.R_drewN | apply Kd.R_drew)); exact HO156.out⟩, ⟨by (try simp only [hl7_2]); (with_reducible repeat (first | refine blk_drewN ?_ _ | refine blk_drew ?_ | refine blk_alloc ?_ _)); exact BK146.out⟩, ⟨pb HB.out GE146.out⟩⟩
                case round =>
                 clear H'
                 try clear c1
                 try clear c4
                 try clear c4b0
                 try clear c4b1
                 try clear c5
                 try clear c5b0
                 try clear c5b1
                 try clear c10
                 try clear c10b0
                 try clear c12
                 try clear c12b0
                 try clear c12b1
                 try clear c13
                 try clear c13b0
                 try clear c13b1
                 try clear c14
                 try clear c14b0
                 try clear c15
                 try clear c15b0
                 try clear p16
                 try clear q16
                 try clear c21
                 try clear c21b0
                 try clear c24
                 try clear hcz26_0
                 try clear hcz26_1
                 try clear hcz26_2
                 try clear hcz7_0
                 try clear hcz7_1
                 try clear hcz7_2
                 try clear hfz26_0
                 try clear hfz26_1
                 try clear hfz26_2
                 try clear hfz7_0
                 try clear hfz7_1
                 try clear hfz7_2
                 try clear hx16_0
                 try clear hx19_0
                 try clear p16
                 try clear q16
                 obtain ⟨x10_4, x51_4, rfl, rfl, HA, HK4, HO_7, HO_49, BK146, HB⟩ := hrel
                 cases gk with
                 | zero => exact absurd HA.out (by simp [editscript_table.l2])
                 | succ k4 =>
                  have H := HA.out
                  clear HA
                  simp only [editscript_table.l2] at H
                  by_cases c29 : x51_4 < (t154.length : Int)
                  ·
                   rw [if_pos c29] at H
                   have c29b0 : decide (x51_4 < (t154.length : Int)) = true := decide_eq_true c29
                   clear c29
                   by_cases c30 : 0 ≤ x51_4
                   ·
                    rw [if_pos c30] at H
                    have c30b0 : decide (0 ≤ x51_4) = true := decide_eq_true c30
                    clear c30
                    by_cases c31 : x51_4 < (t154.length : Int)
                    ·
                     rw [if_pos c31] at H
                     have c31b0 : decide (x51_4 < (t154.length : Int)) = true := decide_eq_true c31
                     clear c31
                     obtain ⟨ji32, hji32⟩ : ∃ j_ : Int, (wrap64 (x8_1 + ((rd_T64 t154 x51_4).f2))) = j_ := ⟨_, rfl⟩
                     replace H : (if 0 ≤ (ji32) then (if (ji32) < (x7_2.length : Int) then (if 0 ≤ (wrap64 (x9_2 + ((rd_T64 t154 x51_4).f3))) then (if (wrap64 (x9_2 + ((rd_T64 t154 x51_4).f3))) < ((rd_L1 x7_2 (ji32)).length : Int) then ((editscript_add.f ((rd_T64 t154 x51_4).f1) (rd (rd_L1 x7_2 (ji32)) (wrap64 (x9_2 + ((rd_T64 t154 x51_4).f3))))).bind fun t161 => (editscript_table.l2 k4 l1 (l0_0.length : Int) (l1.length : Int) x7_2 x8_1 x9_2 (mn x10_4 t161) t154 (t154.length : Int) (wrap64 (x51_4 + 1)) l0_0 l0_1 a0_2)) else (none)) else (none)) else (none)) else (none)) = some r := by first | (rw [hji32] at H; exact H) | (simp only [hji32] at H ⊢; exact H)
                     have hji32w : (IntKind.i64.wrap (x8_1 + ((rd_T64 t154 x51_4).f2))) = ji32 := (i64_w _).trans hji32
                     by_cases c33 : 0 ≤ (ji32)
                     ·
                      rw [if_pos c33] at H
                      have c33b0 : decide (0 ≤ (ji32)) = true := decide_eq_true c33
                      clear c33
                      by_cases c34 : (ji32) < (x7_2.length : Int)
                      ·
                       rw [if_pos c34] at H
                       have c34b0 : decide ((ji32) < (x7_2.length : Int)) = true := decide_eq_true c34
                       clear c34
                       obtain ⟨ji35, hji35⟩ : ∃ j_ : Int, (wrap64 (x9_2 + ((rd_T64 t154 x51_4).f3))) = j_ := ⟨_, rfl⟩
                       replace H : (if 0 ≤ (ji35) then (if (ji35) < ((rd_L1 x7_2 (ji32)).length : Int) then ((editscript_add.f ((rd_T64 t154 x51_4).f1) (rd (rd_L1 x7_2 (ji32)) (ji35))).bind fun t161 => (editscript_table.l2 k4 l1 (l0_0.length : Int) (l1.length : Int) x7_2 x8_1 x9_2 (mn x10_4 t161) t154 (t154.length : Int) (wrap64 (x51_4 + 1)) l0_0 l0_1 a0_2)) else (none)) else (none)) = some r := by first | (rw [hji35] at H; exact H) | (simp only [hji35] at H ⊢; exact H)
                       have hji35w : (IntKind.i64.wrap (x9_2 + ((rd_T64 t154 x51_4).f3))) = ji35 := (i64_w _).trans hji35
                       by_cases c36 : 0 ≤ (ji35)
                       ·
                        rw [if_pos c36] at H
                        have c36b0 : decide (0 ≤ (ji35)) = true := decide_eq_true c36
                        clear c36
                        by_cases c37 : (ji35) < ((rd_L1 x7_2 (ji32)).length : Int)
                        ·
                         rw [if_pos c37] at H
                         have c37b0 : decide ((ji35) < ((rd_L1 x7_2 (ji32)).length : Int)) = true := decide_eq_true c37
                         clear c37
                         replace H := Option.bind_eq_some_iff.mp H
                         obtain ⟨t161, A380, H⟩ := H
                         replace H : (editscript_table.l2 k4 l1 (l0_0.length : Int) (l1.length : Int) x7_2 x8_1 x9_2 (mn x10_4 t161) t154 (t154.length : Int) (wrap64 (x51_4 + 1)) l0_0 l0_1 a0_2) = some r := H
                         have A38 := Aside0.mk A380
                         clear A380
                         obtain ⟨ji39, hji39⟩ : ∃ j_ : Int, (mn x10_4 t161) = j_ := ⟨_, rfl⟩
                         replace H : (editscript_table.l2 k4 l1 (l0_0.length : Int) (l1.length : Int) x7_2 x8_1 x9_2 ji39 t154 (t154.length : Int) (wrap64 (x51_4 + 1)) l0_0 l0_1 a0_2) = some r := by first | (rw [hji39] at H; exact H) | (simp only [hji39] at H ⊢; exact H)
                         (try rw [hji39] at A38)
                         have hji39_ : (if t161 < x10_4 then t161 else x10_4) = ji39 := hji39
                         have H' := Aside0.mk H
                         clear H
                         have p157 : 0 ≤ (x51_4 : Int) := od
                         have q157 : x51_4 < (t154.length : Int) := od
                         obtain ⟨ad157, e157, hx157_0, hx157_1, hx157_2, hx157_3, hx157_4⟩ := at_T64 (Kd.R_reads' HO_49.out).2.2 x51_4 p157 q157
                         cases e157
                         replace p157 := eq_true p157
                         replace q157 := eq_true q157
                         try go_wp2_with (first | ((with_reducible refine gate_dst (N := 12) rfl ?_); refine box_event ?hg (N := 12) ?hd (cs := #[.int .i64 0, .int .i64 0, .int .i64 0, .int .i64 0, .int .i64 0]) (t := 64) ?hr ?_; (case hd => rfl); (case hg => rfl); (case hr => first | (go_simp; done) | (go_simp; rfl)); intro gb158 hg w40 hbox hb; have n0_ := Aside0.mk (Kd.S_below (pS HO_7.out) hb); have n1_ := Aside0.mk (Kd.R_below (Kd.R_elderB (pR HO_49.out) gb158 (Nat.le_of_eq hg.symm)) hb); have n2_ := Aside0.mk (bb BK146.out hb); have n3_ := Aside0.mk (below_step (pb HB.out GE146.out) hb); have n4_ := Aside0.mk (hbox); have n5_ := Aside0.mk ((by rw [hg]; exact (below_size (pb HB.out GE146.out)) : w.heap.size ≤ gb158)); have n6_ := Aside0.mk ((by rw [hg]; exact (below_size (pb HB.out GE146.out)) : w.heap.size ≤ gb158)); have n7_ := Aside0.mk ((by rw [hg]; exact Nat.ne_of_lt (blk_lt (g := gb146) (o := .cells #[.slice A0_0 l0_0.length c0_0, .slice A0_1 l0_1.length c0_1, .int .i64 a0_2] 25 (0, 0)) (pk BK146.out)) : gb146 ≠ gb158)); have n8_ := Aside0.mk ((by rw [hg]; exact Nat.ne_of_gt (blk_lt (g := gb146) (o := .cells #[.slice A0_0 l0_0.length c0_0, .slice A0_1 l0_1.length c0_1, .int .i64 a0_2] 25 (0, 0)) (pk BK146.out)) : gb158 ≠ gb146)); clear HO_7; clear HO_49; clear BK146; clear HB; have HO_7 := n0_; have HO_49 := n1_; have BK146 := n2_; have HB := n3_; have BK158 := n4_; have GW158 := n5_; have GE158 := n6_; have NB146_158 := n7_; have NB158_146 := n8_; clear n0_ n1_ n2_ n3_ n4_ n5_ n6_ n7_ n8_; clear hb hbox hg; have hnb41 := NB158_146.out; have hnc41 := NB146_158.out; obtain ⟨hcz42_0, hcz42_1, hcz42_2, hcz42_3, hcz42_4, hfz42_0, hfz42_1, hfz42_2, hfz42_3, hfz42_4⟩ := cz5 BK158.out))
                         have n0_ : Aside0 (Kd.S (Kd.slice 3 (Kd.int .i64)) 23 (((((w40.setCell ⟨gb158, 0, none⟩ (.int .i64 ((rd_T64 t154 x51_4).f0.f0))).setCell ⟨gb158, 1, none⟩ (.int .i64 ((rd_T64 t154 x51_4).f0.f1))).setCell ⟨gb158, 2, none⟩ (.int .i64 ((rd_T64 t154 x51_4).f1))).setCell ⟨gb158, 3, none⟩ (.int .i64 ((rd_T64 t154 x51_4).f2))).setCell ⟨gb158, 4, none⟩ (.int .i64 ((rd_T64 t154 x51_4).f3))) w.heap.size (fun _ => True) (.slice (some ⟨go16, 0, none⟩) x7_2.length co16) x7_2) := ⟨by (with_reducible repeat (first | apply Kd.S_alloc | apply Kd.S_drewN | apply Kd.S_drew)); exact Kd.S_mono (Kd.S_far (p := ⟨gb158, 4, none⟩) (Kd.S_far (p := ⟨gb158, 3, none⟩) (Kd.S_far (p := ⟨gb158, 2, none⟩) (Kd.S_far (p := ⟨gb158, 1, none⟩) (Kd.S_far (p := ⟨gb158, 0, none⟩) (Kd.S_types HO_7.out BK158.out (by decide)) (fun _ hk => hk.2) (.int .i64 ((rd_T64 t154 x51_4).f0.f0))) (fun _ hk => hk.2) (.int .i64 ((rd_T64 t154 x51_4).f0.f1))) (fun _ hk => hk.2) (.int .i64 ((rd_T64 t154 x51_4).f1))) (fun _ hk => hk.2) (.int .i64 ((rd_T64 t154 x51_4).f2))) (fun _ hk => hk.2) (.int .i64 ((rd_T64 t154 x51_4).f3))) (fun _ hk => trivial)⟩
                         have n1_ : Aside0 (Kd.R k64 64 (((((w40.setCell ⟨gb158, 0, none⟩ (.int .i64 ((rd_T64 t154 x51_4).f0.f0))).setCell ⟨gb158, 1, none⟩ (.int .i64 ((rd_T64 t154 x51_4).f0.f1))).setCell ⟨gb158, 2, none⟩ (.int .i64 ((rd_T64 t154 x51_4).f1))).setCell ⟨gb158, 3, none⟩ (.int .i64 ((rd_T64 t154 x51_4).f2))).setCell ⟨gb158, 4, none⟩ (.int .i64 ((rd_T64 t154 x51_4).f3))) w.heap.size (fun k_ => k_ ≠ gb158) (.slice (some ad157) t154.length co28) t154) := ⟨by (with_reducible repeat (first | apply Kd.R_alloc | apply Kd.R_drewN | apply Kd.R_drew)); exact Kd.R_mono (Kd.R_far (p := ⟨gb158, 4, none⟩) (Kd.R_far (p := ⟨gb158, 3, none⟩) (Kd.R_far (p := ⟨gb158, 2, none⟩) (Kd.R_far (p := ⟨gb158, 1, none⟩) (Kd.R_far (p := ⟨gb158, 0, none⟩) (Kd.R_mono HO_49.out (fun k_ hk => (⟨hk, hk.2⟩ : _ ∧ k_ ≠ gb158))) (fun _ hk => hk.2) (.int .i64 ((rd_T64 t154 x51_4).f0.f0))) (fun _ hk => hk.2) (.int .i64 ((rd_T64 t154 x51_4).f0.f1))) (fun _ hk => hk.2) (.int .i64 ((rd_T64 t154 x51_4).f1))) (fun _ hk => hk.2) (.int .i64 ((rd_T64 t154 x51_4).f2))) (fun _ hk => hk.2) (.int .i64 ((rd_T64 t154 x51_4).f3))) (fun _ hk => hk.1.2)⟩
                         have n2_ : Aside0 ((((((w40.setCell ⟨gb158, 0, none⟩ (.int .i64 ((rd_T64 t154 x51_4).f0.f0))).setCell ⟨gb158, 1, none⟩ (.int .i64 ((rd_T64 t154 x51_4).f0.f1))).setCell ⟨gb158, 2, none⟩ (.int .i64 ((rd_T64 t154 x51_4).f1))).setCell ⟨gb158, 3, none⟩ (.int .i64 ((rd_T64 t154 x51_4).f2))).setCell ⟨gb158, 4, none⟩ (.int .i64 ((rd_T64 t154 x51_4).f3))).heap[gb146]? = some (.cells #[.slice A0_0 l0_0.length c0_0, .slice A0_1 l0_1.length c0_1, .int .i64 a0_2] 25 (0, 0))) := ⟨by (with_reducible repeat (first | refine blk_drewN ?_ _ | refine blk_drew ?_ | refine blk_alloc ?_ _)); refine blk_far ?_ NB146_158.out _; (with_reducible repeat (first | refine blk_drewN ?_ _ | refine blk_drew ?_ | refine blk_alloc ?_ _)); refine blk_far ?_ NB146_158.out _; (with_reducible repeat (first | refine blk_drewN ?_ _ | refine blk_drew ?_ | refine blk_alloc ?_ _)); refine blk_far ?_ NB146_158.out _; (with_reducible repeat (first | refine blk_drewN ?_ _ | refine blk_drew ?_ | refine blk_alloc ?_ _)); refine blk_far ?_ NB146_158.out _; (with_reducible repeat (first | refine blk_drewN ?_ _ | refine blk_drew ?_ | refine blk_alloc ?_ _)); refine blk_far ?_ NB146_158.out _; (with_reducible repeat (first | refine blk_drewN ?_ _ | refine blk_drew ?_ | refine blk_alloc ?_ _)); exact BK146.out⟩
                         have n3_ : Aside0 ((((((w40.setCell ⟨gb158, 0, none⟩ (.int .i64 ((rd_T64 t154 x51_4).f0.f0))).setCell ⟨gb158, 1, none⟩ (.int .i64 ((rd_T64 t154 x51_4).f0.f1))).setCell ⟨gb158, 2, none⟩ (.int .i64 ((rd_T64 t154 x51_4).f1))).setCell ⟨gb158, 3, none⟩ (.int .i64 ((rd_T64 t154 x51_4).f2))).setCell ⟨gb158, 4, none⟩ (.int .i64 ((rd_T64 t154 x51_4).f3))).heap[gb158]? = some (.cells #[.int .i64 ((rd_T64 t154 x51_4).f0.f0), .int .i64 ((rd_T64 t154 x51_4).f0.f1), .int .i64 ((rd_T64 t154 x51_4).f1), .int .i64 ((rd_T64 t154 x51_4).f2), .int .i64 ((rd_T64 t154 x51_4).f3)] 64 (0, 0))) := ⟨by (with_reducible repeat (first | refine blk_drewN ?_ _ | refine blk_drew ?_ | refine blk_alloc ?_ _)); refine blk_put (cs := #[.int .i64 ((rd_T64 t154 x51_4).f0.f0), .int .i64 ((rd_T64 t154 x51_4).f0.f1), .int .i64 ((rd_T64 t154 x51_4).f1), .int .i64 ((rd_T64 t154 x51_4).f2), .int .i64 0]) ?_ 4 _ rfl; (with_reducible repeat (first | refine blk_drewN ?_ _ | refine blk_drew ?_ | refine blk_alloc ?_ _)); refine blk_put (cs := #[.int .i64 ((rd_T64 t154 x51_4).f0.f0), .int .i64 ((rd_T64 t154 x51_4).f0.f1), .int .i64 ((rd_T64 t154 x51_4).f1), .int .i64 0, .int .i64 0]) ?_ 3 _ rfl; (with_reducible repeat (first | refine blk_drewN ?_ _ | refine blk_drew ?_ | refine blk_alloc ?_ _)); refine blk_put (cs := #[.int .i64 ((rd_T64 t154 x51_4).f0.f0), .int .i64 ((rd_T64 t154 x51_4).f0.f1), .int .i64 0, .int .i64 0, .int .i64 0]) ?_ 2 _ rfl; (with_reducible repeat (first | refine blk_drewN ?_ _ | refine blk_drew ?_ | refine blk_alloc ?_ _)); refine blk_put (cs := #[.int .i64 ((rd_T64 t154 x51_4).f0.f0), .int .i64 0, .int .i64 0, .int .i64 0, .int .i64 0]) ?_ 1 _ rfl; (with_reducible repeat (first | refine blk_drewN ?_ _ | refine blk_drew ?_ | refine blk_alloc ?_ _)); refine blk_put (cs := #[.int .i64 0, .int .i64 0, .int .i64 0, .int .i64 0, .int .i64 0]) ?_ 0 _ rfl; (with_reducible repeat (first | refine blk_drewN ?_ _ | refine blk_drew ?_ | refine blk_alloc ?_ _)); exact BK158.out⟩
                         have n4_ : Aside0 (Below w.heap.size w (((((w40.setCell ⟨gb158, 0, none⟩ (.int .i64 ((rd_T64 t154 x51_4).f0.f0))).setCell ⟨gb158, 1, none⟩ (.int .i64 ((rd_T64 t154 x51_4).f0.f1))).setCell ⟨gb158, 2, none⟩ (.int .i64 ((rd_T64 t154 x51_4).f1))).setCell ⟨gb158, 3, none⟩ (.int .i64 ((rd_T64 t154 x51_4).f2))).setCell ⟨gb158, 4, none⟩ (.int .i64 ((rd_T64 t154 x51_4).f3)))) := ⟨pc HB.out GE146.out GE158.out⟩
                         (try clear HO_7)
                         (try clear HO_49)
                         (try clear BK146)
                         (try clear BK158)
                         (try clear HB)
                         generalize (((((w40.setCell ⟨gb158, 0, none⟩ (.int .i64 ((rd_T64 t154 x51_4).f0.f0))).setCell ⟨gb158, 1, none⟩ (.int .i64 ((rd_T64 t154 x51_4).f0.f1))).setCell ⟨gb158, 2, none⟩ (.int .i64 ((rd_T64 t154 x51_4).f1))).setCell ⟨gb158, 3, none⟩ (.int .i64 ((rd_T64 t154 x51_4).f2))).setCell ⟨gb158, 4, none⟩ (.int .i64 ((rd_T64 t154 x51_4).f3))) = w43 at n0_ n1_ n2_ n3_ n4_ ⊢
                         have HO_7 := n0_
                         have HO_49 := n1_
                         have BK146 := n2_
                         have BK158 := n3_
                         have HB := n4_
                         clear n0_ n1_ n2_ n3_ n4_
                         replace HO_7 := Aside0.mk (Kd.S_drew HO_7.out)
                         replace HO_49 := Aside0.mk (Kd.R_drew HO_49.out)
                         replace BK146 := Aside0.mk (blk_drew BK146.out)
                         replace BK158 := Aside0.mk (blk_drew BK158.out)
                         replace HB := Aside0.mk (below_drew1 HB.out)
                         have p159 : 0 ≤ ((ji32) : Int) := od
                         have q159 : (ji32) < (x7_2.length : Int) := od
                         obtain ⟨ad159, A159_0, c159_0, e159, hx159_0, hl159_0, hi159_0⟩ := at_L1 (Kd.S_reads' HO_7.out).2.2 (ji32) p159 q159
                         obtain rfl : (⟨go16, 0, none⟩ : Addr) = ad159 := (by injection e159)
                         obtain ⟨ce159, hce159, hMe159, hcc159⟩ := Kd.S_get HO_7.out [] (ji32) p159 (by first | exact q159 | exact od | (have e_ := (Kd.S_reads' HO_7.out).1; omega))
                         obtain ⟨ve159_0, rfl, ge159_0⟩ := hMe159
                         have hv159_0 := hcc159 0 _ rfl
                         rw [Nat.add_zero, show ((Kd.slice 3 (Kd.int .i64))).sz = 1 from rfl, Nat.mul_one] at hv159_0
                         replace hv159_0 := Option.some.inj (hv159_0.symm.trans hx159_0)
                         rw [hv159_0] at ge159_0
                         have HL159_0 := Aside0.mk (show Kd.R (Kd.int .i64) 3 _ _ _ _ (rd_L1 x7_2 (ji32)) from ge159_0)
                         clear hv159_0 ge159_0
                         have HX159_0 := Aside0.mk hx159_0
                         clear hcc159 hce159
                         (first | simp only [add_plain] at hx159_0 | simp only [add_at] at hx159_0 | simp only [Addr.add, Nat.zero_add] at hx159_0 | skip)
                         have HR159_0 := Aside0.mk hi159_0
                         have HC159_0 := Aside0.mk hl159_0
                         clear hi159_0 hl159_0
                         replace p159 := eq_true p159
                         replace q159 := eq_true q159
                         have p160 : 0 ≤ ((ji35) : Int) := od
                         have q160 : (ji35) < ((rd_L1 x7_2 (ji32)).length : Int) := od
                         obtain ⟨ad160, e160, hx160_0⟩ := Kd.at_int (by repeat (first | (with_reducible exact HR159_0.out) | (with_reducible refine Kd.C_alloc ?_ _) | (with_reducible refine Kd.C_drewN ?_ _) | (with_reducible refine Kd.C_drew ?_) | exact HR159_0.out)) (ji35) p160 q160
                         cases e160
                         replace p160 := eq_true p160
                         replace q160 := eq_true q160
                         refine start_ (n := 19) (S := fun w' => w'.cell? ⟨gb158, 0, none⟩ = some (.int .i64 ((rd_T64 t154 x51_4).f0.f0)) ∧ w'.cell? ⟨gb158, 1, none⟩ = some (.int .i64 ((rd_T64 t154 x51_4).f0.f1)) ∧ w'.cell? ⟨gb158, 2, none⟩ = some (.int .i64 ((rd_T64 t154 x51_4).f1)) ∧ w'.cell? ⟨gb158, 3, none⟩ = some (.int .i64 ((rd_T64 t154 x51_4).f2)) ∧ w'.cell? ⟨gb158, 4, none⟩ = some (.int .i64 ((rd_T64 t154 x51_4).f3)) ∧ w'.cell? ⟨go16, ((ji32)).toNat, none⟩ = some (.slice (some ad160) (rd_L1 x7_2 (ji32)).length c159_0) ∧ w'.cell? (ad160.add ((ji35)).toNat) = some (.int .i64 (rd (rd_L1 x7_2 (ji32)) (ji35)))) (ds := []) #[ff,ff,ff,ff,ff,ff,ff,ff,ff,ff,ff,ff,ff,ff,ff,ff,ff,ff,ff] (by kernel_rfl) rfl rfl ⟨(blk_cell BK158.out 0).trans rfl, (blk_cell BK158.out 1).trans rfl, (blk_cell BK158.out 2).trans rfl, (blk_cell BK158.out 3).trans rfl, (blk_cell BK158.out 4).trans rfl, hx159_0, hx160_0⟩ (fun hHeld => ?_); refine with_tabW editscript_table.tab15 editscript_table.bits15 (fun HT_ HW_ => ?_)
                         generalize w43.drew = w44 at HO_7 HO_49 BK146 BK158 HB HL159_0 HR159_0 HX159_0 hx159_0 hx160_0 hHeld ⊢
                         refine pu 0 55 ?_
                         refine pu 1 56 ?_
                         refine pu 3 58 ?_
                         refine pu 4 59 ?_
                         refine pu 5 60 ?_
                         refine pu 10 65 ?_
                         refine pu 11 66 ?_
                         refine tu 2 57 hHeld ?_
                         refine tu 6 61 hHeld ?_
                         refine pu 7 62 ?_
                         refine pu 8 63 ?_
                         refine tu 9 64 hHeld ?_
                         refine tu 12 67 hHeld ?_
                         refine pu 13 68 ?_
                         refine pu 14 69 ?_
                         refine tu 15 70 hHeld ?_
                         refine one_ (i := 16) (N := some 71) #[tt,tt,tt,tt,tt,tt,tt,tt,tt,tt,tt,tt,tt,tt,tt,tt,tt,ff,ff] rfl rfl (one_of HT_.out (by kernel_rfl)) (by decide) (fun K hK => ?_)
                         refine goes_ Tryd.func36 (by kernel_rfl) rfl #[.int .i64 ((rd_T64 t154 x51_4).f1), .int .i64 (rd (rd_L1 x7_2 (ji32)) (ji35))] (by rfl) rfl rfl (by (try simp only [List.map_toArray, List.map_cons, List.map_nil]); first | done | (simp only [hji32, hji35]; rfl) | rfl | (simp only [List.length_drop, List.length_take]; rfl)) ?_
                         with_reducible refine (editscript_add.calls ((rd_T64 t154 x51_4).f1) (rd (rd_L1 x7_2 (ji32)) (ji35)) t161 _ A38.out).mono ?_
                         rintro e w45 ⟨rfl, hb⟩
                         have HS5_ := (hb.cell (World.block_lt_of_cell? _ _ (hHeld.2.2.2.2.2.1))).trans (hHeld.2.2.2.2.2.1)
                         have HS6_ := (hb.cell (World.block_lt_of_cell? _ _ (hHeld.2.2.2.2.2.2))).trans (hHeld.2.2.2.2.2.2)
                         refine ⟨_, rfl, ?_⟩
                         replace HO_7 := Aside0.mk (Kd.S_below (pS HO_7.out) hb)
                         replace HO_49 := Aside0.mk (Kd.R_below (pR HO_49.out) hb)
                         replace HL159_0 := Aside0.mk (Kd.R_below (pR HL159_0.out) hb)
                         replace BK146 := Aside0.mk (bb BK146.out hb)
                         replace BK158 := Aside0.mk (bb BK158.out hb)
                         replace HR159_0 := Aside0.mk (Kd.C_below (by repeat (first | (with_reducible exact HR159_0.out) | (with_reducible refine Kd.C_alloc ?_ _) | (with_reducible refine Kd.C_drewN ?_ _) | (with_reducible refine Kd.C_drew ?_) | exact HR159_0.out)) hb)
                         replace HX159_0 := Aside0.mk (pw_cell_below hb HX159_0.out)
                         replace HB := Aside0.mk (below_step (pc HB.out GE146.out GE158.out) hb)
                         (try clear hb)
                         (try clear hk)
                         refine hK.out _ _ ⟨(blk_cell BK158.out 0).trans rfl, (blk_cell BK158.out 1).trans rfl, (blk_cell BK158.out 2).trans rfl, (blk_cell BK158.out 3).trans rfl, (blk_cell BK158.out 4).trans rfl, HS5_, HS6_⟩ (fun hHeld => ?_)
                         clear hK K
                         refine norm_ (a' := ?_) ?_ ?_
                         rotate_left
                         ·
                          show Act.put _ (some 71) _ = _
                          simp only [nrm]
                          rfl
                         refine pu 17 72 ?_
                         refine pu 18 10 ?_
                         refine done_ (done_of HT_.out (by kernel_rfl)) ?_
                         try go_wp2
                         go_roundg k4
                         case measure => have := HK1.out; have := HK2.out; have := HJ21.out; have := HK4.out; omega
                         case rel => exact ⟨(ji39), (wrap64 (x51_4 + 1)), (by first | rfl | (simp; done) | (simp only [← hji39] <;> (first | rfl | simp)) | (simp [*]; done)), rr, H', ⟨by have := HK1.out; have := HK2.out; have := HJ21.out; have := HK4.out; omega⟩, ⟨by (try simp only [hl7_2]); (with_reducible repeat (first | apply Kd.S_alloc | apply Kd.S_drewN | apply Kd.S_drew)); exact HO_7.out⟩, ⟨by (try simp only [hl7_2]); (with_reducible repeat (first | apply Kd.R_alloc | apply Kd.R_drewN | apply Kd.R_drew)); exact Kd.R_mono HO_49.out (fun _ hk => trivial)⟩, ⟨by (try simp only [hl7_2]); (with_reducible repeat (first | refine blk_drewN ?_ _ | refine blk_drew ?_ | refine blk_alloc ?_ _)); exact BK146.out⟩, ⟨pc HB.out GE146.out GE158.out⟩⟩
                        ·
                         rw [if_neg c37] at H
                         exact absurd H (by simp)
                       ·
                        rw [if_neg c36] at H
                        exact absurd H (by simp)
                      ·
                       rw [if_neg c34] at H
                       exact absurd H (by simp)
                     ·
                      rw [if_neg c33] at H
                      exact absurd H (by simp)
                    ·
                     rw [if_neg c31] at H
                     exact absurd H (by simp)
                   ·
                    rw [if_neg c30] at H
                    exact absurd H (by simp)
                  ·
                   rw [if_neg c29] at H
                   have c29b0 : decide (x51_4 < (t154.length : Int)) = false := decide_eq_false c29
                   clear c29
                   by_cases c46 : 0 ≤ x8_1
                   ·
                    rw [if_pos c46] at H
                    have c46b0 : decide (0 ≤ x8_1) = true := decide_eq_true c46
                    clear c46
                    by_cases c47 : x8_1 < (x7_2.length : Int)
                    ·
                     rw [if_pos c47] at H
                     have c47b0 : decide (x8_1 < (x7_2.length : Int)) = true := decide_eq_true c47
                     clear c47
                     by_cases c48 : 0 ≤ x9_2
                     ·
                      rw [if_pos c48] at H
                      have c48b0 : decide (0 ≤ x9_2) = true := decide_eq_true c48
                      clear c48
                      by_cases c49 : x9_2 < ((rd_L1 x7_2 x8_1).length : Int)
                      ·
                       rw [if_pos c49] at H
                       have c49b0 : decide (x9_2 < ((rd_L1 x7_2 x8_1).length : Int)) = true := decide_eq_true c49
                       clear c49
                       obtain ⟨y163, hy163⟩ : ∃ y_ : List Int, y_ = ((rd_L1 x7_2 x8_1).set (x9_2 : Int).toNat x10_4) := ⟨_, rfl⟩
                       replace H : (editscript_table.l1 k4 l1 (l0_0.length : Int) (l1.length : Int) (x7_2.set (x8_1 : Int).toNat y163) x8_1 (wrap64 (x9_2 - 1)) l0_0 l0_1 a0_2) = some r := by first | (rw [hy163]; with_reducible exact H) | (have H2_ := (Option.bind_some _ _).symm.trans H; rw [hy163]; with_reducible exact H2_) | (have H2_ := (Option.bind_some _ _).symm.trans H; with_reducible exact H2_) | with_reducible exact H | (rw [hy163]; exact H) | exact H
                       have Ny163 := Aside0.mk hy163
                       clear hy163
                       obtain ⟨y165, hy165⟩ : ∃ y_ : List (List Int), y_ = (x7_2.set (x8_1 : Int).toNat y163) := ⟨_, rfl⟩
                       replace H : (editscript_table.l1 k4 l1 (l0_0.length : Int) (l1.length : Int) y165 x8_1 (wrap64 (x9_2 - 1)) l0_0 l0_1 a0_2) = some r := by first | (rw [hy165]; with_reducible exact H) | (have H2_ := (Option.bind_some _ _).symm.trans H; rw [hy165]; with_reducible exact H2_) | (have H2_ := (Option.bind_some _ _).symm.trans H; with_reducible exact H2_) | with_reducible exact H | (rw [hy165]; exact H) | exact H
                       have Ny165 := Aside0.mk hy165
                       clear hy165
                       have H' := Aside0.mk H
                       clear H
                       have p162 : 0 ≤ (x8_1 : Int) := od
                       have q162 : x8_1 < (x7_2.length : Int) := od
                       obtain ⟨ad162, A162_0, c162_0, e162, hx162_0, hl162_0, hi162_0⟩ := at_L1 (Kd.S_reads' HO_7.out).2.2 x8_1 p162 q162
                       obtain rfl : (⟨go16, 0, none⟩ : Addr) = ad162 := (by injection e162)
                       obtain ⟨ce162, hce162, hMe162, hcc162⟩ := Kd.S_get HO_7.out [] x8_1 p162 (by first | exact q162 | exact od | (have e_ := (Kd.S_reads' HO_7.out).1; omega))
                       obtain ⟨ve162_0, rfl, ge162_0⟩ := hMe162
                       have hv162_0 := hcc162 0 _ rfl
                       rw [Nat.add_zero, show ((Kd.slice 3 (Kd.int .i64))).sz = 1 from rfl, Nat.mul_one] at hv162_0
                       replace hv162_0 := Option.some.inj (hv162_0.symm.trans hx162_0)
                       rw [hv162_0] at ge162_0
                       have HL162_0 := Aside0.mk (show Kd.R (Kd.int .i64) 3 _ _ _ _ (rd_L1 x7_2 x8_1) from ge162_0)
                       clear hv162_0 ge162_0
                       have HX162_0 := Aside0.mk hx162_0
                       clear hcc162 hce162
                       (first | simp only [add_plain] at hx162_0 | simp only [add_at] at hx162_0 | simp only [Addr.add, Nat.zero_add] at hx162_0 | skip)
                       have HR162_0 := Aside0.mk hi162_0
                       have HC162_0 := Aside0.mk hl162_0
                       clear hi162_0 hl162_0
                       replace p162 := eq_true p162
                       replace q162 := eq_true q162
                       have p50 : 0 ≤ (x9_2 : Int) := od
                       have q50 : (x9_2 : Int) < (((rd_L1 x7_2 x8_1).length : Int) : Int) := od
                       obtain ⟨go50, co50, eo50, gb50, gl50, cl50, HG50⟩ := Kd.R_form HL162_0.out (by omega)
                       (first | cases eo50 | (injection eo50 with ea_ en_ ec_; (first | subst ea_ | (injection ea_ with ea_; subst ea_)); subst ec_; clear en_))
                       have GB50 := Aside0.mk gb50
                       have GG50 := Aside0.mk HG50
                       clear gb50 gl50 HG50
                       obtain ⟨hx50_0, hf50_0⟩ := Kd.R_celln 0 HL162_0.out (x9_2 : Int) p50 q50
                       replace p50 := eq_true p50
                       replace q50 := eq_true q50
                       have hq51 : (x8_1 : Int) < (x7_2.length : Int) := (by have h_ : (x8_1 : Int) < ((x7_2.length : Int) : Int) := od; first | exact h_ | (have e_ := (Kd.S_reads' HO_7.out).1; omega) | simpa only [List.length_set, List.length_set] using h_)
                       obtain ⟨oki51, ce51, hcl51, hM51, hcc51, hok51, hbk51⟩ := Kd.S_borrow HO_7.out [] (x8_1 : Int) (od) hq51
                       obtain ⟨ve51_0, rfl, ge51_0⟩ := hM51
                       have hv51 := hcc51 0 _ rfl
                       rw [Nat.add_zero, show ((Kd.slice 3 (Kd.int .i64))).sz = 1 from rfl, Nat.mul_one] at hv51
                       replace hv51 := Option.some.inj (hv51.symm.trans HX162_0.out)
                       subst hv51
                       clear hcc51 hcl51
                       replace ge51_0 := (show Kd.R (Kd.int .i64) 3 _ _ _ _ (rd_L1 x7_2 x8_1) from ge51_0)
                       have HP51 := Kd.R_putg ge51_0 (x9_2 : Int) x10_4
                       go_wp2_with (first | ((with_reducible refine gate_store (t := 3) (p := 80) rfl ?_); refine store_event (t := 3) (p := 80) (v := ?vo_w52) (w1 := (wr.setCell ⟨go50, (x9_2 : Int).toNat, none⟩ (.int .i64 x10_4))) ?hg ?ho ?hn ?hr ?_; (case ho => rfl); (case hg => rfl); (case hn => rfl); (case hr => first | (go_simp; done) | (go_simp; rfl)); intro w52 hw; have hg : wr.grownBy w52 (some go50) := (by rw [hw]; exact HP51.2); have hz_ : Kd.R (Kd.int .i64) 3 w52 w.heap.size oki51 (.slice (some ⟨go50, 0, none⟩) (rd_L1 x7_2 x8_1).length c162_0) y163 := (by rw [hw, Ny163.out]; exact HP51.1); have hp_ : Kd.S (Kd.slice 3 (Kd.int .i64)) 23 w52 w.heap.size (fun _ => True) (.slice (some ⟨go16, 0, none⟩) x7_2.length co16) y165 := (by rw [Ny165.out]; exact hbk51 hg (fun k_ e_ => by injection e_ with e_; subst e_; exact ge51_0.1 _ rfl) (Kd.M_row hz_)); have hm_ := Kd.R_mono hz_ hok51; clear HP51 hbk51; replace HO_7 := Aside0.mk (hp_); replace HO_49 := Aside0.mk (Kd.R_over' (v := (.slice (some ⟨go50, 0, none⟩) (rd_L1 x7_2 x8_1).length c162_0)) (pR HO_49.out) (Kd.R_typed HL162_0.out) (by decide) hg); replace BK146 := Aside0.mk (blk_grown (g := gb146) (o := .cells #[.slice A0_0 l0_0.length c0_0, .slice A0_1 l0_1.length c0_1, .int .i64 a0_2] 25 (0, 0)) (pk BK146.out) hg (Kd.R_ne HL162_0.out BK146.out (by decide))); replace HB := Aside0.mk ((by rw [hw]; exact below_set (HB.out) GB50.out : Below w.heap.size w w52)); have HL166 := Aside0.mk (hm_); have HC164 := Aside0.mk ((Kd.R_reads' hm_).2.1); clear HL162_0; clear hg hw hp_ hz_ hm_ hok51))
                       (try simp only [← hl7_2])
                       go_roundg k4
                       case measure => have := HK1.out; have := HK2.out; have := HJ21.out; have := HK4.out; omega
                       case rel => exact ⟨(y165), (wrap64 (x9_2 - 1)), rr, H', ⟨by have := HK1.out; have := HK2.out; have := HJ21.out; have := HK4.out; omega⟩, ⟨by (try simp only [hl7_2]); (with_reducible repeat (first | apply Kd.S_alloc | apply Kd.S_drewN | apply Kd.S_drew)); exact HO_7.out⟩, ⟨by (try simp only [hl7_2]); (with_reducible repeat (first | refine blk_drewN ?_ _ | refine blk_drew ?_ | refine blk_alloc ?_ _)); exact BK146.out⟩, ⟨pb HB.out GE146.out⟩⟩
                      ·
                       rw [if_neg c49] at H
                       exact absurd H (by simp)
                     ·
                      rw [if_neg c48] at H
                      exact absurd H (by simp)
                    ·
                     rw [if_neg c47] at H
                     exact absurd H (by simp)
                   ·
                    rw [if_neg c46] at H
                    exact absurd H (by simp)
            ·
             rw [if_neg c21] at H
             have c21b0 : decide (0 ≤ x9_2) = false := decide_eq_false c21
             clear c21
             have H' := Aside0.mk H
             clear H
             go_wp2
             (try simp only [← hl7_2])
             go_roundg k2
             case measure => have := HK1.out; have := HK2.out; omega
             case rel => exact ⟨(x7_2), (wrap64 (x8_1 - 1)), rr, H', ⟨by have := HK1.out; have := HK2.out; omega⟩, ⟨by (try simp only [hl7_2]); (with_reducible repeat (first | apply Kd.S_alloc | apply Kd.S_drewN | apply Kd.S_drew)); exact HO_7.out⟩, ⟨by (try simp only [hl7_2]); (with_reducible repeat (first | refine blk_drewN ?_ _ | refine blk_drew ?_ | refine blk_alloc ?_ _)); exact BK146.out⟩, ⟨pb HB.out GE146.out⟩⟩
         ·
          rw [if_neg c15] at H
          exact absurd H (by simp)
        ·
         rw [if_neg c14] at H
         exact absurd H (by simp)
       ·
        rw [if_neg c13] at H
        exact absurd H (by simp)
      ·
       rw [if_neg c12] at H
       exact absurd H (by simp)
     ·
      rw [if_neg c10] at H
      have c10b0 : decide (0 ≤ x8_1) = false := decide_eq_false c10
      clear c10
      obtain rfl := Option.some.inj H
      go_wp2
      go_ret
      exact ⟨_, by first | rfl | (simp [errW_none, errW_some] <;> rfl) | (simp only [← hji3]; first | rfl | (simp [errW_none, errW_some] <;> rfl)) | (simp [*, errW_none, errW_some] <;> rfl), by (with_reducible repeat (first | apply Kd.S_alloc | apply Kd.S_drewN | apply Kd.S_drew)); exact HO_7.out, pb HB.out GE146.out⟩
  ·
   rw [if_neg c5] at H
   exact absurd H (by simp)
 ·
  rw [if_neg c4] at H
  exact absurd H (by simp)

end Go.Proofs.YtnddijafdphbnaaDoor.All
