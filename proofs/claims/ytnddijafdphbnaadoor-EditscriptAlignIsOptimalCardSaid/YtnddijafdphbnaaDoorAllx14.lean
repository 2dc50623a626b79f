-- Printed by wip/tools/wprint.py (a program of this session over the kit's printer). Not trusted: Lean checks it.
import Derived.Test.YtnddijafdphbnaaDoorAllSt
import Derived.Test.YtnddijafdphbnaaDoorAllx13
namespace Go.Proofs.YtnddijafdphbnaaDoor.All
open Go.RowKit Go.Proofs.YtnddijafdphbnaaDoorW.PrintWords Go.Proofs.YtnddijafdphbnaaDoorW.PrintLast Go.Proofs.YtnddijafdphbnaaDoorW.PrintMore
attribute [local go_sem] max2_int min2_int max_two min_two max_three min_three max_four min_four   -- for this text's walks alone
set_option linter.unusedVariables false
set_option linter.unusedSimpArgs false

/-! ### emendateref36_Run: function 20 -/
mutual
def emendateref36_Run.l0 : Nat → List (S49) → List Int → Int → Int → Int → List (S33) → List Int → Int → Option (List Int × Int × Bool)
 | 0, _, _, _, _, _, _, _, _ => none
 | k + 1, x1, x7, x8, x9, x10, x213000, x213001, x213002 => if x10 < (x1.length : Int) then (if 0 ≤ x10 then (if ((rd_T49 x1 x10).f1) ≥ 0 then (emendateref36_Run.j1 k x1 x7 x8 x9 x10 (decide (x9 < (x213000.length : Int))) (decide (((rd_T49 x1 x10).f1) < (x213001.length : Int))) x213000 x213001 x213002 ((rd_T49 x1 x10).f0) ((rd_T49 x1 x10).f1)) else (emendateref36_Run.j1 k x1 x7 x8 x9 x10 (decide (x9 < (x213000.length : Int))) false x213000 x213001 x213002 ((rd_T49 x1 x10).f0) ((rd_T49 x1 x10).f1))) else (none)) else (if x9 = (x213000.length : Int) then (some (x7, x8, true)) else (some (([] : List Int), 0, false)))
def emendateref36_Run.j1 : Nat → List (S49) → List Int → Int → Int → Int → Bool → Bool → List (S33) → List Int → Int → Int → Int → Option (List Int × Int × Bool)
 | 0, _, _, _, _, _, _, _, _, _, _, _, _ => none
 | k + 1, x1, x7, x8, x9, x10, x12, x13, x213000, x213001, x213002, x215000, x215001 => if x215000 = 1 then (if x12 = true then (if x13 = true then (if 0 ≤ x9 then (if x9 < (x213000.length : Int) then (if 0 ≤ x215001 then (if x215001 < (((rd_T33 x213000 x9).f1).length : Int) then (emendateref36_Run.j2 k x1 x7 x8 x9 x10 x12 x13 (decide ((rd ((rd_T33 x213000 x9).f1) x215001) ≥ 0)) x213000 x213001 x213002 x215000 x215001) else (none)) else (none)) else (none)) else (none)) else (emendateref36_Run.j2 k x1 x7 x8 x9 x10 x12 x13 false x213000 x213001 x213002 x215000 x215001)) else (emendateref36_Run.j2 k x1 x7 x8 x9 x10 x12 x13 false x213000 x213001 x213002 x215000 x215001)) else (emendateref36_Run.j2 k x1 x7 x8 x9 x10 x12 x13 false x213000 x213001 x213002 x215000 x215001)
def emendateref36_Run.j2 : Nat → List (S49) → List Int → Int → Int → Int → Bool → Bool → Bool → List (S33) → List Int → Int → Int → Int → Option (List Int × Int × Bool)
 | 0, _, _, _, _, _, _, _, _, _, _, _, _, _ => none
 | k + 1, x1, x7, x8, x9, x10, x12, x13, x40, x213000, x213001, x213002, x215000, x215001 => if x40 = true then (if x7.length < 17592186044416 then (if 0 ≤ x9 then (if x9 < (x213000.length : Int) then (if 0 ≤ x215001 then (if x215001 < (((rd_T33 x213000 x9).f1).length : Int) then ((emendateref36_plus.f x8 (rd ((rd_T33 x213000 x9).f1) x215001)).bind fun t222 => (emendateref36_Run.l0 k x1 (x7 ++ [x215001]) t222 (wrap64 (x9 + 1)) (wrap64 (x10 + 1)) x213000 x213001 x213002)) else (none)) else (none)) else (none)) else (none)) else (none)) else (if x215000 = 2 then (if x12 = true then (if x215001 = 0 then (if 0 ≤ x9 then (if x9 < (x213000.length : Int) then (emendateref36_Run.j3 k x1 x7 x8 x9 x10 x13 (decide (((rd_T33 x213000 x9).f2) < 1099511627776)) x213000 x213001 x213002 x215000 x215001) else (none)) else (none)) else (emendateref36_Run.j3 k x1 x7 x8 x9 x10 x13 false x213000 x213001 x213002 x215000 x215001)) else (emendateref36_Run.j3 k x1 x7 x8 x9 x10 x13 false x213000 x213001 x213002 x215000 x215001)) else (emendateref36_Run.j3 k x1 x7 x8 x9 x10 x13 false x213000 x213001 x213002 x215000 x215001))
def emendateref36_Run.j3 : Nat → List (S49) → List Int → Int → Int → Int → Bool → Bool → List (S33) → List Int → Int → Int → Int → Option (List Int × Int × Bool)
 | 0, _, _, _, _, _, _, _, _, _, _, _, _ => none
 | k + 1, x1, x7, x8, x9, x10, x13, x82, x213000, x213001, x213002, x215000, x215001 => if x82 = true then (if 0 ≤ x9 then (if x9 < (x213000.length : Int) then ((emendateref36_plus.f x8 ((rd_T33 x213000 x9).f2)).bind fun t225 => (emendateref36_Run.l0 k x1 x7 t225 (wrap64 (x9 + 1)) (wrap64 (x10 + 1)) x213000 x213001 x213002)) else (none)) else (none)) else (if x215000 = 3 then (emendateref36_Run.j4 k x1 x7 x8 x9 x10 x13 x213000 x213001 x213002 x215000 x215001) else (emendateref36_Run.j4 k x1 x7 x8 x9 x10 false x213000 x213001 x213002 x215000 x215001))
def emendateref36_Run.j4 : Nat → List (S49) → List Int → Int → Int → Int → Bool → List (S33) → List Int → Int → Int → Int → Option (List Int × Int × Bool)
 | 0, _, _, _, _, _, _, _, _, _, _, _ => none
 | k + 1, x1, x7, x8, x9, x10, x113, x213000, x213001, x213002, x215000, x215001 => if x113 = true then (if x7.length < 17592186044416 then (if 0 ≤ x215001 then (if x215001 < (x213001.length : Int) then ((emendateref36_plus.f x8 (rd x213001 x215001)).bind fun t230 => (emendateref36_Run.l0 k x1 (x7 ++ [x215001]) t230 x9 (wrap64 (x10 + 1)) x213000 x213001 x213002)) else (none)) else (none)) else (none)) else (if x215000 = 4 then (if x215001 = 0 then ((emendateref36_swappable.f x213000 x213001 x213002 x9).bind fun t231 => (if t231 = true then (if 0 ≤ (wrap64 (x9 + 1)) then (if (wrap64 (x9 + 1)) < (x213000.length : Int) then (if 0 ≤ x9 then (if x9 < (x213000.length : Int) then ((some (([(rd_T33 x213000 (wrap64 (x9 + 1))).f0, (rd_T33 x213000 x9).f0] : List Int) : List Int)).bind fun y234 => (if x7.length + y234.length < 17592186044416 then ((emendateref36_plus.f x8 x213002).bind fun t240 => (emendateref36_Run.l0 k x1 (x7 ++ y234) t240 (wrap64 (x9 + 2)) (wrap64 (x10 + 1)) x213000 x213001 x213002)) else (none))) else (none)) else (none)) else (none)) else (none)) else (some (([] : List Int), 0, false)))) else (some (([] : List Int), 0, false))) else (some (([] : List Int), 0, false)))
end
def emendateref36_Run.f (k : Nat) (l0_0 : List (S33)) (l0_1 : List Int) (a0_2 : Int) (l1 : List (S49)) : Option (List Int × Int × Bool) := emendateref36_Run.l0 k l1 ([] : List Int) 0 0 0 l0_0 l0_1 a0_2
def emendateref36_Run.T10 : Bool × List (List Nat × List Nat) := (true, [([], []), ([0], [0]), ([1], [1]), ([2], [2]), ([3], [3]), ([3, 4], [3, 4]), ([5, 3], [5]), ([6], [6]), ([6, 7], [6, 7]), ([8, 6], [8]), ([9], [9]), ([10, 9], [9, 10]), ([9], [9]), ([11, 12, 9], [9, 11, 12]), ([13, 9], [9, 13]), ([14, 9], [9, 14]), ([9], [9]), ([16, 9], [9, 16]), ([15, 17, 9], [9, 15, 17]), ([18, 9], [9, 18]), ([19, 9], [9, 19]), ([9, 20], [9, 20]), ([21, 9], [21])])
def emendateref36_Run.B10 : List Nat := [0, 1, 3, 7, 15, 31, 63, 127, 255, 511, 1023, 2047, 1023, 8191, 16383, 32767, 1023, 66559, 262143, 524287, 1048575, 2097151, 4194303]
theorem emendateref36_Run.tab10 : rtab .any (opsOf Tryd.f20 10) = emendateref36_Run.T10 := by kernel_rfl
theorem emendateref36_Run.bits10 : waitsOk emendateref36_Run.T10.2 emendateref36_Run.B10 = true := by kernel_rfl
def emendateref36_Run.T12 : Bool × List (List Nat × List Nat) := (true, [([], []), ([], []), ([1], [1]), ([], []), ([2, 3], [2, 3]), ([4], [4]), ([5], [5]), ([], []), ([7], [7]), ([6, 8], [6, 8]), ([9], [9]), ([0, 10], [0, 10]), ([11, 11, 0, 1, 2, 3, 4, 5, 6, 7, 8, 9, 10, 11], [0, 11])])
def emendateref36_Run.B12 : List Nat := [0, 0, 2, 0, 14, 30, 62, 0, 128, 510, 1022, 2047, 4095]
theorem emendateref36_Run.tab12 : rtab .any (opsOf Tryd.f20 12) = emendateref36_Run.T12 := by kernel_rfl
theorem emendateref36_Run.bits12 : waitsOk emendateref36_Run.T12.2 emendateref36_Run.B12 = true := by kernel_rfl
def emendateref36_Run.T21 : Bool × List (List Nat × List Nat) := (true, [([], []), ([], []), ([1], [1]), ([], []), ([3], [3]), ([2, 4], [2, 4]), ([5], [5]), ([6], [6]), ([], []), ([8], [8]), ([], []), ([9, 10], [9, 10]), ([11], [11]), ([12], [12]), ([7, 13], [7, 13]), ([0, 14], [0, 14]), ([15, 15, 0, 1, 2, 3, 4, 5, 6, 7, 8, 9, 10, 11, 12, 13, 14, 15], [0, 15])])
def emendateref36_Run.B21 : List Nat := [0, 0, 2, 0, 8, 30, 62, 126, 0, 256, 0, 1792, 3840, 7936, 16382, 32767, 65535]
theorem emendateref36_Run.tab21 : rtab .any (opsOf Tryd.f20 21) = emendateref36_Run.T21 := by kernel_rfl
theorem emendateref36_Run.bits21 : waitsOk emendateref36_Run.T21.2 emendateref36_Run.B21 = true := by kernel_rfl
set_option maxHeartbeats 8000000 in
set_option maxRecDepth 100000 in
theorem emendateref36_Run.calls (k : Nat) (A0_0 : Option Addr) (c0_0 : Nat) (l0_0 : List (S33)) (A0_1 : Option Addr) (c0_1 : Nat) (l0_1 : List Int) (a0_2 : Int) (A1 : Option Addr) (c1 : Nat) (l1 : List (S49)) (r1 : List Int) (r2 : Int) (r3 : Bool) (w : World) (hr0_0 : Kd.C k33 w A0_0 l0_0.length l0_0) (hc0_0 : l0_0.length ≤ c0_0) (hr0_1 : Kd.C (Kd.int .i64) w A0_1 l0_1.length l0_1) (hc0_1 : l0_1.length ≤ c0_1) (hr1 : Kd.C k49 w A1 l1.length l1) (hc1 : l1.length ≤ c1) (h : emendateref36_Run.f k l0_0 l0_1 a0_2 l1 = some (r1, r2, r3)) :
  Calls Tryd.prog 20 #[.agg #[.slice A0_0 l0_0.length c0_0, .slice A0_1 l0_1.length c0_1, .int .i64 a0_2], .slice A1 l1.length c1] w fun e w' => ∃ v0_ : Value, e = .returned (.tuple #[v0_, .int .i64 r2, .bool r3]) ∧ Kd.R (Kd.int .i64) 3 w' w.heap.size (fun _ => True) v0_ r1 ∧ Below w.heap.size w w' := by
 have hu25 := Tryd.underlying25
 have hu49 := Tryd.underlying49
 have HR0_0 := Aside0.mk hr0_0
 have HC0_0 := Aside0.mk hc0_0
 clear hr0_0 hc0_0
 have HR0_1 := Aside0.mk hr0_1
 have HC0_1 := Aside0.mk hc0_1
 clear hr0_1 hc0_1
 have HR1 := Aside0.mk hr1
 have HC1 := Aside0.mk hc1
 clear hr1 hc1
 have HB := Aside0.mk (Below.refl w.heap.size w)
 have H : (emendateref36_Run.l0 k l1 ([] : List Int) 0 0 0 l0_0 l0_1 a0_2) = some (r1, r2, r3) := h
 clear h
 have H' := Aside0.mk H
 clear H
 go_enter Tryd.func20, Tryd.ntmps20
 go_wp2_with (first | ((with_reducible refine gate_dst (N := 2) rfl ?_); (try (refine gate_guard (by rfl) ?_; dsimp only)); refine box_event ?hg (N := 2) ?hd (cs := #[.slice A0_0 l0_0.length c0_0, .slice A0_1 l0_1.length c0_1, .int .i64 a0_2]) (t := 25) ?hr ?_; (case hd => rfl); (case hg => rfl); (case hr => first | (go_simp; done) | (go_simp; rfl)); intro gb212 hg w3 hbox hb; have n0_ := Aside0.mk (below_step (pB HB.out) hb); have n1_ := Aside0.mk (hbox); have n2_ := Aside0.mk ((by rw [hg]; exact (below_size (pB HB.out)) : w.heap.size ≤ gb212)); have n3_ := Aside0.mk ((by rw [hg]; exact (below_size (pB HB.out)) : w.heap.size ≤ gb212)); clear HB; have HB := n0_; have BK212 := n1_; have GW212 := n2_; have GE212 := n3_; clear n0_ n1_ n2_ n3_; clear hb hbox hg))
 go_loopg [7, 8, 9, 10] k (fun kq v7 v8 v9 v10 w' => ∃ (x7_1 : List Int) (x8_1 : Int) (x9_1 : Int) (x10_1 : Int), v8 = .int .i64 x8_1 ∧ v9 = .int .i64 x9_1 ∧ v10 = .int .i64 x10_1 ∧ Aside0 (emendateref36_Run.l0 kq l1 x7_1 x8_1 x9_1 x10_1 l0_0 l0_1 a0_2 = some (r1, r2, r3)) ∧ Aside0 (kq ≤ k) ∧ Aside0 (Kd.R (Kd.int .i64) 3 w' w.heap.size (fun _ => True) v7 x7_1) ∧ Aside0 (w'.heap[gb212]? = some (.cells #[(.slice A0_0 l0_0.length c0_0), (.slice A0_1 l0_1.length c0_1), .int .i64 a0_2] 25 (0, 0))) ∧ Aside0 (Below w.heap.size w w'))
 case atStart => exact ⟨(([] : List Int)), (0), (0), (0), rr, rr, rr, H', ⟨Nat.le_refl _⟩, ⟨by first | exact Kd.R_nil _ _ _ _ _ | exact Kd.N_nil _ _ _ _ _ | exact Kd.V_nil _ _ _ _ _ | exact Kd.Q_nil _ _ _ _ _ | exact Kd.S_nil _ _ _ _ _⟩, ⟨by (with_reducible repeat (first | refine blk_drewN ?_ _ | refine blk_drew ?_ | refine blk_alloc ?_ _)); exact BK212.out⟩, ⟨pb HB.out GE212.out⟩⟩
 case round => as_aux_lemma =>
  clear H'
  try clear c1
  obtain ⟨x7_1, x8_1, x9_1, x10_1, rfl, rfl, rfl, HA, HK1, HO_7, BK212, HB⟩ := hrel
  cases gk with
  | zero => exact absurd HA.out (by simp [emendateref36_Run.l0])
  | succ k1 =>
   have H := HA.out
   clear HA
   simp only [emendateref36_Run.l0] at H
   by_cases c4 : x10_1 < (l1.length : Int)
   ·
    rw [if_pos c4] at H
    have c4b0 : decide (x10_1 < (l1.length : Int)) = true := decide_eq_true c4
    clear c4
    by_cases c5 : 0 ≤ x10_1
    ·
     rw [if_pos c5] at H
     have c5b0 : decide (0 ≤ x10_1) = true := decide_eq_true c5
     clear c5
     have HC6 := Aside0.mk H
     clear H
     have p213 : 0 ≤ (x10_1 : Int) := od
     have q213 : x10_1 < (l1.length : Int) := od
     obtain ⟨ad213, e213, hx213_0, hx213_1⟩ := at_T49 HR1.out x10_1 p213 q213
     cases e213
     replace hx213_0 := bc HB.out hx213_0
     replace hx213_1 := bc HB.out hx213_1
     replace p213 := eq_true p213
     replace q213 := eq_true q213
     go_upto_region 8 with (first | ((with_reducible refine gate_dst (N := 11) rfl ?_); (try (refine gate_guard (by rfl) ?_; dsimp only)); refine box_event ?hg (N := 11) ?hd (cs := #[.int .i64 0, .int .i64 0]) (t := 49) ?hr ?_; (case hd => rfl); (case hg => rfl); (case hr => first | (go_simp; done) | (go_simp; rfl)); intro gb214 hg w7 hbox hb; have n0_ := Aside0.mk (Kd.R_below (pR HO_7.out) hb); have n1_ := Aside0.mk (bb BK212.out hb); have n2_ := Aside0.mk (below_step (pb HB.out GE212.out) hb); have n3_ := Aside0.mk (hbox); have n4_ := Aside0.mk ((by rw [hg]; exact (below_size (pb HB.out GE212.out)) : w.heap.size ≤ gb214)); have n5_ := Aside0.mk ((by rw [hg]; exact (below_size (pb HB.out GE212.out)) : w.heap.size ≤ gb214)); have n6_ := Aside0.mk ((by rw [hg]; exact Nat.ne_of_lt (blk_lt (g := gb212) (o := .cells #[.slice A0_0 l0_0.length c0_0, .slice A0_1 l0_1.length c0_1, .int .i64 a0_2] 25 (0, 0)) (pk BK212.out)) : gb212 ≠ gb214)); have n7_ := Aside0.mk ((by rw [hg]; exact Nat.ne_of_gt (blk_lt (g := gb212) (o := .cells #[.slice A0_0 l0_0.length c0_0, .slice A0_1 l0_1.length c0_1, .int .i64 a0_2] 25 (0, 0)) (pk BK212.out)) : gb214 ≠ gb212)); clear HO_7; clear BK212; clear HB; have HO_7 := n0_; have BK212 := n1_; have HB := n2_; have BK214 := n3_; have GW214 := n4_; have GE214 := n5_; have NB212_214 := n6_; have NB214_212 := n7_; clear n0_ n1_ n2_ n3_ n4_ n5_ n6_ n7_; clear hb hbox hg; have hnb8 := NB214_212.out; have hnc8 := NB212_214.out; obtain ⟨hcz9_0, hcz9_1, hfz9_0, hfz9_1⟩ := cz2 BK214.out; obtain ⟨hcz10_0, hcz10_1, hcz10_2, hfz10_0, hfz10_1, hfz10_2⟩ := cz3 BK212.out))
     (try simp only [Act.put, List.setIfInBounds_toArray, List.set_cons_zero, List.set_cons_succ])
     go_cut [13] (fun v13 wc => ∃ (kq : Nat) (x13_5 : Bool), v13 = .bool x13_5 ∧ Aside0 (emendateref36_Run.j1 kq l1 x7_1 x8_1 x9_1 x10_1 (decide (x9_1 < (l0_0.length : Int))) x13_5 l0_0 l0_1 a0_2 ((rd_T49 l1 x10_1).f0) ((rd_T49 l1 x10_1).f1) = some (r1, r2, r3)) ∧ Aside0 (kq ≤ k1) ∧ Aside0 (Kd.R (Kd.int .i64) 3 wc w.heap.size (fun _ => True) u7 x7_1) ∧ Aside0 (wc.heap[gb212]? = some (.cells #[(.slice A0_0 l0_0.length c0_0), (.slice A0_1 l0_1.length c0_1), .int .i64 a0_2] 25 (0, 0))) ∧ Aside0 (wc.heap[gb214]? = some (.cells #[.int .i64 ((rd_T49 l1 x10_1).f0), .int .i64 ((rd_T49 l1 x10_1).f1)] 49 (0, 0))) ∧ Aside0 (Below w.heap.size w wc))
     case first => as_aux_lemma =>
      have H := HC6.out
      clear HC6
      by_cases c11 : ((rd_T49 l1 x10_1).f1) ≥ 0
      ·
       rw [if_pos c11] at H
       have c11b0 : decide (0 ≤ ((rd_T49 l1 x10_1).f1)) = true := decide_eq_true c11
       clear c11
       (first | rw [c11b0] | (simp only [i64_w, i32_w]; rw [c11b0]) | skip)
       have H' := Aside0.mk H
       clear H
       have hnb12 := NB214_212.out
       have hnc12 := NB212_214.out
       obtain ⟨hcz13_0, hcz13_1, hfz13_0, hfz13_1⟩ := cz2 BK214.out
       obtain ⟨hcz14_0, hcz14_1, hcz14_2, hfz14_0, hfz14_1, hfz14_2⟩ := cz3 BK212.out
       go_wp2
       go_meet
       case rel => exact ⟨_, (decide (((rd_T49 l1 x10_1).f1) < (l0_1.length : Int))), rr, H', ⟨by have := HK1.out; first | omega | exact Nat.le_refl _⟩, ⟨by (with_reducible repeat (first | apply Kd.R_alloc | apply Kd.R_drewN | apply Kd.R_drew)); exact Kd.R_mono (Kd.R_far (p := ⟨gb214, 1, none⟩) (Kd.R_far (p := ⟨gb214, 0, none⟩) (Kd.R_types HO_7.out BK214.out (by decide)) (fun _ hk => hk.2) (.int .i64 ((rd_T49 l1 x10_1).f0))) (fun _ hk => hk.2) (.int .i64 ((rd_T49 l1 x10_1).f1))) (fun _ hk => trivial)⟩, ⟨by (with_reducible repeat (first | refine blk_drewN ?_ _ | refine blk_drew ?_ | refine blk_alloc ?_ _)); refine blk_far ?_ NB212_214.out _; (with_reducible repeat (first | refine blk_drewN ?_ _ | refine blk_drew ?_ | refine blk_alloc ?_ _)); refine blk_far ?_ NB212_214.out _; (with_reducible repeat (first | refine blk_drewN ?_ _ | refine blk_drew ?_ | refine blk_alloc ?_ _)); exact BK212.out⟩, ⟨by (with_reducible repeat (first | refine blk_drewN ?_ _ | refine blk_drew ?_ | refine blk_alloc ?_ _)); refine blk_put (cs := #[.int .i64 ((rd_T49 l1 x10_1).f0), .int .i64 0]) ?_ 1 _ rfl; (with_reducible repeat (first | refine blk_drewN ?_ _ | refine blk_drew ?_ | refine blk_alloc ?_ _)); refine blk_put (cs := #[.int .i64 0, .int .i64 0]) ?_ 0 _ rfl; (with_reducible repeat (first | refine blk_drewN ?_ _ | refine blk_drew ?_ | refine blk_alloc ?_ _)); exact BK214.out⟩, ⟨pc HB.out GE212.out GE214.out⟩⟩
      ·
       rw [if_neg c11] at H
       have c11b0 : decide (0 ≤ ((rd_T49 l1 x10_1).f1)) = false := decide_eq_false c11
       clear c11
       (first | rw [c11b0] | (simp only [i64_w, i32_w]; rw [c11b0]) | skip)
       have H' := Aside0.mk H
       clear H
       have hnb15 := NB214_212.out
       have hnc15 := NB212_214.out
       obtain ⟨hcz16_0, hcz16_1, hfz16_0, hfz16_1⟩ := cz2 BK214.out
       go_wp2
       go_meet
       case rel => exact ⟨_, (false), rr, H', ⟨by have := HK1.out; first | omega | exact Nat.le_refl _⟩, ⟨by (with_reducible repeat (first | apply Kd.R_alloc | apply Kd.R_drewN | apply Kd.R_drew)); exact Kd.R_mono (Kd.R_far (p := ⟨gb214, 1, none⟩) (Kd.R_far (p := ⟨gb214, 0, none⟩) (Kd.R_types HO_7.out BK214.out (by decide)) (fun _ hk => hk.2) (.int .i64 ((rd_T49 l1 x10_1).f0))) (fun _ hk => hk.2) (.int .i64 ((rd_T49 l1 x10_1).f1))) (fun _ hk => trivial)⟩, ⟨by (with_reducible repeat (first | refine blk_drewN ?_ _ | refine blk_drew ?_ | refine blk_alloc ?_ _)); refine blk_far ?_ NB212_214.out _; (with_reducible repeat (first | refine blk_drewN ?_ _ | refine blk_drew ?_ | refine blk_alloc ?_ _)); refine blk_far ?_ NB212_214.out _; (with_reducible repeat (first | refine blk_drewN ?_ _ | refine blk_drew ?_ | refine blk_alloc ?_ _)); exact BK212.out⟩, ⟨by (with_reducible repeat (first | refine blk_drewN ?_ _ | refine blk_drew ?_ | refine blk_alloc ?_ _)); refine blk_put (cs := #[.int .i64 ((rd_T49 l1 x10_1).f0), .int .i64 0]) ?_ 1 _ rfl; (with_reducible repeat (first | refine blk_drewN ?_ _ | refine blk_drew ?_ | refine blk_alloc ?_ _)); refine blk_put (cs := #[.int .i64 0, .int .i64 0]) ?_ 0 _ rfl; (with_reducible repeat (first | refine blk_drewN ?_ _ | refine blk_drew ?_ | refine blk_alloc ?_ _)); exact BK214.out⟩, ⟨pc HB.out GE212.out GE214.out⟩⟩
     case rest => as_aux_lemma =>
      clear HC6
      try clear c1
      try clear c4
      try clear c4b0
      try clear c5
      try clear c5b0
      try clear hcz10_0
      try clear hcz10_1
      try clear hcz10_2
      try clear hcz9_0
      try clear hcz9_1
      try clear hfz10_0
      try clear hfz10_1
      try clear hfz10_2
      try clear hfz9_0
      try clear hfz9_1
      try clear hx213_0
      try clear hx213_1
      try clear p213
      try clear q213
      obtain ⟨kq, x13_5, rfl, HA, HJ5, HO_7, BK212, BK214, HB⟩ := hcut
      cases kq with
      | zero => exact absurd HA.out (by simp [emendateref36_Run.j1])
      | succ kj5 =>
       have H := HA.out
       clear HA
       simp only [emendateref36_Run.j1] at H
       have HC17 := Aside0.mk H
       clear H
       go_upto_region 10 with (fail)
       go_cut [40] (fun v40 wc => ∃ (kq : Nat) (x40_16 : Bool), v40 = .bool x40_16 ∧ Aside0 (emendateref36_Run.j2 kq l1 x7_1 x8_1 x9_1 x10_1 (decide (x9_1 < (l0_0.length : Int))) x13_5 x40_16 l0_0 l0_1 a0_2 ((rd_T49 l1 x10_1).f0) ((rd_T49 l1 x10_1).f1) = some (r1, r2, r3)) ∧ Aside0 (kq ≤ kj5) ∧ Aside0 (Kd.R (Kd.int .i64) 3 wc w.heap.size (fun _ => True) u7 x7_1) ∧ Aside0 (wc.heap[gb212]? = some (.cells #[(.slice A0_0 l0_0.length c0_0), (.slice A0_1 l0_1.length c0_1), .int .i64 a0_2] 25 (0, 0))) ∧ Aside0 (wc.heap[gb214]? = some (.cells #[.int .i64 ((rd_T49 l1 x10_1).f0), .int .i64 ((rd_T49 l1 x10_1).f1)] 49 (0, 0))) ∧ Aside0 (Below w.heap.size w wc))
       case first => as_aux_lemma =>
        have H := HC17.out
        clear HC17
        by_cases c18 : ((rd_T49 l1 x10_1).f0) = 1
        ·
         rw [if_pos c18] at H
         have c18b0 : (((rd_T49 l1 x10_1).f0) == 1) = true := beq_iff_eq.mpr c18
         have c18b1 : (((rd_T49 l1 x10_1).f0) != 1) = false := bne_eq_false_iff_eq.mpr c18
         clear c18
         (first | rw [c18b0] | (simp only [i64_w, i32_w]; rw [c18b0]) | skip)
         by_cases c19 : (decide (x9_1 < (l0_0.length : Int))) = true
         ·
          rw [if_pos c19] at H
          have c19b0 : (decide (x9_1 < (l0_0.length : Int))) = true := c19
          clear c19
          by_cases c20 : x13_5 = true
          ·
           subst c20
           have H1 : (if 0 ≤ x9_1 then (if x9_1 < (l0_0.length : Int) then (if 0 ≤ ((rd_T49 l1 x10_1).f1) then (if ((rd_T49 l1 x10_1).f1) < (((rd_T33 l0_0 x9_1).f1).length : Int) then (emendateref36_Run.j2 kj5 l1 x7_1 x8_1 x9_1 x10_1 (decide (x9_1 < (l0_0.length : Int))) true (decide ((rd ((rd_T33 l0_0 x9_1).f1) ((rd_T49 l1 x10_1).f1)) ≥ 0)) l0_0 l0_1 a0_2 ((rd_T49 l1 x10_1).f0) ((rd_T49 l1 x10_1).f1)) else (none)) else (none)) else (none)) else (none)) = some (r1, r2, r3) := by rw [if_pos rfl] at H; exact H
           clear H
           have H := H1
           clear H1
           by_cases c21 : 0 ≤ x9_1
           ·
            rw [if_pos c21] at H
            have c21b0 : decide (0 ≤ x9_1) = true := decide_eq_true c21
            clear c21
            by_cases c22 : x9_1 < (l0_0.length : Int)
            ·
             rw [if_pos c22] at H
             have c22b0 : decide (x9_1 < (l0_0.length : Int)) = true := decide_eq_true c22
             clear c22
             by_cases c23 : 0 ≤ ((rd_T49 l1 x10_1).f1)
             ·
              rw [if_pos c23] at H
              have c23b0 : decide (0 ≤ ((rd_T49 l1 x10_1).f1)) = true := decide_eq_true c23
              clear c23
              by_cases c24 : ((rd_T49 l1 x10_1).f1) < (((rd_T33 l0_0 x9_1).f1).length : Int)
              ·
               rw [if_pos c24] at H
               have c24b0 : decide (((rd_T49 l1 x10_1).f1) < (((rd_T33 l0_0 x9_1).f1).length : Int)) = true := decide_eq_true c24
               clear c24
               have H' := Aside0.mk H
               clear H
               try go_wp2
               replace HO_7 := Aside0.mk (Kd.R_drew HO_7.out)
               replace BK212 := Aside0.mk (blk_drew BK212.out)
               replace BK214 := Aside0.mk (blk_drew BK214.out)
               replace HB := Aside0.mk (below_drew1 HB.out)
               have p215 : 0 ≤ (x9_1 : Int) := od
               have q215 : x9_1 < (l0_0.length : Int) := od
               obtain ⟨ad215, A215_1, c215_1, e215, hx215_0, hx215_1, hx215_2, hl215_1, hi215_1⟩ := at_T33 HR0_0.out x9_1 p215 q215
               have hw215_2 := hx215_2
               have hw215_1 := hx215_1
               have hw215_0 := hx215_0
               cases e215
               replace hx215_0 := bc HB.out hx215_0
               replace hx215_1 := bc HB.out hx215_1
               replace hx215_2 := bc HB.out hx215_2
               have HR215_1 := Aside0.mk hi215_1
               have HC215_1 := Aside0.mk hl215_1
               clear hi215_1 hl215_1
               replace p215 := eq_true p215
               replace q215 := eq_true q215
               have p216 : 0 ≤ (((rd_T49 l1 x10_1).f1) : Int) := od
               have q216 : ((rd_T49 l1 x10_1).f1) < (((rd_T33 l0_0 x9_1).f1).length : Int) := od
               obtain ⟨ad216, e216, hx216_0⟩ := Kd.at_int HR215_1.out ((rd_T49 l1 x10_1).f1) p216 q216
               have hw216_0 := hx216_0
               cases e216
               replace hx216_0 := bc HB.out hx216_0
               replace p216 := eq_true p216
               replace q216 := eq_true q216
               refine start_ (n := 23) (S := fun w' => w'.cell? ⟨gb214, 0, none⟩ = some (.int .i64 ((rd_T49 l1 x10_1).f0)) ∧ w'.cell? ⟨gb214, 1, none⟩ = some (.int .i64 ((rd_T49 l1 x10_1).f1)) ∧ w'.cell? ⟨gb212, 0, none⟩ = some (.slice (some ad215) l0_0.length c0_0) ∧ w'.cell? ⟨gb212, 1, none⟩ = some (.slice A0_1 l0_1.length c0_1) ∧ w'.cell? ⟨gb212, 2, none⟩ = some (.int .i64 a0_2) ∧ w'.cell? (ad215.add ((x9_1).toNat * 3)) = some (.int .i64 ((rd_T33 l0_0 x9_1).f0)) ∧ w'.cell? ⟨(ad215.add ((x9_1).toNat * 3)).block, (ad215.add ((x9_1).toNat * 3)).off + 1, none⟩ = some (.slice (some ad216) ((rd_T33 l0_0 x9_1).f1).length c215_1) ∧ w'.cell? ⟨(ad215.add ((x9_1).toNat * 3)).block, (ad215.add ((x9_1).toNat * 3)).off + 2, none⟩ = some (.int .i64 ((rd_T33 l0_0 x9_1).f2)) ∧ w'.cell? (ad216.add (((rd_T49 l1 x10_1).f1)).toNat) = some (.int .i64 (rd ((rd_T33 l0_0 x9_1).f1) ((rd_T49 l1 x10_1).f1)))) (ds := []) #[ff,ff,ff,ff,ff,ff,ff,ff,ff,ff,ff,ff,ff,ff,ff,ff,ff,ff,ff,ff,ff,ff,ff] (by kernel_rfl) rfl rfl ⟨(blk_cell BK214.out 0).trans rfl, (blk_cell BK214.out 1).trans rfl, (blk_cell BK212.out 0).trans rfl, (blk_cell BK212.out 1).trans rfl, (blk_cell BK212.out 2).trans rfl, (bc HB.out hw215_0), (bc HB.out hw215_1), (bc HB.out hw215_2), (bc HB.out hw216_0)⟩ (fun hHeld => ?_); refine with_tabW emendateref36_Run.tab10 emendateref36_Run.bits10 (fun HT_ HW_ => ?_)
               generalize wc.drew = w25 at HO_7 BK212 BK214 HB HR215_1 hx215_0 hx215_1 hx215_2 hx216_0 hHeld ⊢
               refine pu 0 41 ?_
               refine tu 1 42 hHeld ?_
               refine pu 2 43 ?_
               refine pu 3 44 ?_
               refine pu 4 45 ?_
               refine pu 5 46 ?_
               refine pu 6 47 ?_
               refine pu 7 48 ?_
               refine pu 8 49 ?_
               refine pu 9 50 ?_
               refine pu 10 51 ?_
               refine pu 12 53 ?_
               refine pu 16 57 ?_
               refine tu 11 52 hHeld ?_
               refine pu 13 54 ?_
               refine pu 14 55 ?_
               refine tu 15 56 hHeld ?_
               refine tu 17 58 hHeld ?_
               refine pu 18 59 ?_
               refine tu 19 60 hHeld ?_
               refine pu 20 61 ?_
               refine pu 21 62 ?_
               refine pu 22 40 ?_
               refine done_ (done_of HT_.out (by kernel_rfl)) ?_
               try go_wp2
               go_meet
               case rel => exact ⟨_, (decide ((rd ((rd_T33 l0_0 x9_1).f1) ((rd_T49 l1 x10_1).f1)) ≥ 0)), rr, H', ⟨by have := HK1.out; have := HJ5.out; first | omega | exact Nat.le_refl _⟩, ⟨by (with_reducible repeat (first | apply Kd.R_alloc | apply Kd.R_drewN | apply Kd.R_drew)); exact HO_7.out⟩, ⟨by (with_reducible repeat (first | refine blk_drewN ?_ _ | refine blk_drew ?_ | refine blk_alloc ?_ _)); exact BK212.out⟩, ⟨by (with_reducible repeat (first | refine blk_drewN ?_ _ | refine blk_drew ?_ | refine blk_alloc ?_ _)); exact BK214.out⟩, ⟨pc HB.out GE212.out GE214.out⟩⟩
              ·
               rw [if_neg c24] at H
               exact absurd H (by simp)
             ·
              rw [if_neg c23] at H
              exact absurd H (by simp)
            ·
             rw [if_neg c22] at H
             exact absurd H (by simp)
           ·
            rw [if_neg c21] at H
            exact absurd H (by simp)
          ·
           replace c20 := Bool.eq_false_iff.mpr c20
           subst c20
           have H1 : (emendateref36_Run.j2 kj5 l1 x7_1 x8_1 x9_1 x10_1 (decide (x9_1 < (l0_0.length : Int))) false false l0_0 l0_1 a0_2 ((rd_T49 l1 x10_1).f0) ((rd_T49 l1 x10_1).f1)) = some (r1, r2, r3) := by rw [if_neg (show ¬ (false = true) by decide)] at H; exact H
           clear H
           have H := H1
           clear H1
           have H' := Aside0.mk H
           clear H
           try go_wp2
           replace HO_7 := Aside0.mk (Kd.R_drew HO_7.out)
           replace BK212 := Aside0.mk (blk_drew BK212.out)
           replace BK214 := Aside0.mk (blk_drew BK214.out)
           replace HB := Aside0.mk (below_drew1 HB.out)
           refine start_ (n := 23) (S := fun w' => w'.cell? ⟨gb214, 0, none⟩ = some (.int .i64 ((rd_T49 l1 x10_1).f0)) ∧ w'.cell? ⟨gb214, 1, none⟩ = some (.int .i64 ((rd_T49 l1 x10_1).f1))) (ds := []) #[ff,ff,ff,ff,ff,ff,ff,ff,ff,ff,ff,ff,ff,ff,ff,ff,ff,ff,ff,ff,ff,ff,ff] (by kernel_rfl) rfl rfl ⟨(blk_cell BK214.out 0).trans rfl, (blk_cell BK214.out 1).trans rfl⟩ (fun hHeld => ?_); refine with_tabW emendateref36_Run.tab10 emendateref36_Run.bits10 (fun HT_ HW_ => ?_)
           generalize wc.drew = w26 at HO_7 BK212 BK214 HB hHeld ⊢
           refine pu 0 41 ?_
           refine tu 1 42 hHeld ?_
           refine pu 2 43 ?_
           refine pu 3 44 ?_
           refine pu 4 45 ?_
           refine pu 5 46 ?_
           refine pu 6 47 ?_
           refine pu 7 48 ?_
           refine pu 8 49 ?_
           refine pu 9 50 ?_
           refine qu 10 51 ?_
           refine qu 11 52 ?_
           refine qu 12 53 ?_
           refine qu 13 54 ?_
           refine qu 14 55 ?_
           refine qu 15 56 ?_
           refine qu 16 57 ?_
           refine qu 17 58 ?_
           refine qu 18 59 ?_
           refine qu 19 60 ?_
           refine qu 20 61 ?_
           refine pu 21 62 ?_
           refine pu 22 40 ?_
           refine done_ (done_of HT_.out (by kernel_rfl)) ?_
           try go_wp2
           go_meet
           case rel => exact ⟨_, (false), rr, H', ⟨by have := HK1.out; have := HJ5.out; first | omega | exact Nat.le_refl _⟩, ⟨by (with_reducible repeat (first | apply Kd.R_alloc | apply Kd.R_drewN | apply Kd.R_drew)); exact HO_7.out⟩, ⟨by (with_reducible repeat (first | refine blk_drewN ?_ _ | refine blk_drew ?_ | refine blk_alloc ?_ _)); exact BK212.out⟩, ⟨by (with_reducible repeat (first | refine blk_drewN ?_ _ | refine blk_drew ?_ | refine blk_alloc ?_ _)); exact BK214.out⟩, ⟨pc HB.out GE212.out GE214.out⟩⟩
         ·
          rw [if_neg c19] at H
          have c19b0 : (decide (x9_1 < (l0_0.length : Int))) = false := by simpa using c19
          clear c19
          have H' := Aside0.mk H
          clear H
          try go_wp2
          replace HO_7 := Aside0.mk (Kd.R_drew HO_7.out)
          replace BK212 := Aside0.mk (blk_drew BK212.out)
          replace BK214 := Aside0.mk (blk_drew BK214.out)
          replace HB := Aside0.mk (below_drew1 HB.out)
          refine start_ (n := 23) (S := fun w' => w'.cell? ⟨gb214, 0, none⟩ = some (.int .i64 ((rd_T49 l1 x10_1).f0)) ∧ w'.cell? ⟨gb214, 1, none⟩ = some (.int .i64 ((rd_T49 l1 x10_1).f1))) (ds := []) #[ff,ff,ff,ff,ff,ff,ff,ff,ff,ff,ff,ff,ff,ff,ff,ff,ff,ff,ff,ff,ff,ff,ff] (by kernel_rfl) rfl rfl ⟨(blk_cell BK214.out 0).trans rfl, (blk_cell BK214.out 1).trans rfl⟩ (fun hHeld => ?_); refine with_tabW emendateref36_Run.tab10 emendateref36_Run.bits10 (fun HT_ HW_ => ?_)
          generalize wc.drew = w27 at HO_7 BK212 BK214 HB hHeld ⊢
          refine pu 0 41 ?_
          refine tu 1 42 hHeld ?_
          refine pu 2 43 ?_
          refine pu 3 44 ?_
          refine pu 4 45 ?_
          refine pu 5 46 ?_
          refine pu 6 47 ?_
          refine qu 7 48 ?_
          refine pu 8 49 ?_
          refine pu 9 50 ?_
          refine qu 10 51 ?_
          refine qu 11 52 ?_
          refine qu 12 53 ?_
          refine qu 13 54 ?_
          refine qu 14 55 ?_
          refine qu 15 56 ?_
          refine qu 16 57 ?_
          refine qu 17 58 ?_
          refine qu 18 59 ?_
          refine qu 19 60 ?_
          refine qu 20 61 ?_
          refine pu 21 62 ?_
          refine pu 22 40 ?_
          refine done_ (done_of HT_.out (by kernel_rfl)) ?_
          try go_wp2
          go_meet
          case rel => exact ⟨_, (false), rr, H', ⟨by have := HK1.out; have := HJ5.out; first | omega | exact Nat.le_refl _⟩, ⟨by (with_reducible repeat (first | apply Kd.R_alloc | apply Kd.R_drewN | apply Kd.R_drew)); exact HO_7.out⟩, ⟨by (with_reducible repeat (first | refine blk_drewN ?_ _ | refine blk_drew ?_ | refine blk_alloc ?_ _)); exact BK212.out⟩, ⟨by (with_reducible repeat (first | refine blk_drewN ?_ _ | refine blk_drew ?_ | refine blk_alloc ?_ _)); exact BK214.out⟩, ⟨pc HB.out GE212.out GE214.out⟩⟩
        ·
         rw [if_neg c18] at H
         have c18b0 : (((rd_T49 l1 x10_1).f0) == 1) = false := beq_eq_false_iff_ne.mpr c18
         have c18b1 : (((rd_T49 l1 x10_1).f0) != 1) = true := bne_iff_ne.mpr c18
         (first | rw [c18b0] | (simp only [i64_w, i32_w]; rw [c18b0]) | skip)
         have H' := Aside0.mk H
         clear H
         try go_wp2
         replace HO_7 := Aside0.mk (Kd.R_drew HO_7.out)
         replace BK212 := Aside0.mk (blk_drew BK212.out)
         replace BK214 := Aside0.mk (blk_drew BK214.out)
         replace HB := Aside0.mk (below_drew1 HB.out)
         refine start_ (n := 23) (S := fun w' => w'.cell? ⟨gb214, 0, none⟩ = some (.int .i64 ((rd_T49 l1 x10_1).f0)) ∧ w'.cell? ⟨gb214, 1, none⟩ = some (.int .i64 ((rd_T49 l1 x10_1).f1))) (ds := []) #[ff,ff,ff,ff,ff,ff,ff,ff,ff,ff,ff,ff,ff,ff,ff,ff,ff,ff,ff,ff,ff,ff,ff] (by kernel_rfl) rfl rfl ⟨(blk_cell BK214.out 0).trans rfl, (blk_cell BK214.out 1).trans rfl⟩ (fun hHeld => ?_); refine with_tabW emendateref36_Run.tab10 emendateref36_Run.bits10 (fun HT_ HW_ => ?_)
         generalize wc.drew = w28 at HO_7 BK212 BK214 HB hHeld ⊢
         refine pu 0 41 ?_
         refine tu 1 42 hHeld ?_
         refine pu 2 43 ?_
         refine pu 3 44 ?_
         refine qu 4 45 ?_
         refine pu 5 46 ?_
         refine pu 6 47 ?_
         refine qu 7 48 ?_
         refine pu 8 49 ?_
         refine pu 9 50 ?_
         refine qu 10 51 ?_
         refine qu 11 52 ?_
         refine qu 12 53 ?_
         refine qu 13 54 ?_
         refine qu 14 55 ?_
         refine qu 15 56 ?_
         refine qu 16 57 ?_
         refine qu 17 58 ?_
         refine qu 18 59 ?_
         refine qu 19 60 ?_
         refine qu 20 61 ?_
         refine pu 21 62 ?_
         refine pu 22 40 ?_
         refine done_ (done_of HT_.out (by kernel_rfl)) ?_
         try go_wp2
         go_meet
         case rel => exact ⟨_, (false), rr, H', ⟨by have := HK1.out; have := HJ5.out; first | omega | exact Nat.le_refl _⟩, ⟨by (with_reducible repeat (first | apply Kd.R_alloc | apply Kd.R_drewN | apply Kd.R_drew)); exact HO_7.out⟩, ⟨by (with_reducible repeat (first | refine blk_drewN ?_ _ | refine blk_drew ?_ | refine blk_alloc ?_ _)); exact BK212.out⟩, ⟨by (with_reducible repeat (first | refine blk_drewN ?_ _ | refine blk_drew ?_ | refine blk_alloc ?_ _)); exact BK214.out⟩, ⟨pc HB.out GE212.out GE214.out⟩⟩
       case rest => as_aux_lemma =>
        clear HC17
        try clear c1
        obtain ⟨kq, x40_16, rfl, HA, HJ16, HO_7, BK212, BK214, HB⟩ := hcut
        cases kq with
        | zero => exact absurd HA.out (by simp [emendateref36_Run.j2])
        | succ kj16 =>
         have H := HA.out
         clear HA
         simp only [emendateref36_Run.j2] at H
         by_cases c29 : x40_16 = true
         ·
          subst c29
          have H1 : (if x7_1.length < 17592186044416 then (if 0 ≤ x9_1 then (if x9_1 < (l0_0.length : Int) then (if 0 ≤ ((rd_T49 l1 x10_1).f1) then (if ((rd_T49 l1 x10_1).f1) < (((rd_T33 l0_0 x9_1).f1).length : Int) then ((emendateref36_plus.f x8_1 (rd ((rd_T33 l0_0 x9_1).f1) ((rd_T49 l1 x10_1).f1))).bind fun t222 => (emendateref36_Run.l0 kj16 l1 (x7_1 ++ [((rd_T49 l1 x10_1).f1)]) t222 (wrap64 (x9_1 + 1)) (wrap64 (x10_1 + 1)) l0_0 l0_1 a0_2)) else (none)) else (none)) else (none)) else (none)) else (none)) = some (r1, r2, r3) := by rw [if_pos rfl] at H; exact H
          clear H
          have H := H1
          clear H1
          by_cases c30 : x7_1.length < 17592186044416
          ·
           rw [if_pos c30] at H
           have LMc30 := Aside0.mk c30
           clear c30
           obtain ⟨y217, hy217⟩ : ∃ y_ : List Int, y_ = (x7_1 ++ [((rd_T49 l1 x10_1).f1)]) := ⟨_, rfl⟩
           replace H : (if 0 ≤ x9_1 then (if x9_1 < (l0_0.length : Int) then (if 0 ≤ ((rd_T49 l1 x10_1).f1) then (if ((rd_T49 l1 x10_1).f1) < (((rd_T33 l0_0 x9_1).f1).length : Int) then ((emendateref36_plus.f x8_1 (rd ((rd_T33 l0_0 x9_1).f1) ((rd_T49 l1 x10_1).f1))).bind fun t222 => (emendateref36_Run.l0 kj16 l1 y217 t222 (wrap64 (x9_1 + 1)) (wrap64 (x10_1 + 1)) l0_0 l0_1 a0_2)) else (none)) else (none)) else (none)) else (none)) = some (r1, r2, r3) := by first | (rw [hy217]; with_reducible exact H) | (have H2_ := (Option.bind_some _ _).symm.trans H; rw [hy217]; with_reducible exact H2_) | (have H2_ := (Option.bind_some _ _).symm.trans H; with_reducible exact H2_) | with_reducible exact H | (rw [hy217]; exact H) | exact H
           have Ny217 := Aside0.mk hy217
           clear hy217
           by_cases c31 : 0 ≤ x9_1
           ·
            rw [if_pos c31] at H
            have c31b0 : decide (0 ≤ x9_1) = true := decide_eq_true c31
            clear c31
            by_cases c32 : x9_1 < (l0_0.length : Int)
            ·
             rw [if_pos c32] at H
             have c32b0 : decide (x9_1 < (l0_0.length : Int)) = true := decide_eq_true c32
             clear c32
             by_cases c33 : 0 ≤ ((rd_T49 l1 x10_1).f1)
             ·
              rw [if_pos c33] at H
              have c33b0 : decide (0 ≤ ((rd_T49 l1 x10_1).f1)) = true := decide_eq_true c33
              clear c33
              by_cases c34 : ((rd_T49 l1 x10_1).f1) < (((rd_T33 l0_0 x9_1).f1).length : Int)
              ·
               rw [if_pos c34] at H
               have c34b0 : decide (((rd_T49 l1 x10_1).f1) < (((rd_T33 l0_0 x9_1).f1).length : Int)) = true := decide_eq_true c34
               clear c34
               replace H := Option.bind_eq_some_iff.mp H
               obtain ⟨t222, A350, H⟩ := H
               replace H : (emendateref36_Run.l0 kj16 l1 y217 t222 (wrap64 (x9_1 + 1)) (wrap64 (x10_1 + 1)) l0_0 l0_1 a0_2) = some (r1, r2, r3) := H
               have A35 := Aside0.mk A350
               clear A350
               have H' := Aside0.mk H
               clear H
               have hnb36 := NB214_212.out
               have hnc36 := NB212_214.out
               obtain ⟨hcz37_0, hcz37_1, hfz37_0, hfz37_1⟩ := cz2 BK214.out
               try go_wp2_with (first | ((with_reducible refine gate_builtin (b := .append) (xs := #[.tmp 63, .tmp 66]) rfl ?_); (try (refine gate_guard (by rfl) ?_; dsimp only)); at_builtin; refine Kd.R_append (Kd.int .i64) (w0 := w) w.heap.size rfl (.tmp 63) (.tmp 66) 23 3 (.int .i64 0) 8 rfl Tryd.underlying23 info3 rfl (by decide) (by omega) u7 x7_1 ((rd_T49 l1 x10_1).f1) [.int .i64 ((rd_T49 l1 x10_1).f1)] (fun _ => True) (fun _ => False) rfl rfl ?aP (fun _ hk => hk.elim) ?aF ?aO ?aB ?aS ?aL ?_; (case aP => exact rfl); (case aB => exact (pc HB.out GE212.out GE214.out)); (case aF => exact (fun _ _ => trivial)); (case aO => exact (pR HO_7.out)); (case aS => exact (below_size (pc HB.out GE212.out GE214.out))); (case aL => have := LMc30.out; omega); intro v218 w38 ho hb hg hat; rw [← Ny217.out] at ho; replace BK212 := Aside0.mk (blk_grown (g := gb212) (o := .cells #[.slice A0_0 l0_0.length c0_0, .slice A0_1 l0_1.length c0_1, .int .i64 a0_2] 25 (0, 0)) (pk BK212.out) hg (Kd.R_ne HO_7.out BK212.out (by decide))); replace BK214 := Aside0.mk (blk_grown (g := gb214) (o := .cells #[.int .i64 ((rd_T49 l1 x10_1).f0), .int .i64 ((rd_T49 l1 x10_1).f1)] 49 (0, 0)) (pk BK214.out) hg (Kd.R_ne HO_7.out BK214.out (by decide))); replace HB := Aside0.mk (hb); have HO219 := Aside0.mk (ho); clear HO_7; clear ho hb hg hat))
               replace HO219 := Aside0.mk (Kd.R_drew HO219.out)
               replace BK212 := Aside0.mk (blk_drew BK212.out)
               replace BK214 := Aside0.mk (blk_drew BK214.out)
               replace HB := Aside0.mk (below_drew1 HB.out)
               have p220 : 0 ≤ (x9_1 : Int) := od
               have q220 : x9_1 < (l0_0.length : Int) := od
               obtain ⟨ad220, A220_1, c220_1, e220, hx220_0, hx220_1, hx220_2, hl220_1, hi220_1⟩ := at_T33 HR0_0.out x9_1 p220 q220
               have hw220_2 := hx220_2
               have hw220_1 := hx220_1
               have hw220_0 := hx220_0
               cases e220
               replace hx220_0 := bc HB.out hx220_0
               replace hx220_1 := bc HB.out hx220_1
               replace hx220_2 := bc HB.out hx220_2
               have HR220_1 := Aside0.mk hi220_1
               have HC220_1 := Aside0.mk hl220_1
               clear hi220_1 hl220_1
               replace p220 := eq_true p220
               replace q220 := eq_true q220
               have p221 : 0 ≤ (((rd_T49 l1 x10_1).f1) : Int) := od
               have q221 : ((rd_T49 l1 x10_1).f1) < (((rd_T33 l0_0 x9_1).f1).length : Int) := od
               obtain ⟨ad221, e221, hx221_0⟩ := Kd.at_int HR220_1.out ((rd_T49 l1 x10_1).f1) p221 q221
               have hw221_0 := hx221_0
               cases e221
               replace hx221_0 := bc HB.out hx221_0
               replace p221 := eq_true p221
               replace q221 := eq_true q221
               refine start_ (n := 13) (S := fun w' => w'.cell? ⟨gb212, 0, none⟩ = some (.slice (some ad220) l0_0.length c0_0) ∧ w'.cell? ⟨gb212, 1, none⟩ = some (.slice A0_1 l0_1.length c0_1) ∧ w'.cell? ⟨gb212, 2, none⟩ = some (.int .i64 a0_2) ∧ w'.cell? ⟨gb214, 0, none⟩ = some (.int .i64 ((rd_T49 l1 x10_1).f0)) ∧ w'.cell? ⟨gb214, 1, none⟩ = some (.int .i64 ((rd_T49 l1 x10_1).f1)) ∧ w'.cell? (ad220.add ((x9_1).toNat * 3)) = some (.int .i64 ((rd_T33 l0_0 x9_1).f0)) ∧ w'.cell? ⟨(ad220.add ((x9_1).toNat * 3)).block, (ad220.add ((x9_1).toNat * 3)).off + 1, none⟩ = some (.slice (some ad221) ((rd_T33 l0_0 x9_1).f1).length c220_1) ∧ w'.cell? ⟨(ad220.add ((x9_1).toNat * 3)).block, (ad220.add ((x9_1).toNat * 3)).off + 2, none⟩ = some (.int .i64 ((rd_T33 l0_0 x9_1).f2)) ∧ w'.cell? (ad221.add (((rd_T49 l1 x10_1).f1)).toNat) = some (.int .i64 (rd ((rd_T33 l0_0 x9_1).f1) ((rd_T49 l1 x10_1).f1)))) (ds := []) #[ff,ff,ff,ff,ff,ff,ff,ff,ff,ff,ff,ff,ff] (by kernel_rfl) rfl rfl ⟨(blk_cell BK212.out 0).trans rfl, (blk_cell BK212.out 1).trans rfl, (blk_cell BK212.out 2).trans rfl, (blk_cell BK214.out 0).trans rfl, (blk_cell BK214.out 1).trans rfl, (bc HB.out hw220_0), (bc HB.out hw220_1), (bc HB.out hw220_2), (bc HB.out hw221_0)⟩ (fun hHeld => ?_); refine with_tabW emendateref36_Run.tab12 emendateref36_Run.bits12 (fun HT_ HW_ => ?_)
               generalize w38.drew = w39 at HO219 BK212 BK214 HB HR220_1 hx220_0 hx220_1 hx220_2 hx221_0 hHeld ⊢
               refine pu 0 68 ?_
               refine pu 1 69 ?_
               refine pu 3 71 ?_
               refine pu 7 75 ?_
               refine tu 2 70 hHeld ?_
               refine pu 4 72 ?_
               refine pu 5 73 ?_
               refine tu 6 74 hHeld ?_
               refine tu 8 76 hHeld ?_
               refine pu 9 77 ?_
               refine tu 10 78 hHeld ?_
               refine one_ (i := 11) (N := some 79) #[tt,tt,tt,tt,tt,tt,tt,tt,tt,tt,tt,tt,ff] rfl rfl (one_of HT_.out (by kernel_rfl)) (by decide) (fun K hK => ?_)
               refine goes_ Tryd.func33 (by kernel_rfl) rfl #[.int .i64 x8_1, .int .i64 (rd ((rd_T33 l0_0 x9_1).f1) ((rd_T49 l1 x10_1).f1))] (by rfl) rfl rfl (by (try simp only [List.map_toArray, List.map_cons, List.map_nil]); first | done | rfl | (simp only [List.length_drop, List.length_take]; rfl)) ?_
               with_reducible refine (emendateref36_plus.calls x8_1 (rd ((rd_T33 l0_0 x9_1).f1) ((rd_T49 l1 x10_1).f1)) t222 _ A35.out).mono ?_
               rintro e w40 ⟨rfl, hb⟩
               refine ⟨_, rfl, ?_⟩
               replace HO219 := Aside0.mk (Kd.R_below (pR HO219.out) hb)
               replace BK212 := Aside0.mk (bb BK212.out hb)
               replace BK214 := Aside0.mk (bb BK214.out hb)
               replace HB := Aside0.mk (below_step (pc HB.out GE212.out GE214.out) hb)
               (try clear hb)
               (try clear hk)
               refine hK.out _ _ ⟨(blk_cell BK212.out 0).trans rfl, (blk_cell BK212.out 1).trans rfl, (blk_cell BK212.out 2).trans rfl, (blk_cell BK214.out 0).trans rfl, (blk_cell BK214.out 1).trans rfl, (bc HB.out hw220_0), (bc HB.out hw220_1), (bc HB.out hw220_2), (bc HB.out hw221_0)⟩ (fun hHeld => ?_)
               clear hK K
               refine norm_ (a' := ?_) ?_ ?_
               rotate_left
               ·
                show Act.put _ (some 79) _ = _
                simp only [nrm]
                rfl
               refine pu 12 8 ?_
               refine done_ (done_of HT_.out (by kernel_rfl)) ?_
               try go_wp2
               go_roundg kj16
               case measure => have := HK1.out; have := HJ5.out; have := HJ16.out; omega
               case rel => exact ⟨(y217), (t222), (wrap64 (x9_1 + 1)), (wrap64 (x10_1 + 1)), rr, rr, rr, H', ⟨by have := HK1.out; have := HJ5.out; have := HJ16.out; omega⟩, ⟨by (with_reducible repeat (first | apply Kd.R_alloc | apply Kd.R_drewN | apply Kd.R_drew)); exact HO219.out⟩, ⟨by (with_reducible repeat (first | refine blk_drewN ?_ _ | refine blk_drew ?_ | refine blk_alloc ?_ _)); exact BK212.out⟩, ⟨pc HB.out GE212.out GE214.out⟩⟩
              ·
               rw [if_neg c34] at H
               exact absurd H (by simp)
             ·
              rw [if_neg c33] at H
              exact absurd H (by simp)
            ·
             rw [if_neg c32] at H
             exact absurd H (by simp)
           ·
            rw [if_neg c31] at H
            exact absurd H (by simp)
          ·
           rw [if_neg c30] at H
           exact absurd H (by simp)
         ·
          replace c29 := Bool.eq_false_iff.mpr c29
          subst c29
          have H1 : (if ((rd_T49 l1 x10_1).f0) = 2 then (if (decide (x9_1 < (l0_0.length : Int))) = true then (if ((rd_T49 l1 x10_1).f1) = 0 then (if 0 ≤ x9_1 then (if x9_1 < (l0_0.length : Int) then (emendateref36_Run.j3 kj16 l1 x7_1 x8_1 x9_1 x10_1 x13_5 (decide (((rd_T33 l0_0 x9_1).f2) < 1099511627776)) l0_0 l0_1 a0_2 ((rd_T49 l1 x10_1).f0) ((rd_T49 l1 x10_1).f1)) else (none)) else (none)) else (emendateref36_Run.j3 kj16 l1 x7_1 x8_1 x9_1 x10_1 x13_5 false l0_0 l0_1 a0_2 ((rd_T49 l1 x10_1).f0) ((rd_T49 l1 x10_1).f1))) else (emendateref36_Run.j3 kj16 l1 x7_1 x8_1 x9_1 x10_1 x13_5 false l0_0 l0_1 a0_2 ((rd_T49 l1 x10_1).f0) ((rd_T49 l1 x10_1).f1))) else (emendateref36_Run.j3 kj16 l1 x7_1 x8_1 x9_1 x10_1 x13_5 false l0_0 l0_1 a0_2 ((rd_T49 l1 x10_1).f0) ((rd_T49 l1 x10_1).f1))) = some (r1, r2, r3) := by rw [if_neg (show ¬ (false = true) by decide)] at H; exact H
          clear H
          have H := H1
          clear H1
          have HC41 := Aside0.mk H
          clear H
          go_upto_region 14 with (fail)
          go_cut [82] (fun v82 wc => ∃ (kq : Nat) (x82_40 : Bool), v82 = .bool x82_40 ∧ Aside0 (emendateref36_Run.j3 kq l1 x7_1 x8_1 x9_1 x10_1 x13_5 x82_40 l0_0 l0_1 a0_2 ((rd_T49 l1 x10_1).f0) ((rd_T49 l1 x10_1).f1) = some (r1, r2, r3)) ∧ Aside0 (kq ≤ kj16) ∧ Aside0 (Kd.R (Kd.int .i64) 3 wc w.heap.size (fun _ => True) u7 x7_1) ∧ Aside0 (wc.heap[gb212]? = some (.cells #[(.slice A0_0 l0_0.length c0_0), (.slice A0_1 l0_1.length c0_1), .int .i64 a0_2] 25 (0, 0))) ∧ Aside0 (wc.heap[gb214]? = some (.cells #[.int .i64 ((rd_T49 l1 x10_1).f0), .int .i64 ((rd_T49 l1 x10_1).f1)] 49 (0, 0))) ∧ Aside0 (Below w.heap.size w wc))
          case first => as_aux_lemma =>
           have H := HC41.out
           clear HC41
           by_cases c42 : ((rd_T49 l1 x10_1).f0) = 2
           ·
            rw [if_pos c42] at H
            have c42b0 : (((rd_T49 l1 x10_1).f0) == 2) = true := beq_iff_eq.mpr c42
            have c42b1 : (((rd_T49 l1 x10_1).f0) != 2) = false := bne_eq_false_iff_eq.mpr c42
            clear c42
            (first | rw [c42b0] | (simp only [i64_w, i32_w]; rw [c42b0]) | skip)
            by_cases c43 : (decide (x9_1 < (l0_0.length : Int))) = true
            ·
             rw [if_pos c43] at H
             have c43b0 : (decide (x9_1 < (l0_0.length : Int))) = true := c43
             clear c43
             by_cases c44 : ((rd_T49 l1 x10_1).f1) = 0
             ·
              rw [if_pos c44] at H
              have c44b0 : (((rd_T49 l1 x10_1).f1) == 0) = true := beq_iff_eq.mpr c44
              have c44b1 : (((rd_T49 l1 x10_1).f1) != 0) = false := bne_eq_false_iff_eq.mpr c44
              clear c44
              by_cases c45 : 0 ≤ x9_1
              ·
               rw [if_pos c45] at H
               have c45b0 : decide (0 ≤ x9_1) = true := decide_eq_true c45
               clear c45
               by_cases c46 : x9_1 < (l0_0.length : Int)
               ·
                rw [if_pos c46] at H
                have c46b0 : decide (x9_1 < (l0_0.length : Int)) = true := decide_eq_true c46
                clear c46
                have H' := Aside0.mk H
                clear H
                have hnb47 := NB214_212.out
                have hnc47 := NB212_214.out
                obtain ⟨hcz48_0, hcz48_1, hfz48_0, hfz48_1⟩ := cz2 BK214.out
                obtain ⟨hcz49_0, hcz49_1, hcz49_2, hfz49_0, hfz49_1, hfz49_2⟩ := cz3 BK212.out
                have p223 : 0 ≤ (x9_1 : Int) := od
                have q223 : x9_1 < (l0_0.length : Int) := od
                obtain ⟨ad223, A223_1, c223_1, e223, hx223_0, hx223_1, hx223_2, hl223_1, hi223_1⟩ := at_T33 HR0_0.out x9_1 p223 q223
                cases e223
                replace hx223_0 := bc HB.out hx223_0
                replace hx223_1 := bc HB.out hx223_1
                replace hx223_2 := bc HB.out hx223_2
                have HR223_1 := Aside0.mk hi223_1
                have HC223_1 := Aside0.mk hl223_1
                clear hi223_1 hl223_1
                replace p223 := eq_true p223
                replace q223 := eq_true q223
                go_wp2
                go_meet
                case rel => exact ⟨_, (decide (((rd_T33 l0_0 x9_1).f2) < 1099511627776)), rr, H', ⟨by have := HK1.out; have := HJ5.out; have := HJ16.out; first | omega | exact Nat.le_refl _⟩, ⟨by (with_reducible repeat (first | apply Kd.R_alloc | apply Kd.R_drewN | apply Kd.R_drew)); exact HO_7.out⟩, ⟨by (with_reducible repeat (first | refine blk_drewN ?_ _ | refine blk_drew ?_ | refine blk_alloc ?_ _)); exact BK212.out⟩, ⟨by (with_reducible repeat (first | refine blk_drewN ?_ _ | refine blk_drew ?_ | refine blk_alloc ?_ _)); exact BK214.out⟩, ⟨pc HB.out GE212.out GE214.out⟩⟩
               ·
                rw [if_neg c46] at H
                exact absurd H (by simp)
              ·
               rw [if_neg c45] at H
               exact absurd H (by simp)
             ·
              rw [if_neg c44] at H
              have c44b0 : (((rd_T49 l1 x10_1).f1) == 0) = false := beq_eq_false_iff_ne.mpr c44
              have c44b1 : (((rd_T49 l1 x10_1).f1) != 0) = true := bne_iff_ne.mpr c44
              have H' := Aside0.mk H
              clear H
              have hnb50 := NB214_212.out
              have hnc50 := NB212_214.out
              obtain ⟨hcz51_0, hcz51_1, hfz51_0, hfz51_1⟩ := cz2 BK214.out
              go_wp2
              go_meet
              case rel => exact ⟨_, (false), rr, H', ⟨by have := HK1.out; have := HJ5.out; have := HJ16.out; first | omega | exact Nat.le_refl _⟩, ⟨by (with_reducible repeat (first | apply Kd.R_alloc | apply Kd.R_drewN | apply Kd.R_drew)); exact HO_7.out⟩, ⟨by (with_reducible repeat (first | refine blk_drewN ?_ _ | refine blk_drew ?_ | refine blk_alloc ?_ _)); exact BK212.out⟩, ⟨by (with_reducible repeat (first | refine blk_drewN ?_ _ | refine blk_drew ?_ | refine blk_alloc ?_ _)); exact BK214.out⟩, ⟨pc HB.out GE212.out GE214.out⟩⟩
            ·
             rw [if_neg c43] at H
             have c43b0 : (decide (x9_1 < (l0_0.length : Int))) = false := by simpa using c43
             clear c43
             have H' := Aside0.mk H
             clear H
             have hnb52 := NB214_212.out
             have hnc52 := NB212_214.out
             obtain ⟨hcz53_0, hcz53_1, hfz53_0, hfz53_1⟩ := cz2 BK214.out
             go_wp2
             go_meet
             case rel => exact ⟨_, (false), rr, H', ⟨by have := HK1.out; have := HJ5.out; have := HJ16.out; first | omega | exact Nat.le_refl _⟩, ⟨by (with_reducible repeat (first | apply Kd.R_alloc | apply Kd.R_drewN | apply Kd.R_drew)); exact HO_7.out⟩, ⟨by (with_reducible repeat (first | refine blk_drewN ?_ _ | refine blk_drew ?_ | refine blk_alloc ?_ _)); exact BK212.out⟩, ⟨by (with_reducible repeat (first | refine blk_drewN ?_ _ | refine blk_drew ?_ | refine blk_alloc ?_ _)); exact BK214.out⟩, ⟨pc HB.out GE212.out GE214.out⟩⟩
           ·
            rw [if_neg c42] at H
            have c42b0 : (((rd_T49 l1 x10_1).f0) == 2) = false := beq_eq_false_iff_ne.mpr c42
            have c42b1 : (((rd_T49 l1 x10_1).f0) != 2) = true := bne_iff_ne.mpr c42
            (first | rw [c42b0] | (simp only [i64_w, i32_w]; rw [c42b0]) | skip)
            have H' := Aside0.mk H
            clear H
            have hnb54 := NB214_212.out
            have hnc54 := NB212_214.out
            obtain ⟨hcz55_0, hcz55_1, hfz55_0, hfz55_1⟩ := cz2 BK214.out
            go_wp2
            go_meet
            case rel => exact ⟨_, (false), rr, H', ⟨by have := HK1.out; have := HJ5.out; have := HJ16.out; first | omega | exact Nat.le_refl _⟩, ⟨by (with_reducible repeat (first | apply Kd.R_alloc | apply Kd.R_drewN | apply Kd.R_drew)); exact HO_7.out⟩, ⟨by (with_reducible repeat (first | refine blk_drewN ?_ _ | refine blk_drew ?_ | refine blk_alloc ?_ _)); exact BK212.out⟩, ⟨by (with_reducible repeat (first | refine blk_drewN ?_ _ | refine blk_drew ?_ | refine blk_alloc ?_ _)); exact BK214.out⟩, ⟨pc HB.out GE212.out GE214.out⟩⟩
          case rest => as_aux_lemma =>
           clear HC41
           try clear c1
           try clear c4
           try clear c5
           try clear c29
           obtain ⟨kq, x82_40, rfl, HA, HJ40, HO_7, BK212, BK214, HB⟩ := hcut
           cases kq with
           | zero => exact absurd HA.out (by simp [emendateref36_Run.j3])
           | succ kj40 =>
            have H := HA.out
            clear HA
            simp only [emendateref36_Run.j3] at H
            by_cases c56 : x82_40 = true
            ·
             subst c56
             have H1 : (if 0 ≤ x9_1 then (if x9_1 < (l0_0.length : Int) then ((emendateref36_plus.f x8_1 ((rd_T33 l0_0 x9_1).f2)).bind fun t225 => (emendateref36_Run.l0 kj40 l1 x7_1 t225 (wrap64 (x9_1 + 1)) (wrap64 (x10_1 + 1)) l0_0 l0_1 a0_2)) else (none)) else (none)) = some (r1, r2, r3) := by rw [if_pos rfl] at H; exact H
             clear H
             have H := H1
             clear H1
             by_cases c57 : 0 ≤ x9_1
             ·
              rw [if_pos c57] at H
              have c57b0 : decide (0 ≤ x9_1) = true := decide_eq_true c57
              clear c57
              by_cases c58 : x9_1 < (l0_0.length : Int)
              ·
               rw [if_pos c58] at H
               have c58b0 : decide (x9_1 < (l0_0.length : Int)) = true := decide_eq_true c58
               clear c58
               replace H := Option.bind_eq_some_iff.mp H
               obtain ⟨t225, A590, H⟩ := H
               replace H : (emendateref36_Run.l0 kj40 l1 x7_1 t225 (wrap64 (x9_1 + 1)) (wrap64 (x10_1 + 1)) l0_0 l0_1 a0_2) = some (r1, r2, r3) := H
               have A59 := Aside0.mk A590
               clear A590
               have H' := Aside0.mk H
               clear H
               have hnb60 := NB212_214.out
               have hnc60 := NB214_212.out
               obtain ⟨hcz61_0, hcz61_1, hcz61_2, hfz61_0, hfz61_1, hfz61_2⟩ := cz3 BK212.out
               have p224 : 0 ≤ (x9_1 : Int) := od
               have q224 : x9_1 < (l0_0.length : Int) := od
               obtain ⟨ad224, A224_1, c224_1, e224, hx224_0, hx224_1, hx224_2, hl224_1, hi224_1⟩ := at_T33 HR0_0.out x9_1 p224 q224
               cases e224
               replace hx224_0 := bc HB.out hx224_0
               replace hx224_1 := bc HB.out hx224_1
               replace hx224_2 := bc HB.out hx224_2
               have HR224_1 := Aside0.mk hi224_1
               have HC224_1 := Aside0.mk hl224_1
               clear hi224_1 hl224_1
               replace p224 := eq_true p224
               replace q224 := eq_true q224
               go_wp2_with (first | ((with_reducible refine gate_callee (f := 33) rfl ?_); refine gl (some 110) Tryd.func33 #[.int .i64 x8_1, .int .i64 ((rd_T33 l0_0 x9_1).f2)] ?_; (with_reducible refine (emendateref36_plus.calls x8_1 ((rd_T33 l0_0 x9_1).f2) t225 _ A59.out).mono ?_); rintro e w62 ⟨rfl, hb⟩; refine ⟨_, rfl, ?_⟩; replace HO_7 := Aside0.mk (Kd.R_below (pR HO_7.out) hb); replace BK212 := Aside0.mk (bb BK212.out hb); replace BK214 := Aside0.mk (bb BK214.out hb); replace HB := Aside0.mk (below_step (pc HB.out GE212.out GE214.out) hb); (try clear hb)))
               go_roundg kj40
               case measure => have := HK1.out; have := HJ5.out; have := HJ16.out; have := HJ40.out; omega
               case rel => exact ⟨(x7_1), (t225), (wrap64 (x9_1 + 1)), (wrap64 (x10_1 + 1)), rr, rr, rr, H', ⟨by have := HK1.out; have := HJ5.out; have := HJ16.out; have := HJ40.out; omega⟩, ⟨by (with_reducible repeat (first | apply Kd.R_alloc | apply Kd.R_drewN | apply Kd.R_drew)); exact HO_7.out⟩, ⟨by (with_reducible repeat (first | refine blk_drewN ?_ _ | refine blk_drew ?_ | refine blk_alloc ?_ _)); exact BK212.out⟩, ⟨pc HB.out GE212.out GE214.out⟩⟩
              ·
               rw [if_neg c58] at H
               exact absurd H (by simp)
             ·
              rw [if_neg c57] at H
              exact absurd H (by simp)
            ·
             replace c56 := Bool.eq_false_iff.mpr c56
             subst c56
             have H1 : (if ((rd_T49 l1 x10_1).f0) = 3 then (emendateref36_Run.j4 kj40 l1 x7_1 x8_1 x9_1 x10_1 x13_5 l0_0 l0_1 a0_2 ((rd_T49 l1 x10_1).f0) ((rd_T49 l1 x10_1).f1)) else (emendateref36_Run.j4 kj40 l1 x7_1 x8_1 x9_1 x10_1 false l0_0 l0_1 a0_2 ((rd_T49 l1 x10_1).f0) ((rd_T49 l1 x10_1).f1))) = some (r1, r2, r3) := by rw [if_neg (show ¬ (false = true) by decide)] at H; exact H
             clear H
             have H := H1
             clear H1
             have HC63 := Aside0.mk H
             clear H
             go_upto_region 17 with (fail)
             go_cut [113] (fun v113 wc => ∃ (kq : Nat) (x113_62 : Bool), v113 = .bool x113_62 ∧ Aside0 (emendateref36_Run.j4 kq l1 x7_1 x8_1 x9_1 x10_1 x113_62 l0_0 l0_1 a0_2 ((rd_T49 l1 x10_1).f0) ((rd_T49 l1 x10_1).f1) = some (r1, r2, r3)) ∧ Aside0 (kq ≤ kj40) ∧ Aside0 (Kd.R (Kd.int .i64) 3 wc w.heap.size (fun _ => True) u7 x7_1) ∧ Aside0 (wc.heap[gb212]? = some (.cells #[(.slice A0_0 l0_0.length c0_0), (.slice A0_1 l0_1.length c0_1), .int .i64 a0_2] 25 (0, 0))) ∧ Aside0 (wc.heap[gb214]? = some (.cells #[.int .i64 ((rd_T49 l1 x10_1).f0), .int .i64 ((rd_T49 l1 x10_1).f1)] 49 (0, 0))) ∧ Aside0 (Below w.heap.size w wc))
             case first => as_aux_lemma =>
              have H := HC63.out
              clear HC63
              by_cases c64 : ((rd_T49 l1 x10_1).f0) = 3
              ·
               rw [if_pos c64] at H
               have c64b0 : (((rd_T49 l1 x10_1).f0) == 3) = true := beq_iff_eq.mpr c64
               have c64b1 : (((rd_T49 l1 x10_1).f0) != 3) = false := bne_eq_false_iff_eq.mpr c64
               clear c64
               (first | rw [c64b0] | (simp only [i64_w, i32_w]; rw [c64b0]) | skip)
               have H' := Aside0.mk H
               clear H
               have hnb65 := NB214_212.out
               have hnc65 := NB212_214.out
               obtain ⟨hcz66_0, hcz66_1, hfz66_0, hfz66_1⟩ := cz2 BK214.out
               go_wp2
               go_meet
               case rel => exact ⟨_, (x13_5), rr, H', ⟨by have := HK1.out; have := HJ5.out; have := HJ16.out; have := HJ40.out; first | omega | exact Nat.le_refl _⟩, ⟨by (with_reducible repeat (first | apply Kd.R_alloc | apply Kd.R_drewN | apply Kd.R_drew)); exact HO_7.out⟩, ⟨by (with_reducible repeat (first | refine blk_drewN ?_ _ | refine blk_drew ?_ | refine blk_alloc ?_ _)); exact BK212.out⟩, ⟨by (with_reducible repeat (first | refine blk_drewN ?_ _ | refine blk_drew ?_ | refine blk_alloc ?_ _)); exact BK214.out⟩, ⟨pc HB.out GE212.out GE214.out⟩⟩
              ·
               rw [if_neg c64] at H
               have c64b0 : (((rd_T49 l1 x10_1).f0) == 3) = false := beq_eq_false_iff_ne.mpr c64
               have c64b1 : (((rd_T49 l1 x10_1).f0) != 3) = true := bne_iff_ne.mpr c64
               (first | rw [c64b0] | (simp only [i64_w, i32_w]; rw [c64b0]) | skip)
               have H' := Aside0.mk H
               clear H
               have hnb67 := NB214_212.out
               have hnc67 := NB212_214.out
               obtain ⟨hcz68_0, hcz68_1, hfz68_0, hfz68_1⟩ := cz2 BK214.out
               go_wp2
               go_meet
               case rel => exact ⟨_, (false), rr, H', ⟨by have := HK1.out; have := HJ5.out; have := HJ16.out; have := HJ40.out; first | omega | exact Nat.le_refl _⟩, ⟨by (with_reducible repeat (first | apply Kd.R_alloc | apply Kd.R_drewN | apply Kd.R_drew)); exact HO_7.out⟩, ⟨by (with_reducible repeat (first | refine blk_drewN ?_ _ | refine blk_drew ?_ | refine blk_alloc ?_ _)); exact BK212.out⟩, ⟨by (with_reducible repeat (first | refine blk_drewN ?_ _ | refine blk_drew ?_ | refine blk_alloc ?_ _)); exact BK214.out⟩, ⟨pc HB.out GE212.out GE214.out⟩⟩
             case rest => as_aux_lemma =>
              clear HC63
              try clear c1
              try clear c4
              try clear c5
              try clear c29
              try clear c56
              obtain ⟨kq, x113_62, rfl, HA, HJ62, HO_7, BK212, BK214, HB⟩ := hcut
              cases kq with
              | zero => exact absurd HA.out (by simp [emendateref36_Run.j4])
              | succ kj62 =>
               have H := HA.out
               clear HA
               simp only [emendateref36_Run.j4] at H
               by_cases c69 : x113_62 = true
               ·
                subst c69
                have H1 : (if x7_1.length < 17592186044416 then (if 0 ≤ ((rd_T49 l1 x10_1).f1) then (if ((rd_T49 l1 x10_1).f1) < (l0_1.length : Int) then ((emendateref36_plus.f x8_1 (rd l0_1 ((rd_T49 l1 x10_1).f1))).bind fun t230 => (emendateref36_Run.l0 kj62 l1 (x7_1 ++ [((rd_T49 l1 x10_1).f1)]) t230 x9_1 (wrap64 (x10_1 + 1)) l0_0 l0_1 a0_2)) else (none)) else (none)) else (none)) = some (r1, r2, r3) := by rw [if_pos rfl] at H; exact H
                clear H
                have H := H1
                clear H1
                by_cases c70 : x7_1.length < 17592186044416
                ·
                 rw [if_pos c70] at H
                 have LMc70 := Aside0.mk c70
                 clear c70
                 obtain ⟨y226, hy226⟩ : ∃ y_ : List Int, y_ = (x7_1 ++ [((rd_T49 l1 x10_1).f1)]) := ⟨_, rfl⟩
                 replace H : (if 0 ≤ ((rd_T49 l1 x10_1).f1) then (if ((rd_T49 l1 x10_1).f1) < (l0_1.length : Int) then ((emendateref36_plus.f x8_1 (rd l0_1 ((rd_T49 l1 x10_1).f1))).bind fun t230 => (emendateref36_Run.l0 kj62 l1 y226 t230 x9_1 (wrap64 (x10_1 + 1)) l0_0 l0_1 a0_2)) else (none)) else (none)) = some (r1, r2, r3) := by first | (rw [hy226]; with_reducible exact H) | (have H2_ := (Option.bind_some _ _).symm.trans H; rw [hy226]; with_reducible exact H2_) | (have H2_ := (Option.bind_some _ _).symm.trans H; with_reducible exact H2_) | with_reducible exact H | (rw [hy226]; exact H) | exact H
                 have Ny226 := Aside0.mk hy226
                 clear hy226
                 by_cases c71 : 0 ≤ ((rd_T49 l1 x10_1).f1)
                 ·
                  rw [if_pos c71] at H
                  have c71b0 : decide (0 ≤ ((rd_T49 l1 x10_1).f1)) = true := decide_eq_true c71
                  clear c71
                  by_cases c72 : ((rd_T49 l1 x10_1).f1) < (l0_1.length : Int)
                  ·
                   rw [if_pos c72] at H
                   have c72b0 : decide (((rd_T49 l1 x10_1).f1) < (l0_1.length : Int)) = true := decide_eq_true c72
                   clear c72
                   replace H := Option.bind_eq_some_iff.mp H
                   obtain ⟨t230, A730, H⟩ := H
                   replace H : (emendateref36_Run.l0 kj62 l1 y226 t230 x9_1 (wrap64 (x10_1 + 1)) l0_0 l0_1 a0_2) = some (r1, r2, r3) := H
                   have A73 := Aside0.mk A730
                   clear A730
                   have H' := Aside0.mk H
                   clear H
                   have hnb74 := NB214_212.out
                   have hnc74 := NB212_214.out
                   obtain ⟨hcz75_0, hcz75_1, hfz75_0, hfz75_1⟩ := cz2 BK214.out
                   go_wp2_with (first | ((with_reducible refine gate_builtin (b := .append) (xs := #[.tmp 120, .tmp 123]) rfl ?_); (try (refine gate_guard (by rfl) ?_; dsimp only)); at_builtin; refine Kd.R_append (Kd.int .i64) (w0 := w) w.heap.size rfl (.tmp 120) (.tmp 123) 23 3 (.int .i64 0) 8 rfl Tryd.underlying23 info3 rfl (by decide) (by omega) u7 x7_1 ((rd_T49 l1 x10_1).f1) [.int .i64 ((rd_T49 l1 x10_1).f1)] (fun _ => True) (fun _ => False) rfl rfl ?aP (fun _ hk => hk.elim) ?aF ?aO ?aB ?aS ?aL ?_; (case aP => exact rfl); (case aB => exact (pc HB.out GE212.out GE214.out)); (case aF => exact (fun _ _ => trivial)); (case aO => exact (pR HO_7.out)); (case aS => exact (below_size (pc HB.out GE212.out GE214.out))); (case aL => have := LMc70.out; omega); intro v227 w76 ho hb hg hat; rw [← Ny226.out] at ho; replace BK212 := Aside0.mk (blk_grown (g := gb212) (o := .cells #[.slice A0_0 l0_0.length c0_0, .slice A0_1 l0_1.length c0_1, .int .i64 a0_2] 25 (0, 0)) (pk BK212.out) hg (Kd.R_ne HO_7.out BK212.out (by decide))); replace BK214 := Aside0.mk (blk_grown (g := gb214) (o := .cells #[.int .i64 ((rd_T49 l1 x10_1).f0), .int .i64 ((rd_T49 l1 x10_1).f1)] 49 (0, 0)) (pk BK214.out) hg (Kd.R_ne HO_7.out BK214.out (by decide))); replace HB := Aside0.mk (hb); have HO228 := Aside0.mk (ho); clear HO_7; clear ho hb hg hat; obtain ⟨hcz77_0, hcz77_1, hcz77_2, hfz77_0, hfz77_1, hfz77_2⟩ := cz3 BK212.out; obtain ⟨hcz78_0, hcz78_1, hfz78_0, hfz78_1⟩ := cz2 BK214.out; have p229 : 0 ≤ (((rd_T49 l1 x10_1).f1) : Int) := od; have q229 : ((rd_T49 l1 x10_1).f1) < (l0_1.length : Int) := od; obtain ⟨ad229, e229, hx229_0⟩ := Kd.at_int HR0_1.out ((rd_T49 l1 x10_1).f1) p229 q229; cases e229; replace hx229_0 := bc HB.out hx229_0; replace p229 := eq_true p229; replace q229 := eq_true q229) | ((with_reducible refine gate_callee (f := 33) rfl ?_); refine gl (some 132) Tryd.func33 #[.int .i64 x8_1, .int .i64 (rd l0_1 ((rd_T49 l1 x10_1).f1))] ?_; (with_reducible refine (emendateref36_plus.calls x8_1 (rd l0_1 ((rd_T49 l1 x10_1).f1)) t230 _ A73.out).mono ?_); rintro e w79 ⟨rfl, hb⟩; refine ⟨_, rfl, ?_⟩; replace HO228 := Aside0.mk (Kd.R_below (pR HO228.out) hb); replace BK212 := Aside0.mk (bb BK212.out hb); replace BK214 := Aside0.mk (bb BK214.out hb); replace HB := Aside0.mk (below_step (pc HB.out GE212.out GE214.out) hb); (try clear hb)))
                   go_roundg kj62
                   case measure => have := HK1.out; have := HJ5.out; have := HJ16.out; have := HJ40.out; have := HJ62.out; omega
                   case rel => exact ⟨(y226), (t230), (x9_1), (wrap64 (x10_1 + 1)), rr, rr, rr, H', ⟨by have := HK1.out; have := HJ5.out; have := HJ16.out; have := HJ40.out; have := HJ62.out; omega⟩, ⟨by (with_reducible repeat (first | apply Kd.R_alloc | apply Kd.R_drewN | apply Kd.R_drew)); exact HO228.out⟩, ⟨by (with_reducible repeat (first | refine blk_drewN ?_ _ | refine blk_drew ?_ | refine blk_alloc ?_ _)); exact BK212.out⟩, ⟨pc HB.out GE212.out GE214.out⟩⟩
                  ·
                   rw [if_neg c72] at H
                   exact absurd H (by simp)
                 ·
                  rw [if_neg c71] at H
                  exact absurd H (by simp)
                ·
                 rw [if_neg c70] at H
                 exact absurd H (by simp)
               ·
                replace c69 := Bool.eq_false_iff.mpr c69
                subst c69
                have H1 : (if ((rd_T49 l1 x10_1).f0) = 4 then (if ((rd_T49 l1 x10_1).f1) = 0 then ((emendateref36_swappable.f l0_0 l0_1 a0_2 x9_1).bind fun t231 => (if t231 = true then (if 0 ≤ (wrap64 (x9_1 + 1)) then (if (wrap64 (x9_1 + 1)) < (l0_0.length : Int) then (if 0 ≤ x9_1 then (if x9_1 < (l0_0.length : Int) then ((some (([(rd_T33 l0_0 (wrap64 (x9_1 + 1))).f0, (rd_T33 l0_0 x9_1).f0] : List Int) : List Int)).bind fun y234 => (if x7_1.length + y234.length < 17592186044416 then ((emendateref36_plus.f x8_1 a0_2).bind fun t240 => (emendateref36_Run.l0 kj62 l1 (x7_1 ++ y234) t240 (wrap64 (x9_1 + 2)) (wrap64 (x10_1 + 1)) l0_0 l0_1 a0_2)) else (none))) else (none)) else (none)) else (none)) else (none)) else (some (([] : List Int), 0, false)))) else (some (([] : List Int), 0, false))) else (some (([] : List Int), 0, false))) = some (r1, r2, r3) := by rw [if_neg (show ¬ (false = true) by decide)] at H; exact H
                clear H
                have H := H1
                clear H1
                by_cases c80 : ((rd_T49 l1 x10_1).f0) = 4
                ·
                 rw [if_pos c80] at H
                 have c80b0 : (((rd_T49 l1 x10_1).f0) == 4) = true := beq_iff_eq.mpr c80
                 have c80b1 : (((rd_T49 l1 x10_1).f0) != 4) = false := bne_eq_false_iff_eq.mpr c80
                 clear c80
                 by_cases c81 : ((rd_T49 l1 x10_1).f1) = 0
                 ·
                  rw [if_pos c81] at H
                  have c81b0 : (((rd_T49 l1 x10_1).f1) == 0) = true := beq_iff_eq.mpr c81
                  have c81b1 : (((rd_T49 l1 x10_1).f1) != 0) = false := bne_eq_false_iff_eq.mpr c81
                  clear c81
                  replace H := Option.bind_eq_some_iff.mp H
                  obtain ⟨t231, A820, H⟩ := H
                  replace H : (if t231 = true then (if 0 ≤ (wrap64 (x9_1 + 1)) then (if (wrap64 (x9_1 + 1)) < (l0_0.length : Int) then (if 0 ≤ x9_1 then (if x9_1 < (l0_0.length : Int) then ((some (([(rd_T33 l0_0 (wrap64 (x9_1 + 1))).f0, (rd_T33 l0_0 x9_1).f0] : List Int) : List Int)).bind fun y234 => (if x7_1.length + y234.length < 17592186044416 then ((emendateref36_plus.f x8_1 a0_2).bind fun t240 => (emendateref36_Run.l0 kj62 l1 (x7_1 ++ y234) t240 (wrap64 (x9_1 + 2)) (wrap64 (x10_1 + 1)) l0_0 l0_1 a0_2)) else (none))) else (none)) else (none)) else (none)) else (none)) else (some (([] : List Int), 0, false))) = some (r1, r2, r3) := H
                  have A82 := Aside0.mk A820
                  clear A820
                  by_cases c83 : t231 = true
                  ·
                   subst c83
                   have H1 : (if 0 ≤ (wrap64 (x9_1 + 1)) then (if (wrap64 (x9_1 + 1)) < (l0_0.length : Int) then (if 0 ≤ x9_1 then (if x9_1 < (l0_0.length : Int) then ((some (([(rd_T33 l0_0 (wrap64 (x9_1 + 1))).f0, (rd_T33 l0_0 x9_1).f0] : List Int) : List Int)).bind fun y234 => (if x7_1.length + y234.length < 17592186044416 then ((emendateref36_plus.f x8_1 a0_2).bind fun t240 => (emendateref36_Run.l0 kj62 l1 (x7_1 ++ y234) t240 (wrap64 (x9_1 + 2)) (wrap64 (x10_1 + 1)) l0_0 l0_1 a0_2)) else (none))) else (none)) else (none)) else (none)) else (none)) = some (r1, r2, r3) := by rw [if_pos rfl] at H; exact H
                   clear H
                   have H := H1
                   clear H1
                   obtain ⟨ji84, hji84⟩ : ∃ j_ : Int, (wrap64 (x9_1 + 1)) = j_ := ⟨_, rfl⟩
                   replace H : (if 0 ≤ (ji84) then (if (ji84) < (l0_0.length : Int) then (if 0 ≤ x9_1 then (if x9_1 < (l0_0.length : Int) then ((some (([(rd_T33 l0_0 (ji84)).f0, (rd_T33 l0_0 x9_1).f0] : List Int) : List Int)).bind fun y234 => (if x7_1.length + y234.length < 17592186044416 then ((emendateref36_plus.f x8_1 a0_2).bind fun t240 => (emendateref36_Run.l0 kj62 l1 (x7_1 ++ y234) t240 (wrap64 (x9_1 + 2)) (wrap64 (x10_1 + 1)) l0_0 l0_1 a0_2)) else (none))) else (none)) else (none)) else (none)) else (none)) = some (r1, r2, r3) := by first | (rw [hji84] at H; exact H) | (simp only [hji84] at H ⊢; exact H)
                   (try rw [hji84] at A82)
                   have hji84w : (IntKind.i64.wrap (x9_1 + 1)) = ji84 := (i64_w _).trans hji84
                   by_cases c85 : 0 ≤ (ji84)
                   ·
                    rw [if_pos c85] at H
                    have c85b0 : decide (0 ≤ (ji84)) = true := decide_eq_true c85
                    clear c85
                    by_cases c86 : (ji84) < (l0_0.length : Int)
                    ·
                     rw [if_pos c86] at H
                     have c86b0 : decide ((ji84) < (l0_0.length : Int)) = true := decide_eq_true c86
                     clear c86
                     by_cases c87 : 0 ≤ x9_1
                     ·
                      rw [if_pos c87] at H
                      have c87b0 : decide (0 ≤ x9_1) = true := decide_eq_true c87
                      clear c87
                      by_cases c88 : x9_1 < (l0_0.length : Int)
                      ·
                       rw [if_pos c88] at H
                       have c88b0 : decide (x9_1 < (l0_0.length : Int)) = true := decide_eq_true c88
                       clear c88
                       obtain ⟨y234, hy234⟩ : ∃ y_ : List Int, y_ = (([(rd_T33 l0_0 (ji84)).f0, (rd_T33 l0_0 x9_1).f0] : List Int)) := ⟨_, rfl⟩
                       replace H : (if x7_1.length + y234.length < 17592186044416 then ((emendateref36_plus.f x8_1 a0_2).bind fun t240 => (emendateref36_Run.l0 kj62 l1 (x7_1 ++ y234) t240 (wrap64 (x9_1 + 2)) (wrap64 (x10_1 + 1)) l0_0 l0_1 a0_2)) else (none)) = some (r1, r2, r3) := by first | (rw [hy234]; with_reducible exact H) | (have H2_ := (Option.bind_some _ _).symm.trans H; rw [hy234]; with_reducible exact H2_) | (have H2_ := (Option.bind_some _ _).symm.trans H; with_reducible exact H2_) | with_reducible exact H | (rw [hy234]; exact H) | exact H
                       have Ny234 := Aside0.mk hy234
                       clear hy234
                       by_cases c89 : x7_1.length + y234.length < 17592186044416
                       ·
                        rw [if_pos c89] at H
                        have LMc89 := Aside0.mk c89
                        clear c89
                        obtain ⟨y237, hy237⟩ : ∃ y_ : List Int, y_ = (x7_1 ++ y234) := ⟨_, rfl⟩
                        replace H : ((emendateref36_plus.f x8_1 a0_2).bind fun t240 => (emendateref36_Run.l0 kj62 l1 y237 t240 (wrap64 (x9_1 + 2)) (wrap64 (x10_1 + 1)) l0_0 l0_1 a0_2)) = some (r1, r2, r3) := by first | (rw [hy237]; with_reducible exact H) | (have H2_ := (Option.bind_some _ _).symm.trans H; rw [hy237]; with_reducible exact H2_) | (have H2_ := (Option.bind_some _ _).symm.trans H; with_reducible exact H2_) | with_reducible exact H | (rw [hy237]; exact H) | exact H
                        have Ny237 := Aside0.mk hy237
                        clear hy237
                        replace H := Option.bind_eq_some_iff.mp H
                        obtain ⟨t240, A900, H⟩ := H
                        replace H : (emendateref36_Run.l0 kj62 l1 y237 t240 (wrap64 (x9_1 + 2)) (wrap64 (x10_1 + 1)) l0_0 l0_1 a0_2) = some (r1, r2, r3) := H
                        have A90 := Aside0.mk A900
                        clear A900
                        have H' := Aside0.mk H
                        clear H
                        have hnb91 := NB214_212.out
                        have hnc91 := NB212_214.out
                        obtain ⟨hcz92_0, hcz92_1, hfz92_0, hfz92_1⟩ := cz2 BK214.out
                        obtain ⟨hcz93_0, hcz93_1, hcz93_2, hfz93_0, hfz93_1, hfz93_2⟩ := cz3 BK212.out
                        try go_wp2_with (first | (go_at_call 34; (with_reducible refine (emendateref36_swappable.calls _ _ l0_0 _ _ l0_1 a0_2 x9_1 true _ ?side1 ?side2 ?side3 ?side4 A82.out).mono ?_); (case side1 => exact sd (Kd.C_below HR0_0.out HB.out)); (case side2 => exact HC0_0.out); (case side3 => exact sd (Kd.C_below HR0_1.out HB.out)); (case side4 => exact HC0_1.out); rintro e w94 ⟨rfl, hb⟩; replace HO_7 := Aside0.mk (Kd.R_below (pR HO_7.out) hb); replace BK212 := Aside0.mk (bb BK212.out hb); replace BK214 := Aside0.mk (bb BK214.out hb); replace HB := Aside0.mk (below_step (pc HB.out GE212.out GE214.out) hb); (try clear hb)))
                        replace HO_7 := Aside0.mk (Kd.R_drew HO_7.out)
                        replace BK212 := Aside0.mk (blk_drew BK212.out)
                        replace BK214 := Aside0.mk (blk_drew BK214.out)
                        replace HB := Aside0.mk (below_drew1 HB.out)
                        have p232 : 0 ≤ ((ji84) : Int) := od
                        have q232 : (ji84) < (l0_0.length : Int) := od
                        obtain ⟨ad232, A232_1, c232_1, e232, hx232_0, hx232_1, hx232_2, hl232_1, hi232_1⟩ := at_T33 HR0_0.out (ji84) p232 q232
                        have hw232_2 := hx232_2
                        have hw232_1 := hx232_1
                        have hw232_0 := hx232_0
                        cases e232
                        replace hx232_0 := bc HB.out hx232_0
                        replace hx232_1 := bc HB.out hx232_1
                        replace hx232_2 := bc HB.out hx232_2
                        have HR232_1 := Aside0.mk hi232_1
                        have HC232_1 := Aside0.mk hl232_1
                        clear hi232_1 hl232_1
                        replace p232 := eq_true p232
                        replace q232 := eq_true q232
                        have p233 : 0 ≤ (x9_1 : Int) := od
                        have q233 : x9_1 < (l0_0.length : Int) := od
                        obtain ⟨ad233, A233_1, c233_1, e233, hx233_0, hx233_1, hx233_2, hl233_1, hi233_1⟩ := at_T33 HR0_0.out x9_1 p233 q233
                        have hw233_2 := hx233_2
                        have hw233_1 := hx233_1
                        have hw233_0 := hx233_0
                        obtain rfl : ad232 = ad233 := (by injection e233)
                        replace hx233_0 := bc HB.out hx233_0
                        replace hx233_1 := bc HB.out hx233_1
                        replace hx233_2 := bc HB.out hx233_2
                        have HR233_1 := Aside0.mk hi233_1
                        have HC233_1 := Aside0.mk hl233_1
                        clear hi233_1 hl233_1
                        replace p233 := eq_true p233
                        replace q233 := eq_true q233
                        refine start_ (n := 17) (S := fun w' => w'.cell? ⟨gb212, 0, none⟩ = some (.slice (some ad232) l0_0.length c0_0) ∧ w'.cell? ⟨gb212, 1, none⟩ = some (.slice A0_1 l0_1.length c0_1) ∧ w'.cell? ⟨gb212, 2, none⟩ = some (.int .i64 a0_2) ∧ w'.cell? (ad232.add (((ji84)).toNat * 3)) = some (.int .i64 ((rd_T33 l0_0 (ji84)).f0)) ∧ w'.cell? ⟨(ad232.add (((ji84)).toNat * 3)).block, (ad232.add (((ji84)).toNat * 3)).off + 1, none⟩ = some (.slice A232_1 ((rd_T33 l0_0 (ji84)).f1).length c232_1) ∧ w'.cell? ⟨(ad232.add (((ji84)).toNat * 3)).block, (ad232.add (((ji84)).toNat * 3)).off + 2, none⟩ = some (.int .i64 ((rd_T33 l0_0 (ji84)).f2)) ∧ w'.cell? (ad232.add ((x9_1).toNat * 3)) = some (.int .i64 ((rd_T33 l0_0 x9_1).f0)) ∧ w'.cell? ⟨(ad232.add ((x9_1).toNat * 3)).block, (ad232.add ((x9_1).toNat * 3)).off + 1, none⟩ = some (.slice A233_1 ((rd_T33 l0_0 x9_1).f1).length c233_1) ∧ w'.cell? ⟨(ad232.add ((x9_1).toNat * 3)).block, (ad232.add ((x9_1).toNat * 3)).off + 2, none⟩ = some (.int .i64 ((rd_T33 l0_0 x9_1).f2))) (ds := []) #[ff,ff,ff,ff,ff,ff,ff,ff,ff,ff,ff,ff,ff,ff,ff,ff,ff] (by kernel_rfl) rfl rfl ⟨(blk_cell BK212.out 0).trans rfl, (blk_cell BK212.out 1).trans rfl, (blk_cell BK212.out 2).trans rfl, (bc HB.out hw232_0), (bc HB.out hw232_1), (bc HB.out hw232_2), (bc HB.out hw233_0), (bc HB.out hw233_1), (bc HB.out hw233_2)⟩ (fun hHeld => ?_); refine with_tabW emendateref36_Run.tab21 emendateref36_Run.bits21 (fun HT_ HW_ => ?_)
                        generalize w94.drew = w95 at HO_7 BK212 BK214 HB HR232_1 HR233_1 hx232_0 hx232_1 hx232_2 hx233_0 hx233_1 hx233_2 hHeld ⊢
                        refine pu 0 147 ?_
                        refine pu 1 148 ?_
                        refine pu 3 150 ?_
                        refine pu 4 151 ?_
                        refine pu 8 155 ?_
                        refine pu 10 157 ?_
                        refine tu 2 149 hHeld ?_
                        refine pu 5 152 ?_
                        refine pu 6 153 ?_
                        refine tu 7 154 hHeld ?_
                        refine tu 9 156 hHeld ?_
                        refine pu 11 158 ?_
                        refine pu 12 159 ?_
                        refine tu 13 160 hHeld ?_
                        refine one_ (i := 14) (N := some 161) #[tt,tt,tt,tt,tt,tt,tt,tt,tt,tt,tt,tt,tt,tt,tt,ff,ff] rfl rfl (one_of HT_.out (by kernel_rfl)) (by decide) (fun K hK => ?_)
                        refine Kd.R_lit_step (Kd.int .i64) _ 3 ?hg (N := 161) ?hd (xs := ([(rd_T33 l0_0 (ji84)).f0, (rd_T33 l0_0 x9_1).f0] : List Int)) (inner := [.int .i64 ((rd_T33 l0_0 (ji84)).f0), .int .i64 ((rd_T33 l0_0 x9_1).f0)]) (ok := fun _ => True) (okp := fun _ => True) ?hr ?hp (fun _ hk => hk) trivial (Below.refl _ _) (Nat.le_refl _) (by simp) ?_; (case hd => rfl); (case hg => rfl); (case hr => first | (go_simp; done) | (go_simp; rfl)); (case hp => exact (Reps.one (show Kd.M (Kd.int .i64) _ _ _ ((rd_T33 l0_0 (ji84)).f0) [.int .i64 ((rd_T33 l0_0 (ji84)).f0)] from rfl) (Reps.one (show Kd.M (Kd.int .i64) _ _ _ ((rd_T33 l0_0 x9_1).f0) [.int .i64 ((rd_T33 l0_0 x9_1).f0)] from rfl) (Reps.none _ _))))
                        intro v235 w96 ho97 hb hg_ hnew_
                        clear hg_ hnew_
                        (first | rw [← Ny234.out] at ho97 | (simp only [Int.reduceToNat] at ho97; rw [← Ny234.out] at ho97))
                        have n0_ := Aside0.mk (Kd.R_elder' (pR HO_7.out) (Kd.R_base ho97) hb)
                        have n1_ := Aside0.mk (Kd.R_lower (Kd.R_new' ho97 (Kd.R_lt (pR HO_7.out))) (below_size (pc HB.out GE212.out GE214.out)))
                        have n2_ := Aside0.mk (bb BK212.out hb)
                        have n3_ := Aside0.mk (bb BK214.out hb)
                        have n4_ := Aside0.mk (below_step (pc HB.out GE212.out GE214.out) hb)
                        clear HO_7
                        clear BK212
                        clear BK214
                        clear HB
                        have HO_7 := n0_
                        have HO236 := n1_
                        have BK212 := n2_
                        have BK214 := n3_
                        have HB := n4_
                        clear n0_ n1_ n2_ n3_ n4_
                        clear hb ho97
                        obtain ⟨Ao99, co99, eo99⟩ := Kd.R_slice HO236.out
                        (first | subst eo99 | (injection eo99 with f1_ f2_ f3_; have f4_ := f1_.symm; have f5_ := f3_.symm; clear f1_ f2_ f3_; subst f4_; subst f5_))
                        refine hK.out _ _ ⟨(blk_cell BK212.out 0).trans rfl, (blk_cell BK212.out 1).trans rfl, (blk_cell BK212.out 2).trans rfl, (bc HB.out hw232_0), (bc HB.out hw232_1), (bc HB.out hw232_2), (bc HB.out hw233_0), (bc HB.out hw233_1), (bc HB.out hw233_2)⟩ (fun hHeld => ?_)
                        clear hK K
                        refine norm_ (a' := ?_) ?_ ?_
                        rotate_left
                        ·
                         show Act.put _ (some 161) _ = _
                         simp only [nrm]
                         rfl
                        refine one_ (i := 15) (N := some 162) #[tt,tt,tt,tt,tt,tt,tt,tt,tt,tt,tt,tt,tt,tt,tt,tt,ff] rfl rfl (one_of HT_.out (by kernel_rfl)) (by decide) (fun K hK => ?_)
                        refine Kd.R_append_rows_step (Kd.int .i64) (w0 := w) w.heap.size (by rfl) (.tmp 147) (.tmp 161) 23 3 (.int .i64 0) 8 rfl Tryd.underlying23 info3 rfl (by decide) (by omega) u7 x7_1 y234 _ _ _ (fun k_ => some k_ ≠ (.slice Ao99 y234.length co99 : Value).ownBlock) (fun _ => False) rfl rfl ?aO ?aR (fun _ _ h => h) (fun _ h => h.elim) ?aF ?aB ?aS ?aL ?_
                        (case aR => repeat (first | exact (Kd.R_reads' HO236.out).2.2 | (with_reducible refine Kd.C_alloc ?_ _) | (with_reducible refine Kd.C_drewN ?_ _) | (with_reducible refine Kd.C_drew ?_)))
                        (case aB => exact (pc HB.out GE212.out GE214.out))
                        (case aF => exact (fun k_ hk => Kd.fresh' (Kd.R_lt (pR HO236.out)) k_ hk))
                        (case aO => exact (by (with_reducible repeat (first | apply Kd.R_alloc | apply Kd.R_drewN | apply Kd.R_drew)); exact Kd.R_mono HO_7.out (fun _ hk => hk.2)))
                        (case aS => exact (below_size (pc HB.out GE212.out GE214.out)))
                        (case aL => have := LMc89.out; omega)
                        intro v238 w98 ho hb hg hat
                        rw [← Ny237.out] at ho
                        replace BK212 := Aside0.mk (blk_grown (g := gb212) (o := .cells #[.slice (some ad232) l0_0.length c0_0, .slice A0_1 l0_1.length c0_1, .int .i64 a0_2] 25 (0, 0)) (pk BK212.out) hg (Kd.R_ne HO_7.out BK212.out (by decide)))
                        replace BK214 := Aside0.mk (blk_grown (g := gb214) (o := .cells #[.int .i64 ((rd_T49 l1 x10_1).f0), .int .i64 ((rd_T49 l1 x10_1).f1)] 49 (0, 0)) (pk BK214.out) hg (Kd.R_ne HO_7.out BK214.out (by decide)))
                        replace HO236 := Aside0.mk (Kd.R_after (ok := (fun _ => True)) (pR HO236.out) hg hat)
                        replace HB := Aside0.mk (hb)
                        have HO239 := Aside0.mk (ho)
                        clear HO_7
                        clear ho hb hg hat
                        refine hK.out _ _ ⟨(blk_cell BK212.out 0).trans rfl, (blk_cell BK212.out 1).trans rfl, (blk_cell BK212.out 2).trans rfl, (bc HB.out hw232_0), (bc HB.out hw232_1), (bc HB.out hw232_2), (bc HB.out hw233_0), (bc HB.out hw233_1), (bc HB.out hw233_2)⟩ (fun hHeld => ?_)
                        clear hK K
                        refine norm_ (a' := ?_) ?_ ?_
                        rotate_left
                        ·
                         show Act.put _ (some 162) _ = _
                         simp only [nrm]
                         rfl
                        refine pu 16 7 ?_
                        refine done_ (done_of HT_.out (by kernel_rfl)) ?_
                        obtain ⟨hcz100_0, hcz100_1, hcz100_2, hfz100_0, hfz100_1, hfz100_2⟩ := cz3 BK212.out
                        try go_wp2_with (first | ((with_reducible refine gate_callee (f := 33) rfl ?_); refine gl (some 166) Tryd.func33 #[.int .i64 x8_1, .int .i64 a0_2] ?_; (with_reducible refine (emendateref36_plus.calls x8_1 a0_2 t240 _ A90.out).mono ?_); rintro e w101 ⟨rfl, hb⟩; refine ⟨_, rfl, ?_⟩; replace HO236 := Aside0.mk (Kd.R_below (pR HO236.out) hb); replace HO239 := Aside0.mk (Kd.R_below (pR HO239.out) hb); replace BK212 := Aside0.mk (bb BK212.out hb); replace BK214 := Aside0.mk (bb BK214.out hb); replace HB := Aside0.mk (below_step (pc HB.out GE212.out GE214.out) hb); (try clear hb)))
                        go_roundg kj62
                        case measure => have := HK1.out; have := HJ5.out; have := HJ16.out; have := HJ40.out; have := HJ62.out; omega
                        case rel => exact ⟨(y237), (t240), (wrap64 (x9_1 + 2)), (wrap64 (x10_1 + 1)), rr, rr, rr, H', ⟨by have := HK1.out; have := HJ5.out; have := HJ16.out; have := HJ40.out; have := HJ62.out; omega⟩, ⟨by (with_reducible repeat (first | apply Kd.R_alloc | apply Kd.R_drewN | apply Kd.R_drew)); exact Kd.R_mono HO239.out (fun _ hk => trivial)⟩, ⟨by (with_reducible repeat (first | refine blk_drewN ?_ _ | refine blk_drew ?_ | refine blk_alloc ?_ _)); exact BK212.out⟩, ⟨pc HB.out GE212.out GE214.out⟩⟩
                       ·
                        rw [if_neg c89] at H
                        exact absurd H (by simp)
                      ·
                       rw [if_neg c88] at H
                       exact absurd H (by simp)
                     ·
                      rw [if_neg c87] at H
                      exact absurd H (by simp)
                    ·
                     rw [if_neg c86] at H
                     exact absurd H (by simp)
                   ·
                    rw [if_neg c85] at H
                    exact absurd H (by simp)
                  ·
                   replace c83 := Bool.eq_false_iff.mpr c83
                   subst c83
                   have H1 : (some (([] : List Int), 0, false)) = some (r1, r2, r3) := by rw [if_neg (show ¬ (false = true) by decide)] at H; exact H
                   clear H
                   have H := H1
                   clear H1
                   simp only [Option.some.injEq, Prod.mk.injEq] at H
                   obtain ⟨rfl, rfl, rfl⟩ := H
                   have hnb102 := NB214_212.out
                   have hnc102 := NB212_214.out
                   obtain ⟨hcz103_0, hcz103_1, hfz103_0, hfz103_1⟩ := cz2 BK214.out
                   obtain ⟨hcz104_0, hcz104_1, hcz104_2, hfz104_0, hfz104_1, hfz104_2⟩ := cz3 BK212.out
                   go_wp2_with (first | (go_at_call 34; (with_reducible refine (emendateref36_swappable.calls _ _ l0_0 _ _ l0_1 a0_2 x9_1 false _ ?side1 ?side2 ?side3 ?side4 A82.out).mono ?_); (case side1 => exact sd (Kd.C_below HR0_0.out HB.out)); (case side2 => exact HC0_0.out); (case side3 => exact sd (Kd.C_below HR0_1.out HB.out)); (case side4 => exact HC0_1.out); rintro e w105 ⟨rfl, hb⟩; replace HO_7 := Aside0.mk (Kd.R_below (pR HO_7.out) hb); replace BK212 := Aside0.mk (bb BK212.out hb); replace BK214 := Aside0.mk (bb BK214.out hb); replace HB := Aside0.mk (below_step (pc HB.out GE212.out GE214.out) hb); (try clear hb)))
                   go_ret3
                   exact ⟨_, er, by first | exact Kd.R_nil _ _ _ _ _ | exact Kd.N_nil _ _ _ _ _ | exact Kd.V_nil _ _ _ _ _ | exact Kd.Q_nil _ _ _ _ _ | exact Kd.S_nil _ _ _ _ _, pc HB.out GE212.out GE214.out⟩
                 ·
                  rw [if_neg c81] at H
                  have c81b0 : (((rd_T49 l1 x10_1).f1) == 0) = false := beq_eq_false_iff_ne.mpr c81
                  have c81b1 : (((rd_T49 l1 x10_1).f1) != 0) = true := bne_iff_ne.mpr c81
                  simp only [Option.some.injEq, Prod.mk.injEq] at H
                  obtain ⟨rfl, rfl, rfl⟩ := H
                  have hnb106 := NB214_212.out
                  have hnc106 := NB212_214.out
                  obtain ⟨hcz107_0, hcz107_1, hfz107_0, hfz107_1⟩ := cz2 BK214.out
                  go_wp2
                  go_ret3
                  exact ⟨_, er, by first | exact Kd.R_nil _ _ _ _ _ | exact Kd.N_nil _ _ _ _ _ | exact Kd.V_nil _ _ _ _ _ | exact Kd.Q_nil _ _ _ _ _ | exact Kd.S_nil _ _ _ _ _, pc HB.out GE212.out GE214.out⟩
                ·
                 rw [if_neg c80] at H
                 have c80b0 : (((rd_T49 l1 x10_1).f0) == 4) = false := beq_eq_false_iff_ne.mpr c80
                 have c80b1 : (((rd_T49 l1 x10_1).f0) != 4) = true := bne_iff_ne.mpr c80
                 simp only [Option.some.injEq, Prod.mk.injEq] at H
                 obtain ⟨rfl, rfl, rfl⟩ := H
                 have hnb108 := NB214_212.out
                 have hnc108 := NB212_214.out
                 obtain ⟨hcz109_0, hcz109_1, hfz109_0, hfz109_1⟩ := cz2 BK214.out
                 go_wp2
                 go_ret3
                 exact ⟨_, er, by first | exact Kd.R_nil _ _ _ _ _ | exact Kd.N_nil _ _ _ _ _ | exact Kd.V_nil _ _ _ _ _ | exact Kd.Q_nil _ _ _ _ _ | exact Kd.S_nil _ _ _ _ _, pc HB.out GE212.out GE214.out⟩
    ·
     rw [if_neg c5] at H
     exact absurd H (by simp)
   ·
    rw [if_neg c4] at H
    have c4b0 : decide (x10_1 < (l1.length : Int)) = false := decide_eq_false c4
    clear c4
    by_cases c110 : x9_1 = (l0_0.length : Int)
    ·
     rw [if_pos c110] at H
     have c110b0 : (x9_1 == (l0_0.length : Int)) = true := beq_iff_eq.mpr c110
     have c110b1 : (x9_1 != (l0_0.length : Int)) = false := bne_eq_false_iff_eq.mpr c110
     clear c110
     simp only [Option.some.injEq, Prod.mk.injEq] at H
     obtain ⟨rfl, rfl, rfl⟩ := H
     obtain ⟨hcz111_0, hcz111_1, hcz111_2, hfz111_0, hfz111_1, hfz111_2⟩ := cz3 BK212.out
     go_wp2
     go_ret3
     exact ⟨_, er, by (with_reducible repeat (first | apply Kd.R_alloc | apply Kd.R_drewN | apply Kd.R_drew)); exact HO_7.out, pb HB.out GE212.out⟩
    ·
     rw [if_neg c110] at H
     have c110b0 : (x9_1 == (l0_0.length : Int)) = false := beq_eq_false_iff_ne.mpr c110
     have c110b1 : (x9_1 != (l0_0.length : Int)) = true := bne_iff_ne.mpr c110
     simp only [Option.some.injEq, Prod.mk.injEq] at H
     obtain ⟨rfl, rfl, rfl⟩ := H
     obtain ⟨hcz112_0, hcz112_1, hcz112_2, hfz112_0, hfz112_1, hfz112_2⟩ := cz3 BK212.out
     go_wp2
     go_ret3
     exact ⟨_, er, by first | exact Kd.R_nil _ _ _ _ _ | exact Kd.N_nil _ _ _ _ _ | exact Kd.V_nil _ _ _ _ _ | exact Kd.Q_nil _ _ _ _ _ | exact Kd.S_nil _ _ _ _ _, pb HB.out GE212.out⟩

end Go.Proofs.YtnddijafdphbnaaDoor.All
