/- The walks of the stack's methods top and second. -/
import Derived.Test.YthbdgmahjpgfiaaAllx0
import Derived.Test.YthbdgmahjpgfiaaAllSpec
namespace Go.Proofs.Ythbdgmahjpgfiaa.All
open Go.RowKit Go.Proofs.YthbdgmahjpgfiaaW.PrintWords Go.Proofs.YthbdgmahjpgfiaaW.PrintLast Go.Proofs.YthbdgmahjpgfiaaW.PrintMore
set_option linter.unusedVariables false
set_option linter.unusedSimpArgs false

/-- The writer at block g: its tokens, its levels; ok: the blocks in which its rows may lie. -/
def WS (g B : Nat) (ok : Nat → Prop) (defs : Int) (W : World) (out : List S33) (lv : List Int) : Prop :=
  (∃ vo vl, W.heap[g]? = some (.cells #[vo, .int .i64 defs, vl] 41 (0, 0)) ∧ Kd.R k33 33 W B ok vo out ∧ Kd.R (Kd.int .i64) 3 W B ok vl lv) ∧ (∀ k, ok k → k ≠ g) ∧ (∀ k, W.heap.size ≤ k → ok k)

/-- What a method of the writer leaves alone: what lies below B, and each block that is neither the writer nor one of its rows. -/
def Fr (g B : Nat) (ok : Nat → Prop) (W W' : World) : Prop := Below B W W' ∧ ∀ k, k < W.heap.size → k ≠ g → ¬ ok k → W'.heap[k]? = W.heap[k]?

theorem Fr.refl (g B : Nat) (ok : Nat → Prop) (W : World) : Fr g B ok W W := ⟨Below.refl _ _, fun _ _ _ _ => rfl⟩
theorem Fr.trans {g B : Nat} {ok : Nat → Prop} {W W1 W2 : World} (h : Fr g B ok W W1) (k : Fr g B ok W1 W2) : Fr g B ok W W2 :=
  ⟨h.1.trans k.1, fun i hi hg ho => (k.2 i (Nat.lt_of_lt_of_le hi h.1.size) hg ho).trans (h.2 i hi hg ho)⟩
theorem Fr.drewN {g B : Nat} {ok : Nat → Prop} {W W1 : World} (h : Fr g B ok W W1) (n : Nat) : Fr g B ok W (W1.drewN n) := ⟨pw_below_drewN h.1 n, h.2⟩
theorem Fr.set {g B : Nat} {ok : Nat → Prop} {W W1 : World} (h : Fr g B ok W W1) (hB : B ≤ g) (j : Nat) (u : Value) : Fr g B ok W (W1.setCell ⟨g, j, none⟩ u) :=
  ⟨Below.setCell h.1 hB _, fun i hi hg ho => (Below.heap_setCell W1 ⟨g, j, none⟩ u i hg).trans (h.2 i hi hg ho)⟩
theorem Fr.grown {g B : Nat} {ok : Nat → Prop} {W W1 : World} {row : Option Nat} (hg : W.grownBy W1 row) (hr : ∀ k, row = some k → ok k ∧ B ≤ k) (hB : B ≤ W.heap.size) : Fr g B ok W W1 :=
  ⟨Below.grown (Below.refl _ _) hg hB (fun k hk => (hr k hk).2), fun i hi _ ho => hg.block i hi (fun e => ho (hr i e.symm).1)⟩

theorem WS.lt {g B : Nat} {ok : Nat → Prop} {defs : Int} {W : World} {out : List S33} {lv : List Int} (h : WS g B ok defs W out lv) : g < W.heap.size := by
  obtain ⟨⟨vo, vl, hb, _, _⟩, _⟩ := h
  exact blk_lt hb
theorem WS.drewN {g B : Nat} {ok : Nat → Prop} {defs : Int} {W : World} {out : List S33} {lv : List Int} (h : WS g B ok defs W out lv) (n : Nat) : WS g B ok defs (W.drewN n) out lv := by
  obtain ⟨⟨vo, vl, h0, h1, h2⟩, h3⟩ := h
  exact ⟨⟨vo, vl, h0, Kd.R_drewN h1 n, Kd.R_drewN h2 n⟩, h3⟩

set_option maxHeartbeats 800000 in
theorem top_calls (g B : Nat) (ok : Nat → Prop) (defs : Int) (W : World) (out : List S33) (lv : List Int) (h : WS g B ok defs W out lv) :
    Calls Try.prog 26 #[.pointer (some ⟨g, 2, none⟩)] W fun e W' => e = .returned (.int .i64 (topL lv)) ∧ Drawn0 W W' := by
  obtain ⟨⟨vo, vl, hb, hro, hrl⟩, _⟩ := h
  obtain ⟨A, c, rfl⟩ := Kd.R_slice hrl
  have hc2 : W.cell? ⟨g, 2, none⟩ = some (.slice A lv.length c) := (blk_cell hb 2).trans rfl
  clear hb
  by_cases hl : lv.length = 0
  · have HT := Aside0.mk (show topL lv = 0 by unfold topL; rw [if_pos hl])
    have b0 : ((lv.length : Int) == 0) = true := by simp [hl]
    clear hl
    go_enter Try.func26, Try.ntmps26
    go_wp2
    go_ret
    exact ⟨by rw [HT.out]; rfl, Drawn0.refl _⟩
  · have HT := Aside0.mk (show topL lv = rd lv ((lv.length : Int) - 1) by unfold topL rd; rw [if_neg hl]; congr 1; omega)
    have hm : (lv.length : Int) ≤ 9223372036854775807 := by have := Kd.C_max (Kd.R_reads' hrl).2.2; omega
    have b0 : ((lv.length : Int) == 0) = false := by rw [beq_eq_false_iff_ne]; omega
    have p0 : 0 ≤ (lv.length : Int) - 1 := by omega
    have q0 : (lv.length : Int) - 1 < (lv.length : Int) := by omega
    have w0 : wrap64 ((lv.length : Int) - 1) = (lv.length : Int) - 1 := by unfold wrap64; omega
    clear hl hm
    obtain ⟨j, hj⟩ : ∃ j : Int, (lv.length : Int) - 1 = j := ⟨_, rfl⟩
    rw [hj] at HT p0 q0
    have hjw : IntKind.i64.wrap ((lv.length : Int) - 1) = j := (i64_w _).trans (w0.trans hj)
    clear w0 hj
    obtain ⟨ad, e, hx⟩ := Kd.at_int (Kd.R_reads' hrl).2.2 j p0 q0
    cases e
    replace p0 := eq_true p0
    replace q0 := eq_true q0
    go_enter Try.func26, Try.ntmps26
    go_wp2
    repeat (go_quiet (fail); try go_wp2)
    go_ret
    exact ⟨by rw [HT.out]; rfl, by repeat (first | exact Drawn0.refl _ | apply Drawn0.step)⟩
set_option maxHeartbeats 800000 in
theorem second_calls (g B : Nat) (ok : Nat → Prop) (defs : Int) (W : World) (out : List S33) (lv : List Int) (h : WS g B ok defs W out lv) :
    Calls Try.prog 27 #[.pointer (some ⟨g, 2, none⟩)] W fun e W' => e = .returned (.int .i64 (secL lv)) ∧ Drawn0 W W' := by
  obtain ⟨⟨vo, vl, hb, hro, hrl⟩, _⟩ := h
  obtain ⟨A, c, rfl⟩ := Kd.R_slice hrl
  have hc2 : W.cell? ⟨g, 2, none⟩ = some (.slice A lv.length c) := (blk_cell hb 2).trans rfl
  clear hb
  by_cases hl : lv.length < 2
  · have HT := Aside0.mk (show secL lv = 0 by unfold secL; rw [if_pos hl])
    have b0 : decide ((lv.length : Int) < 2) = true := by simp; omega
    clear hl
    go_enter Try.func27, Try.ntmps27
    go_wp2
    go_ret
    exact ⟨by rw [HT.out]; rfl, Drawn0.refl _⟩
  · have HT := Aside0.mk (show secL lv = rd lv ((lv.length : Int) - 2) by unfold secL rd; rw [if_neg hl]; congr 1; omega)
    have hm : (lv.length : Int) ≤ 9223372036854775807 := by have := Kd.C_max (Kd.R_reads' hrl).2.2; omega
    have b0 : decide ((lv.length : Int) < 2) = false := by simp; omega
    have p0 : 0 ≤ (lv.length : Int) - 2 := by omega
    have q0 : (lv.length : Int) - 2 < (lv.length : Int) := by omega
    have w0 : wrap64 ((lv.length : Int) - 2) = (lv.length : Int) - 2 := by unfold wrap64; omega
    clear hl hm
    obtain ⟨j, hj⟩ : ∃ j : Int, (lv.length : Int) - 2 = j := ⟨_, rfl⟩
    rw [hj] at HT p0 q0
    have hjw : IntKind.i64.wrap ((lv.length : Int) - 2) = j := (i64_w _).trans (w0.trans hj)
    clear w0 hj
    obtain ⟨ad, e, hx⟩ := Kd.at_int (Kd.R_reads' hrl).2.2 j p0 q0
    cases e
    replace p0 := eq_true p0
    replace q0 := eq_true q0
    go_enter Try.func27, Try.ntmps27
    go_wp2
    repeat (go_quiet (fail); try go_wp2)
    go_ret
    exact ⟨by rw [HT.out]; rfl, by repeat (first | exact Drawn0.refl _ | apply Drawn0.step)⟩
end Go.Proofs.Ythbdgmahjpgfiaa.All
