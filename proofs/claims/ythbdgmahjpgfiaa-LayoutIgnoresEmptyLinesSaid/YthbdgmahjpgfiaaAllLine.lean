/- The walk of the writer's method line. -/
import Derived.Test.YthbdgmahjpgfiaaAllLay
namespace Go.Proofs.Ythbdgmahjpgfiaa.All
open Go.RowKit Go.Proofs.YthbdgmahjpgfiaaW.PrintWords Go.Proofs.YthbdgmahjpgfiaaW.PrintLast Go.Proofs.YthbdgmahjpgfiaaW.PrintMore
set_option linter.unusedVariables false
set_option linter.unusedSimpArgs false

theorem WS.set2 {g B : Nat} {ok : Nat → Prop} {defs : Int} {W : World} {out : List S33} {lv' : List Int} {vo v0 vl : Value} (hb : W.heap[g]? = some (.cells #[vo, .int .i64 defs, v0] 41 (0, 0)))
    (ho : Kd.R k33 33 W B ok vo out) (hl : Kd.R (Kd.int .i64) 3 W B ok vl lv') (hok : ∀ k, ok k → k ≠ g) (hfr : ∀ k, W.heap.size ≤ k → ok k) : WS g B ok defs (W.setCell ⟨g, 2, none⟩ vl) out lv' :=
  ⟨⟨vo, vl, blk_set hb 2 _, Kd.R_far (p := ⟨g, 2, none⟩) ho hok _, Kd.R_far (p := ⟨g, 2, none⟩) hl hok _⟩, hok, fun k hk => hfr k (by simpa [World.setCell] using hk)⟩

set_option maxHeartbeats 2000000 in
set_option maxRecDepth 100000 in
theorem line_indent (g B : Nat) (ok : Nat → Prop) (defs at_ d : Int) (first : Bool) (W : World) (out : List S33) (lv : List Int) (h : WS g B ok defs W out lv) (hB : B ≤ g) (hn : out.length < 1000000) (hl : lv.length < 1000000) (ht : topL lv < d) :
    Calls Try.prog 23 #[.pointer (some ⟨g, 0, none⟩), .int .i64 at_, .int .i64 d, .bool first] W fun e W' => e = .returned (.tuple #[]) ∧ WS g B ok defs W' (out ++ [tok (wrap64 (defs + 1)) at_]) (lv ++ [d]) ∧ Fr g B ok W W' := by
  have H := Aside0.mk h
  have hgl := h.lt
  obtain ⟨⟨vo, vl, hb0, hro0, hrl0⟩, hok0, hfr0⟩ := h
  have hok := Aside0.mk hok0
  have hfr := Aside0.mk hfr0
  have hBW : B ≤ W.heap.size := Nat.le_trans hB (Nat.le_of_lt hgl)
  clear hok0 hfr0
  obtain ⟨A2, c2, rfl⟩ := Kd.R_slice hrl0
  have HBLK := Aside0.mk hb0
  have hro := Aside0.mk hro0
  have hrl := Aside0.mk hrl0
  have hc2 : W.cell? ⟨g, 2, none⟩ = some (.slice A2 lv.length c2) := (blk_cell hb0 2).trans rfl
  have ht0 : decide (topL lv < d) = true := decide_eq_true ht
  clear hb0 hro0 hrl0 ht
  go_enter Try.func23, Try.ntmps23
  go_wp2_with (first | (go_at_call 26; (with_reducible refine (top_calls g B ok defs _ out lv H.out).mono ?_); rintro e w' ⟨rfl, ⟨nd, rfl⟩⟩) | ((with_reducible refine gate_builtin (b := .append) (xs := #[.tmp 21, .tmp 23]) rfl ?_); at_builtin; refine Kd.R_append (Kd.int .i64) (w0 := W) (W := W.drewN nd) B rfl (.tmp 21) (.tmp 23) 39 3 (.int .i64 0) 8 rfl Try.underlying39 info3 rfl (by decide) (by omega) (.slice A2 lv.length c2) lv d [.int .i64 d] ok (fun _ => False) rfl rfl ?aP (fun _ hk => hk.elim) ?aF ?aO ?aB ?aS ?aL ?_; (case aP => exact rfl); (case aF => exact (fun k hk => hfr.out k hk)); (case aO => exact Kd.R_drewN hrl.out _); (case aB => exact pw_below_drewN (Below.refl _ _) _); (case aS => exact hBW); (case aL => omega); intro v1 w1 ho hb hg hat; obtain ⟨A1, c1, rfl⟩ := Kd.R_slice ho; have hlen : (lv ++ [d]).length = lv.length + 1 := (by simp); rw [hlen] at ho; clear hlen; have hb1 : w1.heap[g]? = some (.cells #[vo, .int .i64 defs, .slice A2 lv.length c2] 41 (0, 0)) := blk_grown (w := W.drewN nd) HBLK.out hg (Kd.R_away hrl.out hok.out); have hl1 := Kd.R_over' (Kd.R_drewN hro.out nd) (Kd.R_typed (Kd.R_drewN hrl.out nd)) (by decide) hg; have hc12 : w1.cell? ⟨g, 2, none⟩ = some (.slice A2 lv.length c2) := (blk_cell hb1 2).trans rfl; have hf12 := blk_frozen hb1 2; have HFM := Aside0.mk (Fr.grown (g := g) (B := B) (ok := ok) hg (fun k hk => ⟨hrl.out.1 k hk, Kd.R_base hrl.out k hk⟩) hBW); have HSZ := Aside0.mk (show W.heap.size ≤ w1.heap.size from hb.size); have HB1 := Aside0.mk hb1; have HL1 := Aside0.mk hl1; have HO1 := Aside0.mk ho; have HBB := Aside0.mk hb; clear hb1 hl1 ho hb hg hat) | (go_at_call 24; (with_reducible refine (layout_calls g B ok defs 1 at_ _ out (lv ++ [d]) (WS.set2 HB1.out HL1.out HO1.out hok.out (fun k hk => hfr.out k (Nat.le_trans HSZ.out hk))) hB hn).mono ?_); rintro e w' ⟨rfl, hws, hbel⟩; have HWS := Aside0.mk hws; have HBEL := Aside0.mk hbel; clear hws hbel))
  first | go_end0 | ((try simp only [Exit.inBlock, Exit.then]); refine bodyPost_ret (results_none rfl _ _ _) rfl ?_)
  exact ⟨rfl, HWS.out, Fr.trans (Fr.set (Fr.trans (Fr.drewN (Fr.refl _ _ _ _) nd) HFM.out) hB _ _) HBEL.out⟩

theorem closes_stop (dk at_ d : Int) (n : Nat) (out : List S33) (lv : List Int) (h : ¬ (0 < lv.length ∧ d ≤ secL lv)) : closes dk at_ d n out lv = (out, lv) := by
  cases n with
  | zero => rfl
  | succ n => unfold closes; rw [if_neg h]
theorem closes_go (dk at_ d : Int) (n : Nat) (out : List S33) (lv : List Int) (h : 0 < lv.length ∧ d ≤ secL lv) : closes dk at_ d (n + 1) out lv = closes dk at_ d n (out ++ [tok dk at_]) (lv.take (lv.length - 1)) := by
  show (if 0 < lv.length ∧ d ≤ secL lv then _ else _) = _
  rw [if_pos h]

def WSR (g B : Nat) (ok : Nat → Prop) (defs : Int) (W : World) (R : List S33 × List Int) : Prop := WS g B ok defs W R.1 R.2
def closeR (defs at_ d : Int) (first : Bool) (out : List S33) (lv : List Int) : List S33 × List Int := closes (wrap64 (defs + 2)) at_ d lv.length (if first then out else out ++ [tok (wrap64 (defs + 0)) at_]) lv

set_option maxHeartbeats 4000000 in
set_option maxRecDepth 100000 in
theorem line_close (g B : Nat) (ok : Nat → Prop) (defs at_ d : Int) (first : Bool) (W : World) (out : List S33) (lv : List Int) (h : WS g B ok defs W out lv) (hB : B ≤ g) (hn : out.length + lv.length < 900000) (ht : ¬ topL lv < d) :
    Calls Try.prog 23 #[.pointer (some ⟨g, 0, none⟩), .int .i64 at_, .int .i64 d, .bool first] W fun e W' => e = .returned (.tuple #[]) ∧ WSR g B ok defs W' (closeR defs at_ d first out lv) ∧ Fr g B ok W W' := by
  have hgl := h.lt
  have H := Aside0.mk h
  have HN := Aside0.mk hn
  have ht0 : decide (topL lv < d) = false := decide_eq_false ht
  have HBW : B ≤ W.heap.size := by omega
  clear ht h hn
  obtain ⟨R0, hR0⟩ : ∃ R0 : List S33 × List Int, closeR defs at_ d first out lv = R0 := ⟨_, rfl⟩
  rw [hR0]
  have HR0 := Aside0.mk hR0
  clear hR0
  go_enter Try.func23, Try.ntmps23
  cases first
  all_goals
    go_wp2_with (first | (go_at_call 26; (with_reducible refine (top_calls g B ok defs _ out lv H.out).mono ?_); rintro e w' ⟨rfl, ⟨nd, rfl⟩⟩) | (go_at_call 24; (with_reducible refine (layout_calls g B ok defs 0 at_ _ out lv (WS.drewN H.out _) hB (by have := HN.out; omega)).mono ?_); rintro e w' ⟨rfl, hws, hbel⟩; have HWS := Aside0.mk hws; have HBEL := Aside0.mk (Fr.trans (Fr.drewN (Fr.refl g B ok W) _) hbel); clear hws hbel))
    (first | (have _hw := HWS; clear _hw) | (have HWS := Aside0.mk (WS.drewN H.out nd); have HBEL := Aside0.mk (Fr.drewN (Fr.refl g B ok W) nd)))
    go_loopg [] lv.length (fun kq wr => ∃ (o : List S33) (l : List Int), Aside0 (l.length = kq ∧ R0 = closes (wrap64 (defs + 2)) at_ d kq o l ∧ o.length + l.length ≤ 900001) ∧ Aside0 (WS g B ok defs wr o l) ∧ Aside0 (Fr g B ok W wr))
    case atStart => exact ⟨_, lv, ⟨rfl, HR0.out.symm.trans (by rfl), by have := HN.out; simp <;> omega⟩, HWS, HBEL⟩
    case round =>
      clear HWS HBEL
      obtain ⟨o, l, HA, HWS, HBEL⟩ := hrel
      have hws := HWS.out
      have hgl1 := hws.lt
      obtain ⟨⟨vo, vl, hb0, hro0, hrl0⟩, hok0, hfr0⟩ := hws
      have hok := Aside0.mk hok0
      have hfr := Aside0.mk hfr0
      clear hok0 hfr0
      obtain ⟨A2, c2, rfl⟩ := Kd.R_slice hrl0
      have HBLK := Aside0.mk hb0
      have hro := Aside0.mk hro0
      have hrl := Aside0.mk hrl0
      have hc2 : wr.cell? ⟨g, 2, none⟩ = some (.slice A2 l.length c2) := (blk_cell hb0 2).trans rfl
      have hf2 := blk_frozen hb0 2
      clear hb0 hro0 hrl0
      by_cases h0 : l.length = 0
      · have p0 : decide (0 < (l.length : Int)) = false := decide_eq_false (by omega)
        have p1 : decide (0 < l.length) = false := decide_eq_false (by omega)
        have HS := Aside0.mk (closes_stop (wrap64 (defs + 2)) at_ d gk o l (by omega))
        clear h0
        go_wp2
        first | go_end0 | ((try simp only [Exit.inBlock, Exit.then]); refine bodyPost_ret (results_none rfl _ _ _) rfl ?_)
        exact ⟨rfl, by unfold WSR; rw [HA.out.2.1, HS.out]; exact HWS.out, HBEL.out⟩
      · have p0 : decide (0 < (l.length : Int)) = true := decide_eq_true (by omega)
        have p1 : decide (0 < l.length) = true := decide_eq_true (by omega)
        by_cases hs : d ≤ secL l
        · have s0 : decide (d ≤ secL l) = true := decide_eq_true hs
          obtain ⟨m, hm⟩ : ∃ m : Nat, l.length = m + 1 := ⟨l.length - 1, by omega⟩
          have hmc : m + 1 ≤ c2 := by have := (Kd.R_reads' hrl.out).2.1; omega
          have hbd : (l.length : Int) ≤ 900001 := by have := HA.out.2.2; omega
          have hjw : wrap64 ((l.length : Int) - 1) = (m : Int) := by unfold wrap64; omega
          have q0 : ((m : Int) ≤ (c2 : Int)) = True := eq_true (by omega)
          have q1 : (m ≤ c2) = True := eq_true (by omega)
          have HM := Aside0.mk hm
          have HS := Aside0.mk (show closes (wrap64 (defs + 2)) at_ d gk o l = closes (wrap64 (defs + 2)) at_ d m (o ++ [tok (wrap64 (defs + 2)) at_]) (l.take m) by rw [show gk = m + 1 by have := HA.out.1; omega, closes_go _ _ _ _ _ _ ⟨by omega, hs⟩, hm]; rfl)
          have HTK := Aside0.mk (Kd.R_take (m := m) hrl.out (by omega))
          clear hs h0 hm hmc hbd
          go_wp2_with (first | (go_at_call 27; (with_reducible refine (second_calls g B ok defs _ o l HWS.out).mono ?_); rintro e w' ⟨rfl, ⟨nd2, rfl⟩⟩))
          refine start_ (n := 15) (S := fun w' => w'.cell? ⟨g, 2, none⟩ = some (.slice A2 l.length c2)) (ds := [14]) #[false, false, false, false, false, false, false, false, false, false, false, false, false, false, false] (by kernel_rfl) rfl rfl (hc2) (fun hHeld => ?_)
          refine pure_ (i := 0) (N := some 49) (v := ?_) (a' := ?_) #[true, false, false, false, false, false, false, false, false, false, false, false, false, false, false] rfl rfl (by kernel_rfl) (fun _ _ _ h => h) (Or.inl ⟨by rfl, ?_⟩) ?_ ?_
          rotate_left
          · intro w'
            go_simp
            with_reducible rfl
          rotate_left
          · simp only [Act.put, List.setIfInBounds_toArray, List.set_cons_zero, List.set_cons_succ, i64_w, i32_w]
            rfl
          refine pure_ (i := 1) (N := some 50) (v := ?_) (a' := ?_) #[true, true, false, false, false, false, false, false, false, false, false, false, false, false, false] rfl rfl (by kernel_rfl) (fun _ _ _ h => h) (Or.inl ⟨by rfl, ?_⟩) ?_ ?_
          rotate_left
          · intro w'
            go_simp
            with_reducible rfl
          rotate_left
          · simp only [Act.put, List.setIfInBounds_toArray, List.set_cons_zero, List.set_cons_succ, i64_w, i32_w]
            rfl
          refine pure_ (i := 2) (N := some 51) (v := ?_) (a' := ?_) #[true, true, true, false, false, false, false, false, false, false, false, false, false, false, false] rfl rfl (by kernel_rfl) (fun _ _ _ h => h) (Or.inl ⟨by rfl, ?_⟩) ?_ ?_
          rotate_left
          · intro w'
            go_simp
            with_reducible rfl
          rotate_left
          · simp only [Act.put, List.setIfInBounds_toArray, List.set_cons_zero, List.set_cons_succ, i64_w, i32_w]
            rfl
          refine pure_ (i := 3) (N := some 52) (v := ?_) (a' := ?_) #[true, true, true, true, false, false, false, false, false, false, false, false, false, false, false] rfl rfl (by kernel_rfl) (fun _ _ _ h => h) (Or.inl ⟨by rfl, ?_⟩) ?_ ?_
          rotate_left
          · intro w'
            go_simp
            with_reducible rfl
          rotate_left
          · simp only [Act.put, List.setIfInBounds_toArray, List.set_cons_zero, List.set_cons_succ, i64_w, i32_w]
            rfl
          refine pure_ (i := 5) (N := some 54) (v := ?_) (a' := ?_) #[true, true, true, true, false, true, false, false, false, false, false, false, false, false, false] rfl rfl (by kernel_rfl) (fun _ _ _ h => h) (Or.inl ⟨by rfl, ?_⟩) ?_ ?_
          rotate_left
          · intro w'
            go_simp
            with_reducible rfl
          rotate_left
          · simp only [Act.put, List.setIfInBounds_toArray, List.set_cons_zero, List.set_cons_succ, i64_w, i32_w]
            rfl
          refine pure_ (i := 6) (N := some 55) (v := ?_) (a' := ?_) #[true, true, true, true, false, true, true, false, false, false, false, false, false, false, false] rfl rfl (by kernel_rfl) (fun _ _ _ h => h) (Or.inl ⟨by rfl, ?_⟩) ?_ ?_
          rotate_left
          · intro w'
            go_simp
            with_reducible rfl
          rotate_left
          · simp only [Act.put, List.setIfInBounds_toArray, List.set_cons_zero, List.set_cons_succ, i64_w, i32_w]
            rfl
          refine pure_ (i := 7) (N := some 56) (v := ?_) (a' := ?_) #[true, true, true, true, false, true, true, true, false, false, false, false, false, false, false] rfl rfl (by kernel_rfl) (fun _ _ _ h => h) (Or.inl ⟨by rfl, ?_⟩) ?_ ?_
          rotate_left
          · intro w'
            go_simp
            with_reducible rfl
          rotate_left
          · simp only [Act.put, List.setIfInBounds_toArray, List.set_cons_zero, List.set_cons_succ, i64_w, i32_w]
            rfl
          refine take_ (i := 4) (N := some 53) (v := ?_) (a' := ?_) #[true, true, true, true, true, true, true, true, false, false, false, false, false, false, false] rfl rfl (by kernel_rfl) (fun _ _ _ h => h) (Or.inl ⟨by rfl, ?_⟩) hHeld ?_ ?_
          rotate_left
          · intro w' s0
            go_simp
            with_reducible rfl
          rotate_left
          · simp only [Act.put, List.setIfInBounds_toArray, List.set_cons_zero, List.set_cons_succ, i64_w, i32_w]
            rfl
          refine take_ (i := 8) (N := some 57) (v := ?_) (a' := ?_) #[true, true, true, true, true, true, true, true, true, false, false, false, false, false, false] rfl rfl (by kernel_rfl) (fun _ _ _ h => h) (Or.inl ⟨by rfl, ?_⟩) hHeld ?_ ?_
          rotate_left
          · intro w' s0
            go_simp
            with_reducible rfl
          rotate_left
          · simp only [Act.put, List.setIfInBounds_toArray, List.set_cons_zero, List.set_cons_succ, i64_w, i32_w]
            rfl
          refine pure_ (i := 9) (N := some 58) (v := ?_) (a' := ?_) #[true, true, true, true, true, true, true, true, true, true, false, false, false, false, false] rfl rfl (by kernel_rfl) (fun _ _ _ h => h) (Or.inl ⟨by rfl, ?_⟩) ?_ ?_
          rotate_left
          · intro w'
            go_simp
            with_reducible rfl
          rotate_left
          · simp only [Act.put, List.setIfInBounds_toArray, List.set_cons_zero, List.set_cons_succ, i64_w, i32_w]
            rfl
          refine pure_ (i := 10) (N := some 59) (v := ?_) (a' := ?_) #[true, true, true, true, true, true, true, true, true, true, true, false, false, false, false] rfl rfl (by kernel_rfl) (fun _ _ _ h => h) (Or.inl ⟨by rfl, ?_⟩) ?_ ?_
          rotate_left
          · intro w'
            go_simp
            with_reducible rfl
          rotate_left
          · simp only [Act.put, List.setIfInBounds_toArray, List.set_cons_zero, List.set_cons_succ, i64_w, i32_w]
            rfl
          refine pure_ (i := 11) (N := some 60) (v := ?_) (a' := ?_) #[true, true, true, true, true, true, true, true, true, true, true, true, false, false, false] rfl rfl (by kernel_rfl) (fun _ _ _ h => h) (Or.inl ⟨by rfl, ?_⟩) ?_ ?_
          rotate_left
          · intro w'
            go_simp
            with_reducible rfl
          rotate_left
          · simp only [Act.put, List.setIfInBounds_toArray, List.set_cons_zero, List.set_cons_succ, i64_w, i32_w]
            rfl
          refine pure_ (i := 12) (N := some 61) (v := ?_) (a' := ?_) #[true, true, true, true, true, true, true, true, true, true, true, true, true, false, false] rfl rfl (by kernel_rfl) (fun _ _ _ h => h) (Or.inl ⟨by rfl, ?_⟩) ?_ ?_
          rotate_left
          · intro w'
            go_simp
            with_reducible rfl
          rotate_left
          · simp only [Act.put, List.setIfInBounds_toArray, List.set_cons_zero, List.set_cons_succ, i64_w, i32_w]
            rfl
          refine pure_ (i := 13) (N := some 62) (v := ?_) (a' := ?_) #[true, true, true, true, true, true, true, true, true, true, true, true, true, true, false] rfl rfl (by kernel_rfl) (fun _ _ _ h => h) (Or.inl ⟨by rfl, ?_⟩) ?_ ?_
          rotate_left
          · intro w'
            go_simp
            with_reducible rfl
          rotate_left
          · simp only [Act.put, List.setIfInBounds_toArray, List.set_cons_zero, List.set_cons_succ, i64_w, i32_w]
            rfl
          refine last_ (i := 14) (N := none) #[true, true, true, true, true, true, true, true, true, true, true, true, true, true, true] rfl rfl (by kernel_rfl) (by decide) (fun K hK => ?_)
          refine skip_ (w1 := ?_) (by rfl) rfl ?_ ?_
          rotate_left
          · go_simp
            rfl
          refine hK.out _ _ ?_
          clear hK K
          refine done_ (by kernel_rfl) ?_
          go_wp2_with fail
          have hlo : o.length < 1000000 := by have := HA.out.2.2; omega
          have HWT : WS g B ok defs ((wr.drewN (nd2 + 1)).setCell ⟨g, 2, none⟩ (.slice A2 m c2)) o (l.take m) := WS.set2 HBLK.out (Kd.R_drewN hro.out _) (Kd.R_drewN HTK.out _) hok.out (fun k hk => hfr.out k hk)
          refine (layout_calls g B ok defs 2 at_ _ o (l.take m) HWT hB hlo).mono ?_
          rintro e w' ⟨rfl, hws, hbel⟩
          have HWS2 := Aside0.mk hws
          have HBEL2 := Aside0.mk hbel
          clear hws hbel HWT hlo
          go_wp2
          go_roundg m
          case measure => have := HA.out.1; have := HM.out; omega
          case rel => exact ⟨_, _, ⟨by have := HM.out; rw [List.length_take]; omega, HA.out.2.1.trans HS.out, by have := HA.out.2.2; have := HM.out; rw [List.length_take, List.length_append, List.length_singleton]; omega⟩, HWS2, ⟨Fr.trans (Fr.set (Fr.drewN HBEL.out (nd2 + 1)) hB _ _) HBEL2.out⟩⟩
        · have s0 : decide (d ≤ secL l) = false := decide_eq_false hs
          have HS := Aside0.mk (closes_stop (wrap64 (defs + 2)) at_ d gk o l (by omega))
          clear hs h0
          go_wp2_with (first | (go_at_call 27; (with_reducible refine (second_calls g B ok defs _ o l HWS.out).mono ?_); rintro e w' ⟨rfl, ⟨nd2, rfl⟩⟩))
          first | go_end0 | ((try simp only [Exit.inBlock, Exit.then]); refine bodyPost_ret (results_none rfl _ _ _) rfl ?_)
          exact ⟨rfl, by unfold WSR; rw [HA.out.2.1, HS.out]; exact WS.drewN HWS.out _, Fr.drewN HBEL.out _⟩
end Go.Proofs.Ythbdgmahjpgfiaa.All
