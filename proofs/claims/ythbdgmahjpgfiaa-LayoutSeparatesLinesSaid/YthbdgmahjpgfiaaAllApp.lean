/- The walk of layout.Apply. -/
import Derived.Test.YthbdgmahjpgfiaaAllLine
import Derived.Test.YthbdgmahjpgfiaaAllLast
namespace Go.Proofs.Ythbdgmahjpgfiaa.All
open Go.RowKit Go.Proofs.YthbdgmahjpgfiaaW.PrintWords Go.Proofs.YthbdgmahjpgfiaaW.PrintLast Go.Proofs.YthbdgmahjpgfiaaW.PrintMore
set_option linter.unusedVariables false
set_option linter.unusedSimpArgs false

theorem line_calls (g B : Nat) (ok : Nat → Prop) (defs at_ d : Int) (first : Bool) (W : World) (out : List S33) (lv : List Int) (h : WS g B ok defs W out lv) (hB : B ≤ g) (hn : out.length + lv.length < 900000) (h0 : 0 ≤ defs) (h1 : defs ≤ 100000) :
    Calls Try.prog 23 #[.pointer (some ⟨g, 0, none⟩), .int .i64 at_, .int .i64 d, .bool first] W fun e W' => e = .returned (.tuple #[]) ∧ WSR g B ok defs W' (lineF defs out lv at_ d first) ∧ Fr g B ok W W' := by
  have e0 : wrap64 (defs + 0) = defs := by unfold wrap64; omega
  have e1 : wrap64 (defs + 1) = defs + 1 := by unfold wrap64; omega
  have e2 : wrap64 (defs + 2) = defs + 2 := by unfold wrap64; omega
  by_cases ht : topL lv < d
  · have e : lineF defs out lv at_ d first = (out ++ [tok (defs + 1) at_], lv ++ [d]) := by unfold lineF; rw [if_pos ht]
    rw [e]
    refine (line_indent g B ok defs at_ d first W out lv h hB (by omega) (by omega) ht).mono fun e W' hp => ?_
    rw [e1] at hp
    exact hp
  · have e : lineF defs out lv at_ d first = closeR defs at_ d first out lv := by unfold lineF closeR; rw [if_neg ht, e0, e2]
    rw [e]
    exact line_close g B ok defs at_ d first W out lv h hB hn ht

theorem ws_new (w : World) (a2 : Int) : WS w.heap.size w.heap.size (fun k => k ≠ w.heap.size) a2 (w.alloc (.cells #[.slice none 0 0, .int .i64 a2, .slice none 0 0] 41 (0, 0))) [] [] :=
  ⟨⟨_, _, blk_new w _, Kd.R_nil _ _ _ _ _, Kd.R_nil _ _ _ _ _⟩, fun _ hk => hk, fun k hk => by simp at hk; omega⟩

def ok2 (g gb : Nat) (k : Nat) : Prop := k ≠ g ∧ k ≠ gb

/-- The variable of the round lies in a new block: what is written there leaves the writer alone. -/
theorem WS.box {g B : Nat} {defs : Int} {W W8 : World} {out : List S33} {lv : List Int} (h : WS g B (fun k => k ≠ g) defs W out lv) (hb : Below W.heap.size W W8) {gb : Nat} (hgb : gb = W.heap.size) {z0 z1 z2 z3 : Value} (hbox : W8.heap[gb]? = some (.cells #[z0, z1, z2, z3] 33 (0, 0))) (u0 u1 u2 u3 : Value) :
    WS g B (ok2 g gb) defs ((((W8.setCell ⟨gb, 0, none⟩ u0).setCell ⟨gb, 1, none⟩ u1).setCell ⟨gb, 2, none⟩ u2).setCell ⟨gb, 3, none⟩ u3) out lv := by
  obtain ⟨⟨vo, vl, h0, h1, h2⟩, _, _⟩ := h
  have hne : g ≠ gb := by have := blk_lt h0; omega
  have hlt := blk_lt hbox
  have hlg := blk_lt h0
  have k1 : Kd.R k33 33 W8 B (ok2 g gb) vo out := Kd.R_below (Kd.R_elderB h1 gb (by omega)) hb
  have k2 : Kd.R (Kd.int .i64) 3 W8 B (ok2 g gb) vl lv := Kd.R_below (Kd.R_elderB h2 gb (by omega)) hb
  have k0 := (hb.block g (blk_lt h0)).trans h0
  have f1 : ∀ {W : World} {v : Value} {j : Nat} {u : Value}, Kd.R k33 33 W B (ok2 g gb) v out → Kd.R k33 33 (W.setCell ⟨gb, j, none⟩ u) B (ok2 g gb) v out := fun {W v j u} h => Kd.R_far (p := ⟨gb, j, none⟩) h (fun k hk => hk.2) u
  have f2 : ∀ {W : World} {v : Value} {j : Nat} {u : Value}, Kd.R (Kd.int .i64) 3 W B (ok2 g gb) v lv → Kd.R (Kd.int .i64) 3 (W.setCell ⟨gb, j, none⟩ u) B (ok2 g gb) v lv := fun {W v j u} h => Kd.R_far (p := ⟨gb, j, none⟩) h (fun k hk => hk.2) u
  refine ⟨⟨vo, vl, blk_far (blk_far (blk_far (blk_far k0 (p := ⟨gb, 0, none⟩) hne _) (p := ⟨gb, 1, none⟩) hne _) (p := ⟨gb, 2, none⟩) hne _) (p := ⟨gb, 3, none⟩) hne _, f1 (f1 (f1 (f1 k1))), f2 (f2 (f2 (f2 k2)))⟩, fun k hk => hk.1, fun k hk => ?_⟩
  have hs := hb.size
  simp only [World.setCell, Array.size_modify] at hk
  exact ⟨by omega, by omega⟩

theorem WS.wide {g B gb : Nat} {defs : Int} {W : World} {out : List S33} {lv : List Int} (h : WS g B (ok2 g gb) defs W out lv) : WS g B (fun k => k ≠ g) defs W out lv := by
  have hl := h.lt
  obtain ⟨⟨vo, vl, h0, h1, h2⟩, _, _⟩ := h
  exact ⟨⟨vo, vl, h0, Kd.R_mono h1 (fun _ hk => hk.1), Kd.R_mono h2 (fun _ hk => hk.1)⟩, fun _ hk => hk, fun k hk => by omega⟩

theorem box_blk {W8 : World} {gb : Nat} {z0 z1 z2 z3 : Value} (h : W8.heap[gb]? = some (.cells #[z0, z1, z2, z3] 33 (0, 0))) (u0 u1 u2 u3 : Value) :
    ((((W8.setCell ⟨gb, 0, none⟩ u0).setCell ⟨gb, 1, none⟩ u1).setCell ⟨gb, 2, none⟩ u2).setCell ⟨gb, 3, none⟩ u3).heap[gb]? = some (.cells #[u0, u1, u2, u3] 33 (0, 0)) := by
  have := blk_set (blk_set (blk_set (blk_set h 0 u0) 1 u1) 2 u2) 3 u3
  simpa using this

theorem Fr.keeps {g B gb : Nat} {W W' : World} (h : Fr g B (ok2 g gb) W W') {o : Obj} (hb : W.heap[gb]? = some o) (hne : gb ≠ g) : W'.heap[gb]? = some o :=
  (h.2 gb (blk_lt hb) hne (fun hk => hk.2 rfl)).trans hb


set_option maxHeartbeats 4000000 in
set_option maxRecDepth 100000 in
theorem apply_calls (A0 : Option Addr) (c0 : Nat) (l0 : List S33) (a1 : ByteArray) (a2 : Int) (w : World) (hr0 : Kd.C k33 w A0 l0.length l0) (hc0 : l0.length ≤ c0) (hR : Ready l0 a1 a2) :
    Calls Try.prog 13 #[.slice A0 l0.length c0, .string a1, .int .i64 a2] w fun e w' => ∃ v0_ : Value, e = .returned (v0_) ∧ Kd.R k33 33 w' w.heap.size (fun _ => True) v0_ (applyF l0 a1 a2) ∧ Below w.heap.size w w' := by
  have HR0 := Aside0.mk hr0
  have HC0 := Aside0.mk hc0
  have HRD := Aside0.mk hR
  have HD0 := Aside0.mk hR.2.2.1
  have HD1 := Aside0.mk hR.2.2.2.1
  clear hr0 hc0 hR
  go_enter Try.func13, Try.ntmps13
  go_wp2
  go_loopg [8, 17] l0.length (fun kq v8 v17 wr => ∃ (i : Nat) (st : LSt), v17 = .int .i64 i ∧ v8 = .int .i64 st.last ∧ Aside0 (i + kq = l0.length ∧ st = runF a2 a1 (l0.take i)) ∧ Aside0 (WS w.heap.size w.heap.size (fun k => k ≠ w.heap.size) a2 wr st.out st.lv) ∧ Aside0 (Below w.heap.size w wr))
  case atStart => exact ⟨0, ⟨true, -1, [], []⟩, rfl, rfl, ⟨by simp, by simp [runF]⟩, ⟨ws_new w a2⟩, ⟨below_alloc (Below.refl _ _) _⟩⟩
  case round =>
    obtain ⟨i, st, rfl, rfl, HA, HWS, HB⟩ := hrel
    have HLEN := Aside0.mk (show st.out.length + st.lv.length ≤ 3000 by
      have h1 := runF_len a2 a1 (l0.take i)
      rw [← HA.out.2, List.length_take] at h1
      have h2 := HRD.out.1
      omega)
    by_cases hi : i < l0.length
    · have p0 : decide ((i : Int) < (l0.length : Int)) = true := decide_eq_true (by omega)
      have p1 : decide (i < l0.length) = true := decide_eq_true (by omega)
      obtain ⟨ad, e, hx0, hx1, hx2, hx3⟩ := at_T33 HR0.out (i : Int) (by omega) (by omega)
      cases e
      obtain ⟨t, ht⟩ : ∃ t, rd_T33 l0 (i : Int) = t := ⟨_, rfl⟩
      rw [ht] at hx0 hx1 hx2 hx3
      simp only [Int.toNat_natCast] at hx0 hx1 hx2 hx3
      have ht' : l0[i] = t := by
        rw [← ht]
        simp [rd_T33, List.getD, hi]
      have HT := Aside0.mk (show stepF a2 a1 st t = runF a2 a1 (l0.take (i + 1)) by rw [runF_succ a2 a1 l0 i hi, ht', ← HA.out.2])
      have hm : t ∈ l0 := by rw [← ht']; exact List.getElem_mem hi
      have HBD := Aside0.mk (HRD.out.2.2.2.2 t hm)
      clear ht ht' hm
      replace hx0 := (HB.out.cell (World.block_lt_of_cell? w _ hx0)).trans hx0
      replace hx1 := (HB.out.cell (World.block_lt_of_cell? w _ hx1)).trans hx1
      replace hx2 := (HB.out.cell (World.block_lt_of_cell? w _ hx2)).trans hx2
      replace hx3 := (HB.out.cell (World.block_lt_of_cell? w _ hx3)).trans hx3
      have hib : (i : Int) ≤ 1000 := by have := HRD.out.1; omega
      have q0 := eq_true (show (0 : Int) ≤ (i : Int) by omega)
      have q1 := eq_true (show (i : Int) < (l0.length : Int) by omega)
      have HI := Aside0.mk hi
      clear hi
      go_upto_region 6 with (first | ((with_reducible refine gate_dst (N := 10) rfl ?_); refine box_event ?hg (N := 10) ?hd (cs := #[.int .i64 0, .int .i64 0, .string (⟨#[]⟩ : ByteArray), .int .i64 0]) (t := 33) ?hr ?_; (case hd => rfl); (case hg => rfl); (case hr => first | (go_simp; done) | (go_simp; rfl)); intro gb hg w8 hbox hb; have hcz_0 : w8.cell? ⟨gb, 0, none⟩ = some (.int .i64 0) := (blk_cell hbox 0).trans rfl; have hcz_1 : w8.cell? ⟨gb, 1, none⟩ = some (.int .i64 0) := (blk_cell hbox 1).trans rfl; have hcz_2 : w8.cell? ⟨gb, 2, none⟩ = some (.string (⟨#[]⟩ : ByteArray)) := (blk_cell hbox 2).trans rfl; have hcz_3 : w8.cell? ⟨gb, 3, none⟩ = some (.int .i64 0) := (blk_cell hbox 3).trans rfl; have hfz_0 := blk_frozen hbox 0; have hfz_1 := blk_frozen hbox 1; have hfz_2 := blk_frozen hbox 2; have hfz_3 := blk_frozen hbox 3; have HBOX := Aside0.mk hbox; have HBB := Aside0.mk hb; have HG := Aside0.mk hg; clear hbox hb hg))
      have HWS9 := WS.box HWS.out HBB.out HG.out HBOX.out (.int .i64 t.f0) (.int .i64 t.f1) (.string t.f2) (.int .i64 t.f3)
      have HBK9 := box_blk HBOX.out (.int .i64 t.f0) (.int .i64 t.f1) (.string t.f2) (.int .i64 t.f3)
      have HGE : w.heap.size ≤ gb := by rw [HG.out]; exact HB.out.size
      have HB9 : Below w.heap.size w ((((w8.setCell ⟨gb, 0, none⟩ (.int .i64 t.f0)).setCell ⟨gb, 1, none⟩ (.int .i64 t.f1)).setCell ⟨gb, 2, none⟩ (.string t.f2)).setCell ⟨gb, 3, none⟩ (.int .i64 t.f3)) := Below.setCell (Below.setCell (Below.setCell (Below.setCell (below_step HB.out HBB.out) HGE _) HGE _) HGE _) HGE _
      have hgne : gb ≠ w.heap.size := by have := HWS.out.lt; rw [HG.out]; omega
      clear hcz_0 hcz_1 hcz_2 hcz_3 hfz_0 hfz_1 hfz_2 hfz_3 hx0 hx1 hx2 hx3
      generalize (((w8.setCell ⟨gb, 0, none⟩ (.int .i64 t.f0)).setCell ⟨gb, 1, none⟩ (.int .i64 t.f1)).setCell ⟨gb, 2, none⟩ (.string t.f2)).setCell ⟨gb, 3, none⟩ (.int .i64 t.f3) = w9 at *
      clear HWS HB HBB HBOX HG
      have hb1 : w9.cell? ⟨gb, 1, none⟩ = some (.int .i64 t.f1) := (blk_cell HBK9 1).trans rfl
      have hws9 := Aside0.mk HWS9
      have hbk9 := Aside0.mk HBK9
      have hb9 := Aside0.mk HB9
      have hgne' := Aside0.mk hgne
      have hge' := Aside0.mk HGE
      clear HWS9 HBK9 HB9 hgne HGE
      have r0 := eq_true HBD.out.1
      have r1 := eq_true HBD.out.2
      obtain ⟨S, hS⟩ : ∃ S : Int, S = ((lst a1 t.f1.toNat : Nat) : Int) := ⟨_, rfl⟩
      obtain ⟨rr, hrr⟩ : ∃ rr : Int, rr = S - 1 := ⟨_, rfl⟩
      have hsb : 0 ≤ S ∧ S ≤ t.f1 ∧ t.f1 ≤ 100000 := by have h1 := lst_le a1 t.f1.toNat; have h2 := HBD.out; have h3 := HRD.out.2.1; omega
      have HSB := Aside0.mk hsb
      have hsum : IntKind.i64.wrap (rr + 1) = S := by rw [i64_w, hrr]; unfold wrap64; omega
      have hsum' : wrap64 (rr + 1) = S := by rw [hrr]; unfold wrap64; omega
      have HLAST := Aside0.mk (show strings_LastIndexByte.f (t.f1.toNat + 1) (a1.extract 0 t.f1.toNat) 10 = some rr by rw [last_of a1 t.f1.toNat (by have := HBD.out; omega) (by have := HRD.out.2.1; omega), hrr, hS])
      have HS := Aside0.mk hS
      clear hS hrr hsb
      go_upto_if 30 with (first | (go_at_call 22; (with_reducible refine (strings_LastIndexByte.calls (t.f1.toNat + 1) (a1.extract 0 t.f1.toNat) 10 rr _ HLAST.out).mono ?_); rintro e w' ⟨rfl, ⟨nd, rfl⟩⟩))
      go_cut [8] (fun v8 wc => ∃ (out : List S33) (lv : List Int), v8 = .int .i64 S ∧ Aside0 ((⟨false, S, out ++ [t], lv⟩ : LSt) = stepF a2 a1 st t) ∧ Aside0 (WS w.heap.size w.heap.size (ok2 w.heap.size gb) a2 wc out lv) ∧ Aside0 (wc.heap[gb]? = some (.cells #[.int .i64 t.f0, .int .i64 t.f1, .string t.f2, .int .i64 t.f3] 33 (0, 0))) ∧ Aside0 (Below w.heap.size w wc) ∧ Aside0 (out.length ≤ 3002))
      case first =>
        by_cases hne : S = st.last
        · have b0 : (S == st.last) = true := beq_iff_eq.2 hne
          have b1 : (S != st.last) = false := bne_eq_false_iff_eq.2 hne
          have HNE := Aside0.mk hne
          clear hne
          rw [b1]
          go_wp2
          go_meet
          case rel => exact ⟨_, _, by rw [← HNE.out], ⟨by unfold stepF; simp only []; rw [← HS.out, if_neg (by simp [HNE.out])]⟩, ⟨hws9.out.drewN _⟩, ⟨hbk9.out⟩, ⟨pw_below_drewN hb9.out _⟩, ⟨by have := HLEN.out; omega⟩⟩
        · have b0 : (S == st.last) = false := beq_eq_false_iff_ne.2 hne
          have b1 : (S != st.last) = true := bne_iff_ne.2 hne
          have HNE := Aside0.mk hne
          clear hne
          rw [b1]
          obtain ⟨D, hD⟩ : ∃ D : Int, t.f1 - S = D := ⟨_, rfl⟩
          have hsub : IntKind.i64.wrap (t.f1 - S) = D := by rw [i64_w, ← hD]; have := HSB.out; unfold wrap64; omega
          have hsub' : wrap64 (t.f1 - S) = D := by rw [← hD]; have := HSB.out; unfold wrap64; omega
          have HD := Aside0.mk hD
          clear hD
          have hfi : ((i : Int) == 0) = st.first := by
            have h1 := HA.out.2
            rw [h1]
            cases i with
            | zero => simp [runF]
            | succ n =>
              have hn : n < l0.length := by have := HI.out; omega
              rw [runF_succ a2 a1 l0 n hn]
              simp [stepF]
              omega
          go_wp2_with (first | (go_at_call 23; (with_reducible refine (line_calls w.heap.size w.heap.size (ok2 w.heap.size gb) a2 t.f1 D st.first _ st.out st.lv (hws9.out.drewN _) (Nat.le_refl _) (by have := HLEN.out; omega) HD0.out HD1.out).mono ?_); rintro e w' ⟨rfl, hwsr, hfrm⟩; have HWSR := Aside0.mk hwsr; have HFRM := Aside0.mk hfrm; clear hwsr hfrm))
          go_meet
          case rel => exact ⟨_, _, rfl, ⟨by unfold stepF; simp only []; rw [← HS.out, if_pos HNE.out, HD.out]⟩, ⟨HWSR.out⟩, ⟨HFRM.out.keeps hbk9.out hgne'.out⟩, ⟨Below.trans (pw_below_drewN hb9.out _) HFRM.out.1⟩, ⟨by have h1 := lineF_len a2 st.out st.lv t.f1 D st.first; have h2 := HLEN.out; omega⟩⟩
      case rest =>
        clear hws9 hbk9 hb9 hb1 hsum hsum' HLAST HLEN
        obtain ⟨out, lv, rfl, HST, HWS, HBK, HB, HLEN⟩ := hcut
        have hws := HWS.out
        have hgl := Aside0.mk hws.lt
        obtain ⟨⟨vo, vl, hb0, hro0, hrl0⟩, hok0, hfr0⟩ := hws
        obtain ⟨A, c, rfl⟩ := Kd.R_slice hro0
        have hok := Aside0.mk hok0
        have hfr := Aside0.mk hfr0
        have HBLK := Aside0.mk hb0
        have hro := Aside0.mk hro0
        have hrl := Aside0.mk hrl0
        have hc0 : wc.cell? ⟨w.heap.size, 0, none⟩ = some (.slice A out.length c) := (blk_cell hb0 0).trans rfl
        have hg0 : wc.cell? ⟨gb, 0, none⟩ = some (.int .i64 t.f0) := (blk_cell HBK.out 0).trans rfl
        have hg1 : wc.cell? ⟨gb, 1, none⟩ = some (.int .i64 t.f1) := (blk_cell HBK.out 1).trans rfl
        have hg2 : wc.cell? ⟨gb, 2, none⟩ = some (.string t.f2) := (blk_cell HBK.out 2).trans rfl
        have hg3 : wc.cell? ⟨gb, 3, none⟩ = some (.int .i64 t.f3) := (blk_cell HBK.out 3).trans rfl
        clear hb0 hro0 hrl0 hok0 hfr0
        go_wp2
        refine start_ (n := 11) (S := fun w' => w'.cell? ⟨w.heap.size, 0, none⟩ = some (.slice A out.length c) ∧ w'.cell? ⟨gb, 0, none⟩ = some (.int .i64 t.f0) ∧ w'.cell? ⟨gb, 1, none⟩ = some (.int .i64 t.f1) ∧ w'.cell? ⟨gb, 2, none⟩ = some (.string t.f2) ∧ w'.cell? ⟨gb, 3, none⟩ = some (.int .i64 t.f3)) (ds := [7, 10]) #[false, false, false, false, false, false, false, false, false, false, false] (by kernel_rfl) rfl rfl ⟨hc0, hg0, hg1, hg2, hg3⟩ (fun hHeld => ?_)
        refine pure_ (i := 0) (N := some 42) (v := ?_) (a' := ?_) #[true, false, false, false, false, false, false, false, false, false, false] rfl rfl (by kernel_rfl) (fun _ _ _ h => h) (Or.inl ⟨by rfl, ?_⟩) ?_ ?_
        rotate_left
        · intro w'
          go_simp
          with_reducible rfl
        rotate_left
        · simp only [Act.put, List.setIfInBounds_toArray, List.set_cons_zero, List.set_cons_succ, i64_w, i32_w]
          rfl
        refine pure_ (i := 1) (N := some 43) (v := ?_) (a' := ?_) #[true, true, false, false, false, false, false, false, false, false, false] rfl rfl (by kernel_rfl) (fun _ _ _ h => h) (Or.inl ⟨by rfl, ?_⟩) ?_ ?_
        rotate_left
        · intro w'
          go_simp
          with_reducible rfl
        rotate_left
        · simp only [Act.put, List.setIfInBounds_toArray, List.set_cons_zero, List.set_cons_succ, i64_w, i32_w]
          rfl
        refine pure_ (i := 2) (N := some 44) (v := ?_) (a' := ?_) #[true, true, true, false, false, false, false, false, false, false, false] rfl rfl (by kernel_rfl) (fun _ _ _ h => h) (Or.inl ⟨by rfl, ?_⟩) ?_ ?_
        rotate_left
        · intro w'
          go_simp
          with_reducible rfl
        rotate_left
        · simp only [Act.put, List.setIfInBounds_toArray, List.set_cons_zero, List.set_cons_succ, i64_w, i32_w]
          rfl
        refine pure_ (i := 3) (N := some 45) (v := ?_) (a' := ?_) #[true, true, true, true, false, false, false, false, false, false, false] rfl rfl (by kernel_rfl) (fun _ _ _ h => h) (Or.inl ⟨by rfl, ?_⟩) ?_ ?_
        rotate_left
        · intro w'
          go_simp
          with_reducible rfl
        rotate_left
        · simp only [Act.put, List.setIfInBounds_toArray, List.set_cons_zero, List.set_cons_succ, i64_w, i32_w]
          rfl
        refine take_ (i := 4) (N := some 46) (v := ?_) (a' := ?_) #[true, true, true, true, true, false, false, false, false, false, false] rfl rfl (by kernel_rfl) (fun _ _ _ h => h) (Or.inl ⟨by rfl, ?_⟩) hHeld ?_ ?_
        rotate_left
        · rintro w' ⟨s0, s1, s2, s3, s4⟩
          go_simp
          with_reducible rfl
        rotate_left
        · simp only [Act.put, List.setIfInBounds_toArray, List.set_cons_zero, List.set_cons_succ, i64_w, i32_w]
          rfl
        refine take_ (i := 5) (N := some 47) (v := ?_) (a' := ?_) #[true, true, true, true, true, true, false, false, false, false, false] rfl rfl (by kernel_rfl) (fun _ _ _ h => h) (Or.inl ⟨by rfl, ?_⟩) hHeld ?_ ?_
        rotate_left
        · rintro w' ⟨s0, s1, s2, s3, s4⟩
          go_simp
          with_reducible rfl
        rotate_left
        · simp only [Act.put, List.setIfInBounds_toArray, List.set_cons_zero, List.set_cons_succ, i64_w, i32_w]
          rfl
        refine one_ (i := 6) (N := some 48) #[true, true, true, true, true, true, true, false, false, false, false] rfl rfl (by kernel_rfl) (by decide) (fun K hK => ?_)
        refine value_ (w1 := ?_) (v := ?_) (by rfl) rfl ?_ ?_
        rotate_left 2
        · go_simp
          constructor
          · rfl
          · rfl
        refine hK.out _ _ ⟨(World.cell?_alloc_lt _ _ _ (World.block_lt_of_cell? _ _ (hHeld.1))).trans (hHeld.1), (World.cell?_alloc_lt _ _ _ (World.block_lt_of_cell? _ _ (hHeld.2.1))).trans (hHeld.2.1), (World.cell?_alloc_lt _ _ _ (World.block_lt_of_cell? _ _ (hHeld.2.2.1))).trans (hHeld.2.2.1), (World.cell?_alloc_lt _ _ _ (World.block_lt_of_cell? _ _ (hHeld.2.2.2.1))).trans (hHeld.2.2.2.1), (World.cell?_alloc_lt _ _ _ (World.block_lt_of_cell? _ _ (hHeld.2.2.2.2))).trans (hHeld.2.2.2.2)⟩ (fun hHeld => ?_)
        clear hK K
        refine norm_ (a' := ?_) ?_ ?_
        rotate_left
        · show Act.put _ (some 48) _ = _
          simp only [Act.put, List.setIfInBounds_toArray, List.set_cons_zero, List.set_cons_succ, i64_w, i32_w]
          rfl
        refine last_ (i := 7) (N := some 49) #[true, true, true, true, true, true, true, true, false, false, false] rfl rfl (by kernel_rfl) (by decide) (fun K hK => ?_)
        refine Kd.R_append_step k33 (w0 := wc) (W := wc.drew) w.heap.size (by rfl) (.tmp 46) (.tmp 48) 22 33 (.agg #[(.int .i64 0), (.int .i64 0), (.string ⟨#[]⟩), (.int .i64 0)]) 40 rfl Try.underlying22 info33 rfl (by decide) (by omega) (.slice A out.length c) out t [.int .i64 t.f0, .int .i64 t.f1, .string t.f2, .int .i64 t.f3] (ok2 w.heap.size gb) (fun _ => False) rfl rfl (k33_mkM _ _ _ t) (fun _ hk => hk.elim) (fun k hk => hfr.out k hk) (Kd.R_drew hro.out) (below_drew (Below.refl _ _)) (show w.heap.size ≤ wc.drew.heap.size from Nat.le_of_lt hgl.out) (by have := HLEN.out; omega) ?_
        intro v1 w1 ho hb hg hat
        obtain ⟨A1, c1, rfl⟩ := Kd.R_slice ho
        have hlen : (out ++ [t]).length = out.length + 1 := by simp
        rw [hlen] at ho
        clear hlen
        have hb1 : w1.heap[w.heap.size]? = some (.cells #[.slice A out.length c, .int .i64 a2, vl] 41 (0, 0)) := blk_grown (w := wc.drew) HBLK.out hg (Kd.R_away hro.out hok.out)
        have hl1 := Kd.R_over' (Kd.R_drew hrl.out) (Kd.R_typed (Kd.R_drew hro.out)) (by decide) hg
        have hc10 : w1.cell? ⟨w.heap.size, 0, none⟩ = some (.slice A out.length c) := (blk_cell hb1 0).trans rfl
        have hf10 := blk_frozen hb1 0
        have HSZ := Aside0.mk (show wc.heap.size ≤ w1.heap.size from hb.size)
        have HB1 := Aside0.mk hb1
        have HL1 := Aside0.mk hl1
        have HO1 := Aside0.mk ho
        have HBB2 := Aside0.mk hb
        clear hb1 hl1 ho hb hg hat
        refine hK.out _ _ ?_
        clear hK K
        refine norm_ (a' := ?_) ?_ ?_
        rotate_left
        · show Act.put _ (some 49) _ = _
          simp only [Act.put, List.setIfInBounds_toArray, List.set_cons_zero, List.set_cons_succ, i64_w, i32_w]
          rfl
        refine pure_ (i := 8) (N := some 50) (v := ?_) (a' := ?_) #[true, true, true, true, true, true, true, true, true, false, false] rfl rfl (by kernel_rfl) (fun _ _ _ h => h) (Or.inl ⟨by rfl, ?_⟩) ?_ ?_
        rotate_left
        · intro w'
          go_simp
          with_reducible rfl
        rotate_left
        · simp only [Act.put, List.setIfInBounds_toArray, List.set_cons_zero, List.set_cons_succ, i64_w, i32_w]
          rfl
        refine pure_ (i := 9) (N := some 51) (v := ?_) (a' := ?_) #[true, true, true, true, true, true, true, true, true, true, false] rfl rfl (by kernel_rfl) (fun _ _ _ h => h) (Or.inl ⟨by rfl, ?_⟩) ?_ ?_
        rotate_left
        · intro w'
          go_simp
          with_reducible rfl
        rotate_left
        · simp only [Act.put, List.setIfInBounds_toArray, List.set_cons_zero, List.set_cons_succ, i64_w, i32_w]
          rfl
        refine last_ (i := 10) (N := none) #[true, true, true, true, true, true, true, true, true, true, true] rfl rfl (by kernel_rfl) (by decide) (fun K hK => ?_)
        refine skip_ (w1 := ?_) (by rfl) rfl ?_ ?_
        rotate_left
        · go_simp
          rfl
        refine hK.out _ _ ?_
        clear hK K
        refine done_ (by kernel_rfl) ?_
        go_wp2
        go_roundg (gk - 1)
        case measure => have h1 := HA.out.1; have h2 := HI.out; omega
        case rel => exact ⟨i + 1, ⟨false, S, out ++ [t], lv⟩, by first | rfl | go_num | (simp; done), rfl, ⟨by have h1 := HA.out.1; have h2 := HI.out; omega, HST.out.trans HT.out⟩, ⟨WS.wide ⟨⟨_, vl, blk_set HB1.out 0 _, Kd.R_far (p := ⟨w.heap.size, 0, none⟩) HO1.out hok.out _, Kd.R_far (p := ⟨w.heap.size, 0, none⟩) HL1.out hok.out _⟩, hok.out, fun k hk => hfr.out k (Nat.le_trans HSZ.out (by simpa [World.setCell] using hk))⟩⟩, ⟨Below.setCell (Below.trans HB.out HBB2.out) (Nat.le_refl _) _⟩⟩
    · have p0 : decide ((i : Int) < (l0.length : Int)) = false := decide_eq_false (by omega)
      have p1 : decide (i < l0.length) = false := decide_eq_false (by omega)
      have hst : st = runF a2 a1 l0 := by rw [HA.out.2, List.take_of_length_le (by omega)]
      have HST := Aside0.mk hst
      clear hst
      by_cases hz : l0.length = 0
      · have z0 : decide (0 < (l0.length : Int)) = false := decide_eq_false (by omega)
        have z1 : decide (0 < l0.length) = false := decide_eq_false (by omega)
        have HF := Aside0.mk (show applyF l0 a1 a2 = st.out by unfold applyF; simp only []; rw [if_pos hz, HST.out])
        clear hz hi
        obtain ⟨⟨vo, vl, hb0, hro0, hrl0⟩, _, _⟩ := HWS.out
        obtain ⟨A, c, rfl⟩ := Kd.R_slice hro0
        have hro := Aside0.mk hro0
        have hc0 : wr.cell? ⟨w.heap.size, 0, none⟩ = some (.slice A st.out.length c) := (blk_cell hb0 0).trans rfl
        clear hb0 hro0 hrl0
        go_wp2
        go_ret
        exact ⟨_, rfl, by rw [HF.out]; exact Kd.R_mono hro.out (fun _ _ => trivial), HB.out⟩
      · have z0 : decide (0 < (l0.length : Int)) = true := decide_eq_true (by omega)
        have z1 : decide (0 < l0.length) = true := decide_eq_true (by omega)
        have e0 : wrap64 (a2 + 0) = a2 := by have h1 := HD0.out; have h2 := HD1.out; unfold wrap64; omega
        have e2 : wrap64 (a2 + 2) = a2 + 2 := by have h1 := HD0.out; have h2 := HD1.out; unfold wrap64; omega
        have E0 := Aside0.mk e0
        have E2 := Aside0.mk e2
        have HF := Aside0.mk (show applyF l0 a1 a2 = (st.out ++ [tok a2 a1.size]) ++ List.replicate st.lv.length (tok (a2 + 2) a1.size) by unfold applyF; simp only []; rw [if_neg hz, HST.out])
        clear hz hi e0 e2
        go_upto_region 14 with (first | (go_at_call 24; (with_reducible refine (layout_calls w.heap.size w.heap.size (fun k => k ≠ w.heap.size) a2 0 (a1.size : Int) _ st.out st.lv HWS.out (Nat.le_refl _) (by have := HLEN.out; omega)).mono ?_); rintro e w' ⟨rfl, hws, hfrm⟩; have HWS2 := Aside0.mk hws; have HFRM := Aside0.mk hfrm; clear hws hfrm))
        have hws2 := HWS2.out
        rw [E0.out] at hws2
        clear HWS2
        have HWS2 := Aside0.mk hws2
        obtain ⟨⟨vo, vl, hb0, hro0, hrl0⟩, _, _⟩ := hws2
        obtain ⟨A2, c2, rfl⟩ := Kd.R_slice hrl0
        have hc2 : w'.cell? ⟨w.heap.size, 2, none⟩ = some (.slice A2 st.lv.length c2) := (blk_cell hb0 2).trans rfl
        clear hb0 hro0 hrl0
        go_wp2
        obtain ⟨wo, hwo⟩ : ∃ wo : World, wo = w' := ⟨_, rfl⟩
        go_loopg [65] st.lv.length (fun kq v65 wq => ∃ (j : Nat), v65 = .int .i64 j ∧ Aside0 (j + kq = st.lv.length) ∧ Aside0 (WS w.heap.size w.heap.size (fun k => k ≠ w.heap.size) a2 wq ((st.out ++ [tok a2 a1.size]) ++ List.replicate j (tok (a2 + 2) a1.size)) st.lv) ∧ Aside0 (Below w.heap.size w wq))
        case atStart => exact ⟨0, rfl, ⟨by simp⟩, ⟨by simpa using HWS2.out⟩, ⟨Below.trans HB.out HFRM.out.1⟩⟩
        case round =>
          clear HWS2 hc2 hwo HFRM
          obtain ⟨j, rfl, HJ, HWJ, HBJ⟩ := hrel
          by_cases hj : j < st.lv.length
          · have j0 : decide ((j : Int) < (st.lv.length : Int)) = true := decide_eq_true (by omega)
            have j1 : decide (j < st.lv.length) = true := decide_eq_true (by omega)
            have hjb : (j : Int) ≤ 3000 := by have := HLEN.out; omega
            have HJL := Aside0.mk (show ((st.out ++ [tok a2 a1.size]) ++ List.replicate j (tok (a2 + 2) a1.size)).length < 1000000 by have := HLEN.out; simp only [List.length_append, List.length_replicate, List.length_singleton]; omega)
            have HI := Aside0.mk hj
            clear hj
            go_wp2_with (first | (go_at_call 24; (with_reducible refine (layout_calls w.heap.size w.heap.size (fun k => k ≠ w.heap.size) a2 2 (a1.size : Int) _ ((st.out ++ [tok a2 a1.size]) ++ List.replicate j (tok (a2 + 2) a1.size)) st.lv HWJ.out (Nat.le_refl _) HJL.out).mono ?_); rintro e w2 ⟨rfl, hws, hfrm⟩; have HWS2 := Aside0.mk hws; have HFRM := Aside0.mk hfrm; clear hws hfrm))
            go_roundg (gk - 1)
            case measure => have h1 := HJ.out; have h2 := HI.out; omega
            case rel => exact ⟨j + 1, by first | rfl | go_num | (simp; done), ⟨by have h1 := HJ.out; have h2 := HI.out; omega⟩, ⟨by have := HWS2.out; rw [E2.out] at this; rw [List.replicate_succ']; simpa [List.append_assoc] using this⟩, ⟨Below.trans HBJ.out HFRM.out.1⟩⟩
          · have j0 : decide ((j : Int) < (st.lv.length : Int)) = false := decide_eq_false (by omega)
            have j1 : decide (j < st.lv.length) = false := decide_eq_false (by omega)
            have HJE := Aside0.mk (show j = st.lv.length by have := HJ.out; omega)
            clear hj
            obtain ⟨⟨vo, vl, hb0, hro0, hrl0⟩, _, _⟩ := HWJ.out
            obtain ⟨A, c, rfl⟩ := Kd.R_slice hro0
            have hro := Aside0.mk hro0
            obtain ⟨n1, hn1⟩ : ∃ n1, ((st.out ++ [tok a2 a1.size]) ++ List.replicate j (tok (a2 + 2) a1.size)).length = n1 := ⟨_, rfl⟩
            rw [hn1] at hb0 hro0
            have hc0 := (blk_cell hb0 0).trans rfl
            have HN1 := Aside0.mk hn1
            clear hb0 hrl0 hro hn1
            have hro := Aside0.mk hro0
            clear hro0
            go_wp2
            go_ret
            exact ⟨_, rfl, by rw [HF.out, ← HJE.out]; exact Kd.R_mono hro.out (fun _ _ => trivial), HBJ.out⟩
end Go.Proofs.Ythbdgmahjpgfiaa.All
