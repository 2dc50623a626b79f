/- The state of a script that is being applied: what its methods leave alone; the walks of next and emit. -/
import Derived.Test.YtnddijafdphbnaaDoorAllx0
import Derived.Test.YtnddijafdphbnaaDoorAllx4
import Derived.Test.YtnddijafdphbnaaDoorAllx6
namespace Go.Proofs.YtnddijafdphbnaaDoor.All
open Go.RowKit Go.Proofs.YtnddijafdphbnaaDoorW.PrintWords Go.Proofs.YtnddijafdphbnaaDoorW.PrintLast Go.Proofs.YtnddijafdphbnaaDoorW.PrintMore
set_option linter.unusedVariables false
set_option linter.unusedSimpArgs false

/-- The state at block g: the input's three fields, the tokens consumed, the terminals emitted, the cost; ok: the blocks in which the terminals may lie. -/
def ES (A0 : Option Addr) (n0 c0 : Nat) (A1 : Option Addr) (n1 c1 : Nat) (sw : Int) (g B : Nat) (ok : Nat → Prop) (W : World) (at_ : Int) (out : List Int) (cost : Int) : Prop :=
 (∃ vo, W.heap[g]? = some (.cells #[.slice A0 n0 c0, .slice A1 n1 c1, .int .i64 sw, .int .i64 at_, vo, .int .i64 cost] 58 (0, 0)) ∧ Kd.R (Kd.int .i64) 3 W B ok vo out) ∧ (∀ k, ok k → k ≠ g) ∧ (∀ k, W.heap.size ≤ k → ok k)

/-- What a method of the state leaves alone: what lies below B, and each block that is neither the state nor one of its rows. -/
def Fr (g B : Nat) (ok : Nat → Prop) (W W' : World) : Prop := Below B W W' ∧ ∀ k, k < W.heap.size → k ≠ g → ¬ ok k → W'.heap[k]? = W.heap[k]?

theorem Fr.refl (g B : Nat) (ok : Nat → Prop) (W : World) : Fr g B ok W W := ⟨Below.refl _ _, fun _ _ _ _ => rfl⟩
theorem Fr.trans {g B : Nat} {ok : Nat → Prop} {W W1 W2 : World} (h : Fr g B ok W W1) (k : Fr g B ok W1 W2) : Fr g B ok W W2 :=
 ⟨h.1.trans k.1, fun i hi hg ho => (k.2 i (Nat.lt_of_lt_of_le hi h.1.size) hg ho).trans (h.2 i hi hg ho)⟩
theorem Fr.drewN {g B : Nat} {ok : Nat → Prop} {W W1 : World} (h : Fr g B ok W W1) (n : Nat) : Fr g B ok W (W1.drewN n) := ⟨pw_below_drewN h.1 n, h.2⟩
theorem Fr.set {g B : Nat} {ok : Nat → Prop} {W W1 : World} (h : Fr g B ok W W1) (hB : B ≤ g) (j : Nat) (u : Value) : Fr g B ok W (W1.setCell ⟨g, j, none⟩ u) :=
 ⟨Below.setCell h.1 hB _, fun i hi hg ho => (Below.heap_setCell W1 ⟨g, j, none⟩ u i hg).trans (h.2 i hi hg ho)⟩
theorem Fr.grown {g B : Nat} {ok : Nat → Prop} {W W1 : World} {row : Option Nat} (hg : W.grownBy W1 row) (hr : ∀ k, row = some k → ok k ∧ B ≤ k) (hB : B ≤ W.heap.size) : Fr g B ok W W1 :=
 ⟨Below.grown (Below.refl _ _) hg hB (fun k hk => (hr k hk).2), fun i hi _ ho => hg.block i hi (fun e => ho (hr i e.symm).1)⟩
theorem Fr.below {g B : Nat} {ok : Nat → Prop} {W W1 : World} (h : Below W.heap.size W W1) (hB : B ≤ W.heap.size) : Fr g B ok W W1 := ⟨h.mono hB, fun i hi _ _ => h.block i hi⟩

section
variable {A0 : Option Addr} {n0 c0 : Nat} {A1 : Option Addr} {n1 c1 : Nat} {sw : Int} {g B : Nat} {ok : Nat → Prop} {W W1 : World} {at_ : Int} {out : List Int} {cost : Int}
theorem ES.lt (h : ES A0 n0 c0 A1 n1 c1 sw g B ok W at_ out cost) : g < W.heap.size := by
 obtain ⟨⟨vo, hb, _⟩, _⟩ := h
 exact blk_lt hb
theorem ES.below (h : ES A0 n0 c0 A1 n1 c1 sw g B ok W at_ out cost) (hb : Below W.heap.size W W1) : ES A0 n0 c0 A1 n1 c1 sw g B ok W1 at_ out cost := by
 obtain ⟨⟨vo, h0, h1⟩, h2, h3⟩ := h
 exact ⟨⟨vo, (hb.block g (blk_lt h0)).trans h0, Kd.R_below h1 hb⟩, h2, fun k hk => h3 k (Nat.le_trans hb.size hk)⟩
theorem ES.drewN (h : ES A0 n0 c0 A1 n1 c1 sw g B ok W at_ out cost) (n : Nat) : ES A0 n0 c0 A1 n1 c1 sw g B ok (W.drewN n) at_ out cost := h.below (pw_below_drewN (Below.refl _ _) n)
/-- A field that holds a number is written. -/
theorem ES.setAt (h : ES A0 n0 c0 A1 n1 c1 sw g B ok W at_ out cost) (n : Int) : ES A0 n0 c0 A1 n1 c1 sw g B ok (W.setCell ⟨g, 3, none⟩ (.int .i64 n)) n out cost := by
 obtain ⟨⟨vo, h0, h1⟩, h2, h3⟩ := h
 exact ⟨⟨vo, blk_set h0 3 _, Kd.R_far (p := ⟨g, 3, none⟩) h1 h2 _⟩, h2, fun k hk => h3 k (by simpa [World.setCell] using hk)⟩
theorem ES.setCost (h : ES A0 n0 c0 A1 n1 c1 sw g B ok W at_ out cost) (n : Int) : ES A0 n0 c0 A1 n1 c1 sw g B ok (W.setCell ⟨g, 5, none⟩ (.int .i64 n)) at_ out n := by
 obtain ⟨⟨vo, h0, h1⟩, h2, h3⟩ := h
 exact ⟨⟨vo, blk_set h0 5 _, Kd.R_far (p := ⟨g, 5, none⟩) h1 h2 _⟩, h2, fun k hk => h3 k (by simpa [World.setCell] using hk)⟩
end

theorem box3 {W8 : World} {gb : Nat} {z0 z1 z2 : Value} (h : W8.heap[gb]? = some (.cells #[z0, z1, z2] 33 (0, 0))) (u0 u1 u2 : Value) :
  (((W8.setCell ⟨gb, 0, none⟩ u0).setCell ⟨gb, 1, none⟩ u1).setCell ⟨gb, 2, none⟩ u2).heap[gb]? = some (.cells #[u0, u1, u2] 33 (0, 0)) := by
 have := blk_set (blk_set (blk_set h 0 u0) 1 u1) 2 u2
 simpa using this

def ok2 (ok : Nat → Prop) (gb : Nat) (k : Nat) : Prop := ok k ∧ k ≠ gb
/-- A block that has been made since is none of the state's rows. -/
theorem ES.box {A0 : Option Addr} {n0 c0 : Nat} {A1 : Option Addr} {n1 c1 : Nat} {sw : Int} {g B : Nat} {ok : Nat → Prop} {W W1 : World} {at_ : Int} {out : List Int} {cost : Int} (h : ES A0 n0 c0 A1 n1 c1 sw g B ok W at_ out cost) (hb : Below W.heap.size W W1) {gb : Nat} (h0 : W.heap.size ≤ gb) (h1 : gb < W1.heap.size) : ES A0 n0 c0 A1 n1 c1 sw g B (ok2 ok gb) W1 at_ out cost := by
 obtain ⟨⟨vo, k0, k1⟩, k2, k3⟩ := h
 exact ⟨⟨vo, (hb.block g (blk_lt k0)).trans k0, Kd.R_below (Kd.R_elderB k1 gb h0) hb⟩, fun k hk => k2 k hk.1, fun k hk => ⟨k3 k (Nat.le_trans hb.size hk), by omega⟩⟩
theorem ES.wide {A0 : Option Addr} {n0 c0 : Nat} {A1 : Option Addr} {n1 c1 : Nat} {sw : Int} {g gb B : Nat} {ok : Nat → Prop} {W : World} {at_ : Int} {out : List Int} {cost : Int} (h : ES A0 n0 c0 A1 n1 c1 sw g B (ok2 ok gb) W at_ out cost) (h2 : ∀ k, ok k → k ≠ g) (h3 : ∀ k, W.heap.size ≤ k → ok k) : ES A0 n0 c0 A1 n1 c1 sw g B ok W at_ out cost := by
 obtain ⟨⟨vo, k0, k1⟩, _, _⟩ := h
 exact ⟨⟨vo, k0, Kd.R_mono k1 (fun _ hk => hk.1)⟩, h2, h3⟩
theorem Fr.keeps {g B gb : Nat} {ok : Nat → Prop} {W W' : World} (h : Fr g B (ok2 ok gb) W W') {o : Obj} (hb : W.heap[gb]? = some o) (hne : gb ≠ g) : W'.heap[gb]? = some o :=
 (h.2 gb (blk_lt hb) hne (fun hk => hk.2 rfl)).trans hb
/-- What a method leaves alone that has made a block of its own. -/
theorem Fr.unbox {g B gb : Nat} {ok : Nat → Prop} {W W1 W' : World} (hb : Below W.heap.size W W1) (hB : B ≤ W.heap.size) (h0 : W.heap.size ≤ gb) (h : Fr g B (ok2 ok gb) W1 W') : Fr g B ok W W' :=
 ⟨(hb.mono hB).trans h.1, fun i hi hg ho => (h.2 i (Nat.lt_of_lt_of_le hi hb.size) hg (fun hk => ho hk.1)).trans (hb.block i hi)⟩

/-- emit: a terminal is appended. -/
theorem emit_calls (A0 : Option Addr) (n0 c0 : Nat) (A1 : Option Addr) (n1 c1 : Nat) (sw : Int) (g B : Nat) (ok : Nat → Prop) (W : World) (at_ : Int) (out : List Int) (cost t : Int) (h : ES A0 n0 c0 A1 n1 c1 sw g B ok W at_ out cost) (hB : B ≤ g) (hn : out.length < 10000000) :
  Calls Tryd.prog 56 #[.pointer (some ⟨g, 0, none⟩), .int .i64 t] W fun e W' => e = .returned (.tuple #[]) ∧ ES A0 n0 c0 A1 n1 c1 sw g B ok W' at_ (out ++ [t]) cost ∧ Fr g B ok W W' := by
 have hgl := h.lt
 obtain ⟨⟨vo, hb0, hro0⟩, hok0, hfr0⟩ := h
 obtain ⟨A, c, rfl⟩ := Kd.R_slice hro0
 have HBLK := Aside0.mk hb0
 have hro := Aside0.mk hro0
 have hok := Aside0.mk hok0
 have hfr := Aside0.mk hfr0
 have hBW : B ≤ W.heap.size := Nat.le_trans hB (Nat.le_of_lt hgl)
 have hc4 : W.cell? ⟨g, 4, none⟩ = some (.slice A out.length c) := (blk_cell hb0 4).trans rfl
 clear hb0 hro0 hok0 hfr0
 go_enter Tryd.func56, Tryd.ntmps56
 go_wp2_with (first | ((with_reducible refine gate_builtin (b := .append) (xs := #[.tmp 10, .tmp 12]) rfl ?_); at_builtin; refine Kd.R_append (Kd.int .i64) (w0 := W) (W := W) B rfl (.tmp 10) (.tmp 12) 23 3 (.int .i64 0) 8 rfl Tryd.underlying23 info3 rfl (by decide) (by omega) (.slice A out.length c) out t [.int .i64 t] ok (fun _ => False) rfl rfl ?aP (fun _ hk => hk.elim) ?aF ?aO ?aB ?aS ?aL ?_; (case aP => exact rfl); (case aF => exact (fun k hk => hfr.out k hk)); (case aO => exact hro.out); (case aB => exact Below.refl _ _); (case aS => exact hBW); (case aL => omega); intro v1 w1 ho hb hg hat; obtain ⟨A2, c2, rfl⟩ := Kd.R_slice ho; have hlen : (out ++ [t]).length = out.length + 1 := (by simp); rw [hlen] at ho; clear hlen; have hb1 := blk_grown (w := W) HBLK.out hg (Kd.R_away hro.out hok.out); have hc14 : w1.cell? ⟨g, 4, none⟩ = some (.slice A out.length c) := (blk_cell hb1 4).trans rfl; have hf14 := blk_frozen hb1 4; have HFM := Aside0.mk (Fr.grown (g := g) (B := B) (ok := ok) hg (fun k hk => ⟨hro.out.1 k hk, Kd.R_base hro.out k hk⟩) hBW); have HSZ := Aside0.mk (show W.heap.size ≤ w1.heap.size from hb.size); have HB1 := Aside0.mk hb1; have HO1 := Aside0.mk ho; clear hb1 ho hb hg hat))
 go_end0
 exact ⟨rfl, ⟨⟨_, blk_set HB1.out 4 _, Kd.R_far (p := ⟨g, 4, none⟩) HO1.out hok.out _⟩, hok.out, fun k hk => hfr.out k (Nat.le_trans HSZ.out (by simpa [World.setCell] using hk))⟩, Fr.set HFM.out hB _ _⟩

/-- next, behind the last token. -/
theorem next_no (A0 : Option Addr) (n0 c0 : Nat) (A1 : Option Addr) (n1 c1 : Nat) (sw : Int) (g B : Nat) (ok : Nat → Prop) (W : World) (at_ : Nat) (out : List Int) (cost : Int) (h : ES A0 n0 c0 A1 n1 c1 sw g B ok W at_ out cost) (hn : n0 ≤ at_) :
  Calls Tryd.prog 62 #[.pointer (some ⟨g, 0, none⟩)] W fun e W' => e = .returned (.tuple #[.agg #[.int .i64 0, .slice none 0 0, .int .i64 0], .bool false]) ∧ Below W.heap.size W W' := by
 obtain ⟨⟨vo, hb0, _⟩, _⟩ := h
 have hgl := blk_lt hb0
 have hc0 : W.cell? ⟨g, 0, none⟩ = some (.slice A0 n0 c0) := (blk_cell hb0 0).trans rfl
 have hc3 : W.cell? ⟨g, 3, none⟩ = some (.int .i64 at_) := (blk_cell hb0 3).trans rfl
 have b0 : decide ((n0 : Int) ≤ (at_ : Int)) = true := decide_eq_true (by omega)
 have b1 : decide (n0 ≤ at_) = true := decide_eq_true hn
 clear hb0 hn
 go_enter Tryd.func62, Tryd.ntmps62
 go_wp2
 repeat (go_quiet (fail); try go_wp2)
 refine bodyPost_ret (results_ct rfl _ _ W.heap.size 33 #[.int .i64 0, .slice none 0 0, .int .i64 0] (0, 0) _ rfl (box3 (blk_drewN (blk_new W _) _) _ _ _) Tryd.underlying33 rfl (by kernel_rfl)) rfl ?_
 exact ⟨rfl, Below.setCell (Below.setCell (Below.setCell (pw_below_drewN (below_alloc (Below.refl _ _) _) _) (Nat.le_refl _) _) (Nat.le_refl _) _) (Nat.le_refl _) _⟩

/-- next, at a token. -/
theorem next_yes (A0 : Option Addr) (c0 : Nat) (cols : List S33) (A1 : Option Addr) (n1 c1 : Nat) (sw : Int) (g B : Nat) (ok : Nat → Prop) (W : World) (at_ : Nat) (out : List Int) (cost : Int) (h : ES A0 cols.length c0 A1 n1 c1 sw g B ok W at_ out cost) (hn : at_ < cols.length) (col : S33) (hcol : cols[at_] = col) (w0 : World) (hW : Below w0.heap.size w0 W) (hC : Kd.C k33 w0 A0 cols.length cols) :
  Calls Tryd.prog 62 #[.pointer (some ⟨g, 0, none⟩)] W fun e W' => (∃ A c, Kd.C (Kd.int .i64) w0 A col.f1.length col.f1 ∧ e = .returned (.tuple #[.agg #[.int .i64 col.f0, .slice A col.f1.length c, .int .i64 col.f2], .bool true])) ∧ Below W.heap.size W W' := by
 obtain ⟨⟨vo, hb0, _⟩, _⟩ := h
 have hgl := blk_lt hb0
 obtain ⟨ad, Ar, cr, e, hx0, hx1, hx2, hxc⟩ := at_T33 hC (at_ : Int) (by omega) (by omega)
 have hr : rd_T33 cols (at_ : Int) = col := by rw [← hcol]; simp [rd_T33, List.getD, hn]
 rw [hr] at hx0 hx1 hx2 hxc
 simp only [Int.toNat_natCast] at hx0 hx1 hx2
 replace hx0 := (hW.cell (World.block_lt_of_cell? w0 _ hx0)).trans hx0
 replace hx1 := (hW.cell (World.block_lt_of_cell? w0 _ hx1)).trans hx1
 replace hx2 := (hW.cell (World.block_lt_of_cell? w0 _ hx2)).trans hx2
 cases e
 have hc0 : W.cell? ⟨g, 0, none⟩ = some (.slice (some ad) cols.length c0) := (blk_cell hb0 0).trans rfl
 have hc3 : W.cell? ⟨g, 3, none⟩ = some (.int .i64 at_) := (blk_cell hb0 3).trans rfl
 have b0 : decide ((cols.length : Int) ≤ (at_ : Int)) = false := decide_eq_false (by omega)
 have b1 : decide (cols.length ≤ at_) = false := decide_eq_false (by omega)
 have q0 := eq_true (show (0 : Int) ≤ (at_ : Int) by omega)
 have q1 := eq_true (show (at_ : Int) < (cols.length : Int) by omega)
 have HX := Aside0.mk hxc
 clear hb0 hn hr hC hxc hcol hW
 go_enter Tryd.func62, Tryd.ntmps62
 go_wp2
 go_quiet (fail)
 go_wp2
 refine start_ (n := 13) (S := fun w' => w'.cell? ⟨g, 0, none⟩ = some (.slice (some ad) cols.length c0) ∧ w'.cell? ⟨g, 3, none⟩ = some (.int .i64 at_) ∧ w'.cell? (ad.add (at_ * 3)) = some (.int .i64 col.f0) ∧ w'.cell? ⟨(ad.add (at_ * 3)).block, (ad.add (at_ * 3)).off + 1, none⟩ = some (.slice Ar col.f1.length cr) ∧ w'.cell? ⟨(ad.add (at_ * 3)).block, (ad.add (at_ * 3)).off + 2, none⟩ = some (.int .i64 col.f2)) (ds := [11]) #[ff,ff,ff,ff,ff,ff,ff,ff,ff,ff,ff,ff,ff] (by kernel_rfl) rfl rfl ⟨(World.cell?_alloc_lt _ _ _ (World.block_lt_of_cell? _ _ (hc0))).trans (hc0), (World.cell?_alloc_lt _ _ _ (World.block_lt_of_cell? _ _ (hc3))).trans (hc3), (World.cell?_alloc_lt _ _ _ (World.block_lt_of_cell? _ _ (hx0))).trans (hx0), (World.cell?_alloc_lt _ _ _ (World.block_lt_of_cell? _ _ (hx1))).trans (hx1), (World.cell?_alloc_lt _ _ _ (World.block_lt_of_cell? _ _ (hx2))).trans (hx2)⟩ (fun hHeld => ?_)
 refine pv 0 16 #[tt,ff,ff,ff,ff,ff,ff,ff,ff,ff,ff,ff,ff] ?_
 refine pv 1 17 #[tt,tt,ff,ff,ff,ff,ff,ff,ff,ff,ff,ff,ff] ?_
 refine pv 2 18 #[tt,tt,tt,ff,ff,ff,ff,ff,ff,ff,ff,ff,ff] ?_
 refine pv 3 19 #[tt,tt,tt,tt,ff,ff,ff,ff,ff,ff,ff,ff,ff] ?_
 refine pv 5 21 #[tt,tt,tt,tt,ff,tt,ff,ff,ff,ff,ff,ff,ff] ?_
 refine pv 6 22 #[tt,tt,tt,tt,ff,tt,tt,ff,ff,ff,ff,ff,ff] ?_
 refine pv 7 23 #[tt,tt,tt,tt,ff,tt,tt,tt,ff,ff,ff,ff,ff] ?_
 refine tv 4 20 #[tt,tt,tt,tt,tt,tt,tt,tt,ff,ff,ff,ff,ff] hHeld ?_
 refine tv 8 24 #[tt,tt,tt,tt,tt,tt,tt,tt,tt,ff,ff,ff,ff] hHeld ?_
 refine pv 9 25 #[tt,tt,tt,tt,tt,tt,tt,tt,tt,tt,ff,ff,ff] ?_
 refine tv 10 26 #[tt,tt,tt,tt,tt,tt,tt,tt,tt,tt,tt,ff,ff] hHeld ?_
 refine last_ (i := 11) (N := none) #[tt,tt,tt,tt,tt,tt,tt,tt,tt,tt,tt,tt,ff] rfl rfl (by kernel_rfl) (by decide) (fun K hK => ?_)
 refine skip_ (w1 := ?_) (by rfl) rfl ?_ ?_
 rotate_left
 ·
  go_simp
  rfl
 refine hK.out _ _ ?_
 clear hK K
 refine pv 12 3 #[tt,tt,tt,tt,tt,tt,tt,tt,tt,tt,tt,tt,tt] ?_
 refine done_ (by kernel_rfl) ?_
 go_wp2
 refine bodyPost_ret (results_ct rfl _ _ W.heap.size 33 #[.int .i64 col.f0, .slice Ar col.f1.length cr, .int .i64 col.f2] (0, 0) _ rfl (box3 (blk_drewN (blk_new W _) _) _ _ _) Tryd.underlying33 rfl (by kernel_rfl)) rfl ?_
 exact ⟨⟨Ar, cr, HX.out.2, rfl⟩, Below.setCell (Below.setCell (Below.setCell (pw_below_drewN (below_alloc (Below.refl _ _) _) _) (Nat.le_refl _) _) (Nat.le_refl _) _) (Nat.le_refl _) _⟩
end Go.Proofs.YtnddijafdphbnaaDoor.All
