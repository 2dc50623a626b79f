/- The walk of run. -/
import Derived.Test.YtnddijafdphbnaaDoorAllScr
namespace Go.Proofs.YtnddijafdphbnaaDoor.All
open Go.RowKit Go.Proofs.YtnddijafdphbnaaDoorW.PrintWords Go.Proofs.YtnddijafdphbnaaDoorW.PrintLast Go.Proofs.YtnddijafdphbnaaDoorW.PrintMore
set_option linter.unusedVariables false
set_option linter.unusedSimpArgs false

/-- What run comes to. -/
def RunPost (A0 : Option Addr) (c0 : Nat) (cols : List S33) (A1 : Option Addr) (c1 : Nat) (ins : List Int) (sw : Int) (l : List S49) (w : World) (e : Ending) (W' : World) : Prop :=
 Below w.heap.size w W' ∧ (runE cols ins sw l = none ∧ e = .returned (.tuple #[.pointer none, .int .i64 1]) ∨ ∃ out c g vo, runE cols ins sw l = some (out, c) ∧ e = .returned (.tuple #[.pointer (some ⟨g, 0, none⟩), .int .i64 0]) ∧ W'.heap[g]? = some (.cells #[.slice A0 cols.length c0, .slice A1 ins.length c1, .int .i64 sw, .int .i64 cols.length, vo, .int .i64 c] 58 (0, 0)) ∧ Kd.R (Kd.int .i64) 3 W' w.heap.size (fun _ => True) vo out)
def okg (g gi : Nat) (k : Nat) : Prop := k ≠ g ∧ k ≠ gi
theorem alloc_size (w : World) (o : Obj) : (w.alloc o).heap.size = w.heap.size + 1 := by show (w.heap.push o).size = _; exact Array.size_push _
theorem blk_new2 (w : World) (o p : Obj) : ((w.alloc o).alloc p).heap[w.heap.size + 1]? = some p := by rw [← alloc_size w o]; exact blk_new _ p
theorem blk_new1 (w : World) (o p : Obj) : ((w.alloc o).alloc p).heap[w.heap.size]? = some o := ((below_alloc (Below.refl _ _) p).block w.heap.size (by rw [alloc_size]; omega)).trans (blk_new w o)
set_option maxHeartbeats 4000000 in
set_option maxRecDepth 100000 in
theorem run_calls (A0 : Option Addr) (c0 : Nat) (cols : List S33) (A1 : Option Addr) (c1 : Nat) (ins : List Int) (sw : Int) (A2 : Option Addr) (c2 : Nat) (l : List S49) (w : World) (hC : Kd.C k33 w A0 cols.length cols) (hcc0 : cols.length ≤ c0) (hI : Kd.C (Kd.int .i64) w A1 ins.length ins) (hcc1 : ins.length ≤ c1) (hL : Kd.C k49 w A2 l.length l) (hcc2 : l.length ≤ c2) (hv : VarOk w) (hl : cols.length ≤ 1000000) (hil : ins.length ≤ 1000000) (hll : l.length ≤ 1000) :
  Calls Tryd.prog 31 #[.agg #[.slice A0 cols.length c0, .slice A1 ins.length c1, .int .i64 sw], .slice A2 l.length c2] w (RunPost A0 c0 cols A1 c1 ins sw l w) := by
 have HC := Aside0.mk hC
 have HI := Aside0.mk hI
 have HL := Aside0.mk hL
 have HCC0 := Aside0.mk hcc0
 have HCC1 := Aside0.mk hcc1
 have HCC2 := Aside0.mk hcc2
 have HV := Aside0.mk hv
 have HLC := Aside0.mk hl
 have HLI := Aside0.mk hil
 have HLL := Aside0.mk hll
 clear hC hI hL hcc0 hcc1 hcc2 hv hl hil hll
 have hu25 := Tryd.underlying25
 go_enter Tryd.func31, Tryd.ntmps31
 go_wp2
 obtain ⟨gi, hgi⟩ : ∃ gi, gi = w.heap.size := ⟨_, rfl⟩
 obtain ⟨g, hg⟩ : ∃ g, g = w.heap.size + 1 := ⟨_, rfl⟩
 have HGI := Aside0.mk hgi
 have HG := Aside0.mk hg
 have HB0 := Aside0.mk (show w.heap.size ≤ g by rw [hg]; omega)
 have HES := Aside0.mk (show ES A0 cols.length c0 A1 ins.length c1 sw g w.heap.size (okg g gi) ((w.alloc (.cells #[.slice A0 cols.length c0, .slice A1 ins.length c1, .int .i64 sw] 25 (0, 0))).alloc (.cells #[.slice A0 cols.length c0, .slice A1 ins.length c1, .int .i64 sw, .int .i64 0, .slice none 0 0, .int .i64 0] 58 (0, 0))) ((0 : Nat) : Int) [] 0 from ⟨⟨.slice none 0 0, by rw [hg]; exact blk_new2 _ _ _, Kd.R_nil _ _ _ _ _⟩, fun _ hk => hk.1, fun k hk => by rw [alloc_size, alloc_size] at hk; exact ⟨by omega, by omega⟩⟩)
 have HBL := Aside0.mk (show Below w.heap.size w ((w.alloc (.cells #[.slice A0 cols.length c0, .slice A1 ins.length c1, .int .i64 sw] 25 (0, 0))).alloc (.cells #[.slice A0 cols.length c0, .slice A1 ins.length c1, .int .i64 sw, .int .i64 0, .slice none 0 0, .int .i64 0] 58 (0, 0))) from below_alloc (below_alloc (Below.refl _ _) _) _)
 have HIN := Aside0.mk (show ((w.alloc (.cells #[.slice A0 cols.length c0, .slice A1 ins.length c1, .int .i64 sw] 25 (0, 0))).alloc (.cells #[.slice A0 cols.length c0, .slice A1 ins.length c1, .int .i64 sw, .int .i64 0, .slice none 0 0, .int .i64 0] 58 (0, 0))).heap[gi]? = some (.cells #[.slice A0 cols.length c0, .slice A1 ins.length c1, .int .i64 sw] 25 (0, 0)) by rw [hgi]; exact blk_new1 _ _ _)
 generalize ((w.alloc (.cells #[.slice A0 cols.length c0, .slice A1 ins.length c1, .int .i64 sw] 25 (0, 0))).alloc (.cells #[.slice A0 cols.length c0, .slice A1 ins.length c1, .int .i64 sw, .int .i64 0, .slice none 0 0, .int .i64 0] 58 (0, 0))) = wa at *
 rw [← hg, ← hgi]
 clear hg hgi
 go_loopg [14] l.length (fun kq v14 wr => ∃ (i : Nat) (s : RS), v14 = .int .i64 i ∧ Aside0 (i + kq = l.length ∧ runAll cols ins sw (l.take i) (0, [], 0) = some s) ∧ Aside0 (ES A0 cols.length c0 A1 ins.length c1 sw g w.heap.size (okg g gi) wr (s.1 : Int) s.2.1 s.2.2) ∧ Aside0 (Below w.heap.size w wr) ∧ Aside0 (wr.heap[gi]? = some (.cells #[.slice A0 cols.length c0, .slice A1 ins.length c1, .int .i64 sw] 25 (0, 0))))
 case atStart => exact ⟨0, (0, [], 0), rfl, ⟨by simp, by simp [runAll]⟩, HES, HBL, HIN⟩
 case round =>
  clear HES HBL HIN
  obtain ⟨i, s, rfl, HA, HES, HB, HIN⟩ := hrel
  have HSL := Aside0.mk (runAll_len HA.out.2)
  by_cases hi : i < l.length
  ·
   have p0 : decide ((i : Int) < (l.length : Int)) = true := decide_eq_true (by omega)
   have p1 : decide (i < l.length) = true := decide_eq_true (by omega)
   obtain ⟨ad, e, hx0, hx1⟩ := at_T49 HL.out (i : Int) (by omega) (by omega)
   cases e
   have HT := Aside0.mk (runAll_take (cols := cols) (ins := ins) (sw := sw) (s := (0, [], 0)) hi)
   obtain ⟨o, ho⟩ : ∃ o, rd_T49 l (i : Int) = o := ⟨_, rfl⟩
   have ho' : l[i] = o := by
    rw [← ho]
    simp [rd_T49, List.getD, hi]
   rw [ho] at hx0 hx1
   rw [HA.out.2, ho'] at HT
   simp only [Int.toNat_natCast] at hx0 hx1
   clear ho ho'
   replace hx0 := (HB.out.cell (World.block_lt_of_cell? w _ hx0)).trans hx0
   replace hx1 := (HB.out.cell (World.block_lt_of_cell? w _ hx1)).trans hx1
   have hib : (i : Int) ≤ 1000 := by have := HLL.out; omega
   have q0 := eq_true (show (0 : Int) ≤ (i : Int) by omega)
   have q1 := eq_true (show (i : Int) < (l.length : Int) by omega)
   have HI2 := Aside0.mk hi
   have HSN := Aside0.mk (show s.2.1.length < 1000000 by have h1 := HSL.out.1; have h2 := HLL.out; simp only [List.length_take, List.length_nil] at h1; omega)
   have HSC := Aside0.mk (show s.1 ≤ cols.length from HSL.out.2 (Nat.zero_le _))
   clear hi
   go_upto_region 5 with (fail)
   have HK2 := Aside0.mk (blk_new wr (.cells #[.int .i64 o.f0, .int .i64 o.f1] 49 (0, 0)))
   have HW2 := Aside0.mk (below_alloc (Below.refl wr.heap.size wr) (.cells #[.int .i64 o.f0, .int .i64 o.f1] 49 (0, 0)))
   have HE2 := Aside0.mk (ES.box HES.out HW2.out (Nat.le_refl _) (blk_lt HK2.out))
   have HGG := Aside0.mk (Nat.le_refl wr.heap.size)
   obtain ⟨gb, hgb⟩ : ∃ gb, gb = wr.heap.size := ⟨_, rfl⟩
   obtain ⟨W2, hW2⟩ : ∃ W2 : World, W2 = wr.alloc (.cells #[.int .i64 o.f0, .int .i64 o.f1] 49 (0, 0)) := ⟨_, rfl⟩
   rw [← hW2] at HE2 HK2 HW2
   rw [← hgb] at HE2 HK2
   rw [← hW2, ← hgb]
   have HGB := Aside0.mk hgb
   have HBW := Aside0.mk (show w.heap.size ≤ wr.heap.size from HB.out.size)
   have HB2 := Aside0.mk (show Below w.heap.size w W2 from HB.out.trans (HW2.out.mono HB.out.size))
   clear hW2 hgb hx0 hx1 HGG
   obtain ⟨OK, hOK⟩ : ∃ OK, OK = ok2 (okg g gi) gb := ⟨_, rfl⟩
   rw [← hOK] at HE2
   have HOK := Aside0.mk hOK
   clear hOK
   have hd0 : W2.cell? ⟨gb, 0, none⟩ = some (.int .i64 o.f0) := (blk_cell HK2.out 0).trans rfl
   have hd1 : W2.cell? ⟨gb, 1, none⟩ = some (.int .i64 o.f1) := (blk_cell HK2.out 1).trans rfl
   by_cases hk0 : o.f0 < 1
   ·
    have HNO := Aside0.mk (show actE cols ins sw o.f0 o.f1 s = none by unfold actE; rw [if_neg (by omega), if_neg (by omega), if_neg (by omega), if_neg (by omega)])
    have b0 : decide (o.f0 < 1) = true := decide_eq_true hk0
    clear hk0
    refine start_ (n := 19) (S := fun w' => w'.cell? ⟨gb, 0, none⟩ = some (.int .i64 o.f0)) (ds := []) #[ff,ff,ff,ff,ff,ff,ff,ff,ff,ff,ff,ff,ff,ff,ff,ff,ff,ff,ff] (by kernel_rfl) rfl rfl (hd0) (fun hHeld => ?_)
    refine pv 0 18 #[tt,ff,ff,ff,ff,ff,ff,ff,ff,ff,ff,ff,ff,ff,ff,ff,ff,ff,ff] ?_
    refine tv 1 19 #[tt,tt,ff,ff,ff,ff,ff,ff,ff,ff,ff,ff,ff,ff,ff,ff,ff,ff,ff] hHeld ?_
    refine pv 2 20 #[tt,tt,tt,ff,ff,ff,ff,ff,ff,ff,ff,ff,ff,ff,ff,ff,ff,ff,ff] ?_
    refine pv 3 21 #[tt,tt,tt,tt,ff,ff,ff,ff,ff,ff,ff,ff,ff,ff,ff,ff,ff,ff,ff] ?_
    refine qv 4 22 #[tt,tt,tt,tt,tt,ff,ff,ff,ff,ff,ff,ff,ff,ff,ff,ff,ff,ff,ff] ?_
    refine qv 5 23 #[tt,tt,tt,tt,tt,tt,ff,ff,ff,ff,ff,ff,ff,ff,ff,ff,ff,ff,ff] ?_
    refine qv 6 24 #[tt,tt,tt,tt,tt,tt,tt,ff,ff,ff,ff,ff,ff,ff,ff,ff,ff,ff,ff] ?_
    refine pv 7 25 #[tt,tt,tt,tt,tt,tt,tt,tt,ff,ff,ff,ff,ff,ff,ff,ff,ff,ff,ff] ?_
    refine pv 8 26 #[tt,tt,tt,tt,tt,tt,tt,tt,tt,ff,ff,ff,ff,ff,ff,ff,ff,ff,ff] ?_
    refine qv 9 27 #[tt,tt,tt,tt,tt,tt,tt,tt,tt,tt,ff,ff,ff,ff,ff,ff,ff,ff,ff] ?_
    refine qv 10 28 #[tt,tt,tt,tt,tt,tt,tt,tt,tt,tt,tt,ff,ff,ff,ff,ff,ff,ff,ff] ?_
    refine qv 11 29 #[tt,tt,tt,tt,tt,tt,tt,tt,tt,tt,tt,tt,ff,ff,ff,ff,ff,ff,ff] ?_
    refine qv 12 30 #[tt,tt,tt,tt,tt,tt,tt,tt,tt,tt,tt,tt,tt,ff,ff,ff,ff,ff,ff] ?_
    refine qv 13 31 #[tt,tt,tt,tt,tt,tt,tt,tt,tt,tt,tt,tt,tt,tt,ff,ff,ff,ff,ff] ?_
    refine qv 14 32 #[tt,tt,tt,tt,tt,tt,tt,tt,tt,tt,tt,tt,tt,tt,tt,ff,ff,ff,ff] ?_
    refine qv 15 33 #[tt,tt,tt,tt,tt,tt,tt,tt,tt,tt,tt,tt,tt,tt,tt,tt,ff,ff,ff] ?_
    refine qv 16 34 #[tt,tt,tt,tt,tt,tt,tt,tt,tt,tt,tt,tt,tt,tt,tt,tt,tt,ff,ff] ?_
    refine qv 17 35 #[tt,tt,tt,tt,tt,tt,tt,tt,tt,tt,tt,tt,tt,tt,tt,tt,tt,tt,ff] ?_
    refine pv 18 36 #[tt,tt,tt,tt,tt,tt,tt,tt,tt,tt,tt,tt,tt,tt,tt,tt,tt,tt,tt] ?_
    refine done_ (by kernel_rfl) ?_
    go_wp2
    go_ret2
    exact ⟨below_drew HB2.out, Or.inl ⟨runE_none (i := i + 1) (by rw [HT.out]; exact HNO.out), rfl⟩⟩
   ·
    by_cases hk1 : 4 < o.f0
    ·
     have HNO := Aside0.mk (show actE cols ins sw o.f0 o.f1 s = none by unfold actE; rw [if_neg (by omega), if_neg (by omega), if_neg (by omega), if_neg (by omega)])
     have b0 : decide (o.f0 < 1) = false := decide_eq_false hk0
     have b1 : decide (4 < o.f0) = true := decide_eq_true hk1
     clear hk0 hk1
     refine start_ (n := 19) (S := fun w' => w'.cell? ⟨gb, 0, none⟩ = some (.int .i64 o.f0)) (ds := []) #[ff,ff,ff,ff,ff,ff,ff,ff,ff,ff,ff,ff,ff,ff,ff,ff,ff,ff,ff] (by kernel_rfl) rfl rfl (hd0) (fun hHeld => ?_)
     refine pv 0 18 #[tt,ff,ff,ff,ff,ff,ff,ff,ff,ff,ff,ff,ff,ff,ff,ff,ff,ff,ff] ?_
     refine tv 1 19 #[tt,tt,ff,ff,ff,ff,ff,ff,ff,ff,ff,ff,ff,ff,ff,ff,ff,ff,ff] hHeld ?_
     refine pv 2 20 #[tt,tt,tt,ff,ff,ff,ff,ff,ff,ff,ff,ff,ff,ff,ff,ff,ff,ff,ff] ?_
     refine pv 3 21 #[tt,tt,tt,tt,ff,ff,ff,ff,ff,ff,ff,ff,ff,ff,ff,ff,ff,ff,ff] ?_
     refine pv 4 22 #[tt,tt,tt,tt,tt,ff,ff,ff,ff,ff,ff,ff,ff,ff,ff,ff,ff,ff,ff] ?_
     refine tv 5 23 #[tt,tt,tt,tt,tt,tt,ff,ff,ff,ff,ff,ff,ff,ff,ff,ff,ff,ff,ff] hHeld ?_
     refine pv 6 24 #[tt,tt,tt,tt,tt,tt,tt,ff,ff,ff,ff,ff,ff,ff,ff,ff,ff,ff,ff] ?_
     refine pv 7 25 #[tt,tt,tt,tt,tt,tt,tt,tt,ff,ff,ff,ff,ff,ff,ff,ff,ff,ff,ff] ?_
     refine pv 8 26 #[tt,tt,tt,tt,tt,tt,tt,tt,tt,ff,ff,ff,ff,ff,ff,ff,ff,ff,ff] ?_
     refine qv 9 27 #[tt,tt,tt,tt,tt,tt,tt,tt,tt,tt,ff,ff,ff,ff,ff,ff,ff,ff,ff] ?_
     refine qv 10 28 #[tt,tt,tt,tt,tt,tt,tt,tt,tt,tt,tt,ff,ff,ff,ff,ff,ff,ff,ff] ?_
     refine qv 11 29 #[tt,tt,tt,tt,tt,tt,tt,tt,tt,tt,tt,tt,ff,ff,ff,ff,ff,ff,ff] ?_
     refine qv 12 30 #[tt,tt,tt,tt,tt,tt,tt,tt,tt,tt,tt,tt,tt,ff,ff,ff,ff,ff,ff] ?_
     refine qv 13 31 #[tt,tt,tt,tt,tt,tt,tt,tt,tt,tt,tt,tt,tt,tt,ff,ff,ff,ff,ff] ?_
     refine qv 14 32 #[tt,tt,tt,tt,tt,tt,tt,tt,tt,tt,tt,tt,tt,tt,tt,ff,ff,ff,ff] ?_
     refine qv 15 33 #[tt,tt,tt,tt,tt,tt,tt,tt,tt,tt,tt,tt,tt,tt,tt,tt,ff,ff,ff] ?_
     refine qv 16 34 #[tt,tt,tt,tt,tt,tt,tt,tt,tt,tt,tt,tt,tt,tt,tt,tt,tt,ff,ff] ?_
     refine qv 17 35 #[tt,tt,tt,tt,tt,tt,tt,tt,tt,tt,tt,tt,tt,tt,tt,tt,tt,tt,ff] ?_
     refine pv 18 36 #[tt,tt,tt,tt,tt,tt,tt,tt,tt,tt,tt,tt,tt,tt,tt,tt,tt,tt,tt] ?_
     refine done_ (by kernel_rfl) ?_
     go_wp2
     go_ret2
     exact ⟨below_drew HB2.out, Or.inl ⟨runE_none (i := i + 1) (by rw [HT.out]; exact HNO.out), rfl⟩⟩
    ·
     have b0 : decide (o.f0 < 1) = false := decide_eq_false hk0
     have b1 : decide (4 < o.f0) = false := decide_eq_false hk1
     have k0 := eq_true (show (0 : Int) ≤ o.f0 by omega)
     have k1 := eq_true (show o.f0 < 5 by omega)
     obtain ⟨f, fn, hvc, hf, hfn, hfb, hcall⟩ := act_fn w HV.out o.f0 (by omega) (by omega)
     have hvc2 := (HB2.out.cell (World.block_lt_of_cell? w _ hvc)).trans hvc
     have HCALL := Aside0.mk hcall
     have HF := Aside0.mk hf
     have HFN := Aside0.mk hfn
     have HFB := Aside0.mk hfb
     clear hk0 hk1 hvc hf hfn hfb hcall
     refine start_ (n := 19) (S := fun w' => w'.cell? ⟨gb, 0, none⟩ = some (.int .i64 o.f0) ∧ w'.cell? ⟨gb, 1, none⟩ = some (.int .i64 o.f1) ∧ w'.cell? ⟨0, o.f0.toNat, none⟩ = some (.func (.func f) #[] #[])) (ds := [16]) #[ff,ff,ff,ff,ff,ff,ff,ff,ff,ff,ff,ff,ff,ff,ff,ff,ff,ff,ff] (by kernel_rfl) rfl rfl ⟨hd0, hd1, hvc2⟩ (fun hHeld => ?_)
     refine pv 0 18 #[tt,ff,ff,ff,ff,ff,ff,ff,ff,ff,ff,ff,ff,ff,ff,ff,ff,ff,ff] ?_
     refine tv 1 19 #[tt,tt,ff,ff,ff,ff,ff,ff,ff,ff,ff,ff,ff,ff,ff,ff,ff,ff,ff] hHeld ?_
     refine pv 2 20 #[tt,tt,tt,ff,ff,ff,ff,ff,ff,ff,ff,ff,ff,ff,ff,ff,ff,ff,ff] ?_
     refine pv 3 21 #[tt,tt,tt,tt,ff,ff,ff,ff,ff,ff,ff,ff,ff,ff,ff,ff,ff,ff,ff] ?_
     refine pv 4 22 #[tt,tt,tt,tt,tt,ff,ff,ff,ff,ff,ff,ff,ff,ff,ff,ff,ff,ff,ff] ?_
     refine tv 5 23 #[tt,tt,tt,tt,tt,tt,ff,ff,ff,ff,ff,ff,ff,ff,ff,ff,ff,ff,ff] hHeld ?_
     refine pv 6 24 #[tt,tt,tt,tt,tt,tt,tt,ff,ff,ff,ff,ff,ff,ff,ff,ff,ff,ff,ff] ?_
     refine pv 7 25 #[tt,tt,tt,tt,tt,tt,tt,tt,ff,ff,ff,ff,ff,ff,ff,ff,ff,ff,ff] ?_
     refine pv 8 26 #[tt,tt,tt,tt,tt,tt,tt,tt,tt,ff,ff,ff,ff,ff,ff,ff,ff,ff,ff] ?_
     refine pv 9 27 #[tt,tt,tt,tt,tt,tt,tt,tt,tt,tt,ff,ff,ff,ff,ff,ff,ff,ff,ff] ?_
     refine pv 13 31 #[tt,tt,tt,tt,tt,tt,tt,tt,tt,tt,ff,ff,ff,tt,ff,ff,ff,ff,ff] ?_
     refine pv 14 32 #[tt,tt,tt,tt,tt,tt,tt,tt,tt,tt,ff,ff,ff,tt,tt,ff,ff,ff,ff] ?_
     refine tv 10 28 #[tt,tt,tt,tt,tt,tt,tt,tt,tt,tt,tt,ff,ff,tt,tt,ff,ff,ff,ff] hHeld ?_
     refine pv 11 29 #[tt,tt,tt,tt,tt,tt,tt,tt,tt,tt,tt,tt,ff,tt,tt,ff,ff,ff,ff] ?_
     refine tv 12 30 #[tt,tt,tt,tt,tt,tt,tt,tt,tt,tt,tt,tt,tt,tt,tt,ff,ff,ff,ff] hHeld ?_
     refine tv 15 33 #[tt,tt,tt,tt,tt,tt,tt,tt,tt,tt,tt,tt,tt,tt,tt,tt,ff,ff,ff] hHeld ?_
     refine last_ (i := 16) (N := some 34) #[tt,tt,tt,tt,tt,tt,tt,tt,tt,tt,tt,tt,tt,tt,tt,tt,tt,ff,ff] rfl rfl (by kernel_rfl) (by decide) (fun K hK => ?_)
     refine goesV_ HF.out HFN.out HFB.out #[.pointer (some ⟨g, 0, none⟩), .int .i64 o.f1] (by rfl) rfl rfl (by rfl) (by simp only [List.map_toArray, List.map_cons, List.map_nil]; rfl) ?_
     with_reducible refine (HCALL.out A0 c0 cols A1 c1 ins sw g OK w _ s o.f1 (HE2.out.below (below_drew (Below.refl _ _))) HB0.out HSN.out HLC.out HLI.out (below_drew HB2.out) HC.out HI.out HCC0.out HCC1.out HSC.out).mono ?_
     rintro e w9 ⟨b, rfl, hb0, hb1⟩
     have HNO := Aside0.mk hb0
     have HYES := Aside0.mk hb1
     clear hb0 hb1
     refine ⟨_, rfl, ?_⟩
     refine hK.out _ _ ?_
     clear hK K
     refine norm_ (a' := ?_) ?_ ?_
     rotate_left
     ·
      show Act.put _ (some 34) _ = _
      simp only [nrm]
      rfl
     refine pv 17 35 #[tt,tt,tt,tt,tt,tt,tt,tt,tt,tt,tt,tt,tt,tt,tt,tt,tt,tt,ff] ?_
     refine pv 18 36 #[tt,tt,tt,tt,tt,tt,tt,tt,tt,tt,tt,tt,tt,tt,tt,tt,tt,tt,tt] ?_
     refine done_ (by kernel_rfl) ?_
     cases b with
     | false =>
      obtain ⟨hn1, hn2⟩ := HNO.out rfl
      have HN1 := Aside0.mk hn1
      have HN2 := Aside0.mk hn2
      clear hn1 hn2 HNO HYES
      go_wp2
      go_ret2
      exact ⟨HB2.out.trans (((below_drew (Below.refl _ _)).trans HN2.out).mono HB2.out.size), Or.inl ⟨runE_none (i := i + 1) (by rw [HT.out]; exact HN1.out), rfl⟩⟩
     | true =>
      obtain ⟨s', hs', hes', hfr'⟩ := HYES.out rfl
      have hbb : Below w.heap.size w w9 := HB2.out.trans ((below_drew (Below.refl _ _)).trans hfr'.1)
      rw [HOK.out] at hes' hfr'
      have hgw : g < wr.heap.size := HES.out.lt
      have hiw : gi < wr.heap.size := blk_lt HIN.out
      have hsw : wr.heap.size ≤ w9.heap.size := Nat.le_trans HW2.out.size hfr'.1.size
      have hin' : w9.heap[gi]? = some (.cells #[.slice A0 cols.length c0, .slice A1 ins.length c1, .int .i64 sw] 25 (0, 0)) :=
       (hfr'.2 gi (Nat.lt_of_lt_of_le hiw HW2.out.size) (by have h1 := HG.out; have h2 := HGI.out; omega) (fun hk => hk.1.2 rfl)).trans ((HW2.out.block gi hiw).trans HIN.out)
      have HE9 := Aside0.mk (ES.wide (ok := okg g gi) hes' (fun k hk => hk.1) (fun k hk => ⟨by omega, by omega⟩))
      have HB9 := Aside0.mk hbb
      have HI9 := Aside0.mk hin'
      have HS9 := Aside0.mk hs'
      clear hes' hfr' hbb hgw hiw hsw hin' hs' HNO HYES
      go_wp2
      go_roundg (gk - 1)
      case measure => have h1 := HA.out.1; have h2 := HI2.out; omega
      case rel => exact ⟨i + 1, s', by first | rfl | go_num | (simp; done), ⟨by have h1 := HA.out.1; have h2 := HI2.out; omega, HT.out.trans HS9.out⟩, HE9, HB9, HI9⟩
  ·
   have p0 : decide ((i : Int) < (l.length : Int)) = false := decide_eq_false (by omega)
   have p1 : decide (i < l.length) = false := decide_eq_false (by omega)
   have hrun : runAll cols ins sw l (0, [], 0) = some s := by have h1 := HA.out.2; rw [List.take_of_length_le (by omega)] at h1; exact h1
   have HRUN := Aside0.mk hrun
   clear hi hrun
   obtain ⟨⟨vo, hbk, hro⟩, _, _⟩ := HES.out
   have hd3 : wr.cell? ⟨g, 3, none⟩ = some (.int .i64 s.1) := (blk_cell hbk 3).trans rfl
   have hd0 : wr.cell? ⟨gi, 0, none⟩ = some (.slice A0 cols.length c0) := (blk_cell HIN.out 0).trans rfl
   have HBK := Aside0.mk hbk
   have HRO := Aside0.mk hro
   clear hbk hro
   go_upto_region 8 with (fail)
   by_cases hz : s.1 = cols.length
   ·
    have b0 : ((s.1 : Int) != (cols.length : Int)) = false := by rw [hz]; simp
    have HZ := Aside0.mk hz
    clear hz
    refine start_ (n := 8) (S := fun w' => w'.cell? ⟨g, 3, none⟩ = some (.int .i64 s.1) ∧ w'.cell? ⟨gi, 0, none⟩ = some (.slice A0 cols.length c0)) (ds := []) #[ff,ff,ff,ff,ff,ff,ff,ff] (by kernel_rfl) rfl rfl ⟨hd3, hd0⟩ (fun hHeld => ?_)
    refine pv 0 38 #[tt,ff,ff,ff,ff,ff,ff,ff] ?_
    refine pv 1 39 #[tt,tt,ff,ff,ff,ff,ff,ff] ?_
    refine pv 2 40 #[tt,tt,tt,ff,ff,ff,ff,ff] ?_
    refine pv 4 42 #[tt,tt,tt,ff,tt,ff,ff,ff] ?_
    refine tv 3 41 #[tt,tt,tt,tt,tt,ff,ff,ff] hHeld ?_
    refine tv 5 43 #[tt,tt,tt,tt,tt,tt,ff,ff] hHeld ?_
    refine pv 6 44 #[tt,tt,tt,tt,tt,tt,tt,ff] ?_
    refine pv 7 45 #[tt,tt,tt,tt,tt,tt,tt,tt] ?_
    refine done_ (by kernel_rfl) ?_
    go_wp2
    go_ret2
    exact ⟨below_drew HB.out, Or.inr ⟨s.2.1, s.2.2, g, vo, by unfold runE; rw [HRUN.out]; simp [HZ.out], rfl, by have h := HBK.out; rw [HZ.out] at h; exact h, Kd.R_mono (Kd.R_drew HRO.out) (fun _ _ => trivial)⟩⟩
   ·
    have b0 : ((s.1 : Int) != (cols.length : Int)) = true := by simp; omega
    have HZ := Aside0.mk hz
    clear hz
    refine start_ (n := 8) (S := fun w' => w'.cell? ⟨g, 3, none⟩ = some (.int .i64 s.1) ∧ w'.cell? ⟨gi, 0, none⟩ = some (.slice A0 cols.length c0)) (ds := []) #[ff,ff,ff,ff,ff,ff,ff,ff] (by kernel_rfl) rfl rfl ⟨hd3, hd0⟩ (fun hHeld => ?_)
    refine pv 0 38 #[tt,ff,ff,ff,ff,ff,ff,ff] ?_
    refine pv 1 39 #[tt,tt,ff,ff,ff,ff,ff,ff] ?_
    refine pv 2 40 #[tt,tt,tt,ff,ff,ff,ff,ff] ?_
    refine pv 4 42 #[tt,tt,tt,ff,tt,ff,ff,ff] ?_
    refine tv 3 41 #[tt,tt,tt,tt,tt,ff,ff,ff] hHeld ?_
    refine tv 5 43 #[tt,tt,tt,tt,tt,tt,ff,ff] hHeld ?_
    refine pv 6 44 #[tt,tt,tt,tt,tt,tt,tt,ff] ?_
    refine pv 7 45 #[tt,tt,tt,tt,tt,tt,tt,tt] ?_
    refine done_ (by kernel_rfl) ?_
    go_wp2
    go_ret2
    exact ⟨below_drew HB.out, Or.inl ⟨by unfold runE; rw [HRUN.out]; simp [HZ.out], rfl⟩⟩
end Go.Proofs.YtnddijafdphbnaaDoor.All
