/- steps: the operations that are possible at a place. -/
import Derived.Test.YtnddijafdphbnaaDoorAllx3
namespace Go.Proofs.YtnddijafdphbnaaDoor.All
open Go.RowKit Go.Proofs.YtnddijafdphbnaaDoorW.PrintWords Go.Proofs.YtnddijafdphbnaaDoorW.PrintLast Go.Proofs.YtnddijafdphbnaaDoorW.PrintMore
set_option linter.unusedVariables false
set_option linter.unusedSimpArgs false

def stA (cols : List S33) (y : List Int) (i j : Nat) : List S64 := if i < cols.length ∧ j < y.length ∧ 0 ≤ rd (rd_T33 cols (i : Int)).f1 (rd y (j : Int)) then [(⟨(⟨1, rd y (j : Int)⟩ : S49), rd (rd_T33 cols (i : Int)).f1 (rd y (j : Int)), 1, 1⟩ : S64)] else []
def stB (cols : List S33) (i : Nat) : List S64 := if i < cols.length ∧ (rd_T33 cols (i : Int)).f2 < 1099511627776 then [(⟨(⟨2, 0⟩ : S49), (rd_T33 cols (i : Int)).f2, 1, 0⟩ : S64)] else []
def stC (ins y : List Int) (j : Nat) : List S64 := if j < y.length then [(⟨(⟨3, rd y (j : Int)⟩ : S49), rd ins (rd y (j : Int)), 0, 1⟩ : S64)] else []
def stD (cols : List S33) (sw : Int) (y : List Int) (i j : Nat) : List S64 := if j + 1 < y.length ∧ swp cols sw i ∧ (rd_T33 cols ((i : Int) + 1)).f0 = rd y (j : Int) ∧ (rd_T33 cols (i : Int)).f0 = rd y ((j : Int) + 1) then [(⟨(⟨4, 0⟩ : S49), sw, 2, 2⟩ : S64)] else []
/-- The operations that are possible after i tokens and j terminals, in increasing order. -/
def stepsE (cols : List S33) (ins : List Int) (sw : Int) (y : List Int) (i j : Nat) : List S64 := stA cols y i j ++ stB cols i ++ stC ins y j ++ stD cols sw y i j
def StOk (cols : List S33) (ins y : List Int) (i j : Nat) : Prop := i ≤ cols.length ∧ j ≤ y.length ∧ cols.length ≤ 1000000 ∧ ins.length ≤ 1000000 ∧ y.length ≤ 1000000 ∧ (j < y.length → 0 ≤ rd y (j : Int) ∧ rd y (j : Int) < (ins.length : Int)) ∧ (i < cols.length → j < y.length → rd y (j : Int) < ((rd_T33 cols (i : Int)).f1.length : Int))
instance (cols : List S33) (ins y : List Int) (i j : Nat) : Decidable (StOk cols ins y i j) := by unfold StOk; infer_instance
def editscript_steps.f (k : Nat) (l0_0 : List (S33)) (l0_1 : List Int) (a0_2 : Int) (l1 : List Int) (a2 : Int) (a3 : Int) : Option ((List (S64))) :=
 if 0 ≤ a2 ∧ 0 ≤ a3 ∧ StOk l0_0 l0_1 l1 a2.toNat a3.toNat then some (stepsE l0_0 l0_1 a0_2 l1 a2.toNat a3.toNat) else none
theorem editscript_steps.mono : ∀ a0 a1 a2 a3 a4 a5 k, LeO (editscript_steps.f k a0 a1 a2 a3 a4 a5) (editscript_steps.f (k + 1) a0 a1 a2 a3 a4 a5) := fun _ _ _ _ _ _ _ _ h => h

def editscript_steps.T3 : Bool × List (List Nat × List Nat) := (true, [([], []), ([0], [0]), ([1], [1]), ([2, 1], [1, 2]), ([1, 3], [1, 3]), ([4, 1], [4]), ([5], [5]), ([6, 5], [5, 6]), ([5], [5]), ([7, 8, 5], [5, 7, 8]), ([9, 5], [5, 9]), ([10, 5], [5, 10]), ([5], [5]), ([5], [5]), ([12, 13, 5], [5, 12, 13]), ([14, 5], [5, 14]), ([11, 15, 5], [5, 11, 15]), ([16, 5], [5, 16]), ([17, 5], [5, 17]), ([5, 18], [5, 18])])
def editscript_steps.B3 : List Nat := [0, 1, 3, 7, 15, 31, 63, 127, 63, 511, 1023, 2047, 63, 63, 12351, 28735, 65535, 131071, 262143, 524287]
theorem editscript_steps.tab3 : rtab .any (opsOf Tryd.f35 3) = editscript_steps.T3 := by kernel_rfl
theorem editscript_steps.bits3 : waitsOk editscript_steps.T3.2 editscript_steps.B3 = true := by kernel_rfl
def editscript_steps.T4 : Bool × List (List Nat × List Nat) := (true, [([], []), ([], []), ([], []), ([1, 2], [1, 2]), ([3], [3]), ([4], [4]), ([], []), ([6], [6]), ([], []), ([7, 8], [7, 8]), ([9], [9]), ([10], [10]), ([], []), ([], []), ([12, 13], [12, 13]), ([14], [14]), ([11, 15], [11, 15]), ([16], [16]), ([5, 17], [5, 17]), ([18], [18]), ([0, 19], [0, 19]), ([20, 20, 0, 1, 2, 3, 4, 5, 6, 7, 8, 9, 10, 11, 12, 13, 14, 15, 16, 17, 18, 19, 20], [0, 20])])
def editscript_steps.B4 : List Nat := [0, 0, 0, 6, 14, 30, 0, 64, 0, 448, 960, 1984, 0, 0, 12288, 28672, 65472, 131008, 262142, 524286, 1048575, 2097151]
theorem editscript_steps.tab4 : rtab .any (opsOf Tryd.f35 4) = editscript_steps.T4 := by kernel_rfl
theorem editscript_steps.bits4 : waitsOk editscript_steps.T4.2 editscript_steps.B4 = true := by kernel_rfl
def editscript_steps.T8 : Bool × List (List Nat × List Nat) := (true, [([], []), ([], []), ([], []), ([1, 2], [1, 2]), ([3], [3]), ([4], [4]), ([], []), ([6], [6]), ([], []), ([], []), ([8, 9], [8, 9]), ([10], [10]), ([7, 11], [7, 11]), ([12], [12]), ([5, 13], [5, 13]), ([14], [14]), ([0, 15], [0, 15]), ([16, 16, 0, 1, 2, 3, 4, 5, 6, 7, 8, 9, 10, 11, 12, 13, 14, 15, 16], [0, 16])])
def editscript_steps.B8 : List Nat := [0, 0, 0, 6, 14, 30, 0, 64, 0, 0, 768, 1792, 4032, 8128, 16382, 32766, 65535, 131071]
theorem editscript_steps.tab8 : rtab .any (opsOf Tryd.f35 8) = editscript_steps.T8 := by kernel_rfl
theorem editscript_steps.bits8 : waitsOk editscript_steps.T8.2 editscript_steps.B8 = true := by kernel_rfl
def editscript_steps.T9 : Bool × List (List Nat × List Nat) := (true, [([], []), ([0], [0]), ([1], [1]), ([2], [2]), ([2], [2]), ([3, 4, 2, 2], [2, 3, 4]), ([2, 5], [2, 5]), ([6, 5], [6]), ([7], [7]), ([8, 7], [7, 8]), ([7], [7]), ([10, 7], [7, 10]), ([9, 11, 7], [7, 9, 11]), ([12, 7], [7, 12]), ([13, 7], [7, 13]), ([7], [7]), ([7], [7]), ([15, 16, 7], [7, 15, 16]), ([17, 7], [7, 17]), ([14, 18, 7], [7, 14, 18]), ([7, 19], [7, 19]), ([20, 7], [20]), ([21], [21]), ([22, 21], [21, 22]), ([21], [21]), ([23, 24, 21], [21, 23, 24]), ([25, 21], [21, 25]), ([26, 21], [21, 26]), ([21], [21]), ([21], [21]), ([29, 21], [21, 29]), ([28, 30, 21], [21, 28, 30]), ([31, 21], [21, 31]), ([27, 32, 21], [21, 27, 32]), ([21, 33], [21, 33])])
def editscript_steps.B9 : List Nat := [0, 1, 3, 7, 7, 31, 63, 127, 255, 511, 255, 1279, 4095, 8191, 16383, 255, 255, 98559, 229631, 524287, 1048575, 2097151, 4194303, 8388607, 4194303, 33554431, 67108863, 134217727, 4194303, 4194303, 541065215, 1883242495, 4030726143, 8589934591, 17179869183]
theorem editscript_steps.tab9 : rtab .any (opsOf Tryd.f35 9) = editscript_steps.T9 := by kernel_rfl
theorem editscript_steps.bits9 : waitsOk editscript_steps.T9.2 editscript_steps.B9 = true := by kernel_rfl
set_option maxHeartbeats 4000000 in
set_option maxRecDepth 100000 in
theorem steps_calls (A0 : Option Addr) (c0 : Nat) (cols : List S33) (A1 : Option Addr) (c1 : Nat) (ins : List Int) (sw : Int) (A2 : Option Addr) (c2 : Nat) (y : List Int) (i j : Nat) (w : World) (hC : Kd.C k33 w A0 cols.length cols) (hcc0 : cols.length ≤ c0) (hI : Kd.C (Kd.int .i64) w A1 ins.length ins) (hcc1 : ins.length ≤ c1) (hY : Kd.C (Kd.int .i64) w A2 y.length y) (hcc2 : y.length ≤ c2) (hok : StOk cols ins y i j) :
  Calls Tryd.prog 35 #[.agg #[.slice A0 cols.length c0, .slice A1 ins.length c1, .int .i64 sw], .slice A2 y.length c2, .int .i64 (i : Int), .int .i64 (j : Int)] w fun e w' => ∃ v0_ : Value, e = .returned (v0_) ∧ Kd.R k64 64 w' w.heap.size (fun _ => True) v0_ (stepsE cols ins sw y i j) ∧ Below w.heap.size w w' := by
 have hu25 := Tryd.underlying25
 have hu49 := Tryd.underlying49
 have hu64 := Tryd.underlying64
 have HC := Aside0.mk hC
 have HI := Aside0.mk hI
 have HY := Aside0.mk hY
 have HCC0 := Aside0.mk hcc0
 have HCC1 := Aside0.mk hcc1
 have OK := Aside0.mk hok
 have hib : (i : Int) ≤ 1000000 := by have h1 := hok.1; have h2 := hok.2.2.1; omega
 have hjb : (j : Int) ≤ 1000000 := by have h1 := hok.2.1; have h2 := hok.2.2.2.2.1; omega
 obtain ⟨bi, hbi⟩ : ∃ b : Bool, decide (i < cols.length) = b := ⟨_, rfl⟩
 have hbi' : decide ((i : Int) < (cols.length : Int)) = bi := by rw [← hbi]; exact decide_eq_decide.2 (by omega)
 obtain ⟨L, hL⟩ : ∃ L : Int, (y.length : Int) - (j : Int) = L := ⟨_, rfl⟩
 have hLw : IntKind.i64.wrap ((y.length : Int) - (j : Int)) = L := by rw [i64_w, ← hL]; have h2 := hok.2.2.2.2.1; have h1 := hok.2.1; unfold wrap64; omega
 have HL := Aside0.mk hL
 obtain ⟨bj, hbj⟩ : ∃ b : Bool, decide (0 < L) = b := ⟨_, rfl⟩
 obtain ⟨bk, hbk⟩ : ∃ b : Bool, decide (1 < L) = b := ⟨_, rfl⟩
 have HBI := Aside0.mk (show bi = decide (i < cols.length) from hbi.symm)
 have HBJ := Aside0.mk (show bj = decide (j < y.length) by rw [← hbj]; exact decide_eq_decide.2 (by omega))
 have HBK := Aside0.mk (show bk = decide (j + 1 < y.length) by rw [← hbk]; exact decide_eq_decide.2 (by omega))
 have HB := Aside0.mk (Below.refl w.heap.size w)
 clear hC hcc0 hI hcc1 hY hcc2 hok hL
 go_enter Tryd.func35, Tryd.ntmps35
 go_upto_region 3 with (first | ((with_reducible refine gate_dst (N := 4) rfl ?_); refine box_event ?hg (N := 4) ?hd (cs := #[.slice A0 cols.length c0, .slice A1 ins.length c1, .int .i64 sw]) (t := 25) ?hr ?_; (case hd => rfl); (case hg => rfl); (case hr => first | (go_simp; done) | (go_simp; rfl)); intro gi hg w6 hbox hb; have n0_ := Aside0.mk (below_step HB.out hb); have n1_ := Aside0.mk hbox; clear HB; have HB := n0_; have BK := n1_; clear n0_ n1_ hb hbox hg; have hcz_0 : w6.cell? ⟨gi, 0, none⟩ = some (.slice A0 cols.length c0) := (blk_cell BK.out 0).trans rfl; have hfz_0 := blk_frozen BK.out 0))
 (try simp only [Act.put, List.setIfInBounds_toArray, List.set_cons_zero, List.set_cons_succ])
 clear hcz_0 hfz_0
 obtain ⟨bA, hbA⟩ : ∃ b : Bool, decide (i < cols.length ∧ j < y.length ∧ 0 ≤ rd (rd_T33 cols (i : Int)).f1 (rd y (j : Int))) = b := ⟨_, rfl⟩
 have HBA := Aside0.mk hbA
 clear hbA
 go_cut [40] (fun v40 wc => v40 = .bool bA ∧ Aside0 (wc.heap[gi]? = some (.cells #[.slice A0 cols.length c0, .slice A1 ins.length c1, .int .i64 sw] 25 (0, 0))) ∧ Aside0 (Below w.heap.size w wc))
 case first =>
  have hu := HBA.out
  cases bi with
  | false =>
   have hn : bA = false := by rw [← hu]; have h1 := HBI.out; simp at h1 ⊢; omega
   subst hn
   refine start_ (n := 20) (S := fun w' => True) (ds := []) #[ff,ff,ff,ff,ff,ff,ff,ff,ff,ff,ff,ff,ff,ff,ff,ff,ff,ff,ff,ff] (by kernel_rfl) rfl rfl trivial (fun hHeld => ?_)
   refine with_tabW editscript_steps.tab3 editscript_steps.bits3 (fun HT_ HW_ => ?_)
   refine pu 0 21 ?_
   refine pu 1 22 ?_
   refine qu 2 23 ?_
   refine qu 3 24 ?_
   refine pu 4 25 ?_
   refine pu 5 26 ?_
   refine qu 6 27 ?_
   refine qu 7 28 ?_
   refine qu 8 29 ?_
   refine qu 9 30 ?_
   refine qu 10 31 ?_
   refine qu 11 32 ?_
   refine qu 12 33 ?_
   refine qu 13 34 ?_
   refine qu 14 35 ?_
   refine qu 15 36 ?_
   refine qu 16 37 ?_
   refine qu 17 38 ?_
   refine qu 18 39 ?_
   refine pu 19 40 ?_
   refine done_ (done_of HT_.out (by kernel_rfl)) ?_
   go_wp2
   go_meet
   case rel => exact ⟨rfl, ⟨(pk BK.out)⟩, ⟨(pB HB.out)⟩⟩
  | true =>
   cases bj with
   | false =>
    have hn : bA = false := by rw [← hu]; have h1 := HBJ.out; simp at h1 ⊢; omega
    subst hn
    refine start_ (n := 20) (S := fun w' => True) (ds := []) #[ff,ff,ff,ff,ff,ff,ff,ff,ff,ff,ff,ff,ff,ff,ff,ff,ff,ff,ff,ff] (by kernel_rfl) rfl rfl trivial (fun hHeld => ?_)
    refine with_tabW editscript_steps.tab3 editscript_steps.bits3 (fun HT_ HW_ => ?_)
    refine pu 0 21 ?_
    refine pu 1 22 ?_
    refine pu 2 23 ?_
    refine pu 3 24 ?_
    refine pu 4 25 ?_
    refine pu 5 26 ?_
    refine qu 6 27 ?_
    refine qu 7 28 ?_
    refine qu 8 29 ?_
    refine qu 9 30 ?_
    refine qu 10 31 ?_
    refine qu 11 32 ?_
    refine qu 12 33 ?_
    refine qu 13 34 ?_
    refine qu 14 35 ?_
    refine qu 15 36 ?_
    refine qu 16 37 ?_
    refine qu 17 38 ?_
    refine qu 18 39 ?_
    refine pu 19 40 ?_
    refine done_ (done_of HT_.out (by kernel_rfl)) ?_
    go_wp2
    go_meet
    case rel => exact ⟨rfl, ⟨(pk BK.out)⟩, ⟨(pB HB.out)⟩⟩
   | true =>
    have hi : i < cols.length := by have h := HBI.out; simpa using h.symm
    have hj : j < y.length := by have h := HBJ.out; simpa using h.symm
    have hrow := OK.out.2.2.2.2.2.2 hi hj
    have hterm := OK.out.2.2.2.2.2.1 hj
    obtain ⟨ad, Ar, cr, e, hx0, hx1, hx2, hxl, hxc⟩ := at_T33 HC.out (i : Int) (by omega) (by omega)
    obtain ⟨ar, er, hxr⟩ := Kd.at_int hxc (rd y (j : Int)) hterm.1 hrow
    obtain ⟨ay, ey, hy⟩ := Kd.at_int HY.out (j : Int) (by omega) (by omega)
    cases e
    cases er
    cases ey
    simp only [Int.toNat_natCast] at hx0 hx1 hx2 hy
    have q0 := eq_true (show (0 : Int) ≤ (i : Int) by omega)
    have q1 := eq_true (show (i : Int) < (cols.length : Int) by omega)
    have q2 := eq_true (show (0 : Int) ≤ (j : Int) by omega)
    have q3 := eq_true (show (j : Int) < (y.length : Int) by omega)
    have q4 := eq_true hterm.1
    have q5 := eq_true hrow
    have h1 := bc HB.out hx1
    have h2 := bc HB.out hxr
    have h3 := bc HB.out hy
    have X1 := Aside0.mk hx1
    have X2 := Aside0.mk hxr
    have X3 := Aside0.mk hy
    clear hx0 hx1 hx2 hxl hxc hxr hy hrow hterm
    have hr : decide (0 ≤ rd (rd_T33 cols (i : Int)).f1 (rd y (j : Int))) = bA := by rw [← hu]; simp [hi, hj]
    clear hu
    refine start_ (n := 20) (S := fun w' => w'.cell? ⟨gi, 0, none⟩ = some (.slice (some ad) cols.length c0) ∧ w'.cell? ⟨(ad.add (i * 3)).block, (ad.add (i * 3)).off + 1, none⟩ = some (.slice (some ar) (rd_T33 cols (i : Int)).f1.length cr) ∧ w'.cell? (ar.add (rd y (j : Int)).toNat) = some (.int .i64 (rd (rd_T33 cols (i : Int)).f1 (rd y (j : Int)))) ∧ w'.cell? (ay.add j) = some (.int .i64 (rd y (j : Int)))) (ds := []) #[ff,ff,ff,ff,ff,ff,ff,ff,ff,ff,ff,ff,ff,ff,ff,ff,ff,ff,ff,ff] (by kernel_rfl) rfl rfl ⟨(blk_cell BK.out 0).trans rfl, h1, h2, h3⟩ (fun hHeld => ?_)
    refine with_tabW editscript_steps.tab3 editscript_steps.bits3 (fun HT_ HW_ => ?_)
    refine pu 0 21 ?_
    refine pu 1 22 ?_
    refine pu 2 23 ?_
    refine pu 3 24 ?_
    refine pu 4 25 ?_
    refine pu 5 26 ?_
    refine pu 6 27 ?_
    refine pu 8 29 ?_
    refine pu 12 33 ?_
    refine pu 13 34 ?_
    refine pu 14 35 ?_
    refine tu 7 28 hHeld ?_
    refine pu 9 30 ?_
    refine pu 10 31 ?_
    refine tu 11 32 hHeld ?_
    refine tu 15 36 hHeld ?_
    refine pu 16 37 ?_
    refine tu 17 38 hHeld ?_
    refine pu 18 39 ?_
    refine pu 19 40 ?_
    refine done_ (done_of HT_.out (by kernel_rfl)) ?_
    go_wp2
    go_meet
    case rel => exact ⟨rfl, ⟨(pk BK.out)⟩, ⟨(pB HB.out)⟩⟩
 case rest =>
  clear HB BK
  obtain ⟨rfl, BK, HB⟩ := hcut
  go_upto_if 40 with (fail)
  go_cut [9] (fun v9 wc => Aside0 (Kd.R k64 64 wc w.heap.size (fun _ => True) v9 (stA cols y i j)) ∧ Aside0 (wc.heap[gi]? = some (.cells #[.slice A0 cols.length c0, .slice A1 ins.length c1, .int .i64 sw] 25 (0, 0))) ∧ Aside0 (Below w.heap.size w wc))
  case first =>
   cases bA with
   | false =>
    have hs : stA cols y i j = [] := by unfold stA; rw [if_neg (of_decide_eq_false HBA.out)]
    go_wp2
    go_meet
    case rel => exact ⟨⟨by rw [hs]; exact Kd.R_nil _ _ _ _ _⟩, ⟨(pk BK.out)⟩, ⟨(pB HB.out)⟩⟩
   | true =>
    have hA := of_decide_eq_true HBA.out
    have hs : stA cols y i j = [] ++ [(⟨(⟨1, (rd y (j : Int))⟩ : S49), rd (rd_T33 cols (i : Int)).f1 (rd y (j : Int)), 1, 1⟩ : S64)] := by unfold stA; rw [if_pos hA]; rfl
    have hi := hA.1
    have hj := hA.2.1
    have HO := Aside0.mk (show Kd.R k64 64 wc w.heap.size (fun _ => True) (.slice none 0 0) [] from Kd.R_nil _ _ _ _ _)
    have HN := Aside0.mk (show (([] : List S64)).length = 0 from rfl)
    have hrow := OK.out.2.2.2.2.2.2 hi hj
    have hterm := OK.out.2.2.2.2.2.1 hj
    obtain ⟨ad, Ar, cr, e, hx0, hx1, hx2, hxl, hxc⟩ := at_T33 HC.out (i : Int) (by omega) (by omega)
    obtain ⟨ar, er, hxr⟩ := Kd.at_int hxc (rd y (j : Int)) hterm.1 hrow
    obtain ⟨ay, ey, hy⟩ := Kd.at_int HY.out (j : Int) (by omega) (by omega)
    cases e
    cases er
    cases ey
    simp only [Int.toNat_natCast] at hx0 hx1 hx2 hy
    have q0 := eq_true (show (0 : Int) ≤ (i : Int) by omega)
    have q1 := eq_true (show (i : Int) < (cols.length : Int) by omega)
    have q2 := eq_true (show (0 : Int) ≤ (j : Int) by omega)
    have q3 := eq_true (show (j : Int) < (y.length : Int) by omega)
    have q4 := eq_true hterm.1
    have q5 := eq_true hrow
    have h1 := bc HB.out hx1
    have h2 := bc HB.out hxr
    have h3 := bc HB.out hy
    have X1 := Aside0.mk hx1
    have X2 := Aside0.mk hxr
    have X3 := Aside0.mk hy
    clear hx0 hx1 hx2 hxl hxc hxr hy hrow hterm
    go_upto_region 4 with (fail)
    refine start_ (n := 22) (S := fun w' => w'.cell? ⟨gi, 0, none⟩ = some (.slice (some ad) cols.length c0) ∧ w'.cell? ⟨(ad.add (i * 3)).block, (ad.add (i * 3)).off + 1, none⟩ = some (.slice (some ar) (rd_T33 cols (i : Int)).f1.length cr) ∧ w'.cell? (ar.add (rd y (j : Int)).toNat) = some (.int .i64 (rd (rd_T33 cols (i : Int)).f1 (rd y (j : Int)))) ∧ w'.cell? (ay.add j) = some (.int .i64 (rd y (j : Int)))) (ds := []) #[ff,ff,ff,ff,ff,ff,ff,ff,ff,ff,ff,ff,ff,ff,ff,ff,ff,ff,ff,ff,ff,ff] (by kernel_rfl) rfl rfl ⟨(blk_cell BK.out 0).trans rfl, h1, h2, h3⟩ (fun hHeld => ?_)
    refine with_tabW editscript_steps.tab4 editscript_steps.bits4 (fun HT_ HW_ => ?_)
    refine pu 0 41 ?_
    refine pu 1 42 ?_
    refine pu 2 43 ?_
    refine pu 3 44 ?_
    refine pu 6 47 ?_
    refine pu 8 49 ?_
    refine pu 12 53 ?_
    refine pu 13 54 ?_
    refine pu 14 55 ?_
    refine tu 4 45 hHeld ?_
    refine pu 5 46 ?_
    refine tu 7 48 hHeld ?_
    refine pu 9 50 ?_
    refine pu 10 51 ?_
    refine tu 11 52 hHeld ?_
    refine tu 15 56 hHeld ?_
    refine pu 16 57 ?_
    refine tu 17 58 hHeld ?_
    refine pu 18 59 ?_
    refine one_ (i := 19) (N := some 60) #[tt,tt,tt,tt,tt,tt,tt,tt,tt,tt,tt,tt,tt,tt,tt,tt,tt,tt,tt,tt,ff,ff] rfl rfl (one_of HT_.out (by kernel_rfl)) (by decide) (fun K hK => ?_)
    refine value_ (w1 := ?_) (v := ?_) (by rfl) rfl ?_ ?_
    rotate_left 2
    ·
     go_simp
     constructor
     ·
      rfl
     ·
      rfl
    refine hK.out _ _ ⟨(World.cell?_alloc_lt _ _ _ (World.block_lt_of_cell? _ _ (hHeld.1))).trans (hHeld.1), (World.cell?_alloc_lt _ _ _ (World.block_lt_of_cell? _ _ (hHeld.2.1))).trans (hHeld.2.1), (World.cell?_alloc_lt _ _ _ (World.block_lt_of_cell? _ _ (hHeld.2.2.1))).trans (hHeld.2.2.1), (World.cell?_alloc_lt _ _ _ (World.block_lt_of_cell? _ _ (hHeld.2.2.2))).trans (hHeld.2.2.2)⟩ (fun hHeld => ?_)
    clear hK K
    refine norm_ (a' := ?_) ?_ ?_
    rotate_left
    ·
     show Act.put _ (some 60) _ = _
     simp only [nrm]
     rfl
    refine one_ (i := 20) (N := some 61) #[tt,tt,tt,tt,tt,tt,tt,tt,tt,tt,tt,tt,tt,tt,tt,tt,tt,tt,tt,tt,tt,ff] rfl rfl (one_of HT_.out (by kernel_rfl)) (by decide) (fun K hK => ?_)
    refine Kd.R_append_step k64 (w0 := w) (W := wc.drew) w.heap.size (by rfl) (.tmp 41) (.tmp 60) 61 64 (.agg #[(.int .i64 0), (.int .i64 0), (.int .i64 0), (.int .i64 0), (.int .i64 0)]) 40 rfl Tryd.underlying61 info64 rfl (by decide) (by omega) (.slice none 0 0) ([] : List S64) (⟨(⟨1, (rd y (j : Int))⟩ : S49), rd (rd_T33 cols (i : Int)).f1 (rd y (j : Int)), 1, 1⟩ : S64) [.int .i64 1, .int .i64 (rd y (j : Int)), .int .i64 (rd (rd_T33 cols (i : Int)).f1 (rd y (j : Int))), .int .i64 1, .int .i64 1] (fun _ => True) (fun _ => False) rfl rfl ?aP (fun _ hk => hk.elim) ?aF ?aO ?aB ?aS ?aL ?_
    (case aP => exact k64_mkM _ _ _ (⟨(⟨1, (rd y (j : Int))⟩ : S49), rd (rd_T33 cols (i : Int)).f1 (rd y (j : Int)), 1, 1⟩ : S64))
    (case aB => exact (pB HB.out))
    (case aF => exact (fun _ _ => trivial))
    (case aO => exact (pR HO.out))
    (case aS => exact (below_size (pB HB.out)))
    (case aL => have := HN.out; first | omega | (simp; done) | (simp only [List.length_append]; omega))
    intro v1 w9 ho hb hg hat
    have n0_ := Aside0.mk (blk_grown (g := gi) (o := (.cells #[.slice (some ad) cols.length c0, .slice A1 ins.length c1, .int .i64 sw] 25 (0, 0))) (pk BK.out) hg (Kd.R_ne HO.out BK.out (by decide)))
    have n1_ := Aside0.mk hb
    have n2_ := Aside0.mk ho
    clear BK HB HO
    have BK := n0_
    have HB := n1_
    have HO := n2_
    clear n0_ n1_ n2_ ho hb hg hat
    refine hK.out _ _ ⟨(blk_cell BK.out 0).trans rfl, (HB.out.cell (World.block_lt_of_cell? w _ X1.out)).trans X1.out, (HB.out.cell (World.block_lt_of_cell? w _ X2.out)).trans X2.out, (HB.out.cell (World.block_lt_of_cell? w _ X3.out)).trans X3.out⟩ (fun hHeld => ?_)
    clear hK K
    refine norm_ (a' := ?_) ?_ ?_
    rotate_left
    ·
     show Act.put _ (some 61) _ = _
     simp only [nrm]
     rfl
    refine pu 21 9 ?_
    refine done_ (done_of HT_.out (by kernel_rfl)) ?_
    go_wp2
    go_meet
    case rel => exact ⟨⟨by rw [hs]; exact HO.out⟩, ⟨(pk BK.out)⟩, ⟨(pB HB.out)⟩⟩
  case rest =>
   clear BK HB
   obtain ⟨HO, BK, HB⟩ := hcut
   have HN := Aside0.mk (show (stA cols y i j).length ≤ 1 by unfold stA; split <;> simp)
   obtain ⟨bB, hbB⟩ : ∃ b : Bool, decide (i < cols.length ∧ (rd_T33 cols (i : Int)).f2 < 1099511627776) = b := ⟨_, rfl⟩
   have HBB := Aside0.mk hbB
   clear hbB
   go_upto_region 5 with (fail)
   go_cut [71] (fun v71 wc => v71 = .bool bB ∧ Aside0 (Kd.R k64 64 wc w.heap.size (fun _ => True) u9 (stA cols y i j)) ∧ Aside0 (wc.heap[gi]? = some (.cells #[.slice A0 cols.length c0, .slice A1 ins.length c1, .int .i64 sw] 25 (0, 0))) ∧ Aside0 (Below w.heap.size w wc))
   case first =>
    have hcz_0 : wc.cell? ⟨gi, 0, none⟩ = some (.slice A0 cols.length c0) := (blk_cell BK.out 0).trans rfl
    have hcz_1 : wc.cell? ⟨gi, 1, none⟩ = some (.slice A1 ins.length c1) := (blk_cell BK.out 1).trans rfl
    have hcz_2 : wc.cell? ⟨gi, 2, none⟩ = some (.int .i64 sw) := (blk_cell BK.out 2).trans rfl
    have hfz_0 := blk_frozen BK.out 0
    have hfz_1 := blk_frozen BK.out 1
    have hfz_2 := blk_frozen BK.out 2
    cases bi with
    | false =>
     have hn : bB = false := by rw [← HBB.out]; have h1 := HBI.out; simp at h1 ⊢; omega
     subst hn
     go_wp2
     go_meet
     case rel => exact ⟨rfl, ⟨(pR HO.out)⟩, ⟨(pk BK.out)⟩, ⟨(pB HB.out)⟩⟩
    | true =>
     have hi : i < cols.length := by have h := HBI.out; simpa using h.symm
     have hr : decide ((rd_T33 cols (i : Int)).f2 < 1099511627776) = bB := by rw [← HBB.out]; simp [hi]
     obtain ⟨ad, Ar, cr, e, hx0, hx1, hx2, hxl, hxc⟩ := at_T33 HC.out (i : Int) (by omega) (by omega)
     cases e
     simp only [Int.toNat_natCast] at hx2
     have q0 := eq_true (show (0 : Int) ≤ (i : Int) by omega)
     have q1 := eq_true (show (i : Int) < (cols.length : Int) by omega)
     have h1 := bc HB.out hx2
     clear hx0 hx1 hx2 hxl hxc
     go_wp2
     go_meet
     case rel => exact ⟨rfl, ⟨(pR HO.out)⟩, ⟨(pk BK.out)⟩, ⟨(pB HB.out)⟩⟩
   case rest =>
    clear BK HB HO
    obtain ⟨rfl, HO, BK, HB⟩ := hcut
    go_upto_if 71 with (fail)
    go_cut [9] (fun v9 wc => Aside0 (Kd.R k64 64 wc w.heap.size (fun _ => True) v9 (stA cols y i j ++ stB cols i)) ∧ Aside0 (wc.heap[gi]? = some (.cells #[.slice A0 cols.length c0, .slice A1 ins.length c1, .int .i64 sw] 25 (0, 0))) ∧ Aside0 (Below w.heap.size w wc))
    case first =>
     have hcz_0 : wc.cell? ⟨gi, 0, none⟩ = some (.slice A0 cols.length c0) := (blk_cell BK.out 0).trans rfl
     have hcz_1 : wc.cell? ⟨gi, 1, none⟩ = some (.slice A1 ins.length c1) := (blk_cell BK.out 1).trans rfl
     have hcz_2 : wc.cell? ⟨gi, 2, none⟩ = some (.int .i64 sw) := (blk_cell BK.out 2).trans rfl
     have hfz_0 := blk_frozen BK.out 0
     have hfz_1 := blk_frozen BK.out 1
     have hfz_2 := blk_frozen BK.out 2
     cases bB with
     | false =>
      have hs : stB cols i = [] := by unfold stB; rw [if_neg (of_decide_eq_false HBB.out)]
      go_wp2
      go_meet
      case rel => exact ⟨⟨by rw [hs, List.append_nil]; exact (pR HO.out)⟩, ⟨(pk BK.out)⟩, ⟨(pB HB.out)⟩⟩
     | true =>
      have hA := of_decide_eq_true HBB.out
      have hs : stB cols i = [(⟨(⟨2, 0⟩ : S49), (rd_T33 cols (i : Int)).f2, 1, 0⟩ : S64)] := by unfold stB; rw [if_pos hA]
      have hi := hA.1
      obtain ⟨ad, Ar, cr, e, hx0, hx1, hx2, hxl, hxc⟩ := at_T33 HC.out (i : Int) (by omega) (by omega)
      cases e
      simp only [Int.toNat_natCast] at hx2
      have q0 := eq_true (show (0 : Int) ≤ (i : Int) by omega)
      have q1 := eq_true (show (i : Int) < (cols.length : Int) by omega)
      have h1 := bc HB.out hx2
      clear hx0 hx1 hx2 hxl hxc
      go_wp2_with (first | ((with_reducible refine gate_builtin (b := .append) (xs := #[.tmp 72, .tmp 81]) rfl ?_); at_builtin; refine Kd.R_append k64 (w0 := w) w.heap.size rfl (.tmp 72) (.tmp 81) 61 64 (.agg #[(.int .i64 0), (.int .i64 0), (.int .i64 0), (.int .i64 0), (.int .i64 0)]) 40 rfl Tryd.underlying61 info64 rfl (by decide) (by omega) u9 (stA cols y i j) (⟨(⟨2, 0⟩ : S49), (rd_T33 cols (i : Int)).f2, 1, 0⟩ : S64) [.int .i64 2, .int .i64 0, .int .i64 (rd_T33 cols (i : Int)).f2, .int .i64 1, .int .i64 0] (fun _ => True) (fun _ => False) rfl rfl ?aP (fun _ hk => hk.elim) ?aF ?aO ?aB ?aS ?aL ?_; (case aP => exact k64_mkM _ _ _ (⟨(⟨2, 0⟩ : S49), (rd_T33 cols (i : Int)).f2, 1, 0⟩ : S64)); (case aB => exact (pB HB.out)); (case aF => exact (fun _ _ => trivial)); (case aO => exact (pR HO.out)); (case aS => exact (below_size (pB HB.out))); (case aL => have := HN.out; first | omega | (simp; done) | (simp only [List.length_append]; omega)); intro v1 w9 ho hb hg hat; have n0_ := Aside0.mk (blk_grown (g := gi) (o := (.cells #[.slice (some ad) cols.length c0, .slice A1 ins.length c1, .int .i64 sw] 25 (0, 0))) (pk BK.out) hg (Kd.R_ne HO.out BK.out (by decide))); have n1_ := Aside0.mk hb; have n2_ := Aside0.mk ho; clear BK HB HO; have BK := n0_; have HB := n1_; have HO := n2_; clear n0_ n1_ n2_ ho hb hg hat))
      go_meet
      case rel => exact ⟨⟨by rw [hs]; exact HO.out⟩, ⟨(pk BK.out)⟩, ⟨(pB HB.out)⟩⟩
    case rest =>
     clear BK HB HO HN
     obtain ⟨HO, BK, HB⟩ := hcut
     have HN := Aside0.mk (show (stA cols y i j ++ stB cols i).length ≤ 2 by unfold stA stB; split <;> split <;> simp)
     go_upto_if 84 with (fail)
     go_cut [9] (fun v9 wc => Aside0 (Kd.R k64 64 wc w.heap.size (fun _ => True) v9 (stA cols y i j ++ stB cols i ++ stC ins y j)) ∧ Aside0 (wc.heap[gi]? = some (.cells #[.slice A0 cols.length c0, .slice A1 ins.length c1, .int .i64 sw] 25 (0, 0))) ∧ Aside0 (Below w.heap.size w wc))
     case first =>
      cases bj with
      | false =>
       have hs : stC ins y j = [] := by unfold stC; rw [if_neg (of_decide_eq_false HBJ.out.symm)]
       go_wp2
       go_meet
       case rel => exact ⟨⟨by rw [hs, List.append_nil]; exact (pR HO.out)⟩, ⟨(pk BK.out)⟩, ⟨(pB HB.out)⟩⟩
      | true =>
       have hj : j < y.length := by have h := HBJ.out; simpa using h.symm
       have hs : stC ins y j = [(⟨(⟨3, (rd y (j : Int))⟩ : S49), rd ins (rd y (j : Int)), 0, 1⟩ : S64)] := by unfold stC; rw [if_pos hj]
       have hterm := OK.out.2.2.2.2.2.1 hj
       obtain ⟨ai, ei, hx⟩ := Kd.at_int HI.out (rd y (j : Int)) hterm.1 hterm.2
       obtain ⟨ay, ey, hy⟩ := Kd.at_int HY.out (j : Int) (by omega) (by omega)
       cases ei
       cases ey
       simp only [Int.toNat_natCast] at hy
       have q2 := eq_true (show (0 : Int) ≤ (j : Int) by omega)
       have q3 := eq_true (show (j : Int) < (y.length : Int) by omega)
       have q4 := eq_true hterm.1
       have q5 := eq_true hterm.2
       have h1 := bc HB.out hx
       have h2 := bc HB.out hy
       have X1 := Aside0.mk hx
       have X2 := Aside0.mk hy
       clear hx hy hterm
       go_upto_region 8 with (fail)
       refine start_ (n := 18) (S := fun w' => w'.cell? ⟨gi, 1, none⟩ = some (.slice (some ai) ins.length c1) ∧ w'.cell? (ai.add (rd y (j : Int)).toNat) = some (.int .i64 (rd ins (rd y (j : Int)))) ∧ w'.cell? (ay.add j) = some (.int .i64 (rd y (j : Int)))) (ds := []) #[ff,ff,ff,ff,ff,ff,ff,ff,ff,ff,ff,ff,ff,ff,ff,ff,ff,ff] (by kernel_rfl) rfl rfl ⟨(blk_cell BK.out 1).trans rfl, h1, h2⟩ (fun hHeld => ?_)
       refine with_tabW editscript_steps.tab8 editscript_steps.bits8 (fun HT_ HW_ => ?_)
       refine pu 0 85 ?_
       refine pu 1 86 ?_
       refine pu 2 87 ?_
       refine pu 3 88 ?_
       refine pu 6 91 ?_
       refine pu 8 93 ?_
       refine pu 9 94 ?_
       refine pu 10 95 ?_
       refine tu 4 89 hHeld ?_
       refine pu 5 90 ?_
       refine tu 7 92 hHeld ?_
       refine tu 11 96 hHeld ?_
       refine pu 12 97 ?_
       refine tu 13 98 hHeld ?_
       refine pu 14 99 ?_
       refine one_ (i := 15) (N := some 100) #[tt,tt,tt,tt,tt,tt,tt,tt,tt,tt,tt,tt,tt,tt,tt,tt,ff,ff] rfl rfl (one_of HT_.out (by kernel_rfl)) (by decide) (fun K hK => ?_)
       refine value_ (w1 := ?_) (v := ?_) (by rfl) rfl ?_ ?_
       rotate_left 2
       ·
        go_simp
        constructor
        ·
         rfl
        ·
         rfl
       refine hK.out _ _ ⟨(World.cell?_alloc_lt _ _ _ (World.block_lt_of_cell? _ _ (hHeld.1))).trans (hHeld.1), (World.cell?_alloc_lt _ _ _ (World.block_lt_of_cell? _ _ (hHeld.2.1))).trans (hHeld.2.1), (World.cell?_alloc_lt _ _ _ (World.block_lt_of_cell? _ _ (hHeld.2.2))).trans (hHeld.2.2)⟩ (fun hHeld => ?_)
       clear hK K
       refine norm_ (a' := ?_) ?_ ?_
       rotate_left
       ·
        show Act.put _ (some 100) _ = _
        simp only [nrm]
        rfl
       refine one_ (i := 16) (N := some 101) #[tt,tt,tt,tt,tt,tt,tt,tt,tt,tt,tt,tt,tt,tt,tt,tt,tt,ff] rfl rfl (one_of HT_.out (by kernel_rfl)) (by decide) (fun K hK => ?_)
       refine Kd.R_append_step k64 (w0 := w) (W := wc.drew) w.heap.size (by rfl) (.tmp 85) (.tmp 100) 61 64 (.agg #[(.int .i64 0), (.int .i64 0), (.int .i64 0), (.int .i64 0), (.int .i64 0)]) 40 rfl Tryd.underlying61 info64 rfl (by decide) (by omega) u9 (stA cols y i j ++ stB cols i) (⟨(⟨3, (rd y (j : Int))⟩ : S49), rd ins (rd y (j : Int)), 0, 1⟩ : S64) [.int .i64 3, .int .i64 (rd y (j : Int)), .int .i64 (rd ins (rd y (j : Int))), .int .i64 0, .int .i64 1] (fun _ => True) (fun _ => False) rfl rfl ?aP (fun _ hk => hk.elim) ?aF ?aO ?aB ?aS ?aL ?_
       (case aP => exact k64_mkM _ _ _ (⟨(⟨3, (rd y (j : Int))⟩ : S49), rd ins (rd y (j : Int)), 0, 1⟩ : S64))
       (case aB => exact (pB HB.out))
       (case aF => exact (fun _ _ => trivial))
       (case aO => exact (pR HO.out))
       (case aS => exact (below_size (pB HB.out)))
       (case aL => have := HN.out; first | omega | (simp; done) | (simp only [List.length_append]; omega))
       intro v1 w9 ho hb hg hat
       have n0_ := Aside0.mk (blk_grown (g := gi) (o := (.cells #[.slice A0 cols.length c0, .slice (some ai) ins.length c1, .int .i64 sw] 25 (0, 0))) (pk BK.out) hg (Kd.R_ne HO.out BK.out (by decide)))
       have n1_ := Aside0.mk hb
       have n2_ := Aside0.mk ho
       clear BK HB HO
       have BK := n0_
       have HB := n1_
       have HO := n2_
       clear n0_ n1_ n2_ ho hb hg hat
       refine hK.out _ _ ⟨(blk_cell BK.out 1).trans rfl, (HB.out.cell (World.block_lt_of_cell? w _ X1.out)).trans X1.out, (HB.out.cell (World.block_lt_of_cell? w _ X2.out)).trans X2.out⟩ (fun hHeld => ?_)
       clear hK K
       refine norm_ (a' := ?_) ?_ ?_
       rotate_left
       ·
        show Act.put _ (some 101) _ = _
        simp only [nrm]
        rfl
       refine pu 17 9 ?_
       refine done_ (done_of HT_.out (by kernel_rfl)) ?_
       go_wp2
       go_meet
       case rel => exact ⟨⟨by rw [hs]; exact HO.out⟩, ⟨(pk BK.out)⟩, ⟨(pB HB.out)⟩⟩
     case rest =>
      clear BK HB HO HN
      obtain ⟨HO, BK, HB⟩ := hcut
      have HN := Aside0.mk (show (stA cols y i j ++ stB cols i ++ stC ins y j).length ≤ 3 by unfold stA stB stC; split <;> split <;> split <;> simp)
      have hjw0 : wrap64 ((i : Int) + 1) = (i : Int) + 1 := by unfold wrap64; omega
      have hkw0 : wrap64 ((j : Int) + 1) = (j : Int) + 1 := by unfold wrap64; omega
      obtain ⟨ji, hji⟩ : ∃ a : Int, (i : Int) + 1 = a := ⟨_, rfl⟩
      obtain ⟨jj, hjj⟩ : ∃ a : Int, (j : Int) + 1 = a := ⟨_, rfl⟩
      have hjw : IntKind.i64.wrap ((i : Int) + 1) = ji := (i64_w _).trans (hjw0.trans hji)
      have hkw : IntKind.i64.wrap ((j : Int) + 1) = jj := (i64_w _).trans (hkw0.trans hjj)
      have HJI := Aside0.mk hji
      have HJJ := Aside0.mk hjj
      obtain ⟨bD, hbD⟩ : ∃ b : Bool, decide (j + 1 < y.length ∧ swp cols sw i ∧ (rd_T33 cols ((i : Int) + 1)).f0 = rd y (j : Int) ∧ (rd_T33 cols (i : Int)).f0 = rd y ((j : Int) + 1)) = b := ⟨_, rfl⟩
      have HBD := Aside0.mk hbD
      clear hbD hji hjj hjw0 hkw0
      go_upto_region 9 with (fail)
      go_cut [136] (fun v136 wc => v136 = .bool bD ∧ Aside0 (Kd.R k64 64 wc w.heap.size (fun _ => True) u9 (stA cols y i j ++ stB cols i ++ stC ins y j)) ∧ Aside0 (wc.heap[gi]? = some (.cells #[.slice A0 cols.length c0, .slice A1 ins.length c1, .int .i64 sw] 25 (0, 0))) ∧ Aside0 (Below w.heap.size w wc))
      case first =>
       cases bk with
       | false =>
        have hn : bD = false := by rw [← HBD.out]; have h1 := HBK.out; simp at h1 ⊢; omega
        subst hn
        refine start_ (n := 35) (S := fun w' => True) (ds := []) #[ff,ff,ff,ff,ff,ff,ff,ff,ff,ff,ff,ff,ff,ff,ff,ff,ff,ff,ff,ff,ff,ff,ff,ff,ff,ff,ff,ff,ff,ff,ff,ff,ff,ff,ff] (by kernel_rfl) rfl rfl trivial (fun hHeld => ?_)
        refine with_tabW editscript_steps.tab9 editscript_steps.bits9 (fun HT_ HW_ => ?_)
        refine pu 0 102 ?_
        refine pu 1 103 ?_
        refine pu 2 104 ?_
        refine qu 3 105 ?_
        refine qu 4 106 ?_
        refine qu 5 107 ?_
        refine pu 6 108 ?_
        refine pu 7 109 ?_
        refine qu 8 110 ?_
        refine qu 9 111 ?_
        refine qu 10 112 ?_
        refine qu 11 113 ?_
        refine qu 12 114 ?_
        refine qu 13 115 ?_
        refine qu 14 116 ?_
        refine qu 15 117 ?_
        refine qu 16 118 ?_
        refine qu 17 119 ?_
        refine qu 18 120 ?_
        refine qu 19 121 ?_
        refine pu 20 122 ?_
        refine pu 21 123 ?_
        refine qu 22 124 ?_
        refine qu 23 125 ?_
        refine qu 24 126 ?_
        refine qu 25 127 ?_
        refine qu 26 128 ?_
        refine qu 27 129 ?_
        refine qu 28 130 ?_
        refine qu 29 131 ?_
        refine qu 30 132 ?_
        refine qu 31 133 ?_
        refine qu 32 134 ?_
        refine qu 33 135 ?_
        refine pu 34 136 ?_
        refine done_ (done_of HT_.out (by kernel_rfl)) ?_
        go_wp2
        go_meet
        case rel => exact ⟨rfl, ⟨(pR HO.out)⟩, ⟨(pk BK.out)⟩, ⟨(pB HB.out)⟩⟩
       | true =>
        have hj1 : j + 1 < y.length := by have h := HBK.out; simpa using h.symm
        have hsw := swp_iff (ins := ins) (sw := sw) OK.out.2.2.1 i OK.out.1
        by_cases hsp : swp cols sw i
        ·
         rw [decide_eq_true hsp] at hsw
         have HS := Aside0.mk hsw
         clear hsw
         have hi1 := hsp.2.1
         obtain ⟨ad, A0x, c0x, e, hx0, _, _, _, _⟩ := at_T33 HC.out (i : Int) (by omega) (by omega)
         obtain ⟨ad2, A1x, c1x, e2, hz0, _, _, _, _⟩ := at_T33 HC.out ji (by have := HJI.out; omega) (by have := HJI.out; omega)
         obtain ⟨ay, ey, hy⟩ := Kd.at_int HY.out (j : Int) (by omega) (by omega)
         obtain ⟨ay2, ey2, hy2⟩ := Kd.at_int HY.out jj (by have := HJJ.out; omega) (by have := HJJ.out; omega)
         cases e
         cases e2
         cases ey
         cases ey2
         simp only [Int.toNat_natCast] at hx0 hy
         have q0 := eq_true (show (0 : Int) ≤ (i : Int) by omega)
         have q1 := eq_true (show (i : Int) < (cols.length : Int) by omega)
         have q2 := eq_true (show (0 : Int) ≤ (j : Int) by omega)
         have q3 := eq_true (show (j : Int) < (y.length : Int) by omega)
         have q4 := eq_true (show (0 : Int) ≤ ji by have := HJI.out; omega)
         have q5 := eq_true (show ji < (cols.length : Int) by have := HJI.out; omega)
         have q6 := eq_true (show (0 : Int) ≤ jj by have := HJJ.out; omega)
         have q7 := eq_true (show jj < (y.length : Int) by have := HJJ.out; omega)
         have h1 := bc HB.out hz0
         have h2 := bc HB.out hy
         have h3 := bc HB.out hx0
         have h4 := bc HB.out hy2
         clear hx0 hz0 hy hy2
         by_cases he1 : (rd_T33 cols ji).f0 = rd y (j : Int)
         ·
          have b1 : ((rd_T33 cols ji).f0 == rd y (j : Int)) = true := beq_iff_eq.2 he1
          obtain ⟨b2, hb2⟩ : ∃ b : Bool, ((rd_T33 cols (i : Int)).f0 == rd y jj) = b := ⟨_, rfl⟩
          have hn : bD = b2 := by
           rw [← HBD.out, ← hb2, HJI.out, HJJ.out]
           by_cases he2 : (rd_T33 cols (i : Int)).f0 = rd y jj
           ·
            rw [beq_iff_eq.2 he2]; exact decide_eq_true ⟨hj1, hsp, he1, he2⟩
           ·
            rw [beq_eq_false_iff_ne.2 he2]; exact decide_eq_false (fun hh => he2 hh.2.2.2)
          subst hn
          clear he1
          refine start_ (n := 35) (S := fun w' => w'.cell? ⟨gi, 0, none⟩ = some (.slice (some ad) cols.length c0) ∧ w'.cell? ⟨gi, 1, none⟩ = some (.slice A1 ins.length c1) ∧ w'.cell? ⟨gi, 2, none⟩ = some (.int .i64 sw) ∧ w'.cell? (ad.add (ji.toNat * 3)) = some (.int .i64 (rd_T33 cols ji).f0) ∧ w'.cell? (ay.add j) = some (.int .i64 (rd y (j : Int))) ∧ w'.cell? (ad.add (i * 3)) = some (.int .i64 (rd_T33 cols (i : Int)).f0) ∧ w'.cell? (ay.add jj.toNat) = some (.int .i64 (rd y jj))) (ds := []) #[ff,ff,ff,ff,ff,ff,ff,ff,ff,ff,ff,ff,ff,ff,ff,ff,ff,ff,ff,ff,ff,ff,ff,ff,ff,ff,ff,ff,ff,ff,ff,ff,ff,ff,ff] (by kernel_rfl) rfl rfl ⟨(blk_cell BK.out 0).trans rfl, (blk_cell BK.out 1).trans rfl, (blk_cell BK.out 2).trans rfl, h1, h2, h3, h4⟩ (fun hHeld => ?_)
          refine with_tabW editscript_steps.tab9 editscript_steps.bits9 (fun HT_ HW_ => ?_)
          refine pu 0 102 ?_
          refine pu 1 103 ?_
          refine pu 2 104 ?_
          refine pu 4 106 ?_
          refine tu 3 105 hHeld ?_
          refine one_ (i := 5) (N := some 107) #[tt,tt,tt,tt,tt,tt,ff,ff,ff,ff,ff,ff,ff,ff,ff,ff,ff,ff,ff,ff,ff,ff,ff,ff,ff,ff,ff,ff,ff,ff,ff,ff,ff,ff,ff] rfl rfl (one_of HT_.out (by kernel_rfl)) (by decide) (fun K hK => ?_)
          refine goes_ Tryd.func39 (by kernel_rfl) rfl #[.agg #[.slice (some ad) cols.length c0, .slice A1 ins.length c1, .int .i64 sw], .int .i64 (i : Int)] (by rfl) rfl rfl (by simp only [List.map_toArray, List.map_cons, List.map_nil]; rfl) ?_
          with_reducible refine (editscript_swappable.calls (some ad) c0 cols A1 c1 ins sw i true _ (Kd.C_below HC.out (below_drew HB.out)) HCC0.out (Kd.C_below HI.out (below_drew HB.out)) HCC1.out HS.out).mono ?_
          rintro e w9 ⟨rfl, hb9⟩
          refine ⟨_, rfl, ?_⟩
          have n0_ := Aside0.mk (Kd.R_below (Kd.R_drew HO.out) hb9)
          have n1_ := Aside0.mk ((hb9.block gi (blk_lt (blk_drew BK.out))).trans (blk_drew BK.out))
          have n2_ := Aside0.mk (below_step (below_drew HB.out) hb9)
          have hbb := Aside0.mk hb9
          clear HO BK HB hb9
          have HO := n0_
          have BK := n1_
          have HB := n2_
          clear n0_ n1_ n2_
          refine hK.out _ _ ⟨(hbb.out.cell (World.block_lt_of_cell? _ _ (hHeld.1))).trans (hHeld.1), (hbb.out.cell (World.block_lt_of_cell? _ _ (hHeld.2.1))).trans (hHeld.2.1), (hbb.out.cell (World.block_lt_of_cell? _ _ (hHeld.2.2.1))).trans (hHeld.2.2.1), (hbb.out.cell (World.block_lt_of_cell? _ _ (hHeld.2.2.2.1))).trans (hHeld.2.2.2.1), (hbb.out.cell (World.block_lt_of_cell? _ _ (hHeld.2.2.2.2.1))).trans (hHeld.2.2.2.2.1), (hbb.out.cell (World.block_lt_of_cell? _ _ (hHeld.2.2.2.2.2.1))).trans (hHeld.2.2.2.2.2.1), (hbb.out.cell (World.block_lt_of_cell? _ _ (hHeld.2.2.2.2.2.2))).trans (hHeld.2.2.2.2.2.2)⟩ (fun hHeld => ?_)
          clear hK K
          refine norm_ (a' := ?_) ?_ ?_
          rotate_left
          ·
           show Act.put _ (some 107) _ = _
           simp only [nrm]
           rfl
          refine pu 6 108 ?_
          refine pu 7 109 ?_
          refine pu 8 110 ?_
          refine pu 10 112 ?_
          refine pu 11 113 ?_
          refine pu 15 117 ?_
          refine pu 16 118 ?_
          refine pu 17 119 ?_
          refine tu 9 111 hHeld ?_
          refine pu 12 114 ?_
          refine pu 13 115 ?_
          refine tu 14 116 hHeld ?_
          refine tu 18 120 hHeld ?_
          refine pu 19 121 ?_
          refine pu 20 122 ?_
          refine pu 21 123 ?_
          refine pu 22 124 ?_
          refine pu 24 126 ?_
          refine pu 28 130 ?_
          refine pu 29 131 ?_
          refine pu 30 132 ?_
          refine pu 31 133 ?_
          refine tu 23 125 hHeld ?_
          refine pu 25 127 ?_
          refine pu 26 128 ?_
          refine tu 27 129 hHeld ?_
          refine tu 32 134 hHeld ?_
          refine pu 33 135 ?_
          refine pu 34 136 ?_
          refine done_ (done_of HT_.out (by kernel_rfl)) ?_
          go_wp2
          go_meet
          case rel => exact ⟨rfl, ⟨(pR HO.out)⟩, ⟨(pk BK.out)⟩, ⟨(pB HB.out)⟩⟩
         ·
          have b1 : ((rd_T33 cols ji).f0 == rd y (j : Int)) = false := beq_eq_false_iff_ne.2 he1
          have hn : bD = false := by rw [← HBD.out, HJI.out]; exact decide_eq_false (fun hh => he1 hh.2.2.1)
          subst hn
          clear he1
          refine start_ (n := 35) (S := fun w' => w'.cell? ⟨gi, 0, none⟩ = some (.slice (some ad) cols.length c0) ∧ w'.cell? ⟨gi, 1, none⟩ = some (.slice A1 ins.length c1) ∧ w'.cell? ⟨gi, 2, none⟩ = some (.int .i64 sw) ∧ w'.cell? (ad.add (ji.toNat * 3)) = some (.int .i64 (rd_T33 cols ji).f0) ∧ w'.cell? (ay.add j) = some (.int .i64 (rd y (j : Int)))) (ds := []) #[ff,ff,ff,ff,ff,ff,ff,ff,ff,ff,ff,ff,ff,ff,ff,ff,ff,ff,ff,ff,ff,ff,ff,ff,ff,ff,ff,ff,ff,ff,ff,ff,ff,ff,ff] (by kernel_rfl) rfl rfl ⟨(blk_cell BK.out 0).trans rfl, (blk_cell BK.out 1).trans rfl, (blk_cell BK.out 2).trans rfl, h1, h2⟩ (fun hHeld => ?_)
          refine with_tabW editscript_steps.tab9 editscript_steps.bits9 (fun HT_ HW_ => ?_)
          refine pu 0 102 ?_
          refine pu 1 103 ?_
          refine pu 2 104 ?_
          refine pu 4 106 ?_
          refine tu 3 105 hHeld ?_
          refine one_ (i := 5) (N := some 107) #[tt,tt,tt,tt,tt,tt,ff,ff,ff,ff,ff,ff,ff,ff,ff,ff,ff,ff,ff,ff,ff,ff,ff,ff,ff,ff,ff,ff,ff,ff,ff,ff,ff,ff,ff] rfl rfl (one_of HT_.out (by kernel_rfl)) (by decide) (fun K hK => ?_)
          refine goes_ Tryd.func39 (by kernel_rfl) rfl #[.agg #[.slice (some ad) cols.length c0, .slice A1 ins.length c1, .int .i64 sw], .int .i64 (i : Int)] (by rfl) rfl rfl (by simp only [List.map_toArray, List.map_cons, List.map_nil]; rfl) ?_
          with_reducible refine (editscript_swappable.calls (some ad) c0 cols A1 c1 ins sw i true _ (Kd.C_below HC.out (below_drew HB.out)) HCC0.out (Kd.C_below HI.out (below_drew HB.out)) HCC1.out HS.out).mono ?_
          rintro e w9 ⟨rfl, hb9⟩
          refine ⟨_, rfl, ?_⟩
          have n0_ := Aside0.mk (Kd.R_below (Kd.R_drew HO.out) hb9)
          have n1_ := Aside0.mk ((hb9.block gi (blk_lt (blk_drew BK.out))).trans (blk_drew BK.out))
          have n2_ := Aside0.mk (below_step (below_drew HB.out) hb9)
          have hbb := Aside0.mk hb9
          clear HO BK HB hb9
          have HO := n0_
          have BK := n1_
          have HB := n2_
          clear n0_ n1_ n2_
          refine hK.out _ _ ⟨(hbb.out.cell (World.block_lt_of_cell? _ _ (hHeld.1))).trans (hHeld.1), (hbb.out.cell (World.block_lt_of_cell? _ _ (hHeld.2.1))).trans (hHeld.2.1), (hbb.out.cell (World.block_lt_of_cell? _ _ (hHeld.2.2.1))).trans (hHeld.2.2.1), (hbb.out.cell (World.block_lt_of_cell? _ _ (hHeld.2.2.2.1))).trans (hHeld.2.2.2.1), (hbb.out.cell (World.block_lt_of_cell? _ _ (hHeld.2.2.2.2))).trans (hHeld.2.2.2.2)⟩ (fun hHeld => ?_)
          clear hK K
          refine norm_ (a' := ?_) ?_ ?_
          rotate_left
          ·
           show Act.put _ (some 107) _ = _
           simp only [nrm]
           rfl
          refine pu 6 108 ?_
          refine pu 7 109 ?_
          refine pu 8 110 ?_
          refine pu 10 112 ?_
          refine pu 11 113 ?_
          refine pu 15 117 ?_
          refine pu 16 118 ?_
          refine pu 17 119 ?_
          refine tu 9 111 hHeld ?_
          refine pu 12 114 ?_
          refine pu 13 115 ?_
          refine tu 14 116 hHeld ?_
          refine tu 18 120 hHeld ?_
          refine pu 19 121 ?_
          refine pu 20 122 ?_
          refine pu 21 123 ?_
          refine qu 22 124 ?_
          refine qu 23 125 ?_
          refine qu 24 126 ?_
          refine qu 25 127 ?_
          refine qu 26 128 ?_
          refine qu 27 129 ?_
          refine qu 28 130 ?_
          refine qu 29 131 ?_
          refine qu 30 132 ?_
          refine qu 31 133 ?_
          refine qu 32 134 ?_
          refine qu 33 135 ?_
          refine pu 34 136 ?_
          refine done_ (done_of HT_.out (by kernel_rfl)) ?_
          go_wp2
          go_meet
          case rel => exact ⟨rfl, ⟨(pR HO.out)⟩, ⟨(pk BK.out)⟩, ⟨(pB HB.out)⟩⟩
        ·
         rw [decide_eq_false hsp] at hsw
         have HS := Aside0.mk hsw
         clear hsw
         have hn : bD = false := by rw [← HBD.out]; exact decide_eq_false (fun hh => hsp hh.2.1)
         subst hn
         refine start_ (n := 35) (S := fun w' => w'.cell? ⟨gi, 0, none⟩ = some (.slice A0 cols.length c0) ∧ w'.cell? ⟨gi, 1, none⟩ = some (.slice A1 ins.length c1) ∧ w'.cell? ⟨gi, 2, none⟩ = some (.int .i64 sw)) (ds := []) #[ff,ff,ff,ff,ff,ff,ff,ff,ff,ff,ff,ff,ff,ff,ff,ff,ff,ff,ff,ff,ff,ff,ff,ff,ff,ff,ff,ff,ff,ff,ff,ff,ff,ff,ff] (by kernel_rfl) rfl rfl ⟨(blk_cell BK.out 0).trans rfl, (blk_cell BK.out 1).trans rfl, (blk_cell BK.out 2).trans rfl⟩ (fun hHeld => ?_)
         refine with_tabW editscript_steps.tab9 editscript_steps.bits9 (fun HT_ HW_ => ?_)
         refine pu 0 102 ?_
         refine pu 1 103 ?_
         refine pu 2 104 ?_
         refine pu 4 106 ?_
         refine tu 3 105 hHeld ?_
         refine one_ (i := 5) (N := some 107) #[tt,tt,tt,tt,tt,tt,ff,ff,ff,ff,ff,ff,ff,ff,ff,ff,ff,ff,ff,ff,ff,ff,ff,ff,ff,ff,ff,ff,ff,ff,ff,ff,ff,ff,ff] rfl rfl (one_of HT_.out (by kernel_rfl)) (by decide) (fun K hK => ?_)
         refine goes_ Tryd.func39 (by kernel_rfl) rfl #[.agg #[.slice A0 cols.length c0, .slice A1 ins.length c1, .int .i64 sw], .int .i64 (i : Int)] (by rfl) rfl rfl (by simp only [List.map_toArray, List.map_cons, List.map_nil]; rfl) ?_
         with_reducible refine (editscript_swappable.calls A0 c0 cols A1 c1 ins sw i false _ (Kd.C_below HC.out (below_drew HB.out)) HCC0.out (Kd.C_below HI.out (below_drew HB.out)) HCC1.out HS.out).mono ?_
         rintro e w9 ⟨rfl, hb9⟩
         refine ⟨_, rfl, ?_⟩
         have n0_ := Aside0.mk (Kd.R_below (Kd.R_drew HO.out) hb9)
         have n1_ := Aside0.mk ((hb9.block gi (blk_lt (blk_drew BK.out))).trans (blk_drew BK.out))
         have n2_ := Aside0.mk (below_step (below_drew HB.out) hb9)
         have hbb := Aside0.mk hb9
         clear HO BK HB hb9
         have HO := n0_
         have BK := n1_
         have HB := n2_
         clear n0_ n1_ n2_
         refine hK.out _ _ ⟨(hbb.out.cell (World.block_lt_of_cell? _ _ (hHeld.1))).trans (hHeld.1), (hbb.out.cell (World.block_lt_of_cell? _ _ (hHeld.2.1))).trans (hHeld.2.1), (hbb.out.cell (World.block_lt_of_cell? _ _ (hHeld.2.2))).trans (hHeld.2.2)⟩ (fun hHeld => ?_)
         clear hK K
         refine norm_ (a' := ?_) ?_ ?_
         rotate_left
         ·
          show Act.put _ (some 107) _ = _
          simp only [nrm]
          rfl
         refine pu 6 108 ?_
         refine pu 7 109 ?_
         refine qu 8 110 ?_
         refine qu 9 111 ?_
         refine qu 10 112 ?_
         refine qu 11 113 ?_
         refine qu 12 114 ?_
         refine qu 13 115 ?_
         refine qu 14 116 ?_
         refine qu 15 117 ?_
         refine qu 16 118 ?_
         refine qu 17 119 ?_
         refine qu 18 120 ?_
         refine qu 19 121 ?_
         refine pu 20 122 ?_
         refine pu 21 123 ?_
         refine qu 22 124 ?_
         refine qu 23 125 ?_
         refine qu 24 126 ?_
         refine qu 25 127 ?_
         refine qu 26 128 ?_
         refine qu 27 129 ?_
         refine qu 28 130 ?_
         refine qu 29 131 ?_
         refine qu 30 132 ?_
         refine qu 31 133 ?_
         refine qu 32 134 ?_
         refine qu 33 135 ?_
         refine pu 34 136 ?_
         refine done_ (done_of HT_.out (by kernel_rfl)) ?_
         go_wp2
         go_meet
         case rel => exact ⟨rfl, ⟨(pR HO.out)⟩, ⟨(pk BK.out)⟩, ⟨(pB HB.out)⟩⟩
      case rest =>
       clear BK HB HO
       obtain ⟨rfl, HO, BK, HB⟩ := hcut
       cases bD with
       | false =>
        have hs : stD cols sw y i j = [] := by unfold stD; rw [if_neg (of_decide_eq_false HBD.out)]
        go_wp2
        go_ret
        exact ⟨_, rfl, by unfold stepsE; rw [hs, List.append_nil]; exact (pR HO.out), (pB HB.out)⟩
       | true =>
        have hs : stD cols sw y i j = [(⟨(⟨4, 0⟩ : S49), sw, 2, 2⟩ : S64)] := by unfold stD; rw [if_pos (of_decide_eq_true HBD.out)]
        have hcz_0 : wc.cell? ⟨gi, 0, none⟩ = some (.slice A0 cols.length c0) := (blk_cell BK.out 0).trans rfl
        have hcz_1 : wc.cell? ⟨gi, 1, none⟩ = some (.slice A1 ins.length c1) := (blk_cell BK.out 1).trans rfl
        have hcz_2 : wc.cell? ⟨gi, 2, none⟩ = some (.int .i64 sw) := (blk_cell BK.out 2).trans rfl
        have hfz_0 := blk_frozen BK.out 0
        have hfz_1 := blk_frozen BK.out 1
        have hfz_2 := blk_frozen BK.out 2
        go_wp2_with (first | ((with_reducible refine gate_builtin (b := .append) (xs := #[.tmp 137, .tmp 142]) rfl ?_); at_builtin; refine Kd.R_append k64 (w0 := w) w.heap.size rfl (.tmp 137) (.tmp 142) 61 64 (.agg #[(.int .i64 0), (.int .i64 0), (.int .i64 0), (.int .i64 0), (.int .i64 0)]) 40 rfl Tryd.underlying61 info64 rfl (by decide) (by omega) u9 (stA cols y i j ++ stB cols i ++ stC ins y j) (⟨(⟨4, 0⟩ : S49), sw, 2, 2⟩ : S64) [.int .i64 4, .int .i64 0, .int .i64 sw, .int .i64 2, .int .i64 2] (fun _ => True) (fun _ => False) rfl rfl ?aP (fun _ hk => hk.elim) ?aF ?aO ?aB ?aS ?aL ?_; (case aP => exact k64_mkM _ _ _ (⟨(⟨4, 0⟩ : S49), sw, 2, 2⟩ : S64)); (case aB => exact (pB HB.out)); (case aF => exact (fun _ _ => trivial)); (case aO => exact (pR HO.out)); (case aS => exact (below_size (pB HB.out))); (case aL => have := HN.out; first | omega | (simp; done) | (simp only [List.length_append]; omega)); intro v1 w9 ho hb hg hat; have n0_ := Aside0.mk (blk_grown (g := gi) (o := (.cells #[.slice A0 cols.length c0, .slice A1 ins.length c1, .int .i64 sw] 25 (0, 0))) (pk BK.out) hg (Kd.R_ne HO.out BK.out (by decide))); have n1_ := Aside0.mk hb; have n2_ := Aside0.mk ho; clear BK HB HO; have BK := n0_; have HB := n1_; have HO := n2_; clear n0_ n1_ n2_ ho hb hg hat))
        go_ret
        exact ⟨_, rfl, by unfold stepsE; rw [hs]; exact HO.out, (pB HB.out)⟩

theorem editscript_steps.calls (k : Nat) (A0_0 : Option Addr) (c0_0 : Nat) (l0_0 : List (S33)) (A0_1 : Option Addr) (c0_1 : Nat) (l0_1 : List Int) (a0_2 : Int) (A1 : Option Addr) (c1 : Nat) (l1 : List Int) (a2 : Int) (a3 : Int) (r : List (S64)) (w : World) (hr0_0 : Kd.C k33 w A0_0 l0_0.length l0_0) (hc0_0 : l0_0.length ≤ c0_0) (hr0_1 : Kd.C (Kd.int .i64) w A0_1 l0_1.length l0_1) (hc0_1 : l0_1.length ≤ c0_1) (hr1 : Kd.C (Kd.int .i64) w A1 l1.length l1) (hc1 : l1.length ≤ c1) (h : editscript_steps.f k l0_0 l0_1 a0_2 l1 a2 a3 = some r) :
  Calls Tryd.prog 35 #[.agg #[.slice A0_0 l0_0.length c0_0, .slice A0_1 l0_1.length c0_1, .int .i64 a0_2], .slice A1 l1.length c1, .int .i64 a2, .int .i64 a3] w fun e w' => ∃ v0_ : Value, e = .returned (v0_) ∧ Kd.R k64 64 w' w.heap.size (fun _ => True) v0_ r ∧ Below w.heap.size w w' := by
 unfold editscript_steps.f at h
 split at h
 ·
  rename_i hk
  obtain rfl := Option.some.inj h
  have := steps_calls A0_0 c0_0 l0_0 A0_1 c0_1 l0_1 a0_2 A1 c1 l1 a2.toNat a3.toNat w hr0_0 hc0_0 hr0_1 hc0_1 hr1 hc1 hk.2.2
  rw [Int.toNat_of_nonneg hk.1, Int.toNat_of_nonneg hk.2.1] at this
  exact this
 ·
  cases h
end Go.Proofs.YtnddijafdphbnaaDoor.All
